/- Texts of this seat, joined: The reference of layer 9: Check, Convert; the statements UnitsSpec and UnitsConvertSpec. Rows whose arguments are structs of single cells, with structs inside. What the rows of this seat have in common: the table of package math/bits at the call's beginning; a world for the witness. Arguments that are structs of a bool and two strings. What the rows of the ratios have in common. What the rows of layer 9 have in common. -/
import Derived.Test.YtgnciigjhpcdmaaGreatDoorJoinE
import Derived.Test.YtgnciigjhpcdmaaGreatDoorCards
import Derived.Test.YtgnciigjhpcdmaaGreatDoorTie
import Derived.WalkKit
import Derived.ProofKit
import Derived.OpenShut
import Derived.Deep.DeepHandedRow
import Derived.Lib.LaidTab
import Derived.WideShapes
import Derived.ChangeArms
import Derived.RowKit
set_option linter.unusedVariables false
set_option linter.unusedSimpArgs false
namespace Go.Proofs.YtgnciigjhpcdmaaGreatDoor
open Go Go.Fw Go.NatM Go.RatM
set_option maxRecDepth 100000
set_option maxHeartbeats 64000000

theorem rresOk {l x : List Un} (hl : l.length ≤ 9223372036854775807) (hi : UnOk l) (hx : resolveU l = .inl x) :
    FnS Tryz.prog 8 1 [.buf 0] [(0, .ro 8 (rowsU l))] (fun _ : Unit => True) (fun _ => .ret (.tup [.buf 1, .v (.int .i64 0)]) 2 [ownU 1 x]) := by
  have := rResolve_fn l hl hi
  rw [hx] at this
  exact this
theorem rresNo {l : List Un} {e : Int} (hl : l.length ≤ 9223372036854775807) (hi : UnOk l) (hx : resolveU l = .inr e) :
    FnS Tryz.prog 8 1 [.buf 0] [(0, .ro 8 (rowsU l))] (fun _ : Unit => True) (fun _ => .ret (.tup [.v (.slice none 0 0), .v (.int .i64 e)]) 1 []) := by
  have := rResolve_fn l hl hi
  rw [hx] at this
  exact this
theorem rUCheck_fn {h : Array Obj} (l : List Un) (hi : UnOk l) {v : Value} (hv : Ro h v 8 (rowsU l)) : FnV Tryz.prog 11 #[v] h fun r h' => r = .int .i64 (checkU l) ∧ Keeps h.size h h' := by
  have hl := rowsU_len l
  have hm := hv.len
  refine Fn.ofG (envL [v]) 1 [.buf 0] [(0, .ro (8) (rowsU l))] (fun k => k < _) Tryz.func11 (by kernel_rfl) rfl Tryz.ntmps11 rfl (fun _ hk => hk) (Sat.ros (vs := [v]) (l := [(8, rowsU l)]) ⟨hv, trivial⟩) fun w0 cs => ?_
  conv => whnf
  refine goS_run tab 1000 _ _ _ _ ?_
  conv => whnf
  repeat (first | (refine And.intro (by omega) ?_; (try intro _); conv => whnf) | (refine And.intro ?_ (by omega); (try intro _); conv => whnf) | (refine ⟨_, RemV.nonneg (by omega) (by omega), ?_⟩; conv => whnf))
  cases hx : resolveU l with
  | inr e =>
    have he := resolveU_err hx
    have : checkU l = e := by unfold checkU; rw [hx]
    rw [this]
    refine RunsS.callN (rresNo (by omega) hi hx) [0] ?CNr1 (by repeat (first | exact trivial | refine ⟨by rfl, ?_⟩)) ?CNa1
    case CNa1 => rfl
    intro _ _
    conv => whnf
    try refine goS_run tab 1000 _ _ _ _ ?_
    conv => whnf
    repeat (first | (refine And.intro (by omega) ?_; (try intro _); conv => whnf) | (refine And.intro ?_ (by omega); (try intro _); conv => whnf) | (refine ⟨_, RemV.nonneg (by omega) (by omega), ?_⟩; conv => whnf))
    refine RunsS.retU (UnwS.ret tab Tryz.func11 rfl fun Ez Hz Az Sz K => ⟨_, rfl, rfl, K.keeps⟩)
  | inl x =>
    have hc : checkU l = if x = l then 0 else 90 := by unfold checkU; rw [hx]
    rw [hc]
    refine RunsS.callN (rresOk (by omega) hi hx) [0] ?CNr2 (by repeat (first | exact trivial | refine ⟨by rfl, ?_⟩)) ?CNa2
    case CNa2 => rfl
    intro _ _
    conv => whnf
    try refine goS_run tab 1000 _ _ _ _ ?_
    conv => whnf
    repeat (first | (refine And.intro (by omega) ?_; (try intro _); conv => whnf) | (refine And.intro ?_ (by omega); (try intro _); conv => whnf) | (refine ⟨_, RemV.nonneg (by omega) (by omega), ?_⟩; conv => whnf))
    by_cases he : x = l
    · refine RunsS.callV (fun Ez Hz Az Sz K => same_fn x l (Sz.ro (b := 1) rfl) (Sz.ro (b := 0) rfl)) ?_
      conv => whnf
      rw [decide_eq_true he]
      try dsimp only
      try refine goS_run tab 1000 _ _ _ _ ?_
      conv => whnf
      repeat (first | (refine And.intro (by omega) ?_; (try intro _); conv => whnf) | (refine And.intro ?_ (by omega); (try intro _); conv => whnf) | (refine ⟨_, RemV.nonneg (by omega) (by omega), ?_⟩; conv => whnf))
      rw [if_pos he]
      refine RunsS.retU (UnwS.ret tab Tryz.func11 rfl fun Ez Hz Az Sz K => ⟨_, rfl, rfl, K.keeps⟩)
    · refine RunsS.callV (fun Ez Hz Az Sz K => same_fn x l (Sz.ro (b := 1) rfl) (Sz.ro (b := 0) rfl)) ?_
      conv => whnf
      rw [decide_eq_false he]
      try dsimp only
      try refine goS_run tab 1000 _ _ _ _ ?_
      conv => whnf
      repeat (first | (refine And.intro (by omega) ?_; (try intro _); conv => whnf) | (refine And.intro ?_ (by omega); (try intro _); conv => whnf) | (refine ⟨_, RemV.nonneg (by omega) (by omega), ?_⟩; conv => whnf))
      rw [if_neg he]
      refine RunsS.retU (UnwS.ret tab Tryz.func11 rfl fun Ez Hz Az Sz K => ⟨_, rfl, rfl, K.keeps⟩)
theorem divR_bad {a b : Rt} (h : (divR a b).2 ≠ 0) : divR a b = (zr, (divR a b).2) := by
  unfold divR at h ⊢
  split
  · split
    · rfl
    · rename_i h1 h2
      rw [if_pos h1, if_neg h2] at h
      revert h
      cases mulL (decQ a) (invQ (decQ b)) with
      | none => intro _; rfl
      | some q => intro h; exact absurd rfl h
  · rfl
theorem rConvert_fn {h : Array Obj} (l : List Un) (hi : UnOk l) {v : Value} (hv : Ro h v 8 (rowsU l)) (a b : Int) (r : Rt) : FnV Tryz.prog 13 #[v, .int .i64 a, .int .i64 b, r.v] h fun y h' => y = rev (convU l a b r) ∧ Keeps h.size h h' := by
  have hl := rowsU_len l
  have hm := hv.len
  obtain ⟨y, hy⟩ : ∃ y, y = convU l a b r := ⟨_, rfl⟩
  rw [← hy]
  refine Fn.ofG (envL [v]) 1 [.buf 0, .v (.int .i64 a), .v (.int .i64 b), .agg [.v (.bool r.neg), .v (.string r.n), .v (.string r.d)]] [(0, .ro (8) (rowsU l))] (fun k => k < _) Tryz.func13 (by kernel_rfl) rfl Tryz.ntmps13 rfl (fun _ hk => hk) (Sat.ros (vs := [v]) (l := [(8, rowsU l)]) ⟨hv, trivial⟩) fun w0 cs => ?_
  conv => whnf
  refine goS_run tab 1000 _ _ _ _ ?_
  conv => whnf
  repeat (first | (refine And.intro (by omega) ?_; (try intro _); conv => whnf) | (refine And.intro ?_ (by omega); (try intro _); conv => whnf) | (refine ⟨_, RemV.nonneg (by omega) (by omega), ?_⟩; conv => whnf))
  by_cases hc : checkU l = 0
  · refine RunsS.callV (fun Ez Hz Az Sz K => rUCheck_fn l hi (Sz.ro (b := 0) rfl)) ?_
    conv => whnf
    rw [hc]
    try dsimp only
    try refine goS_run tab 1000 _ _ _ _ ?_
    conv => whnf
    repeat (first | (refine And.intro (by omega) ?_; (try intro _); conv => whnf) | (refine And.intro ?_ (by omega); (try intro _); conv => whnf) | (refine ⟨_, RemV.nonneg (by omega) (by omega), ?_⟩; conv => whnf))
    by_cases ho : a < 0 ∨ (l.length : Int) ≤ a ∨ b < 0 ∨ (l.length : Int) ≤ b
    · rw [convU_out hc ho] at hy
      subst hy
      refine RunsS.held tab (.fl 0 (.fl 1 (.fl 2 (.fl 3 (.fl 4 (.fl 5 (.fl 6 (.fl 7 (.fl 8 (.fl 9 (.fl 10 (.fl 11 (.fl 12 (.fl 13 (.fl 14 (.fl 15 (.fl 16 (.fl 17 (.fl 18 (.fl 19 (.fl 20 (.fl 21 (.fl 22 (.fl 23 (.fl 24 (.fl 25 (.fl 26 (.fl 27 (.fl 28 (.fl 29 (.fl 30 .done))))))))))))))))))))))))))))))) (by kernel_rfl) ?_
      conv => whnf
      try refine goR_run tab _ _ _ _ _ _ ?_
      conv => whnf
      repeat (first | (refine And.intro (by omega) ?_; (try intro _); conv => whnf) | (refine And.intro ?_ (by omega); (try intro _); conv => whnf) | (refine And.intro (by (conv => whnf); (repeat (refine And.intro (by (conv => whnf); first | rfl | exact trivial) ?_; conv => whnf)); exact trivial) ?_; conv => whnf) | (refine ⟨_, RemV.nonneg (by omega) (by omega), ?_⟩; conv => whnf))
      try refine goS_run tab 1000 _ _ _ _ ?_
      conv => whnf
      repeat (first | (refine And.intro (by omega) ?_; (try intro _); conv => whnf) | (refine And.intro ?_ (by omega); (try intro _); conv => whnf) | (refine ⟨_, RemV.nonneg (by omega) (by omega), ?_⟩; conv => whnf))
      by_cases o1 : a < 0
      · try refine goR_run tab _ _ _ _ _ _ ?_
        conv => whnf
        repeat (first | (refine And.intro (by omega) ?_; (try intro _); conv => whnf) | (refine And.intro ?_ (by omega); (try intro _); conv => whnf) | (refine And.intro (by (conv => whnf); (repeat (refine And.intro (by (conv => whnf); first | rfl | exact trivial) ?_; conv => whnf)); exact trivial) ?_; conv => whnf) | (refine ⟨_, RemV.nonneg (by omega) (by omega), ?_⟩; conv => whnf))
        try refine goS_run tab 1000 _ _ _ _ ?_
        conv => whnf
        repeat (first | (refine And.intro (by omega) ?_; (try intro _); conv => whnf) | (refine And.intro ?_ (by omega); (try intro _); conv => whnf) | (refine ⟨_, RemV.nonneg (by omega) (by omega), ?_⟩; conv => whnf))
        refine RunsS.retU (UnwS.ret tab Tryz.func13 rfl fun Ez Hz Az Sz K => ⟨_, rfl, rfl, K.keeps⟩)
      by_cases o2 : (l.length : Int) ≤ a
      · try refine goR_run tab _ _ _ _ _ _ ?_
        conv => whnf
        repeat (first | (refine And.intro (by omega) ?_; (try intro _); conv => whnf) | (refine And.intro ?_ (by omega); (try intro _); conv => whnf) | (refine And.intro (by (conv => whnf); (repeat (refine And.intro (by (conv => whnf); first | rfl | exact trivial) ?_; conv => whnf)); exact trivial) ?_; conv => whnf) | (refine ⟨_, RemV.nonneg (by omega) (by omega), ?_⟩; conv => whnf))
        try refine goS_run tab 1000 _ _ _ _ ?_
        conv => whnf
        repeat (first | (refine And.intro (by omega) ?_; (try intro _); conv => whnf) | (refine And.intro ?_ (by omega); (try intro _); conv => whnf) | (refine ⟨_, RemV.nonneg (by omega) (by omega), ?_⟩; conv => whnf))
        refine RunsS.retU (UnwS.ret tab Tryz.func13 rfl fun Ez Hz Az Sz K => ⟨_, rfl, rfl, K.keeps⟩)
      by_cases o3 : b < 0
      · try refine goR_run tab _ _ _ _ _ _ ?_
        conv => whnf
        repeat (first | (refine And.intro (by omega) ?_; (try intro _); conv => whnf) | (refine And.intro ?_ (by omega); (try intro _); conv => whnf) | (refine And.intro (by (conv => whnf); (repeat (refine And.intro (by (conv => whnf); first | rfl | exact trivial) ?_; conv => whnf)); exact trivial) ?_; conv => whnf) | (refine ⟨_, RemV.nonneg (by omega) (by omega), ?_⟩; conv => whnf))
        try refine goS_run tab 1000 _ _ _ _ ?_
        conv => whnf
        repeat (first | (refine And.intro (by omega) ?_; (try intro _); conv => whnf) | (refine And.intro ?_ (by omega); (try intro _); conv => whnf) | (refine ⟨_, RemV.nonneg (by omega) (by omega), ?_⟩; conv => whnf))
        refine RunsS.retU (UnwS.ret tab Tryz.func13 rfl fun Ez Hz Az Sz K => ⟨_, rfl, rfl, K.keeps⟩)
      · try refine goR_run tab _ _ _ _ _ _ ?_
        conv => whnf
        repeat (first | (refine And.intro (by omega) ?_; (try intro _); conv => whnf) | (refine And.intro ?_ (by omega); (try intro _); conv => whnf) | (refine And.intro (by (conv => whnf); (repeat (refine And.intro (by (conv => whnf); first | rfl | exact trivial) ?_; conv => whnf)); exact trivial) ?_; conv => whnf) | (refine ⟨_, RemV.nonneg (by omega) (by omega), ?_⟩; conv => whnf))
        try refine goS_run tab 1000 _ _ _ _ ?_
        conv => whnf
        repeat (first | (refine And.intro (by omega) ?_; (try intro _); conv => whnf) | (refine And.intro ?_ (by omega); (try intro _); conv => whnf) | (refine ⟨_, RemV.nonneg (by omega) (by omega), ?_⟩; conv => whnf))
        refine RunsS.retU (UnwS.ret tab Tryz.func13 rfl fun Ez Hz Az Sz K => ⟨_, rfl, rfl, K.keeps⟩)
    · obtain ⟨i, rfl⟩ : ∃ i : Nat, a = i := ⟨a.toNat, by omega⟩
      obtain ⟨j, rfl⟩ : ∃ j : Nat, b = j := ⟨b.toNat, by omega⟩
      have i1 : i < l.length := by omega
      have j1 : j < l.length := by omega
      rw [convU_in hc i1 j1] at hy
      refine RunsS.held tab (.fl 0 (.fl 1 (.fl 2 (.fl 3 (.fl 4 (.fl 5 (.fl 6 (.fl 7 (.fl 8 (.fl 9 (.fl 10 (.fl 11 (.fl 12 (.fl 13 (.fl 14 (.fl 15 (.fl 16 (.fl 17 (.fl 18 (.fl 19 (.fl 20 (.fl 21 (.fl 22 (.fl 23 (.fl 24 (.fl 25 (.fl 26 (.fl 27 (.fl 28 (.fl 29 (.fl 30 .done))))))))))))))))))))))))))))))) (by kernel_rfl) ?_
      conv => whnf
      try refine goR_run tab _ _ _ _ _ _ ?_
      conv => whnf
      repeat (first | (refine And.intro (by omega) ?_; (try intro _); conv => whnf) | (refine And.intro ?_ (by omega); (try intro _); conv => whnf) | (refine And.intro (by (conv => whnf); (repeat (refine And.intro (by (conv => whnf); first | rfl | exact trivial) ?_; conv => whnf)); exact trivial) ?_; conv => whnf) | (refine ⟨_, RemV.nonneg (by omega) (by omega), ?_⟩; conv => whnf))
      try refine goS_run tab 1000 _ _ _ _ ?_
      conv => whnf
      repeat (first | (refine And.intro (by omega) ?_; (try intro _); conv => whnf) | (refine And.intro ?_ (by omega); (try intro _); conv => whnf) | (refine ⟨_, RemV.nonneg (by omega) (by omega), ?_⟩; conv => whnf))
      refine ⟨_, rowsU_get i1, ?_⟩
      conv => whnf
      try (refine And.intro (by first | omega | exact Nat.le_of_ble_eq_true rfl) ?_; conv => whnf)
      try refine goR_run tab _ _ _ _ _ _ ?_
      conv => whnf
      repeat (first | (refine And.intro (by omega) ?_; (try intro _); conv => whnf) | (refine And.intro ?_ (by omega); (try intro _); conv => whnf) | (refine And.intro (by (conv => whnf); (repeat (refine And.intro (by (conv => whnf); first | rfl | exact trivial) ?_; conv => whnf)); exact trivial) ?_; conv => whnf) | (refine ⟨_, RemV.nonneg (by omega) (by omega), ?_⟩; conv => whnf))
      try refine goS_run tab 1000 _ _ _ _ ?_
      conv => whnf
      repeat (first | (refine And.intro (by omega) ?_; (try intro _); conv => whnf) | (refine And.intro ?_ (by omega); (try intro _); conv => whnf) | (refine ⟨_, RemV.nonneg (by omega) (by omega), ?_⟩; conv => whnf))
      refine ⟨_, rowsU_get j1, ?_⟩
      conv => whnf
      try (refine And.intro (by first | omega | exact Nat.le_of_ble_eq_true rfl) ?_; conv => whnf)
      try refine goR_run tab _ _ _ _ _ _ ?_
      conv => whnf
      repeat (first | (refine And.intro (by omega) ?_; (try intro _); conv => whnf) | (refine And.intro ?_ (by omega); (try intro _); conv => whnf) | (refine And.intro (by (conv => whnf); (repeat (refine And.intro (by (conv => whnf); first | rfl | exact trivial) ?_; conv => whnf)); exact trivial) ?_; conv => whnf) | (refine ⟨_, RemV.nonneg (by omega) (by omega), ?_⟩; conv => whnf))
      try refine goS_run tab 1000 _ _ _ _ ?_
      conv => whnf
      repeat (first | (refine And.intro (by omega) ?_; (try intro _); conv => whnf) | (refine And.intro ?_ (by omega); (try intro _); conv => whnf) | (refine ⟨_, RemV.nonneg (by omega) (by omega), ?_⟩; conv => whnf))
      refine ⟨fun hb => ?_, fun hb => ?_⟩ <;> conv => whnf
      · try refine goR_run tab _ _ _ _ _ _ ?_
        conv => whnf
        repeat (first | (refine And.intro (by omega) ?_; (try intro _); conv => whnf) | (refine And.intro ?_ (by omega); (try intro _); conv => whnf) | (refine And.intro (by (conv => whnf); (repeat (refine And.intro (by (conv => whnf); first | rfl | exact trivial) ?_; conv => whnf)); exact trivial) ?_; conv => whnf) | (refine ⟨_, RemV.nonneg (by omega) (by omega), ?_⟩; conv => whnf))
        try refine goS_run tab 1000 _ _ _ _ ?_
        conv => whnf
        repeat (first | (refine And.intro (by omega) ?_; (try intro _); conv => whnf) | (refine And.intro ?_ (by omega); (try intro _); conv => whnf) | (refine ⟨_, RemV.nonneg (by omega) (by omega), ?_⟩; conv => whnf))
        rw [if_neg (fun e => e hb)] at hy
        refine RunsS.join (fun (_ : Unit) => [(11, .ptr 3 0), (10, .v (.int .i64 (mulR r l[i].scale).2)), (8, .ptr 2 0), (2, .v (.int .i64 (j : Int))), (0, .buf 0)]) (fun (_ : Unit) => [rtB 3 (mulR r l[i].scale).1, (2, .cells 31 [.v (.bool false), .v (.string ⟨#[]⟩), .v (.string ⟨#[]⟩)]), (0, .ro 8 (rowsU l))]) 4 (fun (_ : Unit) => True) ?_ (fun meet => ?_)
        rotate_left
        · refine RunsS.held tab (.fl 0 (.fl 1 (.fl 2 (.fl 3 (.fl 4 (.fl 5 (.e2 6 [] (.fl 7 (.fl 8 (.fl 9 (.e1 10 [0, 5] (.e1 11 [] (.fl 12 .done)))))) 10 [0, 5] (.e1 6 [] (.fl 7 (.fl 8 (.fl 9 (.e1 11 [] (.fl 12 .done))))))))))))) (by kernel_rfl) ?_
          conv => whnf
          try refine goR_run tab _ _ _ _ _ _ ?_
          conv => whnf
          repeat (first | (refine And.intro (by omega) ?_; (try intro _); conv => whnf) | (refine And.intro ?_ (by omega); (try intro _); conv => whnf) | (refine And.intro (by (conv => whnf); (repeat (refine And.intro (by (conv => whnf); first | rfl | exact trivial) ?_; conv => whnf)); exact trivial) ?_; conv => whnf) | (refine ⟨_, RemV.nonneg (by omega) (by omega), ?_⟩; conv => whnf))
          try refine goS_run tab 1000 _ _ _ _ ?_
          conv => whnf
          repeat (first | (refine And.intro (by omega) ?_; (try intro _); conv => whnf) | (refine And.intro ?_ (by omega); (try intro _); conv => whnf) | (refine ⟨_, RemV.nonneg (by omega) (by omega), ?_⟩; conv => whnf))
          refine ⟨_, rowsU_get i1, ?_⟩
          conv => whnf
          try (refine And.intro (by first | omega | exact Nat.le_of_ble_eq_true rfl) ?_; conv => whnf)
          try refine goR_run tab _ _ _ _ _ _ ?_
          conv => whnf
          repeat (first | (refine And.intro (by omega) ?_; (try intro _); conv => whnf) | (refine And.intro ?_ (by omega); (try intro _); conv => whnf) | (refine And.intro (by (conv => whnf); (repeat (refine And.intro (by (conv => whnf); first | rfl | exact trivial) ?_; conv => whnf)); exact trivial) ?_; conv => whnf) | (refine ⟨_, RemV.nonneg (by omega) (by omega), ?_⟩; conv => whnf))
          try refine goS_run tab 1000 _ _ _ _ ?_
          conv => whnf
          repeat (first | (refine And.intro (by omega) ?_; (try intro _); conv => whnf) | (refine And.intro ?_ (by omega); (try intro _); conv => whnf) | (refine ⟨_, RemV.nonneg (by omega) (by omega), ?_⟩; conv => whnf))
          refine ⟨?_, ?_⟩ <;> conv => whnf
          · refine EffR.callV (fun Ez Hz Az Sz K => rqMul_fn r l[i].scale) (by (conv => whnf); (repeat (refine And.intro (by (conv => whnf); first | rfl | exact trivial) ?_; conv => whnf)); exact trivial) ?_
            conv => whnf
            try refine goR_run tab _ _ _ _ _ _ ?_
            conv => whnf
            repeat (first | (refine And.intro (by omega) ?_; (try intro _); conv => whnf) | (refine And.intro ?_ (by omega); (try intro _); conv => whnf) | (refine And.intro (by (conv => whnf); (repeat (refine And.intro (by (conv => whnf); first | rfl | exact trivial) ?_; conv => whnf)); exact trivial) ?_; conv => whnf) | (refine ⟨_, RemV.nonneg (by omega) (by omega), ?_⟩; conv => whnf))
            try refine goS_run tab 1000 _ _ _ _ ?_
            conv => whnf
            repeat (first | (refine And.intro (by omega) ?_; (try intro _); conv => whnf) | (refine And.intro ?_ (by omega); (try intro _); conv => whnf) | (refine ⟨_, RemV.nonneg (by omega) (by omega), ?_⟩; conv => whnf))
            refine RunsS.subR [] (meet (()) ?BJ3) ?SS3 ?HH3
            case BJ3 => first | trivial | omega | ((try dsimp only); omega)
            case SS3 => repeat (first | exact trivial | refine ⟨by rfl, ?_⟩)
            case HH3 => repeat (first | exact trivial | refine ⟨by rfl, ?_⟩)
          · try refine goR_run tab _ _ _ _ _ _ ?_
            conv => whnf
            repeat (first | (refine And.intro (by omega) ?_; (try intro _); conv => whnf) | (refine And.intro ?_ (by omega); (try intro _); conv => whnf) | (refine And.intro (by (conv => whnf); (repeat (refine And.intro (by (conv => whnf); first | rfl | exact trivial) ?_; conv => whnf)); exact trivial) ?_; conv => whnf) | (refine ⟨_, RemV.nonneg (by omega) (by omega), ?_⟩; conv => whnf))
            try refine goS_run tab 1000 _ _ _ _ ?_
            conv => whnf
            repeat (first | (refine And.intro (by omega) ?_; (try intro _); conv => whnf) | (refine And.intro ?_ (by omega); (try intro _); conv => whnf) | (refine ⟨_, RemV.nonneg (by omega) (by omega), ?_⟩; conv => whnf))
            refine EffR.callV (fun Ez Hz Az Sz K => rqMul_fn r l[i].scale) (by (conv => whnf); (repeat (refine And.intro (by (conv => whnf); first | rfl | exact trivial) ?_; conv => whnf)); exact trivial) ?_
            conv => whnf
            try refine goR_run tab _ _ _ _ _ _ ?_
            conv => whnf
            repeat (first | (refine And.intro (by omega) ?_; (try intro _); conv => whnf) | (refine And.intro ?_ (by omega); (try intro _); conv => whnf) | (refine And.intro (by (conv => whnf); (repeat (refine And.intro (by (conv => whnf); first | rfl | exact trivial) ?_; conv => whnf)); exact trivial) ?_; conv => whnf) | (refine ⟨_, RemV.nonneg (by omega) (by omega), ?_⟩; conv => whnf))
            try refine goS_run tab 1000 _ _ _ _ ?_
            conv => whnf
            repeat (first | (refine And.intro (by omega) ?_; (try intro _); conv => whnf) | (refine And.intro ?_ (by omega); (try intro _); conv => whnf) | (refine ⟨_, RemV.nonneg (by omega) (by omega), ?_⟩; conv => whnf))
            refine RunsS.subR [] (meet (()) ?BJ4) ?SS4 ?HH4
            case BJ4 => first | trivial | omega | ((try dsimp only); omega)
            case SS4 => repeat (first | exact trivial | refine ⟨by rfl, ?_⟩)
            case HH4 => repeat (first | exact trivial | refine ⟨by rfl, ?_⟩)
        intro _ _
        try refine goS_run tab 1000 _ _ _ _ ?_
        conv => whnf
        repeat (first | (refine And.intro (by omega) ?_; (try intro _); conv => whnf) | (refine And.intro ?_ (by omega); (try intro _); conv => whnf) | (refine ⟨_, RemV.nonneg (by omega) (by omega), ?_⟩; conv => whnf))
        refine ⟨fun hm => ?_, fun hm => ?_⟩ <;> conv => whnf
        · conv => whnf
          repeat (first | (refine And.intro (by omega) ?_; (try intro _); conv => whnf) | (refine And.intro ?_ (by omega); (try intro _); conv => whnf) | (refine ⟨_, RemV.nonneg (by omega) (by omega), ?_⟩; conv => whnf))
          rw [if_neg (fun e => e hm)] at hy
          refine RunsS.join (fun (_ : Unit) => [(12, .ptr 4 0), (10, .v (.int .i64 (divR (mulR r l[i].scale).1 l[j].scale).2)), (8, .ptr 2 0)]) (fun (_ : Unit) => [rtB 4 (divR (mulR r l[i].scale).1 l[j].scale).1, (2, .cells 31 [.v (.bool false), .v (.string ⟨#[]⟩), .v (.string ⟨#[]⟩)])]) 5 (fun (_ : Unit) => True) ?_ (fun meet => ?_)
          rotate_left
          · refine RunsS.held tab (.fl 0 (.fl 1 (.fl 2 (.fl 3 (.fl 4 (.fl 5 (.e2 6 [] (.fl 7 (.fl 8 (.fl 9 (.e1 10 [0, 5] (.e1 11 [] (.fl 12 .done)))))) 10 [0, 5] (.e1 6 [] (.fl 7 (.fl 8 (.fl 9 (.e1 11 [] (.fl 12 .done))))))))))))) (by kernel_rfl) ?_
            conv => whnf
            try refine goR_run tab _ _ _ _ _ _ ?_
            conv => whnf
            repeat (first | (refine And.intro (by omega) ?_; (try intro _); conv => whnf) | (refine And.intro ?_ (by omega); (try intro _); conv => whnf) | (refine And.intro (by (conv => whnf); (repeat (refine And.intro (by (conv => whnf); first | rfl | exact trivial) ?_; conv => whnf)); exact trivial) ?_; conv => whnf) | (refine ⟨_, RemV.nonneg (by omega) (by omega), ?_⟩; conv => whnf))
            try refine goS_run tab 1000 _ _ _ _ ?_
            conv => whnf
            repeat (first | (refine And.intro (by omega) ?_; (try intro _); conv => whnf) | (refine And.intro ?_ (by omega); (try intro _); conv => whnf) | (refine ⟨_, RemV.nonneg (by omega) (by omega), ?_⟩; conv => whnf))
            refine ⟨_, rowsU_get j1, ?_⟩
            conv => whnf
            try (refine And.intro (by first | omega | exact Nat.le_of_ble_eq_true rfl) ?_; conv => whnf)
            try refine goR_run tab _ _ _ _ _ _ ?_
            conv => whnf
            repeat (first | (refine And.intro (by omega) ?_; (try intro _); conv => whnf) | (refine And.intro ?_ (by omega); (try intro _); conv => whnf) | (refine And.intro (by (conv => whnf); (repeat (refine And.intro (by (conv => whnf); first | rfl | exact trivial) ?_; conv => whnf)); exact trivial) ?_; conv => whnf) | (refine ⟨_, RemV.nonneg (by omega) (by omega), ?_⟩; conv => whnf))
            try refine goS_run tab 1000 _ _ _ _ ?_
            conv => whnf
            repeat (first | (refine And.intro (by omega) ?_; (try intro _); conv => whnf) | (refine And.intro ?_ (by omega); (try intro _); conv => whnf) | (refine ⟨_, RemV.nonneg (by omega) (by omega), ?_⟩; conv => whnf))
            refine ⟨?_, ?_⟩ <;> conv => whnf
            · refine EffR.callV (fun Ez Hz Az Sz K => rqDiv_fn (mulR r l[i].scale).1 l[j].scale) (by (conv => whnf); (repeat (refine And.intro (by (conv => whnf); first | rfl | exact trivial) ?_; conv => whnf)); exact trivial) ?_
              conv => whnf
              try refine goR_run tab _ _ _ _ _ _ ?_
              conv => whnf
              repeat (first | (refine And.intro (by omega) ?_; (try intro _); conv => whnf) | (refine And.intro ?_ (by omega); (try intro _); conv => whnf) | (refine And.intro (by (conv => whnf); (repeat (refine And.intro (by (conv => whnf); first | rfl | exact trivial) ?_; conv => whnf)); exact trivial) ?_; conv => whnf) | (refine ⟨_, RemV.nonneg (by omega) (by omega), ?_⟩; conv => whnf))
              try refine goS_run tab 1000 _ _ _ _ ?_
              conv => whnf
              repeat (first | (refine And.intro (by omega) ?_; (try intro _); conv => whnf) | (refine And.intro ?_ (by omega); (try intro _); conv => whnf) | (refine ⟨_, RemV.nonneg (by omega) (by omega), ?_⟩; conv => whnf))
              refine RunsS.subR [] (meet (()) ?BJ5) ?SS5 ?HH5
              case BJ5 => first | trivial | omega | ((try dsimp only); omega)
              case SS5 => repeat (first | exact trivial | refine ⟨by rfl, ?_⟩)
              case HH5 => repeat (first | exact trivial | refine ⟨by rfl, ?_⟩)
            · try refine goR_run tab _ _ _ _ _ _ ?_
              conv => whnf
              repeat (first | (refine And.intro (by omega) ?_; (try intro _); conv => whnf) | (refine And.intro ?_ (by omega); (try intro _); conv => whnf) | (refine And.intro (by (conv => whnf); (repeat (refine And.intro (by (conv => whnf); first | rfl | exact trivial) ?_; conv => whnf)); exact trivial) ?_; conv => whnf) | (refine ⟨_, RemV.nonneg (by omega) (by omega), ?_⟩; conv => whnf))
              try refine goS_run tab 1000 _ _ _ _ ?_
              conv => whnf
              repeat (first | (refine And.intro (by omega) ?_; (try intro _); conv => whnf) | (refine And.intro ?_ (by omega); (try intro _); conv => whnf) | (refine ⟨_, RemV.nonneg (by omega) (by omega), ?_⟩; conv => whnf))
              refine EffR.callV (fun Ez Hz Az Sz K => rqDiv_fn (mulR r l[i].scale).1 l[j].scale) (by (conv => whnf); (repeat (refine And.intro (by (conv => whnf); first | rfl | exact trivial) ?_; conv => whnf)); exact trivial) ?_
              conv => whnf
              try refine goR_run tab _ _ _ _ _ _ ?_
              conv => whnf
              repeat (first | (refine And.intro (by omega) ?_; (try intro _); conv => whnf) | (refine And.intro ?_ (by omega); (try intro _); conv => whnf) | (refine And.intro (by (conv => whnf); (repeat (refine And.intro (by (conv => whnf); first | rfl | exact trivial) ?_; conv => whnf)); exact trivial) ?_; conv => whnf) | (refine ⟨_, RemV.nonneg (by omega) (by omega), ?_⟩; conv => whnf))
              try refine goS_run tab 1000 _ _ _ _ ?_
              conv => whnf
              repeat (first | (refine And.intro (by omega) ?_; (try intro _); conv => whnf) | (refine And.intro ?_ (by omega); (try intro _); conv => whnf) | (refine ⟨_, RemV.nonneg (by omega) (by omega), ?_⟩; conv => whnf))
              refine RunsS.subR [] (meet (()) ?BJ6) ?SS6 ?HH6
              case BJ6 => first | trivial | omega | ((try dsimp only); omega)
              case SS6 => repeat (first | exact trivial | refine ⟨by rfl, ?_⟩)
              case HH6 => repeat (first | exact trivial | refine ⟨by rfl, ?_⟩)
          intro _ _
          try refine goS_run tab 1000 _ _ _ _ ?_
          conv => whnf
          repeat (first | (refine And.intro (by omega) ?_; (try intro _); conv => whnf) | (refine And.intro ?_ (by omega); (try intro _); conv => whnf) | (refine ⟨_, RemV.nonneg (by omega) (by omega), ?_⟩; conv => whnf))
          refine ⟨fun hd => ?_, fun hd => ?_⟩ <;> conv => whnf
          · conv => whnf
            repeat (first | (refine And.intro (by omega) ?_; (try intro _); conv => whnf) | (refine And.intro ?_ (by omega); (try intro _); conv => whnf) | (refine ⟨_, RemV.nonneg (by omega) (by omega), ?_⟩; conv => whnf))
            subst hy
            refine RunsS.retU (UnwS.ret tab Tryz.func13 rfl fun Ez Hz Az Sz K => ⟨_, rfl, (congrArg (fun e => rev ((divR (mulR r l[i].scale).1 l[j].scale).1, e)) hd.symm), K.keeps⟩)
          · conv => whnf
            repeat (first | (refine And.intro (by omega) ?_; (try intro _); conv => whnf) | (refine And.intro ?_ (by omega); (try intro _); conv => whnf) | (refine ⟨_, RemV.nonneg (by omega) (by omega), ?_⟩; conv => whnf))
            rw [divR_bad hd] at hy
            subst hy
            refine RunsS.retU (UnwS.ret tab Tryz.func13 rfl fun Ez Hz Az Sz K => ⟨_, rfl, rfl, K.keeps⟩)
        · conv => whnf
          repeat (first | (refine And.intro (by omega) ?_; (try intro _); conv => whnf) | (refine And.intro ?_ (by omega); (try intro _); conv => whnf) | (refine ⟨_, RemV.nonneg (by omega) (by omega), ?_⟩; conv => whnf))
          rw [if_pos hm] at hy
          subst hy
          refine RunsS.retU (UnwS.ret tab Tryz.func13 rfl fun Ez Hz Az Sz K => ⟨_, rfl, rfl, K.keeps⟩)
      · try refine goR_run tab _ _ _ _ _ _ ?_
        conv => whnf
        repeat (first | (refine And.intro (by omega) ?_; (try intro _); conv => whnf) | (refine And.intro ?_ (by omega); (try intro _); conv => whnf) | (refine And.intro (by (conv => whnf); (repeat (refine And.intro (by (conv => whnf); first | rfl | exact trivial) ?_; conv => whnf)); exact trivial) ?_; conv => whnf) | (refine ⟨_, RemV.nonneg (by omega) (by omega), ?_⟩; conv => whnf))
        try refine goS_run tab 1000 _ _ _ _ ?_
        conv => whnf
        repeat (first | (refine And.intro (by omega) ?_; (try intro _); conv => whnf) | (refine And.intro ?_ (by omega); (try intro _); conv => whnf) | (refine ⟨_, RemV.nonneg (by omega) (by omega), ?_⟩; conv => whnf))
        rw [if_pos hb] at hy
        subst hy
        refine RunsS.retU (UnwS.ret tab Tryz.func13 rfl fun Ez Hz Az Sz K => ⟨_, rfl, rfl, K.keeps⟩)
  · rw [convU_bad hc] at hy
    subst hy
    refine RunsS.callV (fun Ez Hz Az Sz K => rUCheck_fn l hi (Sz.ro (b := 0) rfl)) ?_
    conv => whnf
    try refine goS_run tab 1000 _ _ _ _ ?_
    conv => whnf
    repeat (first | (refine And.intro (by omega) ?_; (try intro _); conv => whnf) | (refine And.intro ?_ (by omega); (try intro _); conv => whnf) | (refine ⟨_, RemV.nonneg (by omega) (by omega), ?_⟩; conv => whnf))
    refine RunsS.retU (UnwS.ret tab Tryz.func13 rfl fun Ez Hz Az Sz K => ⟨_, rfl, rfl, K.keeps⟩)
theorem unitsSpec_fn {h : Array Obj} (l : List Un) {v : Value} (hv : Ro h v 8 (rowsU l)) (hi : UnOk l) (hT : TabH h) : FnV Tryz.prog 3 #[v] h fun r h' => r = .bool true ∧ Keeps h.size h h' := by
  have hl := rowsU_len l
  have hm := hv.len
  refine Fn.ofG (envL [v]) 1 [.buf 0] [(0, .ro (8) (rowsU l))] (fun k => k < _) Tryz.func3 (by kernel_rfl) rfl Tryz.ntmps3 rfl (fun _ hk => hk) (Sat.ros (vs := [v]) (l := [(8, rowsU l)]) ⟨hv, trivial⟩) fun w0 cs => ?_
  conv => whnf
  refine goS_run tab 1000 _ _ _ _ ?_
  conv => whnf
  repeat (first | (refine And.intro (by omega) ?_; (try intro _); conv => whnf) | (refine And.intro ?_ (by omega); (try intro _); conv => whnf) | (refine ⟨_, RemV.nonneg (by omega) (by omega), ?_⟩; conv => whnf))
  refine RunsS.callV (fun Ez Hz Az Sz K => saneU_fn (hT.keeps ⟨K.size, K.same⟩)) ?_
  conv => whnf
  try refine goS_run tab 1000 _ _ _ _ ?_
  conv => whnf
  repeat (first | (refine And.intro (by omega) ?_; (try intro _); conv => whnf) | (refine And.intro ?_ (by omega); (try intro _); conv => whnf) | (refine ⟨_, RemV.nonneg (by omega) (by omega), ?_⟩; conv => whnf))
  by_cases hf : FewU l
  · refine RunsS.callV (fun Ez Hz Az Sz K => ufew_fn l (Sz.ro (b := 0) rfl)) ?_
    conv => whnf
    rw [decide_eq_true hf]
    try dsimp only
    try refine goS_run tab 1000 _ _ _ _ ?_
    conv => whnf
    repeat (first | (refine And.intro (by omega) ?_; (try intro _); conv => whnf) | (refine And.intro ?_ (by omega); (try intro _); conv => whnf) | (refine ⟨_, RemV.nonneg (by omega) (by omega), ?_⟩; conv => whnf))
    cases hx : resolveU l with
    | inr e =>
      refine RunsS.callT tabOk (hT.t) (resNo (by omega) hi hx) [0] (by repeat (first | exact trivial | refine ⟨by rfl, ?_⟩)) ?CNa7 ?CNr7
      case CNa7 => rfl
      intro _ _
      conv => whnf
      try refine goS_run tab 1000 _ _ _ _ ?_
      conv => whnf
      repeat (first | (refine And.intro (by omega) ?_; (try intro _); conv => whnf) | (refine And.intro ?_ (by omega); (try intro _); conv => whnf) | (refine ⟨_, RemV.nonneg (by omega) (by omega), ?_⟩; conv => whnf))
      refine RunsS.callN (rresNo (by omega) hi hx) [0] ?CNr8 (by repeat (first | exact trivial | refine ⟨by rfl, ?_⟩)) ?CNa8
      case CNa8 => rfl
      intro _ _
      conv => whnf
      try refine goS_run tab 1000 _ _ _ _ ?_
      conv => whnf
      repeat (first | (refine And.intro (by omega) ?_; (try intro _); conv => whnf) | (refine And.intro ?_ (by omega); (try intro _); conv => whnf) | (refine ⟨_, RemV.nonneg (by omega) (by omega), ?_⟩; conv => whnf))
      refine RunsS.callV (fun Ez Hz Az Sz K => same_fn [] [] Ro.nil Ro.nil) ?_
      conv => whnf
      rw [decide_eq_true rfl]
      try dsimp only
      try refine goS_run tab 1000 _ _ _ _ ?_
      conv => whnf
      repeat (first | (refine And.intro (by omega) ?_; (try intro _); conv => whnf) | (refine And.intro ?_ (by omega); (try intro _); conv => whnf) | (refine ⟨_, RemV.nonneg (by omega) (by omega), ?_⟩; conv => whnf))
      refine RunsS.callV (fun Ez Hz Az Sz K => uCheck_fn l hi (Sz.ro (b := 0) rfl) (hT.keeps ⟨K.size, K.same⟩)) ?_
      conv => whnf
      try refine goS_run tab 1000 _ _ _ _ ?_
      conv => whnf
      repeat (first | (refine And.intro (by omega) ?_; (try intro _); conv => whnf) | (refine And.intro ?_ (by omega); (try intro _); conv => whnf) | (refine ⟨_, RemV.nonneg (by omega) (by omega), ?_⟩; conv => whnf))
      refine RunsS.callV (fun Ez Hz Az Sz K => rUCheck_fn l hi (Sz.ro (b := 0) rfl)) ?_
      conv => whnf
      try refine goS_run tab 1000 _ _ _ _ ?_
      conv => whnf
      repeat (first | (refine And.intro (by omega) ?_; (try intro _); conv => whnf) | (refine And.intro ?_ (by omega); (try intro _); conv => whnf) | (refine ⟨_, RemV.nonneg (by omega) (by omega), ?_⟩; conv => whnf))
      refine RunsS.retU (UnwS.ret tab Tryz.func3 rfl fun Ez Hz Az Sz K => ⟨_, rfl, ?_, K.keeps⟩)
      exact congrArg Value.bool (dec_t rfl)
    | inl x =>
      refine RunsS.callT tabOk (hT.t) (resOk (by omega) hi hx) [0] (by repeat (first | exact trivial | refine ⟨by rfl, ?_⟩)) ?CNa9 ?CNr9
      case CNa9 => rfl
      intro _ _
      conv => whnf
      try refine goS_run tab 1000 _ _ _ _ ?_
      conv => whnf
      repeat (first | (refine And.intro (by omega) ?_; (try intro _); conv => whnf) | (refine And.intro ?_ (by omega); (try intro _); conv => whnf) | (refine ⟨_, RemV.nonneg (by omega) (by omega), ?_⟩; conv => whnf))
      refine RunsS.callN (rresOk (by omega) hi hx) [0] ?CNr10 (by repeat (first | exact trivial | refine ⟨by rfl, ?_⟩)) ?CNa10
      case CNa10 => rfl
      intro _ _
      conv => whnf
      try refine goS_run tab 1000 _ _ _ _ ?_
      conv => whnf
      repeat (first | (refine And.intro (by omega) ?_; (try intro _); conv => whnf) | (refine And.intro ?_ (by omega); (try intro _); conv => whnf) | (refine ⟨_, RemV.nonneg (by omega) (by omega), ?_⟩; conv => whnf))
      refine RunsS.callV (fun Ez Hz Az Sz K => same_fn x x (Sz.ro (b := 1) rfl) (Sz.ro (b := 2) rfl)) ?_
      conv => whnf
      rw [decide_eq_true rfl]
      try dsimp only
      try refine goS_run tab 1000 _ _ _ _ ?_
      conv => whnf
      repeat (first | (refine And.intro (by omega) ?_; (try intro _); conv => whnf) | (refine And.intro ?_ (by omega); (try intro _); conv => whnf) | (refine ⟨_, RemV.nonneg (by omega) (by omega), ?_⟩; conv => whnf))
      refine RunsS.callV (fun Ez Hz Az Sz K => uCheck_fn l hi (Sz.ro (b := 0) rfl) (hT.keeps ⟨K.size, K.same⟩)) ?_
      conv => whnf
      try refine goS_run tab 1000 _ _ _ _ ?_
      conv => whnf
      repeat (first | (refine And.intro (by omega) ?_; (try intro _); conv => whnf) | (refine And.intro ?_ (by omega); (try intro _); conv => whnf) | (refine ⟨_, RemV.nonneg (by omega) (by omega), ?_⟩; conv => whnf))
      refine RunsS.callV (fun Ez Hz Az Sz K => rUCheck_fn l hi (Sz.ro (b := 0) rfl)) ?_
      conv => whnf
      try refine goS_run tab 1000 _ _ _ _ ?_
      conv => whnf
      repeat (first | (refine And.intro (by omega) ?_; (try intro _); conv => whnf) | (refine And.intro ?_ (by omega); (try intro _); conv => whnf) | (refine ⟨_, RemV.nonneg (by omega) (by omega), ?_⟩; conv => whnf))
      refine RunsS.retU (UnwS.ret tab Tryz.func3 rfl fun Ez Hz Az Sz K => ⟨_, rfl, ?_, K.keeps⟩)
      exact congrArg Value.bool (dec_t rfl)
  · refine RunsS.callV (fun Ez Hz Az Sz K => ufew_fn l (Sz.ro (b := 0) rfl)) ?_
    conv => whnf
    rw [decide_eq_false hf]
    try dsimp only
    try refine goS_run tab 1000 _ _ _ _ ?_
    conv => whnf
    repeat (first | (refine And.intro (by omega) ?_; (try intro _); conv => whnf) | (refine And.intro ?_ (by omega); (try intro _); conv => whnf) | (refine ⟨_, RemV.nonneg (by omega) (by omega), ?_⟩; conv => whnf))
    refine RunsS.retU (UnwS.ret tab Tryz.func3 rfl fun Ez Hz Az Sz K => ⟨_, rfl, rfl, K.keeps⟩)
theorem unitsConvertSpec_fn {h : Array Obj} (l : List Un) (a b : Int) (r : Rt) {v : Value} (hv : Ro h v 8 (rowsU l)) (hi : UnOk l) (hT : TabH h) : FnV Tryz.prog 4 #[v, .int .i64 a, .int .i64 b, r.v] h fun r h' => r = .bool true ∧ Keeps h.size h h' := by
  have hl := rowsU_len l
  have hm := hv.len
  refine Fn.ofG (envL [v]) 1 [.buf 0, .v (.int .i64 a), .v (.int .i64 b), .agg [.v (.bool r.neg), .v (.string r.n), .v (.string r.d)]] [(0, .ro (8) (rowsU l))] (fun k => k < _) Tryz.func4 (by kernel_rfl) rfl Tryz.ntmps4 rfl (fun _ hk => hk) (Sat.ros (vs := [v]) (l := [(8, rowsU l)]) ⟨hv, trivial⟩) fun w0 cs => ?_
  conv => whnf
  refine goS_run tab 1000 _ _ _ _ ?_
  conv => whnf
  repeat (first | (refine And.intro (by omega) ?_; (try intro _); conv => whnf) | (refine And.intro ?_ (by omega); (try intro _); conv => whnf) | (refine ⟨_, RemV.nonneg (by omega) (by omega), ?_⟩; conv => whnf))
  refine RunsS.callV (fun Ez Hz Az Sz K => saneU_fn (hT.keeps ⟨K.size, K.same⟩)) ?_
  conv => whnf
  try refine goS_run tab 1000 _ _ _ _ ?_
  conv => whnf
  repeat (first | (refine And.intro (by omega) ?_; (try intro _); conv => whnf) | (refine And.intro ?_ (by omega); (try intro _); conv => whnf) | (refine ⟨_, RemV.nonneg (by omega) (by omega), ?_⟩; conv => whnf))
  by_cases hf : FewU l
  rotate_left
  · refine RunsS.callV (fun Ez Hz Az Sz K => ufew_fn l (Sz.ro (b := 0) rfl)) ?_
    conv => whnf
    rw [decide_eq_false hf]
    try dsimp only
    try refine goS_run tab 1000 _ _ _ _ ?_
    conv => whnf
    repeat (first | (refine And.intro (by omega) ?_; (try intro _); conv => whnf) | (refine And.intro ?_ (by omega); (try intro _); conv => whnf) | (refine ⟨_, RemV.nonneg (by omega) (by omega), ?_⟩; conv => whnf))
    refine RunsS.retU (UnwS.ret tab Tryz.func4 rfl fun Ez Hz Az Sz K => ⟨_, rfl, rfl, K.keeps⟩)
  refine RunsS.callV (fun Ez Hz Az Sz K => ufew_fn l (Sz.ro (b := 0) rfl)) ?_
  conv => whnf
  rw [decide_eq_true hf]
  try dsimp only
  try refine goS_run tab 1000 _ _ _ _ ?_
  conv => whnf
  repeat (first | (refine And.intro (by omega) ?_; (try intro _); conv => whnf) | (refine And.intro ?_ (by omega); (try intro _); conv => whnf) | (refine ⟨_, RemV.nonneg (by omega) (by omega), ?_⟩; conv => whnf))
  by_cases g1 : (r.n.size : Int) ≤ 60
  rotate_left
  · conv => whnf
    repeat (first | (refine And.intro (by omega) ?_; (try intro _); conv => whnf) | (refine And.intro ?_ (by omega); (try intro _); conv => whnf) | (refine ⟨_, RemV.nonneg (by omega) (by omega), ?_⟩; conv => whnf))
    refine RunsS.retU (UnwS.ret tab Tryz.func4 rfl fun Ez Hz Az Sz K => ⟨_, rfl, rfl, K.keeps⟩)
  by_cases g2 : (r.d.size : Int) ≤ 60
  rotate_left
  · conv => whnf
    repeat (first | (refine And.intro (by omega) ?_; (try intro _); conv => whnf) | (refine And.intro ?_ (by omega); (try intro _); conv => whnf) | (refine ⟨_, RemV.nonneg (by omega) (by omega), ?_⟩; conv => whnf))
    refine RunsS.retU (UnwS.ret tab Tryz.func4 rfl fun Ez Hz Az Sz K => ⟨_, rfl, rfl, K.keeps⟩)
  conv => whnf
  repeat (first | (refine And.intro (by omega) ?_; (try intro _); conv => whnf) | (refine And.intro ?_ (by omega); (try intro _); conv => whnf) | (refine ⟨_, RemV.nonneg (by omega) (by omega), ?_⟩; conv => whnf))
  refine RunsS.callV (fun Ez Hz Az Sz K => convert_fn l hi (Sz.ro (b := 0) rfl) a b r (hT.keeps ⟨K.size, K.same⟩)) ?_
  conv => whnf
  try refine goS_run tab 1000 _ _ _ _ ?_
  conv => whnf
  repeat (first | (refine And.intro (by omega) ?_; (try intro _); conv => whnf) | (refine And.intro ?_ (by omega); (try intro _); conv => whnf) | (refine ⟨_, RemV.nonneg (by omega) (by omega), ?_⟩; conv => whnf))
  refine RunsS.callV (fun Ez Hz Az Sz K => rConvert_fn l hi (Sz.ro (b := 0) rfl) a b r) ?_
  conv => whnf
  try refine goS_run tab 1000 _ _ _ _ ?_
  conv => whnf
  repeat (first | (refine And.intro (by omega) ?_; (try intro _); conv => whnf) | (refine And.intro ?_ (by omega); (try intro _); conv => whnf) | (refine ⟨_, RemV.nonneg (by omega) (by omega), ?_⟩; conv => whnf))
  refine And.intro (fun _ => ?_) (fun hn => absurd (⟨rfl, rfl, rfl⟩) hn)
  conv => whnf
  try refine goS_run tab 1000 _ _ _ _ ?_
  conv => whnf
  repeat (first | (refine And.intro (by omega) ?_; (try intro _); conv => whnf) | (refine And.intro ?_ (by omega); (try intro _); conv => whnf) | (refine ⟨_, RemV.nonneg (by omega) (by omega), ?_⟩; conv => whnf))
  cases hx : resolveU l with
  | inr e =>
    have he := resolveU_err hx
    refine RunsS.callN (rresNo (by omega) hi hx) [0] ?CNr11 (by repeat (first | exact trivial | refine ⟨by rfl, ?_⟩)) ?CNa11
    case CNa11 => rfl
    intro _ _
    conv => whnf
    try refine goS_run tab 1000 _ _ _ _ ?_
    conv => whnf
    repeat (first | (refine And.intro (by omega) ?_; (try intro _); conv => whnf) | (refine And.intro ?_ (by omega); (try intro _); conv => whnf) | (refine ⟨_, RemV.nonneg (by omega) (by omega), ?_⟩; conv => whnf))
    refine And.intro (fun _ => ?_) (fun hn => absurd (⟨rfl, rfl, rfl⟩) hn)
    conv => whnf
    try refine goS_run tab 1000 _ _ _ _ ?_
    conv => whnf
    repeat (first | (refine And.intro (by omega) ?_; (try intro _); conv => whnf) | (refine And.intro ?_ (by omega); (try intro _); conv => whnf) | (refine ⟨_, RemV.nonneg (by omega) (by omega), ?_⟩; conv => whnf))
    refine RunsS.retU (UnwS.ret tab Tryz.func4 rfl fun Ez Hz Az Sz K => ⟨_, rfl, ?_, K.keeps⟩)
    exact congrArg Value.bool (dec_t rfl)
  | inl x =>
    have hix := hi.res (resolveU_inl.1 hx).2.2
    refine RunsS.callN (rresOk (by omega) hi hx) [0] ?CNr12 (by repeat (first | exact trivial | refine ⟨by rfl, ?_⟩)) ?CNa12
    case CNa12 => rfl
    intro _ _
    conv => whnf
    try refine goS_run tab 1000 _ _ _ _ ?_
    conv => whnf
    repeat (first | (refine And.intro (by omega) ?_; (try intro _); conv => whnf) | (refine And.intro ?_ (by omega); (try intro _); conv => whnf) | (refine ⟨_, RemV.nonneg (by omega) (by omega), ?_⟩; conv => whnf))
    refine RunsS.callV (fun Ez Hz Az Sz K => convert_fn x hix (Sz.ro (b := 4) rfl) a b r (hT.keeps ⟨K.size, K.same⟩)) ?_
    conv => whnf
    try refine goS_run tab 1000 _ _ _ _ ?_
    conv => whnf
    repeat (first | (refine And.intro (by omega) ?_; (try intro _); conv => whnf) | (refine And.intro ?_ (by omega); (try intro _); conv => whnf) | (refine ⟨_, RemV.nonneg (by omega) (by omega), ?_⟩; conv => whnf))
    refine RunsS.callV (fun Ez Hz Az Sz K => rConvert_fn x hix (Sz.ro (b := 4) rfl) a b r) ?_
    conv => whnf
    try refine goS_run tab 1000 _ _ _ _ ?_
    conv => whnf
    repeat (first | (refine And.intro (by omega) ?_; (try intro _); conv => whnf) | (refine And.intro ?_ (by omega); (try intro _); conv => whnf) | (refine ⟨_, RemV.nonneg (by omega) (by omega), ?_⟩; conv => whnf))
    refine And.intro (fun _ => ?_) (fun hn => absurd (⟨rfl, rfl, rfl⟩) hn)
    conv => whnf
    try refine goS_run tab 1000 _ _ _ _ ?_
    conv => whnf
    repeat (first | (refine And.intro (by omega) ?_; (try intro _); conv => whnf) | (refine And.intro ?_ (by omega); (try intro _); conv => whnf) | (refine ⟨_, RemV.nonneg (by omega) (by omega), ?_⟩; conv => whnf))
    refine RunsS.retU (UnwS.ret tab Tryz.func4 rfl fun Ez Hz Az Sz K => ⟨_, rfl, ?_, K.keeps⟩)
    exact congrArg Value.bool (dec_t rfl)
end Go.Proofs.YtgnciigjhpcdmaaGreatDoor

namespace Go.Fw
open Go Go.RowKit Go.WideShapes Go.ChangeShapes

/-- what is read of a type's cells: single cells of these kinds -/
structure FlatP (P : Program) (t : TypeId) (ks : List Sc) : Prop where
  at' : ∀ {H : Type} (enc : TypeId × Value → H) (w : World) (base : Nat) (sp : Nat → Bool) (held : Bool) (fuel : Nat) (cs : List Value) (x : DataW H × List MemPlace),
  DataW.trod enc P w base sp held fuel t cs = some x → cs.length = ks.length ∧ ∀ (i : Nat) (k : Sc) (v : Value), ks[i]? = some k → cs[i]? = some v → k.ok v
theorem FlatP.sc {P : Program} {t : TypeId} {k : Sc} (ht : P.underlying t = some k.und) : FlatP P t [k] := ⟨fun enc w base sp held fuel cs x h => by
  obtain ⟨v, rfl, hv⟩ := trod_sc ht h
  refine ⟨rfl, fun i k' v' h1 h2 => ?_⟩
  cases i with
  | zero => cases h1; cases h2; exact hv
  | succ i => simp at h1⟩
/-- a struct: for each of its cells the field that holds it -/
theorem FlatP.struct {P : Program} {t : TypeId} {fs : Array Field} {ks : List Sc} (ht : P.underlying t = some (.struct fs)) (hc : P.cellsOf t = ks.length)
    (hf : ∀ j, j < ks.length → ∃ (i : Nat) (f : Field) (kf : List Sc), fs[i]? = some f ∧ FlatP P f.type kf ∧ P.cellsOf f.type = kf.length ∧ f.offset ≤ j ∧ j - f.offset < kf.length ∧ kf[j - f.offset]? = ks[j]?) : FlatP P t ks := ⟨fun enc w base sp held fuel cs x h => by
  obtain ⟨xs, n, _, rfl, hl, hlen, hx⟩ := DataW.trod_struct ht h
  rw [hc] at hl
  refine ⟨hl, fun j k v hk hv => ?_⟩
  have hj := (List.getElem?_eq_some_iff.1 hk).1
  obtain ⟨i, f, kf, e1, e2, e3, e4, e5, e6⟩ := hf j hj
  have g := hx i f e1
  have hi : i < xs.length := by
    rw [hlen]
    exact (Array.getElem?_eq_some_iff.1 e1).1
  rw [List.getElem?_eq_getElem hi] at g
  obtain ⟨_, g2⟩ := e2.at' enc w base sp held _ _ _ g
  refine g2 (j - f.offset) k v (by rw [e6]; exact hk) ?_
  rw [List.getElem?_take_of_lt (by rw [e3]; exact e5), List.getElem?_drop, show f.offset + (j - f.offset) = j by omega]
  exact hv⟩
section
variable {H : Type} {enc : TypeId × Value → H} {P : Program} {w : World} {base : Nat} {sp : Nat → Bool} {held : Bool}
/-- an argument that is such a struct -/
theorem open_flat {t : TypeId} {fs : Array Field} {ks : List Sc} (ht : P.underlying t = some (.struct fs)) (B : FlatP P t ks) {r : Reach} {b0 : Nat} {v : Value} {d : DataW H} {ps : List MemPlace} (hval : Value.okWide P w r b0 t v) (hd : DataW.Trod enc P w base sp held t v d ps) :
    ∃ cs : List Value, v = .agg cs.toArray ∧ cs.length = ks.length ∧ ∀ (i : Nat) (k : Sc) (v : Value), ks[i]? = some k → cs[i]? = some v → k.ok v := by
  obtain ⟨cs, rfl, _⟩ := okWide_struct ht hval
  obtain ⟨fuel, hf⟩ := hd
  obtain ⟨h1, h2⟩ := B.at' _ _ _ _ _ _ _ _ hf
  exact ⟨cs.toList, by simp, h1, h2⟩
end
end Go.Fw

namespace Go.Proofs.YtgnciigjhpcdmaaGreatDoor
open Go Go.Fw Go.ChangeShapes Go.WideShapes Go.ChangeAt Go.RowKit

theorem own : ownKnob Tryz.prog.godebug = none := by kernel_rfl
theorem gTab : Tryz.prog.globalNamed "math/bits.deBruijn64tab" = some 2 := by kernel_rfl
theorem gTabType : (Tryz.prog.globals[2]?).map (·.type) = some 118 := by kernel_rfl
theorem cellsTab : Tryz.prog.cellsOf 118 = 64 := by kernel_rfl
theorem cellsByte : Tryz.prog.cellsOf 5 = 1 := by kernel_rfl

theorem table {W : World} (h : laidMetH Tryz.prog [("math/bits.deBruijn64tab", Rows.laid_math_bits_deBruijn64tab)] W) : TabH W.heap := by
  have h1 : Lib.TabIs Tryz.prog W "math/bits.deBruijn64tab" .u8 (Go.Lib.deBruijn64tab.map fun (x : Nat) => (x : Int)) :=
    Lib.tabIs_of_head (rest := []) gTab gTabType Tryz.underlying118 Tryz.underlying5 cellsByte cellsTab h
  intro j hj
  have h2 := cellH_of (h1.cell gTab j (by simpa [Go.Lib.deBruijn64tab] using hj))
  have hl : j < Go.Lib.deBruijn64tab.length := by simpa [Go.Lib.deBruijn64tab] using hj
  have hd : (Go.Lib.deBruijn64tab.map fun (x : Nat) => (x : Int)).getD j 0 = ((Go.Lib.deBruijn64tab.getD j 0 : Nat) : Int) := by
    simp [List.getD_eq_getElem?_getD, List.getElem?_map, List.getElem?_eq_getElem hl]
  rw [hd] at h2
  exact h2

/-- The settled world, the table holding what its initialiser lays. -/
noncomputable def laidWorld (os : Os) : World :=
  { World.holding Tryz.prog os ⟨#[], #[], []⟩ with heap := (World.holding Tryz.prog os ⟨#[], #[], []⟩).heap.modify 2 fun
      | .cells _ t frozen => .cells (Go.Lib.deBruijn64tab.map fun (x : Nat) => Value.int .u8 (x : Int)).toArray t frozen
      | o => o }
end Go.Proofs.YtgnciigjhpcdmaaGreatDoor

namespace Go.Fw
open Go Go.ChangeShapes Go.ChangeMaps Go.WideShapes Go.RowKit
section
variable {H : Type} {enc : TypeId × Value → H} {P : Program} {w : World} {base : Nat} {sp : Nat → Bool} {held : Bool} {t : TypeId} {f0 f1 f2 : Field}

/-- the type of such a struct -/
structure Bss (P : Program) (t : TypeId) (f0 f1 f2 : Field) : Prop where
  ht : P.underlying t = some (.struct #[f0, f1, f2])
  h0 : P.underlying f0.type = some .bool
  h1 : P.underlying f1.type = some .string
  h2 : P.underlying f2.type = some .string
  hc : P.cellsOf t = 3
  c0 : P.cellsOf f0.type = 1
  c1 : P.cellsOf f1.type = 1
  c2 : P.cellsOf f2.type = 1
  o0 : f0.offset = 0
  o1 : f1.offset = 1
  o2 : f2.offset = 2

theorem trod_bss (B : Bss P t f0 f1 f2) {fuel : Nat} {cs : List Value} {x : DataW H × List MemPlace} (h : DataW.trod enc P w base sp held fuel t cs = some x) :
    ∃ b s u, cs = [.bool b, .string s, .string u] ∧ x = (.agg [.lit (.bool b), .lit (.string s.data.toList), .lit (.string u.data.toList)], []) ∧ s.size ≤ maxLen ∧ u.size ≤ maxLen := by
  obtain ⟨xs, n, _, rfl, hl, hlen, hf⟩ := DataW.trod_struct B.ht h
  rw [B.hc] at hl
  match xs, hlen with
  | [y0, y1, y2], _ =>
    have g0 := hf 0 f0 rfl
    have g1 := hf 1 f1 rfl
    have g2 := hf 2 f2 rfl
    rw [B.c0, B.o0] at g0
    rw [B.c1, B.o1] at g1
    rw [B.c2, B.o2] at g2
    match cs, hl with
    | [a0, a1, a2], _ =>
      obtain ⟨b, e0, q0⟩ := DataW.trod_bool B.h0 g0
      obtain ⟨s, e1, q1, m1⟩ := DataW.trod_string B.h1 g1
      obtain ⟨u, e2, q2, m2⟩ := DataW.trod_string B.h2 g2
      simp at e0 e1 e2
      subst e0 e1 e2
      refine ⟨b, s, u, rfl, ?_, m1, m2⟩
      have r0 : y0 = (.lit (.bool b), []) := by simpa using q0
      have r1 : y1 = (.lit (.string s.data.toList), []) := by simpa using q1
      have r2 : y2 = (.lit (.string u.data.toList), []) := by simpa using q2
      subst r0 r1 r2
      simp

theorem trod_bss_mk (B : Bss P t f0 f1 f2) (m : Nat) (b : Bool) {s u : ByteArray} (hs : s.size ≤ maxLen) (hu : u.size ≤ maxLen) :
    DataW.trod enc P w base sp held (m + 2) t [.bool b, .string s, .string u] = some (.agg [.lit (.bool b), .lit (.string s.data.toList), .lit (.string u.data.toList)], []) := by
  have h := trod_struct_mk (enc := enc) (w := w) (base := base) (spare := sp) (held := held) (n := m + 1) (cs := [.bool b, .string s, .string u])
    (xs := [(.lit (.bool b), []), (.lit (.string s.data.toList), []), (.lit (.string u.data.toList), [])]) B.ht (by rw [B.hc]; rfl) (by
      simp [B.c0, B.c1, B.c2, B.o0, B.o1, B.o2, DataW.trod, B.h0, B.h1, B.h2, hs, hu])
  simpa using h

theorem open_bss (B : Bss P t f0 f1 f2) {r : Reach} {b0 : Nat} {v : Value} {d : DataW H} {ps : List MemPlace} (hval : Value.okWide P w r b0 t v) (hd : DataW.Trod enc P w base sp held t v d ps) :
    ∃ b s u, v = .agg #[.bool b, .string s, .string u] ∧ d = .agg [.lit (.bool b), .lit (.string s.data.toList), .lit (.string u.data.toList)] ∧ ps = [] ∧ s.size ≤ maxLen ∧ u.size ≤ maxLen := by
  obtain ⟨cs, rfl, _⟩ := okWide_struct B.ht hval
  obtain ⟨fuel, hf⟩ := hd
  obtain ⟨b, s, u, h1, h2, h3, h4⟩ := trod_bss B hf
  simp only [Prod.mk.injEq] at h2
  refine ⟨b, s, u, ?_, h2.1, h2.2, h3, h4⟩
  have : cs.toList = [.bool b, .string s, .string u] := h1
  rw [show cs = cs.toList.toArray by simp, this]

theorem shut_bss (B : Bss P t f0 f1 f2) (b : Bool) {s u : ByteArray} (hs : s.size ≤ maxLen) (hu : u.size ≤ maxLen) :
    DataW.Trod enc P w base sp held t (.agg #[.bool b, .string s, .string u]) (.agg [.lit (.bool b), .lit (.string s.data.toList), .lit (.string u.data.toList)]) [] :=
  ⟨2, trod_bss_mk B 0 b hs hu⟩
end
end Go.Fw

namespace Go.Proofs.YtgnciigjhpcdmaaGreatDoor
open Go Go.Fw Go.ChangeShapes Go.WideShapes Go.ChangeAt Go.RowKit

theorem ratioB : ∃ f0 f1 f2, Bss Tryz.prog 31 f0 f1 f2 :=
  ⟨_, _, _, { ht := Tryz.underlying31, h0 := Tryz.underlying4, h1 := Tryz.underlying9, h2 := Tryz.underlying9, hc := by kernel_rfl, c0 := by kernel_rfl, c1 := by kernel_rfl, c2 := by kernel_rfl, o0 := rfl, o1 := rfl, o2 := rfl }⟩
theorem int32_wf {n : Int} (h : (Lit.int .i32 n).wf = true) : -2147483648 ≤ n ∧ n ≤ 2147483647 := by
  have h1 : IntKind.i32.min ≤ n ∧ n ≤ IntKind.i32.max := by simpa [Lit.wf] using h
  have e : IntKind.i32.min = -2147483648 := rfl
  have e2 : IntKind.i32.max = 2147483647 := rfl
  omega
end Go.Proofs.YtgnciigjhpcdmaaGreatDoor

namespace Go.Proofs.YtgnciigjhpcdmaaGreatDoor
open Go Go.Fw Go.RatM Go.ChangeShapes Go.WideShapes Go.ChangeAt Go.RowKit
set_option maxRecDepth 100000

theorem laidOut : laidOutB Tryz.prog = true := by kernel_rfl
theorem ratioF : FlatP Tryz.prog 31 [.b, .s, .s] :=
  FlatP.struct Tryz.underlying31 (by kernel_rfl) fun j hj => match j, hj with
    | 0, _ => ⟨0, _, [.b], rfl, FlatP.sc Tryz.underlying4, by kernel_rfl, by decide, by decide, rfl⟩
    | 1, _ => ⟨1, _, [.s], rfl, FlatP.sc Tryz.underlying9, by kernel_rfl, by decide, by decide, rfl⟩
    | 2, _ => ⟨2, _, [.s], rfl, FlatP.sc Tryz.underlying9, by kernel_rfl, by decide, by decide, rfl⟩
theorem unitF : FlatP Tryz.prog 37 [.s, .s, .i .i64, .i .i64, .i .i64, .b, .s, .s] :=
  FlatP.struct Tryz.underlying37 (by kernel_rfl) fun j hj => match j, hj with
    | 0, _ => ⟨0, _, [.s], rfl, FlatP.sc Tryz.underlying9, by kernel_rfl, by decide, by decide, rfl⟩
    | 1, _ => ⟨1, _, [.s], rfl, FlatP.sc Tryz.underlying9, by kernel_rfl, by decide, by decide, rfl⟩
    | 2, _ => ⟨2, _, [.i .i64], rfl, FlatP.sc Tryz.underlying3, by kernel_rfl, by decide, by decide, rfl⟩
    | 3, _ => ⟨3, _, [.i .i64], rfl, FlatP.sc Tryz.underlying3, by kernel_rfl, by decide, by decide, rfl⟩
    | 4, _ => ⟨4, _, [.i .i64], rfl, FlatP.sc Tryz.underlying3, by kernel_rfl, by decide, by decide, rfl⟩
    | 5, _ => ⟨5, _, [.b, .s, .s], rfl, ratioF, by kernel_rfl, by decide, by decide, rfl⟩
    | 6, _ => ⟨5, _, [.b, .s, .s], rfl, ratioF, by kernel_rfl, by decide, by decide, rfl⟩
    | 7, _ => ⟨5, _, [.b, .s, .s], rfl, ratioF, by kernel_rfl, by decide, by decide, rfl⟩
theorem int_wf' {n : Int} (h : (Lit.int .i64 n).wf = true) : -9223372036854775808 ≤ n ∧ n ≤ 9223372036854775807 := by
  have h1 : IntKind.i64.min ≤ n ∧ n ≤ 9223372036854775807 := by simpa [Lit.wf] using h
  have e : IntKind.i64.min = -9223372036854775808 := rfl
  omega
def UnOk1 (u : Un) : Prop := (-9223372036854775808 ≤ u.n ∧ u.n ≤ 9223372036854775807) ∧ (-9223372036854775808 ≤ u.d ∧ u.d ≤ 9223372036854775807)
theorem unit_row {cs : List Value} (h1 : cs.length = 8) (h2 : ∀ (i : Nat) (k : Sc) (v : Value), [Sc.s, .s, .i .i64, .i .i64, .i .i64, .b, .s, .s][i]? = some k → cs[i]? = some v → k.ok v) : ∃ u : Un, cs = u.row ∧ UnOk1 u := by
  match cs, h1 with
  | [a, b, c, d, e, f, g, i], _ =>
    obtain ⟨a, rfl, _⟩ := h2 0 _ a rfl rfl
    obtain ⟨b, rfl, _⟩ := h2 1 _ b rfl rfl
    obtain ⟨c, rfl, m1⟩ := h2 2 _ c rfl rfl
    obtain ⟨d, rfl, m2⟩ := h2 3 _ d rfl rfl
    obtain ⟨e, rfl, _⟩ := h2 4 _ e rfl rfl
    obtain ⟨f, rfl⟩ := h2 5 _ f rfl rfl
    obtain ⟨g, rfl, _⟩ := h2 6 _ g rfl rfl
    obtain ⟨i, rfl, _⟩ := h2 7 _ i rfl rfl
    exact ⟨⟨a, b, c, d, e, ⟨f, g, i⟩⟩, rfl, int_wf' m1, int_wf' m2⟩
section
variable {H : Type} {enc : TypeId × Value → H} {W : World} {v : Value} {d : DataW H} {ps : List MemPlace} {rr : Reach} {b0 : Nat}
theorem open_units (hval : Value.okWide Tryz.prog W rr b0 22 v) (hd : DataW.Trod enc Tryz.prog W 0 (fun _ => true) true 22 v d ps) : ∃ l : List Un, Ro W.heap v 8 (rowsU l) ∧ UnOk l := by
  obtain ⟨l, hl⟩ := open_rows (α := { u : Un // UnOk1 u }) (t := 22) (e := 37) (fun u => u.1.row) Tryz.underlying22 (sz := 8) (by kernel_rfl) (by decide) (fun a => ⟨rfl, fun u hu => by
    simp only [Un.row, List.mem_cons, List.not_mem_nil, or_false] at hu
    rcases hu with rfl | rfl | rfl | rfl | rfl | rfl | rfl | rfl <;> rfl⟩) hval (fun fuel cs x hx => by
      obtain ⟨h1, h2⟩ := unitF.at' _ _ _ _ _ _ _ _ hx
      obtain ⟨u, e, hu⟩ := unit_row h1 h2
      exact ⟨⟨u, hu⟩, e⟩) hd
  refine ⟨l.map Subtype.val, ?_, fun u hu => ?_⟩
  · have : rowsU (l.map Subtype.val) = l.map fun u => u.1.row := by simp [rowsU]
    rw [this]; exact hl
  · obtain ⟨a, _, rfl⟩ := List.mem_map.1 hu
    exact a.2
theorem open_unit {base : Nat} {sp : Nat → Bool} {held : Bool} (hval : Value.okWide Tryz.prog W rr b0 37 v) (hd : DataW.Trod enc Tryz.prog W base sp held 37 v d ps) : ∃ u : Un, v = u.v ∧ UnOk1 u := by
  obtain ⟨cs, rfl, h1, h2⟩ := open_flat Tryz.underlying37 unitF hval hd
  obtain ⟨u, rfl, hu⟩ := unit_row h1 h2
  exact ⟨u, rfl, hu⟩
end
end Go.Proofs.YtgnciigjhpcdmaaGreatDoor
