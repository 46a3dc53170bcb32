/- Texts of this seat, joined: The reference of layer 12: small, few, typed. The reference of layer 12: typed, Check, Amount, Mass. The reference of laye -/
import Derived.Test.YtdcdejhobblbpaaGreatDoorJoinE
import Derived.Test.YtdcdejhobblbpaaGreatDoorCards
import Derived.Test.YtdcdejhobblbpaaGreatDoorTie
import Derived.WalkKit
import Derived.ProofKit
import Derived.OpenShut
import Derived.Deep.DeepHandedRow
import Derived.Lib.LaidTab
import Derived.WideShapes
import Derived.ChangeArms
import Derived.RowKit
set_option linter.unusedVariables false
set_option linter.unusedSimpArgs false
namespace Go.Proofs.YtdcdejhobblbpaaGreatDoor
open Go Go.Fw Go.NatM Go.RatM Go.SrcM
set_option maxRecDepth 100000
set_option maxHeartbeats 64000000

theorem ySmall_fn {h : Array Obj} (s : SrcV) {vU vI vP vM vO vF vR vS : Value} (hs : Top h vU vI vP vM vO vF vR vS s) : FnV Tryz.prog 28 #[srcV vU vI vP vM vO vF vR vS] h fun r h' => r = .bool (decide (Small s)) ∧ Keeps h.size h h' := by
 have lU := rowsU_len s.units
 have lI := rws_len It.row s.items
 have lP := rwsB_len s.plants
 have lM := rws_len Mc.row s.machines
 have lO := rws_len OpV.row s.options
 have lF := rws_len FbV.row s.forbids
 have lR := rws_len RcV.row s.recipes
 have lS := rws_len Sw.row s.swaps
 have mO := hs.O.len
 have mR := hs.R.len
 obtain ⟨r, hr⟩ : ∃ r, r = decide (Small s) := ⟨_, rfl⟩
 rw [← hr]
 refine Fn.ofG (envL [vU, vI, vP, vM, vO, vF, vR, vS]) 8 [.agg [.buf 0, .buf 1, .buf 2, .buf 3, .buf 4, .buf 5, .buf 6, .buf 7]] [(0, .ro (8) (rowsU s.units)), (1, .ro (6) (rws It.row s.items)), (2, .ro (1) (rwsB s.plants)), (3, .ro (4) (rws Mc.row s.machines)), (4, .ro (2) (rws OpV.row s.options)), (5, .ro (1) (rws FbV.row s.forbids)), (6, .ro (17) (rws RcV.row s.recipes)), (7, .ro (4) (rws Sw.row s.swaps))] (fun k => k < _) Tryz.func28 (by kernel_rfl) rfl Tryz.ntmps28 rfl (fun _ hk => hk) (Sat.ros (vs := [vU, vI, vP, vM, vO, vF, vR, vS]) (l := [(8, rowsU s.units), (6, rws It.row s.items), (1, rwsB s.plants), (4, rws Mc.row s.machines), (2, rws OpV.row s.options), (1, rws FbV.row s.forbids), (17, rws RcV.row s.recipes), (4, rws Sw.row s.swaps)]) ⟨hs.U, hs.I, hs.P, hs.M, hs.O, hs.F, hs.R, hs.S, trivial⟩) fun w0 cs => ?_
 conv => whnf
 refine gS ?_
 conv => whnf
 refine RunsS.subR [] (RunsS.loop (fun (k : Nat) => [(3, .v (.int .i64 k)), (1, .ptr 8 0)]) (fun (k : Nat) => [(8, .cells 31 [.buf 0, .buf 1, .buf 2, .buf 3, .buf 4, .buf 5, .buf 6, .buf 7]), (0, .ro 8 (rowsU s.units)), (1, .ro 6 (rws It.row s.items)), (2, .ro 1 (rwsB s.plants)), (3, .ro 4 (rws Mc.row s.machines)), (4, .ro 2 (rws OpV.row s.options)), (5, .ro 1 (rws FbV.row s.forbids)), (6, .ro 17 (rws RcV.row s.recipes)), (7, .ro 4 (rws Sw.row s.swaps))]) 9 (fun (k : Nat) => k ≤ s.options.length ∧ ∀ o ∈ s.options.take k, o.ch.length ≤ 4) (fun (k : Nat) => s.options.length - k) ?round1 (0) ?J01) ?SS1 ?HH1
 case J01 => exact (⟨Nat.zero_le _, by simp⟩)
 case SS1 => repeat (first | exact trivial | refine ⟨by rfl, ?_⟩)
 case HH1 => repeat (first | exact trivial | refine ⟨by rfl, ?_⟩)
 rintro k hJ back
 try dsimp only at hJ back
 conv => whnf
 try dsimp only
 refine gS ?_
 conv => whnf
 refine ⟨fun hk => ?_, fun hk => ?_⟩ <;> conv => whnf
 ·have hk : k < s.options.length := by omega
  conv => whnf
  repeat ((first | refine oL ?_ | refine oR ?_ | refine oM ?_); (try intro _); conv => whnf)
  refine ⟨_, rws_get hk, ?_⟩
  conv => whnf
  by_cases h1 : s.options[k].ch.length ≤ 4
  ·conv => whnf
   repeat ((first | refine oL ?_ | refine oR ?_ | refine oM ?_); (try intro _); conv => whnf)
   refine RunsS.subR [] (back (k + 1) ?BJ2 ?BM2) ?SS2 ?HH2
   case BJ2 => exact (⟨hk, all_take hk hJ.2 h1⟩)
   case BM2 => (try dsimp only); omega
   case SS2 => repeat (first | exact trivial | refine ⟨by rfl, ?_⟩)
   case HH2 => repeat (first | exact trivial | refine ⟨by rfl, ?_⟩)
  ·conv => whnf
   repeat ((first | refine oL ?_ | refine oR ?_ | refine oM ?_); (try intro _); conv => whnf)
   have : r = false := by rw [hr]; exact decide_eq_false fun h => h1 (h.1 _ (List.getElem_mem hk))
   rw [this]
   refine RunsS.retU (UnwS.ret tab Tryz.func28 rfl fun Ez Hz Az Sz K => ⟨_, rfl, rfl, K.keeps⟩)
 have hk : k = s.options.length := by omega
 have hO := hJ.2
 rw [hk, List.take_length] at hO
 clear back hJ mO
 conv => whnf
 refine RunsS.subR [] (RunsS.loop (fun (k : Nat) => [(4, .v (.int .i64 k)), (1, .ptr 8 0)]) (fun (k : Nat) => [(8, .cells 31 [.buf 0, .buf 1, .buf 2, .buf 3, .buf 4, .buf 5, .buf 6, .buf 7]), (0, .ro 8 (rowsU s.units)), (1, .ro 6 (rws It.row s.items)), (2, .ro 1 (rwsB s.plants)), (3, .ro 4 (rws Mc.row s.machines)), (4, .ro 2 (rws OpV.row s.options)), (5, .ro 1 (rws FbV.row s.forbids)), (6, .ro 17 (rws RcV.row s.recipes)), (7, .ro 4 (rws Sw.row s.swaps))]) 9 (fun (k : Nat) => k ≤ s.recipes.length ∧ ∀ r ∈ s.recipes.take k, r.inn.length ≤ 8 ∧ r.out.length ≤ 8) (fun (k : Nat) => s.recipes.length - k) ?round3 (0) ?J03) ?SS3 ?HH3
 case J03 => exact (⟨Nat.zero_le _, by simp⟩)
 case SS3 => repeat (first | exact trivial | refine ⟨by rfl, ?_⟩)
 case HH3 => repeat (first | exact trivial | refine ⟨by rfl, ?_⟩)
 rintro k hJ back
 conv => whnf
 refine gS ?_
 conv => whnf
 refine ⟨fun hk => ?_, fun hk => ?_⟩ <;> conv => whnf
 ·have hk : k < s.recipes.length := by omega
  conv => whnf
  repeat ((first | refine oL ?_ | refine oR ?_ | refine oM ?_); (try intro _); conv => whnf)
  refine ⟨_, rws_get hk, ?_⟩
  conv => whnf
  by_cases h1 : s.recipes[k].inn.length ≤ 8
  ·conv => whnf
   repeat ((first | refine oL ?_ | refine oR ?_ | refine oM ?_); (try intro _); conv => whnf)
   refine ⟨_, rws_get hk, ?_⟩
   conv => whnf
   by_cases h2 : s.recipes[k].out.length ≤ 8
   ·try intro _
    conv => whnf
    repeat ((first | refine oL ?_ | refine oR ?_ | refine oM ?_); (try intro _); conv => whnf)
    refine RunsS.subR [] (back (k + 1) ?BJ4 ?BM4) ?SS4 ?HH4
    case BJ4 => exact (⟨hk, all_take hk hJ.2 ⟨h1, h2⟩⟩)
    case BM4 => (try dsimp only); omega
    case SS4 => repeat (first | exact trivial | refine ⟨by rfl, ?_⟩)
    case HH4 => repeat (first | exact trivial | refine ⟨by rfl, ?_⟩)
   ·try intro _
    conv => whnf
    repeat ((first | refine oL ?_ | refine oR ?_ | refine oM ?_); (try intro _); conv => whnf)
    have : r = false := by rw [hr]; exact decide_eq_false fun h => h2 (h.2.1 _ (List.getElem_mem hk)).2
    rw [this]
    refine RunsS.retU (UnwS.ret tab Tryz.func28 rfl fun Ez Hz Az Sz K => ⟨_, rfl, rfl, K.keeps⟩)
  ·conv => whnf
   repeat ((first | refine oL ?_ | refine oR ?_ | refine oM ?_); (try intro _); conv => whnf)
   have : r = false := by rw [hr]; exact decide_eq_false fun h => h1 (h.2.1 _ (List.getElem_mem hk)).1
   rw [this]
   refine RunsS.retU (UnwS.ret tab Tryz.func28 rfl fun Ez Hz Az Sz K => ⟨_, rfl, rfl, K.keeps⟩)
 have hk : k = s.recipes.length := by omega
 have hR := hJ.2
 rw [hk, List.take_length] at hR
 clear back hJ mR
 by_cases c1 : s.items.length ≤ 32
 rotate_left
 ·conv => whnf
  repeat ((first | refine oL ?_ | refine oR ?_ | refine oM ?_); (try intro _); conv => whnf)
  have : r = false := by rw [hr]; exact decide_eq_false fun h => c1 h.2.2.1
  rw [this]
  refine RunsS.retU (UnwS.ret tab Tryz.func28 rfl fun Ez Hz Az Sz K => ⟨_, rfl, rfl, K.keeps⟩)
 by_cases c2 : s.plants.length ≤ 8
 rotate_left
 ·conv => whnf
  repeat ((first | refine oL ?_ | refine oR ?_ | refine oM ?_); (try intro _); conv => whnf)
  have : r = false := by rw [hr]; exact decide_eq_false fun h => c2 h.2.2.2.1
  rw [this]
  refine RunsS.retU (UnwS.ret tab Tryz.func28 rfl fun Ez Hz Az Sz K => ⟨_, rfl, rfl, K.keeps⟩)
 by_cases c3 : s.machines.length ≤ 16
 rotate_left
 ·conv => whnf
  repeat ((first | refine oL ?_ | refine oR ?_ | refine oM ?_); (try intro _); conv => whnf)
  have : r = false := by rw [hr]; exact decide_eq_false fun h => c3 h.2.2.2.2.1
  rw [this]
  refine RunsS.retU (UnwS.ret tab Tryz.func28 rfl fun Ez Hz Az Sz K => ⟨_, rfl, rfl, K.keeps⟩)
 by_cases c4 : s.options.length ≤ 6
 rotate_left
 ·conv => whnf
  repeat ((first | refine oL ?_ | refine oR ?_ | refine oM ?_); (try intro _); conv => whnf)
  have : r = false := by rw [hr]; exact decide_eq_false fun h => c4 h.2.2.2.2.2.1
  rw [this]
  refine RunsS.retU (UnwS.ret tab Tryz.func28 rfl fun Ez Hz Az Sz K => ⟨_, rfl, rfl, K.keeps⟩)
 by_cases c5 : s.forbids.length ≤ 16
 rotate_left
 ·conv => whnf
  repeat ((first | refine oL ?_ | refine oR ?_ | refine oM ?_); (try intro _); conv => whnf)
  have : r = false := by rw [hr]; exact decide_eq_false fun h => c5 h.2.2.2.2.2.2.1
  rw [this]
  refine RunsS.retU (UnwS.ret tab Tryz.func28 rfl fun Ez Hz Az Sz K => ⟨_, rfl, rfl, K.keeps⟩)
 by_cases c6 : s.recipes.length ≤ 64
 rotate_left
 ·conv => whnf
  repeat ((first | refine oL ?_ | refine oR ?_ | refine oM ?_); (try intro _); conv => whnf)
  have : r = false := by rw [hr]; exact decide_eq_false fun h => c6 h.2.2.2.2.2.2.2.1
  rw [this]
  refine RunsS.retU (UnwS.ret tab Tryz.func28 rfl fun Ez Hz Az Sz K => ⟨_, rfl, rfl, K.keeps⟩)
 by_cases c7 : s.swaps.length ≤ 64
 rotate_left
 ·conv => whnf
  repeat ((first | refine oL ?_ | refine oR ?_ | refine oM ?_); (try intro _); conv => whnf)
  have : r = false := by rw [hr]; exact decide_eq_false fun h => c7 h.2.2.2.2.2.2.2.2
  rw [this]
  refine RunsS.retU (UnwS.ret tab Tryz.func28 rfl fun Ez Hz Az Sz K => ⟨_, rfl, congrArg Value.bool (decide_eq_false (by omega)), K.keeps⟩)
 conv => whnf
 repeat ((first | refine oL ?_ | refine oR ?_ | refine oM ?_); (try intro _); conv => whnf)
 have : r = true := by rw [hr]; exact decide_eq_true ⟨hO, hR, c1, c2, c3, c4, c5, c6, c7⟩
 rw [this]
 refine RunsS.retU (UnwS.ret tab Tryz.func28 rfl fun Ez Hz Az Sz K => ⟨_, rfl, congrArg Value.bool (decide_eq_true (by omega)), K.keeps⟩)
theorem yFew_fn {h : Array Obj} (s : SrcV) {vU vI vP vM vO vF vR vS : Value} (hs : Top h vU vI vP vM vO vF vR vS s) : FnV Tryz.prog 11 #[srcV vU vI vP vM vO vF vR vS] h fun r h' => r = .bool (decide (FewT s)) ∧ Keeps h.size h h' := by
 have lU := rowsU_len s.units
 have lI := rws_len It.row s.items
 have lP := rwsB_len s.plants
 have lM := rws_len Mc.row s.machines
 have lO := rws_len OpV.row s.options
 have lF := rws_len FbV.row s.forbids
 have lR := rws_len RcV.row s.recipes
 have lS := rws_len Sw.row s.swaps
 have mU := hs.U.len
 have mO := hs.O.len
 have mF := hs.F.len
 have mR := hs.R.len
 obtain ⟨r, hr⟩ : ∃ r, r = decide (FewT s) := ⟨_, rfl⟩
 rw [← hr]
 refine Fn.ofG (envL [vU, vI, vP, vM, vO, vF, vR, vS]) 8 [.agg [.buf 0, .buf 1, .buf 2, .buf 3, .buf 4, .buf 5, .buf 6, .buf 7]] [(0, .ro (8) (rowsU s.units)), (1, .ro (6) (rws It.row s.items)), (2, .ro (1) (rwsB s.plants)), (3, .ro (4) (rws Mc.row s.machines)), (4, .ro (2) (rws OpV.row s.options)), (5, .ro (1) (rws FbV.row s.forbids)), (6, .ro (17) (rws RcV.row s.recipes)), (7, .ro (4) (rws Sw.row s.swaps))] (fun k => k < _) Tryz.func11 (by kernel_rfl) rfl Tryz.ntmps11 rfl (fun _ hk => hk) (Sat.ros (vs := [vU, vI, vP, vM, vO, vF, vR, vS]) (l := [(8, rowsU s.units), (6, rws It.row s.items), (1, rwsB s.plants), (4, rws Mc.row s.machines), (2, rws OpV.row s.options), (1, rws FbV.row s.forbids), (17, rws RcV.row s.recipes), (4, rws Sw.row s.swaps)]) ⟨hs.U, hs.I, hs.P, hs.M, hs.O, hs.F, hs.R, hs.S, trivial⟩) fun w0 cs => ?_
 conv => whnf
 refine gS ?_
 conv => whnf
 refine RunsS.subR [] (RunsS.loop (fun (k : Nat) => [(3, .v (.int .i64 k)), (1, .ptr 8 0)]) (fun (k : Nat) => [(8, .cells 31 [.buf 0, .buf 1, .buf 2, .buf 3, .buf 4, .buf 5, .buf 6, .buf 7]), (0, .ro 8 (rowsU s.units)), (1, .ro 6 (rws It.row s.items)), (2, .ro 1 (rwsB s.plants)), (3, .ro 4 (rws Mc.row s.machines)), (4, .ro 2 (rws OpV.row s.options)), (5, .ro 1 (rws FbV.row s.forbids)), (6, .ro 17 (rws RcV.row s.recipes)), (7, .ro 4 (rws Sw.row s.swaps))]) 9 (fun (k : Nat) => k ≤ s.units.length ∧ ∀ o ∈ s.units.take k, o.scale.n.size ≤ 60 ∧ o.scale.d.size ≤ 60) (fun (k : Nat) => s.units.length - k) ?round5 (0) ?J05) ?SS5 ?HH5
 case J05 => exact (⟨Nat.zero_le _, by simp⟩)
 case SS5 => repeat (first | exact trivial | refine ⟨by rfl, ?_⟩)
 case HH5 => repeat (first | exact trivial | refine ⟨by rfl, ?_⟩)
 rintro k hJ back
 try dsimp only at hJ back
 conv => whnf
 try dsimp only
 refine gS ?_
 conv => whnf
 refine ⟨fun hk => ?_, fun hk => ?_⟩ <;> conv => whnf
 ·have hk : k < s.units.length := by omega
  conv => whnf
  repeat ((first | refine oL ?_ | refine oR ?_ | refine oM ?_); (try intro _); conv => whnf)
  refine ⟨_, rowsU_get hk, ?_⟩
  conv => whnf
  by_cases t1 : s.units[k].scale.n.size ≤ 60
  rotate_left
  ·try intro _
   conv => whnf
   repeat ((first | refine oL ?_ | refine oR ?_ | refine oM ?_); (try intro _); conv => whnf)
   have : r = false := by rw [hr]; exact decide_eq_false fun h => t1 (h.1 _ (List.getElem_mem hk)).1
   rw [this]
   refine RunsS.retU (UnwS.ret tab Tryz.func11 rfl fun Ez Hz Az Sz K => ⟨_, rfl, rfl, K.keeps⟩)
  try intro _
  conv => whnf
  repeat ((first | refine oL ?_ | refine oR ?_ | refine oM ?_); (try intro _); conv => whnf)
  refine ⟨_, rowsU_get hk, ?_⟩
  conv => whnf
  by_cases t2 : s.units[k].scale.d.size ≤ 60
  rotate_left
  ·try intro _
   conv => whnf
   repeat ((first | refine oL ?_ | refine oR ?_ | refine oM ?_); (try intro _); conv => whnf)
   have : r = false := by rw [hr]; exact decide_eq_false fun h => t2 (h.1 _ (List.getElem_mem hk)).2
   rw [this]
   refine RunsS.retU (UnwS.ret tab Tryz.func11 rfl fun Ez Hz Az Sz K => ⟨_, rfl, rfl, K.keeps⟩)
  try intro _
  conv => whnf
  repeat ((first | refine oL ?_ | refine oR ?_ | refine oM ?_); (try intro _); conv => whnf)
  refine RunsS.subR [] (back (k + 1) ?BJ6 ?BM6) ?SS6 ?HH6
  case BJ6 => exact (⟨hk, all_take hk hJ.2 ⟨t1, t2⟩⟩)
  case BM6 => (try dsimp only); omega
  case SS6 => repeat (first | exact trivial | refine ⟨by rfl, ?_⟩)
  case HH6 => repeat (first | exact trivial | refine ⟨by rfl, ?_⟩)
 have hk : k = s.units.length := by omega
 have hU := hJ.2
 rw [hk, List.take_length] at hU
 clear back hJ mU
 conv => whnf
 refine RunsS.subR [] (RunsS.loop (fun (k : Nat) => [(4, .v (.int .i64 k)), (1, .ptr 8 0)]) (fun (k : Nat) => [(8, .cells 31 [.buf 0, .buf 1, .buf 2, .buf 3, .buf 4, .buf 5, .buf 6, .buf 7]), (0, .ro 8 (rowsU s.units)), (1, .ro 6 (rws It.row s.items)), (2, .ro 1 (rwsB s.plants)), (3, .ro 4 (rws Mc.row s.machines)), (4, .ro 2 (rws OpV.row s.options)), (5, .ro 1 (rws FbV.row s.forbids)), (6, .ro 17 (rws RcV.row s.recipes)), (7, .ro 4 (rws Sw.row s.swaps))]) 9 (fun (k : Nat) => k ≤ s.options.length ∧ ∀ o ∈ s.options.take k, o.ch.length ≤ 6) (fun (k : Nat) => s.options.length - k) ?round7 (0) ?J07) ?SS7 ?HH7
 case J07 => exact (⟨Nat.zero_le _, by simp⟩)
 case SS7 => repeat (first | exact trivial | refine ⟨by rfl, ?_⟩)
 case HH7 => repeat (first | exact trivial | refine ⟨by rfl, ?_⟩)
 rintro k hJ back
 conv => whnf
 refine gS ?_
 conv => whnf
 refine ⟨fun hk => ?_, fun hk => ?_⟩ <;> conv => whnf
 ·have hk : k < s.options.length := by omega
  conv => whnf
  repeat ((first | refine oL ?_ | refine oR ?_ | refine oM ?_); (try intro _); conv => whnf)
  refine ⟨_, rws_get hk, ?_⟩
  conv => whnf
  by_cases t1 : s.options[k].ch.length ≤ 6
  rotate_left
  ·try intro _
   conv => whnf
   repeat ((first | refine oL ?_ | refine oR ?_ | refine oM ?_); (try intro _); conv => whnf)
   have : r = false := by rw [hr]; exact decide_eq_false fun h => t1 (h.2.1 _ (List.getElem_mem hk))
   rw [this]
   refine RunsS.retU (UnwS.ret tab Tryz.func11 rfl fun Ez Hz Az Sz K => ⟨_, rfl, rfl, K.keeps⟩)
  try intro _
  conv => whnf
  repeat ((first | refine oL ?_ | refine oR ?_ | refine oM ?_); (try intro _); conv => whnf)
  refine RunsS.subR [] (back (k + 1) ?BJ8 ?BM8) ?SS8 ?HH8
  case BJ8 => exact (⟨hk, all_take hk hJ.2 t1⟩)
  case BM8 => (try dsimp only); omega
  case SS8 => repeat (first | exact trivial | refine ⟨by rfl, ?_⟩)
  case HH8 => repeat (first | exact trivial | refine ⟨by rfl, ?_⟩)
 have hk : k = s.options.length := by omega
 have hO := hJ.2
 rw [hk, List.take_length] at hO
 clear back hJ mO
 conv => whnf
 refine RunsS.subR [] (RunsS.loop (fun (k : Nat) => [(5, .v (.int .i64 k)), (1, .ptr 8 0)]) (fun (k : Nat) => [(8, .cells 31 [.buf 0, .buf 1, .buf 2, .buf 3, .buf 4, .buf 5, .buf 6, .buf 7]), (0, .ro 8 (rowsU s.units)), (1, .ro 6 (rws It.row s.items)), (2, .ro 1 (rwsB s.plants)), (3, .ro 4 (rws Mc.row s.machines)), (4, .ro 2 (rws OpV.row s.options)), (5, .ro 1 (rws FbV.row s.forbids)), (6, .ro 17 (rws RcV.row s.recipes)), (7, .ro 4 (rws Sw.row s.swaps))]) 9 (fun (k : Nat) => k ≤ s.forbids.length ∧ ∀ o ∈ s.forbids.take k, o.cs.length ≤ 8) (fun (k : Nat) => s.forbids.length - k) ?round9 (0) ?J09) ?SS9 ?HH9
 case J09 => exact (⟨Nat.zero_le _, by simp⟩)
 case SS9 => repeat (first | exact trivial | refine ⟨by rfl, ?_⟩)
 case HH9 => repeat (first | exact trivial | refine ⟨by rfl, ?_⟩)
 rintro k hJ back
 conv => whnf
 refine gS ?_
 conv => whnf
 refine ⟨fun hk => ?_, fun hk => ?_⟩ <;> conv => whnf
 ·have hk : k < s.forbids.length := by omega
  conv => whnf
  repeat ((first | refine oL ?_ | refine oR ?_ | refine oM ?_); (try intro _); conv => whnf)
  refine ⟨_, rws_get hk, ?_⟩
  conv => whnf
  by_cases t1 : s.forbids[k].cs.length ≤ 8
  rotate_left
  ·try intro _
   conv => whnf
   repeat ((first | refine oL ?_ | refine oR ?_ | refine oM ?_); (try intro _); conv => whnf)
   have : r = false := by rw [hr]; exact decide_eq_false fun h => t1 (h.2.2.1 _ (List.getElem_mem hk))
   rw [this]
   refine RunsS.retU (UnwS.ret tab Tryz.func11 rfl fun Ez Hz Az Sz K => ⟨_, rfl, rfl, K.keeps⟩)
  try intro _
  conv => whnf
  repeat ((first | refine oL ?_ | refine oR ?_ | refine oM ?_); (try intro _); conv => whnf)
  refine RunsS.subR [] (back (k + 1) ?BJ10 ?BM10) ?SS10 ?HH10
  case BJ10 => exact (⟨hk, all_take hk hJ.2 t1⟩)
  case BM10 => (try dsimp only); omega
  case SS10 => repeat (first | exact trivial | refine ⟨by rfl, ?_⟩)
  case HH10 => repeat (first | exact trivial | refine ⟨by rfl, ?_⟩)
 have hk : k = s.forbids.length := by omega
 have hF := hJ.2
 rw [hk, List.take_length] at hF
 clear back hJ mF
 conv => whnf
 refine RunsS.subR [] (RunsS.loop (fun (k : Nat) => [(6, .v (.int .i64 k)), (1, .ptr 8 0)]) (fun (k : Nat) => [(8, .cells 31 [.buf 0, .buf 1, .buf 2, .buf 3, .buf 4, .buf 5, .buf 6, .buf 7]), (0, .ro 8 (rowsU s.units)), (1, .ro 6 (rws It.row s.items)), (2, .ro 1 (rwsB s.plants)), (3, .ro 4 (rws Mc.row s.machines)), (4, .ro 2 (rws OpV.row s.options)), (5, .ro 1 (rws FbV.row s.forbids)), (6, .ro 17 (rws RcV.row s.recipes)), (7, .ro 4 (rws Sw.row s.swaps))]) 9 (fun (k : Nat) => k ≤ s.recipes.length ∧ ∀ o ∈ s.recipes.take k, o.cs.length ≤ 8 ∧ o.inn.length ≤ 10 ∧ o.out.length ≤ 10 ∧ o.runs.length ≤ 20) (fun (k : Nat) => s.recipes.length - k) ?round11 (0) ?J011) ?SS11 ?HH11
 case J011 => exact (⟨Nat.zero_le _, by simp⟩)
 case SS11 => repeat (first | exact trivial | refine ⟨by rfl, ?_⟩)
 case HH11 => repeat (first | exact trivial | refine ⟨by rfl, ?_⟩)
 rintro k hJ back
 conv => whnf
 refine gS ?_
 conv => whnf
 refine ⟨fun hk => ?_, fun hk => ?_⟩ <;> conv => whnf
 ·have hk : k < s.recipes.length := by omega
  conv => whnf
  repeat ((first | refine oL ?_ | refine oR ?_ | refine oM ?_); (try intro _); conv => whnf)
  refine ⟨_, rws_get hk, ?_⟩
  conv => whnf
  try (refine oN ?_; conv => whnf)
  by_cases t1 : s.recipes[k].cs.length ≤ 8
  rotate_left
  ·try intro _
   conv => whnf
   repeat ((first | refine oL ?_ | refine oR ?_ | refine oM ?_); (try intro _); conv => whnf)
   have : r = false := by rw [hr]; exact decide_eq_false fun h => t1 (h.2.2.2.1 _ (List.getElem_mem hk)).1
   rw [this]
   refine RunsS.retU (UnwS.ret tab Tryz.func11 rfl fun Ez Hz Az Sz K => ⟨_, rfl, rfl, K.keeps⟩)
  try intro _
  conv => whnf
  repeat ((first | refine oL ?_ | refine oR ?_ | refine oM ?_); (try intro _); conv => whnf)
  by_cases t2 : s.recipes[k].inn.length ≤ 10
  rotate_left
  ·try intro _
   conv => whnf
   repeat ((first | refine oL ?_ | refine oR ?_ | refine oM ?_); (try intro _); conv => whnf)
   have : r = false := by rw [hr]; exact decide_eq_false fun h => t2 (h.2.2.2.1 _ (List.getElem_mem hk)).2.1
   rw [this]
   refine RunsS.retU (UnwS.ret tab Tryz.func11 rfl fun Ez Hz Az Sz K => ⟨_, rfl, rfl, K.keeps⟩)
  try intro _
  conv => whnf
  repeat ((first | refine oL ?_ | refine oR ?_ | refine oM ?_); (try intro _); conv => whnf)
  by_cases t3 : s.recipes[k].out.length ≤ 10
  rotate_left
  ·try intro _
   conv => whnf
   repeat ((first | refine oL ?_ | refine oR ?_ | refine oM ?_); (try intro _); conv => whnf)
   have : r = false := by rw [hr]; exact decide_eq_false fun h => t3 (h.2.2.2.1 _ (List.getElem_mem hk)).2.2.1
   rw [this]
   refine RunsS.retU (UnwS.ret tab Tryz.func11 rfl fun Ez Hz Az Sz K => ⟨_, rfl, rfl, K.keeps⟩)
  try intro _
  conv => whnf
  repeat ((first | refine oL ?_ | refine oR ?_ | refine oM ?_); (try intro _); conv => whnf)
  by_cases t4 : s.recipes[k].runs.length ≤ 20
  rotate_left
  ·try intro _
   conv => whnf
   repeat ((first | refine oL ?_ | refine oR ?_ | refine oM ?_); (try intro _); conv => whnf)
   have : r = false := by rw [hr]; exact decide_eq_false fun h => t4 (h.2.2.2.1 _ (List.getElem_mem hk)).2.2.2
   rw [this]
   refine RunsS.retU (UnwS.ret tab Tryz.func11 rfl fun Ez Hz Az Sz K => ⟨_, rfl, rfl, K.keeps⟩)
  try intro _
  conv => whnf
  repeat ((first | refine oL ?_ | refine oR ?_ | refine oM ?_); (try intro _); conv => whnf)
  refine RunsS.subR [] (back (k + 1) ?BJ12 ?BM12) ?SS12 ?HH12
  case BJ12 => exact (⟨hk, all_take hk hJ.2 ⟨t1, t2, t3, t4⟩⟩)
  case BM12 => (try dsimp only); omega
  case SS12 => repeat (first | exact trivial | refine ⟨by rfl, ?_⟩)
  case HH12 => repeat (first | exact trivial | refine ⟨by rfl, ?_⟩)
 have hk : k = s.recipes.length := by omega
 have hR := hJ.2
 rw [hk, List.take_length] at hR
 clear back hJ mR
 by_cases c1 : s.units.length ≤ 40
 rotate_left
 ·conv => whnf
  repeat ((first | refine oL ?_ | refine oR ?_ | refine oM ?_); (try intro _); conv => whnf)
  have : r = false := by rw [hr]; exact decide_eq_false fun h => c1 h.2.2.2.2.1
  rw [this]
  refine RunsS.retU (UnwS.ret tab Tryz.func11 rfl fun Ez Hz Az Sz K => ⟨_, rfl, rfl, K.keeps⟩)
 by_cases c2 : s.items.length ≤ 40
 rotate_left
 ·conv => whnf
  repeat ((first | refine oL ?_ | refine oR ?_ | refine oM ?_); (try intro _); conv => whnf)
  have : r = false := by rw [hr]; exact decide_eq_false fun h => c2 h.2.2.2.2.2.1
  rw [this]
  refine RunsS.retU (UnwS.ret tab Tryz.func11 rfl fun Ez Hz Az Sz K => ⟨_, rfl, rfl, K.keeps⟩)
 by_cases c3 : s.plants.length ≤ 10
 rotate_left
 ·conv => whnf
  repeat ((first | refine oL ?_ | refine oR ?_ | refine oM ?_); (try intro _); conv => whnf)
  have : r = false := by rw [hr]; exact decide_eq_false fun h => c3 h.2.2.2.2.2.2.1
  rw [this]
  refine RunsS.retU (UnwS.ret tab Tryz.func11 rfl fun Ez Hz Az Sz K => ⟨_, rfl, rfl, K.keeps⟩)
 by_cases c4 : s.machines.length ≤ 20
 rotate_left
 ·conv => whnf
  repeat ((first | refine oL ?_ | refine oR ?_ | refine oM ?_); (try intro _); conv => whnf)
  have : r = false := by rw [hr]; exact decide_eq_false fun h => c4 h.2.2.2.2.2.2.2.1
  rw [this]
  refine RunsS.retU (UnwS.ret tab Tryz.func11 rfl fun Ez Hz Az Sz K => ⟨_, rfl, rfl, K.keeps⟩)
 by_cases c5 : s.options.length ≤ 8
 rotate_left
 ·conv => whnf
  repeat ((first | refine oL ?_ | refine oR ?_ | refine oM ?_); (try intro _); conv => whnf)
  have : r = false := by rw [hr]; exact decide_eq_false fun h => c5 h.2.2.2.2.2.2.2.2.1
  rw [this]
  refine RunsS.retU (UnwS.ret tab Tryz.func11 rfl fun Ez Hz Az Sz K => ⟨_, rfl, rfl, K.keeps⟩)
 by_cases c6 : s.forbids.length ≤ 20
 rotate_left
 ·conv => whnf
  repeat ((first | refine oL ?_ | refine oR ?_ | refine oM ?_); (try intro _); conv => whnf)
  have : r = false := by rw [hr]; exact decide_eq_false fun h => c6 h.2.2.2.2.2.2.2.2.2.1
  rw [this]
  refine RunsS.retU (UnwS.ret tab Tryz.func11 rfl fun Ez Hz Az Sz K => ⟨_, rfl, rfl, K.keeps⟩)
 by_cases c7 : s.recipes.length ≤ 70
 rotate_left
 ·conv => whnf
  repeat ((first | refine oL ?_ | refine oR ?_ | refine oM ?_); (try intro _); conv => whnf)
  have : r = false := by rw [hr]; exact decide_eq_false fun h => c7 h.2.2.2.2.2.2.2.2.2.2.1
  rw [this]
  refine RunsS.retU (UnwS.ret tab Tryz.func11 rfl fun Ez Hz Az Sz K => ⟨_, rfl, rfl, K.keeps⟩)
 by_cases c8 : s.swaps.length ≤ 70
 rotate_left
 ·conv => whnf
  repeat ((first | refine oL ?_ | refine oR ?_ | refine oM ?_); (try intro _); conv => whnf)
  have : r = false := by rw [hr]; exact decide_eq_false fun h => c8 h.2.2.2.2.2.2.2.2.2.2.2
  rw [this]
  refine RunsS.retU (UnwS.ret tab Tryz.func11 rfl fun Ez Hz Az Sz K => ⟨_, rfl, congrArg Value.bool (decide_eq_false (by omega)), K.keeps⟩)
 conv => whnf
 repeat ((first | refine oL ?_ | refine oR ?_ | refine oM ?_); (try intro _); conv => whnf)
 have : r = true := by rw [hr]; exact decide_eq_true ⟨hU, hO, hF, hR, c1, c2, c3, c4, c5, c6, c7, c8⟩
 rw [this]
 refine RunsS.retU (UnwS.ret tab Tryz.func11 rfl fun Ez Hz Az Sz K => ⟨_, rfl, congrArg Value.bool (decide_eq_true (by omega)), K.keeps⟩)

theorem base_at {s : SrcV} (hi : ∀ i ∈ s.items, idx i.un s.units.length) {i : Int} (h : idx i s.items.length) : ∃ (k : Nat) (_ : i = k) (hk : k < s.items.length) (j : Nat) (_ : s.items[k].un = j) (hj : j < s.units.length), s.base i = some s.units[j].base := by
 obtain ⟨k, e3, hk, e4⟩ := at?_idx h
 obtain ⟨m, e5, hm, e6⟩ := at?_idx (hi _ (List.getElem_mem hk))
 exact ⟨k, e3, hk, m, e5, hm, by unfold SrcV.base; rw [e4]; dsimp only; rw [e6]⟩
theorem base_no {s : SrcV} {i : Int} (h : ¬ idx i s.items.length) : s.base i = none := by unfold SrcV.base; rw [at?_none h]
theorem yTyped_fn {h : Array Obj} (s : SrcV) {vU vI vP vM vO vF vR vS : Value} (hs : Top h vU vI vP vM vO vF vR vS s) : FnV Tryz.prog 29 #[srcV vU vI vP vM vO vF vR vS] h fun r h' => r = .bool (decide (Typed s)) ∧ Keeps h.size h h' := by
 have lU := rowsU_len s.units
 have lI := rws_len It.row s.items
 have lP := rwsB_len s.plants
 have lM := rws_len Mc.row s.machines
 have lO := rws_len OpV.row s.options
 have lF := rws_len FbV.row s.forbids
 have lR := rws_len RcV.row s.recipes
 have lS := rws_len Sw.row s.swaps
 have mU := hs.U.len
 have mI := hs.I.len
 have mP := hs.P.len
 have mM := hs.M.len
 have mO := hs.O.len
 have mF := hs.F.len
 have mR := hs.R.len
 have mS := hs.S.len
 obtain ⟨r, hr⟩ : ∃ r, r = decide (Typed s) := ⟨_, rfl⟩
 rw [← hr]
 refine Fn.ofG (envL [vU, vI, vP, vM, vO, vF, vR, vS]) 8 [.agg [.buf 0, .buf 1, .buf 2, .buf 3, .buf 4, .buf 5, .buf 6, .buf 7]] [(0, .ro (8) (rowsU s.units)), (1, .ro (6) (rws It.row s.items)), (2, .ro (1) (rwsB s.plants)), (3, .ro (4) (rws Mc.row s.machines)), (4, .ro (2) (rws OpV.row s.options)), (5, .ro (1) (rws FbV.row s.forbids)), (6, .ro (17) (rws RcV.row s.recipes)), (7, .ro (4) (rws Sw.row s.swaps))] (fun k => k < _) Tryz.func29 (by kernel_rfl) rfl Tryz.ntmps29 rfl (fun _ hk => hk) (Sat.ros (vs := [vU, vI, vP, vM, vO, vF, vR, vS]) (l := [(8, rowsU s.units), (6, rws It.row s.items), (1, rwsB s.plants), (4, rws Mc.row s.machines), (2, rws OpV.row s.options), (1, rws FbV.row s.forbids), (17, rws RcV.row s.recipes), (4, rws Sw.row s.swaps)]) ⟨hs.U, hs.I, hs.P, hs.M, hs.O, hs.F, hs.R, hs.S, trivial⟩) fun w0 cs => ?_
 conv => whnf
 refine gS ?_
 conv => whnf
 refine RunsS.subR [] (RunsS.loop (fun (k : Nat) => [(3, .v (.int .i64 k)), (1, .ptr 8 0)]) (fun (k : Nat) => [(8, .cells 31 [.buf 0, .buf 1, .buf 2, .buf 3, .buf 4, .buf 5, .buf 6, .buf 7]), (0, .ro 8 (rowsU s.units)), (1, .ro 6 (rws It.row s.items)), (2, .ro 1 (rwsB s.plants)), (3, .ro 4 (rws Mc.row s.machines)), (4, .ro 2 (rws OpV.row s.options)), (5, .ro 1 (rws FbV.row s.forbids)), (6, .ro 17 (rws RcV.row s.recipes)), (7, .ro 4 (rws Sw.row s.swaps))]) 9 (fun (k : Nat) => k ≤ s.items.length ∧ ∀ o ∈ s.items.take k, itemOk s o) (fun (k : Nat) => s.items.length - k) ?round1 (0) ?J01) ?SS1 ?HH1
 case J01 => exact (⟨Nat.zero_le _, by simp⟩)
 case SS1 => repeat (first | exact trivial | refine ⟨by rfl, ?_⟩)
 case HH1 => repeat (first | exact trivial | refine ⟨by rfl, ?_⟩)
 rintro k hJ back
 try dsimp only at hJ back
 conv => whnf
 try dsimp only
 refine gS ?_
 conv => whnf
 refine ⟨fun hk => ?_, fun hk => ?_⟩ <;> conv => whnf
 ·have hk : k < s.items.length := by omega
  by_cases t1 : idx s.items[k].un s.units.length
  rotate_left
  ·conv => whnf
   repeat ((first | refine oL ?_ | refine oR ?_ | refine oM ?_); (try intro _); conv => whnf)
   refine ⟨_, rws_get hk, ?_⟩
   conv => whnf
   try (refine oN ?_; conv => whnf)
   refine RunsS.callV (fun Ez Hz Az Sz K => yIdx_n lU mU t1) ?_
   conv => whnf
   try refine gS ?_
   conv => whnf
   have : r = false := by rw [hr]; exact decide_eq_false fun h => t1 (h.I _ (List.getElem_mem hk)).1
   rw [this]
   refine RunsS.retU (UnwS.ret tab Tryz.func29 rfl fun Ez Hz Az Sz K => ⟨_, rfl, rfl, K.keeps⟩)
  by_cases t2 : bt s.items[k].mn 0 1048576
  rotate_left
  ·conv => whnf
   repeat ((first | refine oL ?_ | refine oR ?_ | refine oM ?_); (try intro _); conv => whnf)
   refine ⟨_, rws_get hk, ?_⟩
   conv => whnf
   try (refine oN ?_; conv => whnf)
   refine RunsS.callV (fun Ez Hz Az Sz K => yIdx_y lU mU t1) ?_
   conv => whnf
   try refine gS ?_
   conv => whnf
   refine RunsS.callV (fun Ez Hz Az Sz K => yIn_n t2) ?_
   conv => whnf
   try refine gS ?_
   conv => whnf
   have : r = false := by rw [hr]; exact decide_eq_false fun h => t2 (h.I _ (List.getElem_mem hk)).2.1
   rw [this]
   refine RunsS.retU (UnwS.ret tab Tryz.func29 rfl fun Ez Hz Az Sz K => ⟨_, rfl, rfl, K.keeps⟩)
  by_cases t3 : bt s.items[k].md 1 1048576
  rotate_left
  ·conv => whnf
   repeat ((first | refine oL ?_ | refine oR ?_ | refine oM ?_); (try intro _); conv => whnf)
   refine ⟨_, rws_get hk, ?_⟩
   conv => whnf
   try (refine oN ?_; conv => whnf)
   refine RunsS.callV (fun Ez Hz Az Sz K => yIdx_y lU mU t1) ?_
   conv => whnf
   try refine gS ?_
   conv => whnf
   refine RunsS.callV (fun Ez Hz Az Sz K => yIn_y t2) ?_
   conv => whnf
   try refine gS ?_
   conv => whnf
   refine RunsS.callV (fun Ez Hz Az Sz K => yIn_n t3) ?_
   conv => whnf
   try refine gS ?_
   conv => whnf
   have : r = false := by rw [hr]; exact decide_eq_false fun h => t3 (h.I _ (List.getElem_mem hk)).2.2.1
   rw [this]
   refine RunsS.retU (UnwS.ret tab Tryz.func29 rfl fun Ez Hz Az Sz K => ⟨_, rfl, rfl, K.keeps⟩)
  by_cases t4 : bt s.items[k].shelf 0 1023
  rotate_left
  ·conv => whnf
   repeat ((first | refine oL ?_ | refine oR ?_ | refine oM ?_); (try intro _); conv => whnf)
   refine ⟨_, rws_get hk, ?_⟩
   conv => whnf
   try (refine oN ?_; conv => whnf)
   refine RunsS.callV (fun Ez Hz Az Sz K => yIdx_y lU mU t1) ?_
   conv => whnf
   try refine gS ?_
   conv => whnf
   refine RunsS.callV (fun Ez Hz Az Sz K => yIn_y t2) ?_
   conv => whnf
   try refine gS ?_
   conv => whnf
   refine RunsS.callV (fun Ez Hz Az Sz K => yIn_y t3) ?_
   conv => whnf
   try refine gS ?_
   conv => whnf
   refine RunsS.callV (fun Ez Hz Az Sz K => yIn_n t4) ?_
   conv => whnf
   try refine gS ?_
   conv => whnf
   have : r = false := by rw [hr]; exact decide_eq_false fun h => t4 (h.I _ (List.getElem_mem hk)).2.2.2
   rw [this]
   refine RunsS.retU (UnwS.ret tab Tryz.func29 rfl fun Ez Hz Az Sz K => ⟨_, rfl, rfl, K.keeps⟩)
  conv => whnf
  repeat ((first | refine oL ?_ | refine oR ?_ | refine oM ?_); (try intro _); conv => whnf)
  refine ⟨_, rws_get hk, ?_⟩
  conv => whnf
  try (refine oN ?_; conv => whnf)
  refine RunsS.callV (fun Ez Hz Az Sz K => yIdx_y lU mU t1) ?_
  conv => whnf
  try refine gS ?_
  conv => whnf
  refine RunsS.callV (fun Ez Hz Az Sz K => yIn_y t2) ?_
  conv => whnf
  try refine gS ?_
  conv => whnf
  refine RunsS.callV (fun Ez Hz Az Sz K => yIn_y t3) ?_
  conv => whnf
  try refine gS ?_
  conv => whnf
  refine RunsS.callV (fun Ez Hz Az Sz K => yIn_y t4) ?_
  conv => whnf
  try refine gS ?_
  conv => whnf
  repeat ((first | refine oL ?_ | refine oR ?_ | refine oM ?_); (try intro _); conv => whnf)
  refine RunsS.subR [] (back (k + 1) ?BJ2 ?BM2) ?SS2 ?HH2
  case BJ2 => exact (⟨hk, all_take hk hJ.2 ⟨t1, t2, t3, t4⟩⟩)
  case BM2 => (try dsimp only); omega
  case SS2 => repeat (first | exact trivial | refine ⟨by rfl, ?_⟩)
  case HH2 => repeat (first | exact trivial | refine ⟨by rfl, ?_⟩)
 have hk : k = s.items.length := by omega
 have hI := hJ.2
 rw [hk, List.take_length] at hI
 clear back hJ
 conv => whnf
 have hi : ∀ i ∈ s.items, idx i.un s.units.length := fun i h => (hI i h).1
 refine RunsS.subR [] (RunsS.loop (fun (k : Nat) => [(5, .v (.int .i64 k)), (1, .ptr 8 0)]) (fun (k : Nat) => [(8, .cells 31 [.buf 0, .buf 1, .buf 2, .buf 3, .buf 4, .buf 5, .buf 6, .buf 7]), (0, .ro 8 (rowsU s.units)), (1, .ro 6 (rws It.row s.items)), (2, .ro 1 (rwsB s.plants)), (3, .ro 4 (rws Mc.row s.machines)), (4, .ro 2 (rws OpV.row s.options)), (5, .ro 1 (rws FbV.row s.forbids)), (6, .ro 17 (rws RcV.row s.recipes)), (7, .ro 4 (rws Sw.row s.swaps))]) 9 (fun (k : Nat) => k ≤ s.machines.length ∧ ∀ o ∈ s.machines.take k, machOk s o) (fun (k : Nat) => s.machines.length - k) ?round3 (0) ?J03) ?SS3 ?HH3
 case J03 => exact (⟨Nat.zero_le _, by simp⟩)
 case SS3 => repeat (first | exact trivial | refine ⟨by rfl, ?_⟩)
 case HH3 => repeat (first | exact trivial | refine ⟨by rfl, ?_⟩)
 rintro k hJ back
 conv => whnf
 refine gS ?_
 conv => whnf
 refine ⟨fun hk => ?_, fun hk => ?_⟩ <;> conv => whnf
 ·have hk : k < s.machines.length := by omega
  by_cases t1 : idx s.machines[k].pn s.plants.length
  rotate_left
  ·refine RunsS.held tab (.fl 0 (.fl 1 (.fl 2 (.fl 3 (.fl 4 (.fl 5 (.fl 6 (.fl 7 (.fl 8 (.e1 9 [] (.fl 10 (.fl 11 (.fl 12 (.fl 13 (.fl 14 (.fl 15 (.fl 16 (.fl 17 (.e1 18 [] (.fl 19 (.fl 20 .done))))))))))))))))))))) (by kernel_rfl) ?_
   conv => whnf
   try refine gR ?_
   conv => whnf
   repeat ((first | refine oL ?_ | refine oR ?_ | refine oB ?_ | refine oM ?_); (try intro _); conv => whnf)
   conv => whnf
   refine ⟨_, (rws_get hk), ?_⟩
   conv => whnf
   conv => whnf
   conv => whnf
   refine EffR.callV (fun Ez Hz Az Sz K => yIdx_n lP mP t1) (by (conv => whnf); (repeat (refine And.intro (by (conv => whnf); first | rfl | exact trivial) ?_; conv => whnf)); exact trivial) ?_
   conv => whnf
   try refine gR ?_
   conv => whnf
   repeat ((first | refine oL ?_ | refine oR ?_ | refine oB ?_ | refine oM ?_); (try intro _); conv => whnf)
   try refine gS ?_
   conv => whnf
   have : r = false := by rw [hr]; exact decide_eq_false fun h => t1 (h.M _ (List.getElem_mem hk)).1
   rw [this]
   refine RunsS.retU (UnwS.ret tab Tryz.func29 rfl fun Ez Hz Az Sz K => ⟨_, rfl, rfl, K.keeps⟩)
  by_cases t2 : bt s.machines[k].clean 0 15
  rotate_left
  ·refine RunsS.held tab (.fl 0 (.fl 1 (.fl 2 (.fl 3 (.fl 4 (.fl 5 (.fl 6 (.fl 7 (.fl 8 (.e1 9 [] (.fl 10 (.fl 11 (.fl 12 (.fl 13 (.fl 14 (.fl 15 (.fl 16 (.fl 17 (.e1 18 [] (.fl 19 (.fl 20 .done))))))))))))))))))))) (by kernel_rfl) ?_
   conv => whnf
   try refine gR ?_
   conv => whnf
   repeat ((first | refine oL ?_ | refine oR ?_ | refine oB ?_ | refine oM ?_); (try intro _); conv => whnf)
   conv => whnf
   refine ⟨_, (rws_get hk), ?_⟩
   conv => whnf
   conv => whnf
   conv => whnf
   refine EffR.callV (fun Ez Hz Az Sz K => yIdx_y lP mP t1) (by (conv => whnf); (repeat (refine And.intro (by (conv => whnf); first | rfl | exact trivial) ?_; conv => whnf)); exact trivial) ?_
   conv => whnf
   try refine gR ?_
   conv => whnf
   repeat ((first | refine oL ?_ | refine oR ?_ | refine oB ?_ | refine oM ?_); (try intro _); conv => whnf)
   conv => whnf
   refine ⟨_, (rws_get hk), ?_⟩
   conv => whnf
   conv => whnf
   conv => whnf
   refine EffR.callV (fun Ez Hz Az Sz K => yIn_n t2) (by (conv => whnf); (repeat (refine And.intro (by (conv => whnf); first | rfl | exact trivial) ?_; conv => whnf)); exact trivial) ?_
   conv => whnf
   try refine gR ?_
   conv => whnf
   try refine gS ?_
   conv => whnf
   have : r = false := by rw [hr]; exact decide_eq_false fun h => t2 (h.M _ (List.getElem_mem hk)).2
   rw [this]
   refine RunsS.retU (UnwS.ret tab Tryz.func29 rfl fun Ez Hz Az Sz K => ⟨_, rfl, rfl, K.keeps⟩)
  refine RunsS.held tab (.fl 0 (.fl 1 (.fl 2 (.fl 3 (.fl 4 (.fl 5 (.fl 6 (.fl 7 (.fl 8 (.e1 9 [] (.fl 10 (.fl 11 (.fl 12 (.fl 13 (.fl 14 (.fl 15 (.fl 16 (.fl 17 (.e1 18 [] (.fl 19 (.fl 20 .done))))))))))))))))))))) (by kernel_rfl) ?_
  conv => whnf
  try refine gR ?_
  conv => whnf
  repeat ((first | refine oL ?_ | refine oR ?_ | refine oB ?_ | refine oM ?_); (try intro _); conv => whnf)
  conv => whnf
  refine ⟨_, (rws_get hk), ?_⟩
  conv => whnf
  conv => whnf
  conv => whnf
  refine EffR.callV (fun Ez Hz Az Sz K => yIdx_y lP mP t1) (by (conv => whnf); (repeat (refine And.intro (by (conv => whnf); first | rfl | exact trivial) ?_; conv => whnf)); exact trivial) ?_
  conv => whnf
  try refine gR ?_
  conv => whnf
  repeat ((first | refine oL ?_ | refine oR ?_ | refine oB ?_ | refine oM ?_); (try intro _); conv => whnf)
  conv => whnf
  refine ⟨_, (rws_get hk), ?_⟩
  conv => whnf
  conv => whnf
  conv => whnf
  refine EffR.callV (fun Ez Hz Az Sz K => yIn_y t2) (by (conv => whnf); (repeat (refine And.intro (by (conv => whnf); first | rfl | exact trivial) ?_; conv => whnf)); exact trivial) ?_
  conv => whnf
  try refine gR ?_
  conv => whnf
  try refine gS ?_
  conv => whnf
  repeat ((first | refine oL ?_ | refine oR ?_ | refine oM ?_); (try intro _); conv => whnf)
  refine RunsS.subR [] (back (k + 1) ?BJ4 ?BM4) ?SS4 ?HH4
  case BJ4 => exact (⟨hk, all_take hk hJ.2 ⟨t1, t2⟩⟩)
  case BM4 => (try dsimp only); omega
  case SS4 => repeat (first | exact trivial | refine ⟨by rfl, ?_⟩)
  case HH4 => repeat (first | exact trivial | refine ⟨by rfl, ?_⟩)
 have hk : k = s.machines.length := by omega
 have hM := hJ.2
 rw [hk, List.take_length] at hM
 clear back hJ
 conv => whnf
 refine RunsS.subR [] (RunsS.loop (fun (k : Nat) => [(6, .v (.int .i64 k)), (1, .ptr 8 0)]) (fun (k : Nat) => [(8, .cells 31 [.buf 0, .buf 1, .buf 2, .buf 3, .buf 4, .buf 5, .buf 6, .buf 7]), (0, .ro 8 (rowsU s.units)), (1, .ro 6 (rws It.row s.items)), (2, .ro 1 (rwsB s.plants)), (3, .ro 4 (rws Mc.row s.machines)), (4, .ro 2 (rws OpV.row s.options)), (5, .ro 1 (rws FbV.row s.forbids)), (6, .ro 17 (rws RcV.row s.recipes)), (7, .ro 4 (rws Sw.row s.swaps))]) 9 (fun (k : Nat) => k ≤ s.options.length ∧ ∀ o ∈ s.options.take k, o.ch ≠ []) (fun (k : Nat) => s.options.length - k) ?round5 (0) ?J05) ?SS5 ?HH5
 case J05 => exact (⟨Nat.zero_le _, by simp⟩)
 case SS5 => repeat (first | exact trivial | refine ⟨by rfl, ?_⟩)
 case HH5 => repeat (first | exact trivial | refine ⟨by rfl, ?_⟩)
 rintro k hJ back
 conv => whnf
 refine gS ?_
 conv => whnf
 refine ⟨fun hk => ?_, fun hk => ?_⟩ <;> conv => whnf
 ·have hk : k < s.options.length := by omega
  conv => whnf
  repeat ((first | refine oL ?_ | refine oR ?_ | refine oM ?_); (try intro _); conv => whnf)
  refine ⟨_, rws_get hk, ?_⟩
  conv => whnf
  refine ⟨fun t0 => ?_, fun t0 => ?_⟩ <;> conv => whnf
  ·conv => whnf
   have : r = false := by rw [hr]; exact decide_eq_false fun h => h.O _ (List.getElem_mem hk) (List.eq_nil_of_length_eq_zero (by omega))
   rw [this]
   refine RunsS.retU (UnwS.ret tab Tryz.func29 rfl fun Ez Hz Az Sz K => ⟨_, rfl, rfl, K.keeps⟩)
  ·conv => whnf
   repeat ((first | refine oL ?_ | refine oR ?_ | refine oM ?_); (try intro _); conv => whnf)
   refine RunsS.subR [] (back (k + 1) ?BJ6 ?BM6) ?SS6 ?HH6
   case BJ6 => exact (⟨hk, all_take hk hJ.2 (fun e => t0 (by rw [e]; rfl))⟩)
   case BM6 => (try dsimp only); omega
   case SS6 => repeat (first | exact trivial | refine ⟨by rfl, ?_⟩)
   case HH6 => repeat (first | exact trivial | refine ⟨by rfl, ?_⟩)
 have hk : k = s.options.length := by omega
 have hO := hJ.2
 rw [hk, List.take_length] at hO
 clear back hJ
 conv => whnf
 refine RunsS.subR [] (RunsS.loop (fun (k : Nat) => [(7, .v (.int .i64 k)), (1, .ptr 8 0)]) (fun (k : Nat) => [(8, .cells 31 [.buf 0, .buf 1, .buf 2, .buf 3, .buf 4, .buf 5, .buf 6, .buf 7]), (0, .ro 8 (rowsU s.units)), (1, .ro 6 (rws It.row s.items)), (2, .ro 1 (rwsB s.plants)), (3, .ro 4 (rws Mc.row s.machines)), (4, .ro 2 (rws OpV.row s.options)), (5, .ro 1 (rws FbV.row s.forbids)), (6, .ro 17 (rws RcV.row s.recipes)), (7, .ro 4 (rws Sw.row s.swaps))]) 9 (fun (k : Nat) => k ≤ s.forbids.length ∧ ∀ o ∈ s.forbids.take k, o.cs ≠ [] ∧ condsOk s o.cs) (fun (k : Nat) => s.forbids.length - k) ?round7 (0) ?J07) ?SS7 ?HH7
 case J07 => exact (⟨Nat.zero_le _, by simp⟩)
 case SS7 => repeat (first | exact trivial | refine ⟨by rfl, ?_⟩)
 case HH7 => repeat (first | exact trivial | refine ⟨by rfl, ?_⟩)
 rintro k hJ back
 conv => whnf
 refine gS ?_
 conv => whnf
 refine ⟨fun hk => ?_, fun hk => ?_⟩ <;> conv => whnf
 ·have hk : k < s.forbids.length := by omega
  by_cases t0 : s.forbids[k].cs.length = 0
  ·refine RunsS.held tab (.fl 0 (.fl 1 (.fl 2 (.fl 3 (.fl 4 (.fl 5 (.fl 6 (.fl 7 (.fl 8 (.fl 9 (.fl 10 (.fl 11 (.fl 12 (.fl 13 (.e1 14 [] (.fl 15 (.fl 16 .done))))))))))))))))) (by kernel_rfl) ?_
   conv => whnf
   try refine gR ?_
   conv => whnf
   repeat ((first | refine oL ?_ | refine oR ?_ | refine oB ?_ | refine oM ?_); (try intro _); conv => whnf)
   conv => whnf
   refine ⟨_, (rws_get hk), ?_⟩
   conv => whnf
   conv => whnf
   repeat ((first | refine oL ?_ | refine oR ?_ | refine oB ?_ | refine oM ?_); (try intro _); conv => whnf)
   try refine gS ?_
   conv => whnf
   have : r = false := by rw [hr]; exact decide_eq_false fun h => (h.F _ (List.getElem_mem hk)).1 (List.eq_nil_of_length_eq_zero t0)
   rw [this]
   try intro _
   conv => whnf
   try refine gS ?_
   conv => whnf
   refine RunsS.retU (UnwS.ret tab Tryz.func29 rfl fun Ez Hz Az Sz K => ⟨_, rfl, rfl, K.keeps⟩)
  by_cases t1 : condsOk s s.forbids[k].cs
  rotate_left
  ·refine RunsS.held tab (.fl 0 (.fl 1 (.fl 2 (.fl 3 (.fl 4 (.fl 5 (.fl 6 (.fl 7 (.fl 8 (.fl 9 (.fl 10 (.fl 11 (.fl 12 (.fl 13 (.e1 14 [] (.fl 15 (.fl 16 .done))))))))))))))))) (by kernel_rfl) ?_
   conv => whnf
   try refine gR ?_
   conv => whnf
   repeat ((first | refine oL ?_ | refine oR ?_ | refine oB ?_ | refine oM ?_); (try intro _); conv => whnf)
   conv => whnf
   refine ⟨_, (rws_get hk), ?_⟩
   conv => whnf
   try (refine oN ?_; conv => whnf)
   conv => whnf
   conv => whnf
   try intro _
   conv => whnf
   repeat ((first | refine oL ?_ | refine oR ?_ | refine oB ?_ | refine oM ?_); (try intro _); conv => whnf)
   conv => whnf
   refine ⟨_, (rws_get hk), ?_⟩
   conv => whnf
   conv => whnf
   conv => whnf
   refine EffR.callV (fun Ez Hz Az Sz K => yConds_fn s ⟨Sz.ro (b := 0) rfl, Sz.ro (b := 1) rfl, Sz.ro (b := 2) rfl, Sz.ro (b := 3) rfl, Sz.ro (b := 4) rfl, Sz.ro (b := 5) rfl, Sz.ro (b := 6) rfl, Sz.ro (b := 7) rfl, hs.below.up (Up.kp K)⟩ s.forbids[k].cs ((hs.below.f _ (List.getElem_mem hk)).up (Up.kp K))) (by (conv => whnf); (repeat (refine And.intro (by (conv => whnf); first | rfl | exact trivial) ?_; conv => whnf)); exact trivial) ?_
   conv => whnf
   rw [decide_eq_false t1]
   try dsimp only
   try refine gR ?_
   conv => whnf
   try refine gS ?_
   conv => whnf
   have : r = false := by rw [hr]; exact decide_eq_false fun h => t1 (h.F _ (List.getElem_mem hk)).2
   rw [this]
   refine RunsS.retU (UnwS.ret tab Tryz.func29 rfl fun Ez Hz Az Sz K => ⟨_, rfl, rfl, K.keeps⟩)
  refine RunsS.held tab (.fl 0 (.fl 1 (.fl 2 (.fl 3 (.fl 4 (.fl 5 (.fl 6 (.fl 7 (.fl 8 (.fl 9 (.fl 10 (.fl 11 (.fl 12 (.fl 13 (.e1 14 [] (.fl 15 (.fl 16 .done))))))))))))))))) (by kernel_rfl) ?_
  conv => whnf
  try refine gR ?_
  conv => whnf
  repeat ((first | refine oL ?_ | refine oR ?_ | refine oB ?_ | refine oM ?_); (try intro _); conv => whnf)
  conv => whnf
  refine ⟨_, (rws_get hk), ?_⟩
  conv => whnf
  try (refine oN ?_; conv => whnf)
  conv => whnf
  conv => whnf
  try intro _
  conv => whnf
  repeat ((first | refine oL ?_ | refine oR ?_ | refine oB ?_ | refine oM ?_); (try intro _); conv => whnf)
  conv => whnf
  refine ⟨_, (rws_get hk), ?_⟩
  conv => whnf
  conv => whnf
  conv => whnf
  refine EffR.callV (fun Ez Hz Az Sz K => yConds_fn s ⟨Sz.ro (b := 0) rfl, Sz.ro (b := 1) rfl, Sz.ro (b := 2) rfl, Sz.ro (b := 3) rfl, Sz.ro (b := 4) rfl, Sz.ro (b := 5) rfl, Sz.ro (b := 6) rfl, Sz.ro (b := 7) rfl, hs.below.up (Up.kp K)⟩ s.forbids[k].cs ((hs.below.f _ (List.getElem_mem hk)).up (Up.kp K))) (by (conv => whnf); (repeat (refine And.intro (by (conv => whnf); first | rfl | exact trivial) ?_; conv => whnf)); exact trivial) ?_
  conv => whnf
  rw [decide_eq_true t1]
  try dsimp only
  try refine gR ?_
  conv => whnf
  try refine gS ?_
  conv => whnf
  repeat ((first | refine oL ?_ | refine oR ?_ | refine oM ?_); (try intro _); conv => whnf)
  refine RunsS.subR [] (back (k + 1) ?BJ8 ?BM8) ?SS8 ?HH8
  case BJ8 => exact (⟨hk, all_take hk hJ.2 ⟨fun e => t0 (by rw [e]; rfl), t1⟩⟩)
  case BM8 => (try dsimp only); omega
  case SS8 => repeat (first | exact trivial | refine ⟨by rfl, ?_⟩)
  case HH8 => repeat (first | exact trivial | refine ⟨by rfl, ?_⟩)
 have hk : k = s.forbids.length := by omega
 have hF := hJ.2
 rw [hk, List.take_length] at hF
 clear back hJ
 conv => whnf
 refine RunsS.subR [] (RunsS.loop (fun (k : Nat) => [(8, .v (.int .i64 k)), (1, .ptr 8 0)]) (fun (k : Nat) => [(8, .cells 31 [.buf 0, .buf 1, .buf 2, .buf 3, .buf 4, .buf 5, .buf 6, .buf 7]), (0, .ro 8 (rowsU s.units)), (1, .ro 6 (rws It.row s.items)), (2, .ro 1 (rwsB s.plants)), (3, .ro 4 (rws Mc.row s.machines)), (4, .ro 2 (rws OpV.row s.options)), (5, .ro 1 (rws FbV.row s.forbids)), (6, .ro 17 (rws RcV.row s.recipes)), (7, .ro 4 (rws Sw.row s.swaps))]) 9 (fun (k : Nat) => k ≤ s.recipes.length ∧ ∀ o ∈ s.recipes.take k, recOk s o) (fun (k : Nat) => s.recipes.length - k) ?round9 (0) ?J09) ?SS9 ?HH9
 case J09 => exact (⟨Nat.zero_le _, by simp⟩)
 case SS9 => repeat (first | exact trivial | refine ⟨by rfl, ?_⟩)
 case HH9 => repeat (first | exact trivial | refine ⟨by rfl, ?_⟩)
 rintro k hJ back
 conv => whnf
 refine gS ?_
 conv => whnf
 refine ⟨fun hk => ?_, fun hk => ?_⟩ <;> conv => whnf
 ·have hk : k < s.recipes.length := by omega
  by_cases t1 : recOk s s.recipes[k]
  rotate_left
  ·refine RunsS.held tab (.fl 0 (.fl 1 (.fl 2 (.fl 3 (.fl 4 (.fl 5 (.e1 6 [] (.fl 7 .done)))))))) (by kernel_rfl) ?_
   conv => whnf
   try refine gR ?_
   conv => whnf
   repeat ((first | refine oL ?_ | refine oR ?_ | refine oB ?_ | refine oM ?_); (try intro _); conv => whnf)
   conv => whnf
   refine ⟨_, (rws_get hk), ?_⟩
   conv => whnf
   try (refine oN ?_; conv => whnf)
   conv => whnf
   conv => whnf
   refine EffR.callV (fun Ez Hz Az Sz K => yRecipe_fn s ⟨Sz.ro (b := 0) rfl, Sz.ro (b := 1) rfl, Sz.ro (b := 2) rfl, Sz.ro (b := 3) rfl, Sz.ro (b := 4) rfl, Sz.ro (b := 5) rfl, Sz.ro (b := 6) rfl, Sz.ro (b := 7) rfl, hs.below.up (Up.kp K)⟩ hi s.recipes[k] ((hs.below.r _ (List.getElem_mem hk)).up (Up.kp K))) (by (conv => whnf); (repeat (refine And.intro (by (conv => whnf); first | rfl | exact trivial) ?_; conv => whnf)); exact trivial) ?_
   conv => whnf
   rw [decide_eq_false t1]
   try dsimp only
   try refine gR ?_
   conv => whnf
   try refine gS ?_
   conv => whnf
   have : r = false := by rw [hr]; exact decide_eq_false fun h => t1 (h.R _ (List.getElem_mem hk))
   rw [this]
   refine RunsS.retU (UnwS.ret tab Tryz.func29 rfl fun Ez Hz Az Sz K => ⟨_, rfl, rfl, K.keeps⟩)
  refine RunsS.held tab (.fl 0 (.fl 1 (.fl 2 (.fl 3 (.fl 4 (.fl 5 (.e1 6 [] (.fl 7 .done)))))))) (by kernel_rfl) ?_
  conv => whnf
  try refine gR ?_
  conv => whnf
  repeat ((first | refine oL ?_ | refine oR ?_ | refine oB ?_ | refine oM ?_); (try intro _); conv => whnf)
  conv => whnf
  refine ⟨_, (rws_get hk), ?_⟩
  conv => whnf
  try (refine oN ?_; conv => whnf)
  conv => whnf
  conv => whnf
  refine EffR.callV (fun Ez Hz Az Sz K => yRecipe_fn s ⟨Sz.ro (b := 0) rfl, Sz.ro (b := 1) rfl, Sz.ro (b := 2) rfl, Sz.ro (b := 3) rfl, Sz.ro (b := 4) rfl, Sz.ro (b := 5) rfl, Sz.ro (b := 6) rfl, Sz.ro (b := 7) rfl, hs.below.up (Up.kp K)⟩ hi s.recipes[k] ((hs.below.r _ (List.getElem_mem hk)).up (Up.kp K))) (by (conv => whnf); (repeat (refine And.intro (by (conv => whnf); first | rfl | exact trivial) ?_; conv => whnf)); exact trivial) ?_
  conv => whnf
  rw [decide_eq_true t1]
  try dsimp only
  try refine gR ?_
  conv => whnf
  try refine gS ?_
  conv => whnf
  repeat ((first | refine oL ?_ | refine oR ?_ | refine oM ?_); (try intro _); conv => whnf)
  refine RunsS.subR [] (back (k + 1) ?BJ10 ?BM10) ?SS10 ?HH10
  case BJ10 => exact (⟨hk, all_take hk hJ.2 t1⟩)
  case BM10 => (try dsimp only); omega
  case SS10 => repeat (first | exact trivial | refine ⟨by rfl, ?_⟩)
  case HH10 => repeat (first | exact trivial | refine ⟨by rfl, ?_⟩)
 have hk : k = s.recipes.length := by omega
 have hR := hJ.2
 rw [hk, List.take_length] at hR
 clear back hJ
 conv => whnf
 refine RunsS.subR [] (RunsS.loop (fun (k : Nat) => [(9, .v (.int .i64 k)), (1, .ptr 8 0)]) (fun (k : Nat) => [(8, .cells 31 [.buf 0, .buf 1, .buf 2, .buf 3, .buf 4, .buf 5, .buf 6, .buf 7]), (0, .ro 8 (rowsU s.units)), (1, .ro 6 (rws It.row s.items)), (2, .ro 1 (rwsB s.plants)), (3, .ro 4 (rws Mc.row s.machines)), (4, .ro 2 (rws OpV.row s.options)), (5, .ro 1 (rws FbV.row s.forbids)), (6, .ro 17 (rws RcV.row s.recipes)), (7, .ro 4 (rws Sw.row s.swaps))]) 9 (fun (k : Nat) => k ≤ s.swaps.length ∧ ∀ o ∈ s.swaps.take k, swapOk s o) (fun (k : Nat) => s.swaps.length - k) ?round11 (0) ?J011) ?SS11 ?HH11
 case J011 => exact (⟨Nat.zero_le _, by simp⟩)
 case SS11 => repeat (first | exact trivial | refine ⟨by rfl, ?_⟩)
 case HH11 => repeat (first | exact trivial | refine ⟨by rfl, ?_⟩)
 rintro k hJ back
 conv => whnf
 refine gS ?_
 conv => whnf
 refine ⟨fun hk => ?_, fun hk => ?_⟩ <;> conv => whnf
 ·have hk : k < s.swaps.length := by omega
  conv => whnf
  repeat ((first | refine oL ?_ | refine oR ?_ | refine oM ?_); (try intro _); conv => whnf)
  refine ⟨_, rws_get hk, ?_⟩
  conv => whnf
  try (refine oN ?_; conv => whnf)
  by_cases t1 : idx s.swaps[k].an s.items.length
  rotate_left
  ·refine RunsS.held tab (.fl 0 (.fl 1 (.fl 2 (.fl 3 (.fl 4 (.e1 5 [] (.fl 6 (.fl 7 (.fl 8 (.fl 9 (.fl 10 (.fl 11 (.fl 12 (.e1 13 [] (.fl 14 (.fl 15 (.fl 16 (.fl 17 (.fl 18 (.fl 19 (.fl 20 (.fl 21 (.fl 22 (.fl 23 (.fl 24 (.fl 25 (.fl 26 (.fl 28 (.fl 29 (.fl 30 (.e1 27 [28, 30] (.e1 31 [] (.fl 32 (.fl 33 .done)))))))))))))))))))))))))))))))))) (by kernel_rfl) ?_
   conv => whnf
   try refine gR ?_
   conv => whnf
   conv => whnf
   refine EffR.callV (fun Ez Hz Az Sz K => yIdx_n lI mI t1) (by (conv => whnf); (repeat (refine And.intro (by (conv => whnf); first | rfl | exact trivial) ?_; conv => whnf)); exact trivial) ?_
   conv => whnf
   try refine gR ?_
   conv => whnf
   repeat ((first | refine oL ?_ | refine oR ?_ | refine oB ?_ | refine oM ?_); (try intro _); conv => whnf)
   try refine gS ?_
   conv => whnf
   have : r = false := by rw [hr]; exact decide_eq_false fun h => by have := h.S _ (List.getElem_mem hk); unfold swapOk at this; rw [base_no t1] at this; exact this.1
   rw [this]
   refine RunsS.retU (UnwS.ret tab Tryz.func29 rfl fun Ez Hz Az Sz K => ⟨_, rfl, rfl, K.keeps⟩)
  obtain ⟨ka, ea, hka, ja, ua, hja, ba⟩ := base_at hi t1
  by_cases t2 : idx s.swaps[k].bn s.items.length
  rotate_left
  ·refine RunsS.held tab (.fl 0 (.fl 1 (.fl 2 (.fl 3 (.fl 4 (.e1 5 [] (.fl 6 (.fl 7 (.fl 8 (.fl 9 (.fl 10 (.fl 11 (.fl 12 (.e1 13 [] (.fl 14 (.fl 15 (.fl 16 (.fl 17 (.fl 18 (.fl 19 (.fl 20 (.fl 21 (.fl 22 (.fl 23 (.fl 24 (.fl 25 (.fl 26 (.fl 28 (.fl 29 (.fl 30 (.e1 27 [28, 30] (.e1 31 [] (.fl 32 (.fl 33 .done)))))))))))))))))))))))))))))))))) (by kernel_rfl) ?_
   conv => whnf
   try refine gR ?_
   conv => whnf
   conv => whnf
   refine EffR.callV (fun Ez Hz Az Sz K => yIdx_y lI mI t1) (by (conv => whnf); (repeat (refine And.intro (by (conv => whnf); first | rfl | exact trivial) ?_; conv => whnf)); exact trivial) ?_
   conv => whnf
   try refine gR ?_
   conv => whnf
   conv => whnf
   refine EffR.callV (fun Ez Hz Az Sz K => yIdx_n lI mI t2) (by (conv => whnf); (repeat (refine And.intro (by (conv => whnf); first | rfl | exact trivial) ?_; conv => whnf)); exact trivial) ?_
   conv => whnf
   try refine gR ?_
   conv => whnf
   repeat ((first | refine oL ?_ | refine oR ?_ | refine oB ?_ | refine oM ?_); (try intro _); conv => whnf)
   try refine gS ?_
   conv => whnf
   have : r = false := by rw [hr]; exact decide_eq_false fun h => by have := h.S _ (List.getElem_mem hk); unfold swapOk at this; rw [ba, base_no t2] at this; exact this.1
   rw [this]
   refine RunsS.retU (UnwS.ret tab Tryz.func29 rfl fun Ez Hz Az Sz K => ⟨_, rfl, rfl, K.keeps⟩)
  obtain ⟨kb, eb, hkb, jb, ub, hjb, bb⟩ := base_at hi t2
  by_cases t3 : s.swaps[k].an = s.swaps[k].bn
  ·refine RunsS.held tab (.fl 0 (.fl 1 (.fl 2 (.fl 3 (.fl 4 (.e1 5 [] (.fl 6 (.fl 7 (.fl 8 (.fl 9 (.fl 10 (.fl 11 (.fl 12 (.e1 13 [] (.fl 14 (.fl 15 (.fl 16 (.fl 17 (.fl 18 (.fl 19 (.fl 20 (.fl 21 (.fl 22 (.fl 23 (.fl 24 (.fl 25 (.fl 26 (.fl 28 (.fl 29 (.fl 30 (.e1 27 [28, 30] (.e1 31 [] (.fl 32 (.fl 33 .done)))))))))))))))))))))))))))))))))) (by kernel_rfl) ?_
   conv => whnf
   try refine gR ?_
   conv => whnf
   conv => whnf
   refine EffR.callV (fun Ez Hz Az Sz K => yIdx_y lI mI t1) (by (conv => whnf); (repeat (refine And.intro (by (conv => whnf); first | rfl | exact trivial) ?_; conv => whnf)); exact trivial) ?_
   conv => whnf
   try refine gR ?_
   conv => whnf
   conv => whnf
   refine EffR.callV (fun Ez Hz Az Sz K => yIdx_y lI mI t2) (by (conv => whnf); (repeat (refine And.intro (by (conv => whnf); first | rfl | exact trivial) ?_; conv => whnf)); exact trivial) ?_
   conv => whnf
   try refine gR ?_
   conv => whnf
   repeat ((first | refine oL ?_ | refine oR ?_ | refine oB ?_ | refine oM ?_); (try intro _); conv => whnf)
   try refine gS ?_
   conv => whnf
   have : r = false := by rw [hr]; exact decide_eq_false fun h => (h.S _ (List.getElem_mem hk)).2 t3
   rw [this]
   refine RunsS.retU (UnwS.ret tab Tryz.func29 rfl fun Ez Hz Az Sz K => ⟨_, rfl, rfl, K.keeps⟩)
  by_cases t4 : s.units[ja].base = s.units[jb].base
  rotate_left
  ·refine RunsS.held tab (.fl 0 (.fl 1 (.fl 2 (.fl 3 (.fl 4 (.e1 5 [] (.fl 6 (.fl 7 (.fl 8 (.fl 9 (.fl 10 (.fl 11 (.fl 12 (.e1 13 [] (.fl 14 (.fl 15 (.fl 16 (.fl 17 (.fl 18 (.fl 19 (.fl 20 (.fl 21 (.fl 22 (.fl 23 (.fl 24 (.fl 25 (.fl 26 (.fl 28 (.fl 29 (.fl 30 (.e1 27 [28, 30] (.e1 31 [] (.fl 32 (.fl 33 .done)))))))))))))))))))))))))))))))))) (by kernel_rfl) ?_
   conv => whnf
   try refine gR ?_
   conv => whnf
   conv => whnf
   refine EffR.callV (fun Ez Hz Az Sz K => yIdx_y lI mI t1) (by (conv => whnf); (repeat (refine And.intro (by (conv => whnf); first | rfl | exact trivial) ?_; conv => whnf)); exact trivial) ?_
   conv => whnf
   try refine gR ?_
   conv => whnf
   conv => whnf
   refine EffR.callV (fun Ez Hz Az Sz K => yIdx_y lI mI t2) (by (conv => whnf); (repeat (refine And.intro (by (conv => whnf); first | rfl | exact trivial) ?_; conv => whnf)); exact trivial) ?_
   conv => whnf
   try refine gR ?_
   conv => whnf
   repeat ((first | refine oL ?_ | refine oR ?_ | refine oB ?_ | refine oM ?_); (try intro _); conv => whnf)
   conv => whnf
   refine EffR.callV (fun Ez Hz Az Sz K => yBase_fn s ⟨Sz.ro (b := 0) rfl, Sz.ro (b := 1) rfl, Sz.ro (b := 2) rfl, Sz.ro (b := 3) rfl, Sz.ro (b := 4) rfl, Sz.ro (b := 5) rfl, Sz.ro (b := 6) rfl, Sz.ro (b := 7) rfl, hs.below.up (Up.kp K)⟩ ea hka ua hja) (by (conv => whnf); (repeat (refine And.intro (by (conv => whnf); first | rfl | exact trivial) ?_; conv => whnf)); exact trivial) ?_
   conv => whnf
   try refine gR ?_
   conv => whnf
   conv => whnf
   refine EffR.callV (fun Ez Hz Az Sz K => yBase_fn s ⟨Sz.ro (b := 0) rfl, Sz.ro (b := 1) rfl, Sz.ro (b := 2) rfl, Sz.ro (b := 3) rfl, Sz.ro (b := 4) rfl, Sz.ro (b := 5) rfl, Sz.ro (b := 6) rfl, Sz.ro (b := 7) rfl, hs.below.up (Up.kp K)⟩ eb hkb ub hjb) (by (conv => whnf); (repeat (refine And.intro (by (conv => whnf); first | rfl | exact trivial) ?_; conv => whnf)); exact trivial) ?_
   conv => whnf
   try refine gR ?_
   conv => whnf
   repeat ((first | refine oL ?_ | refine oR ?_ | refine oB ?_ | refine oM ?_); (try intro _); conv => whnf)
   try refine gS ?_
   conv => whnf
   have : r = false := by rw [hr]; exact decide_eq_false fun h => by have := h.S _ (List.getElem_mem hk); unfold swapOk at this; rw [ba, bb] at this; exact t4 this.1
   rw [this]
   try intro _
   conv => whnf
   try refine gS ?_
   conv => whnf
   refine RunsS.retU (UnwS.ret tab Tryz.func29 rfl fun Ez Hz Az Sz K => ⟨_, rfl, rfl, K.keeps⟩)
  refine RunsS.held tab (.fl 0 (.fl 1 (.fl 2 (.fl 3 (.fl 4 (.e1 5 [] (.fl 6 (.fl 7 (.fl 8 (.fl 9 (.fl 10 (.fl 11 (.fl 12 (.e1 13 [] (.fl 14 (.fl 15 (.fl 16 (.fl 17 (.fl 18 (.fl 19 (.fl 20 (.fl 21 (.fl 22 (.fl 23 (.fl 24 (.fl 25 (.fl 26 (.fl 28 (.fl 29 (.fl 30 (.e1 27 [28, 30] (.e1 31 [] (.fl 32 (.fl 33 .done)))))))))))))))))))))))))))))))))) (by kernel_rfl) ?_
  conv => whnf
  try refine gR ?_
  conv => whnf
  conv => whnf
  refine EffR.callV (fun Ez Hz Az Sz K => yIdx_y lI mI t1) (by (conv => whnf); (repeat (refine And.intro (by (conv => whnf); first | rfl | exact trivial) ?_; conv => whnf)); exact trivial) ?_
  conv => whnf
  try refine gR ?_
  conv => whnf
  conv => whnf
  refine EffR.callV (fun Ez Hz Az Sz K => yIdx_y lI mI t2) (by (conv => whnf); (repeat (refine And.intro (by (conv => whnf); first | rfl | exact trivial) ?_; conv => whnf)); exact trivial) ?_
  conv => whnf
  try refine gR ?_
  conv => whnf
  repeat ((first | refine oL ?_ | refine oR ?_ | refine oB ?_ | refine oM ?_); (try intro _); conv => whnf)
  conv => whnf
  refine EffR.callV (fun Ez Hz Az Sz K => yBase_fn s ⟨Sz.ro (b := 0) rfl, Sz.ro (b := 1) rfl, Sz.ro (b := 2) rfl, Sz.ro (b := 3) rfl, Sz.ro (b := 4) rfl, Sz.ro (b := 5) rfl, Sz.ro (b := 6) rfl, Sz.ro (b := 7) rfl, hs.below.up (Up.kp K)⟩ ea hka ua hja) (by (conv => whnf); (repeat (refine And.intro (by (conv => whnf); first | rfl | exact trivial) ?_; conv => whnf)); exact trivial) ?_
  conv => whnf
  try refine gR ?_
  conv => whnf
  conv => whnf
  refine EffR.callV (fun Ez Hz Az Sz K => yBase_fn s ⟨Sz.ro (b := 0) rfl, Sz.ro (b := 1) rfl, Sz.ro (b := 2) rfl, Sz.ro (b := 3) rfl, Sz.ro (b := 4) rfl, Sz.ro (b := 5) rfl, Sz.ro (b := 6) rfl, Sz.ro (b := 7) rfl, hs.below.up (Up.kp K)⟩ eb hkb ub hjb) (by (conv => whnf); (repeat (refine And.intro (by (conv => whnf); first | rfl | exact trivial) ?_; conv => whnf)); exact trivial) ?_
  conv => whnf
  try refine gR ?_
  conv => whnf
  repeat ((first | refine oL ?_ | refine oR ?_ | refine oB ?_ | refine oM ?_); (try intro _); conv => whnf)
  try refine gS ?_
  conv => whnf
  repeat ((first | refine oL ?_ | refine oR ?_ | refine oM ?_); (try intro _); conv => whnf)
  try intro _
  conv => whnf
  try refine gS ?_
  conv => whnf
  refine RunsS.subR [] (back (k + 1) ?BJ12 ?BM12) ?SS12 ?HH12
  case BJ12 => exact (⟨hk, all_take hk hJ.2 ⟨by rw [ba, bb]; exact t4, t3⟩⟩)
  case BM12 => (try dsimp only); omega
  case SS12 => repeat (first | exact trivial | refine ⟨by rfl, ?_⟩)
  case HH12 => repeat (first | exact trivial | refine ⟨by rfl, ?_⟩)
 have hk : k = s.swaps.length := by omega
 have hS := hJ.2
 rw [hk, List.take_length] at hS
 clear back hJ
 conv => whnf
 have : r = true := by rw [hr]; exact decide_eq_true ⟨hI, hM, hO, hF, hR, hS⟩
 rw [this]
 refine RunsS.retU (UnwS.ret tab Tryz.func29 rfl fun Ez Hz Az Sz K => ⟨_, rfl, rfl, K.keeps⟩)

theorem yCheck_fn {h : Array Obj} (s : SrcV) {vU vI vP vM vO vF vR vS : Value} (hs : Top h vU vI vP vM vO vF vR vS s) (hw : s.wf) : FnV Tryz.prog 13 #[srcV vU vI vP vM vO vF vR vS] h fun r h' => r = .int .i64 (checkT s) ∧ Keeps h.size h h' := by
 refine Fn.ofG (envL [vU, vI, vP, vM, vO, vF, vR, vS]) 8 [.agg [.buf 0, .buf 1, .buf 2, .buf 3, .buf 4, .buf 5, .buf 6, .buf 7]] [(0, .ro (8) (rowsU s.units)), (1, .ro (6) (rws It.row s.items)), (2, .ro (1) (rwsB s.plants)), (3, .ro (4) (rws Mc.row s.machines)), (4, .ro (2) (rws OpV.row s.options)), (5, .ro (1) (rws FbV.row s.forbids)), (6, .ro (17) (rws RcV.row s.recipes)), (7, .ro (4) (rws Sw.row s.swaps))] (fun k => k < _) Tryz.func13 (by kernel_rfl) rfl Tryz.ntmps13 rfl (fun _ hk => hk) (Sat.ros (vs := [vU, vI, vP, vM, vO, vF, vR, vS]) (l := [(8, rowsU s.units), (6, rws It.row s.items), (1, rwsB s.plants), (4, rws Mc.row s.machines), (2, rws OpV.row s.options), (1, rws FbV.row s.forbids), (17, rws RcV.row s.recipes), (4, rws Sw.row s.swaps)]) ⟨hs.U, hs.I, hs.P, hs.M, hs.O, hs.F, hs.R, hs.S, trivial⟩) fun w0 cs => ?_
 conv => whnf
 refine gS ?_
 conv => whnf
 by_cases hu : checkU s.units = 0
 rotate_left
 ·refine RunsS.callV (fun Ez Hz Az Sz K => rUCheck_fn s.units hw.U (Sz.ro (b := 0) rfl)) ?_
  conv => whnf
  try refine gS ?_
  conv => whnf
  repeat ((first | refine oL ?_ | refine oR ?_ | refine oM ?_); (try intro _); conv => whnf)
  have : checkT s = checkU s.units := by unfold checkT; rw [if_pos hu]
  rw [this]
  refine RunsS.retU (UnwS.ret tab Tryz.func13 rfl fun Ez Hz Az Sz K => ⟨_, rfl, rfl, K.keeps⟩)
 refine RunsS.callV (fun Ez Hz Az Sz K => rUCheck_fn s.units hw.U (Sz.ro (b := 0) rfl)) ?_
 conv => whnf
 rw [hu]
 try dsimp only
 try refine gS ?_
 conv => whnf
 repeat ((first | refine oL ?_ | refine oR ?_ | refine oM ?_); (try intro _); conv => whnf)
 by_cases hm : Small s
 rotate_left
 ·refine RunsS.callV (fun Ez Hz Az Sz K => ySmall_fn s ⟨Sz.ro (b := 0) rfl, Sz.ro (b := 1) rfl, Sz.ro (b := 2) rfl, Sz.ro (b := 3) rfl, Sz.ro (b := 4) rfl, Sz.ro (b := 5) rfl, Sz.ro (b := 6) rfl, Sz.ro (b := 7) rfl, hs.below.up (Up.kp K)⟩) ?_
  conv => whnf
  rw [decide_eq_false hm]
  try refine gS ?_
  conv => whnf
  have : checkT s = 2 := by unfold checkT; rw [if_neg (fun h => h hu), if_pos hm]
  rw [this]
  refine RunsS.retU (UnwS.ret tab Tryz.func13 rfl fun Ez Hz Az Sz K => ⟨_, rfl, rfl, K.keeps⟩)
 refine RunsS.callV (fun Ez Hz Az Sz K => ySmall_fn s ⟨Sz.ro (b := 0) rfl, Sz.ro (b := 1) rfl, Sz.ro (b := 2) rfl, Sz.ro (b := 3) rfl, Sz.ro (b := 4) rfl, Sz.ro (b := 5) rfl, Sz.ro (b := 6) rfl, Sz.ro (b := 7) rfl, hs.below.up (Up.kp K)⟩) ?_
 conv => whnf
 rw [decide_eq_true hm]
 try refine gS ?_
 conv => whnf
 by_cases ht : Typed s
 ·refine RunsS.callV (fun Ez Hz Az Sz K => yTyped_fn s ⟨Sz.ro (b := 0) rfl, Sz.ro (b := 1) rfl, Sz.ro (b := 2) rfl, Sz.ro (b := 3) rfl, Sz.ro (b := 4) rfl, Sz.ro (b := 5) rfl, Sz.ro (b := 6) rfl, Sz.ro (b := 7) rfl, hs.below.up (Up.kp K)⟩) ?_
  conv => whnf
  rw [decide_eq_true ht]
  try refine gS ?_
  conv => whnf
  have : checkT s = 0 := by unfold checkT; rw [if_neg (fun h => h hu), if_neg (fun h => h hm), if_neg (fun h => h ht)]
  rw [this]
  refine RunsS.retU (UnwS.ret tab Tryz.func13 rfl fun Ez Hz Az Sz K => ⟨_, rfl, rfl, K.keeps⟩)
 ·refine RunsS.callV (fun Ez Hz Az Sz K => yTyped_fn s ⟨Sz.ro (b := 0) rfl, Sz.ro (b := 1) rfl, Sz.ro (b := 2) rfl, Sz.ro (b := 3) rfl, Sz.ro (b := 4) rfl, Sz.ro (b := 5) rfl, Sz.ro (b := 6) rfl, Sz.ro (b := 7) rfl, hs.below.up (Up.kp K)⟩) ?_
  conv => whnf
  rw [decide_eq_false ht]
  try refine gS ?_
  conv => whnf
  have : checkT s = 120 := by unfold checkT; rw [if_neg (fun h => h hu), if_neg (fun h => h hm), if_pos ht]
  rw [this]
  refine RunsS.retU (UnwS.ret tab Tryz.func13 rfl fun Ez Hz Az Sz K => ⟨_, rfl, rfl, K.keeps⟩)

def tG : ByteArray := ⟨#[103]⟩
def tKg : ByteArray := ⟨#[107, 103]⟩
def tM : ByteArray := ⟨#[109]⟩
def tFlour : ByteArray := ⟨#[102, 108, 111, 117, 114]⟩
def tWire : ByteArray := ⟨#[119, 105, 114, 101]⟩
def tP : ByteArray := ⟨#[112]⟩
def exU0 : List Un := [⟨tG, mt, 0, 0, 0, zr⟩, ⟨tKg, tG, 1000, 1, 0, zr⟩, ⟨tM, mt, 0, 0, 0, zr⟩]
def exU : List Un := [⟨tG, mt, 0, 0, 0, rw1 1⟩, ⟨tKg, tG, 1000, 1, 0, rw1 1000⟩, ⟨tM, mt, 0, 0, 2, rw1 1⟩]
def exI : List It := [⟨tFlour, tKg, 1000, 1, 0, 1⟩, ⟨tWire, tM, 5, 2, 0, 2⟩]
def exP : List ByteArray := [tP]
theorem exU_res : resolveU exU0 = .inl exU := by decide +kernel
theorem exU0_ok : UnOk exU0 := by decide +kernel
abbrev ownI (b : Nat) (l : List It) : Nat × Fw.Blk := (b, .own 59 6 (rws It.row l))
abbrev ownP (b : Nat) (l : List ByteArray) : Nat × Fw.Blk := (b, .own 9 1 (rwsB l))
abbrev ownR (b : Nat) (l : List RcV) : Nat × Fw.Blk := (b, .own 48 17 (rws RcV.row l))
abbrev nil0 : SV := .v (.slice none 0 0)
theorem rresOkO {l x : List Un} (hl : l.length ≤ 9223372036854775807) (hi : UnOk l) (hx : resolveU l = .inl x) :
  FnT Tryz.prog (fun _ _ => True) 41 1 [.buf 0] [ownU 0 l] (fun _ : Unit => True) (fun _ => .ret (.tup [.buf 1, .v (.int .i64 0)]) 2 [ownU 1 x]) :=
 FnT.ofRo ⟨fun _ _ _ _ _ => trivial, fun _ _ _ _ _ => trivial⟩ (C := ⟨fun E F h hF _ S => (rresOk hl hi hx).call E F h hF S⟩) _ fun _ _ p hp => by rw [List.mem_singleton.1 hp]; rfl
theorem true_tok : TOk (fun _ _ => True) := ⟨fun _ _ _ _ _ => trivial, fun _ _ _ _ _ => trivial⟩
theorem example_fn : FnS Tryz.prog 22 0 [] [] (fun _ : Unit => True) (fun _ => .ret (.agg [.buf 0, .buf 1, .buf 2, nil0, nil0, nil0, nil0, nil0]) 3 [ownU 0 exU, ownI 1 exI, ownP 2 exP]) := by
 refine FnS.of Tryz.func22 (by kernel_rfl) rfl Tryz.ntmps22 rfl fun E0 F h w0 cs => ?_
 conv => whnf
 refine gS ?_
 conv => whnf
 repeat ((first | refine oL ?_ | refine oR ?_ | refine oM ?_); (try intro _); conv => whnf)
 refine RunsS.callT (true_tok) (trivial) (rresOkO (by decide) exU0_ok exU_res) [1] (by repeat (first | exact trivial | refine ⟨by rfl, ?_⟩)) ?CNa1 ?CNr1
 case CNa1 => rfl
 intro _ _
 conv => whnf
 try refine gS ?_
 conv => whnf
 repeat ((first | refine oL ?_ | refine oR ?_ | refine oM ?_); (try intro _); conv => whnf)
 try refine RunsS.retU ?_
 try refine RunsS.finU ?_
 exact UnwS.ret tab Tryz.func22 rfl (EndS.mk (()) (trivial) [(0, 2), (1, 3), (2, 4)] (by repeat (first | exact trivial | refine ⟨by rfl, ?_⟩)) rfl rfl (okRet rfl rfl))
def mkRc (a : Am) (x : Hd × Hd) : RcV := ⟨tFlour, tP, 0, 9, ⟨none, 0⟩, [], x.1, [a], x.2, [⟨1, 1, mt, mt, false, 1, 0⟩], 0, 1, 1, 1, 0, 1, 0, ⟨none, 0⟩, [], 0, 0⟩
theorem making_fn (a : Am) : FnX Tryz.prog 23 0 [.agg (toV a.row)] [] (fun _ _ => True) (fun (x : Hd × Hd) G h => (mkRc a x).ok G h)
  (fun x => .ret (.agg [.buf 0, .buf 1, .buf 2, nil0, nil0, nil0, .buf 3, nil0]) 4 [ownU 0 exU, ownI 1 exI, ownP 2 exP, ownR 3 [mkRc a x]]) := by
 refine FnX.of Tryz.func23 (by kernel_rfl) rfl Tryz.ntmps23 rfl fun E0 F G h N hP w0 cs => ?_
 conv => whnf
 refine gS ?_
 conv => whnf
 repeat ((first | refine oL ?_ | refine oR ?_ | refine oM ?_); (try intro _); conv => whnf)
 refine RunsS.callN (example_fn) [] ?CNr2 (by repeat (first | exact trivial | refine ⟨by rfl, ?_⟩)) ?CNa2
 case CNa2 => rfl
 intro _ _
 conv => whnf
 try refine gS ?_
 conv => whnf
 repeat ((first | refine oL ?_ | refine oR ?_ | refine oM ?_); (try intro _); conv => whnf)
 refine RunsS.subR (nx' := 8) (l' := [(9, .agg [.v (.string tFlour), .v (.string tP), .v (.int .i64 0), .v (.int .i64 9), nil0, .buf 6, .buf 7, .v (.int .i64 0), .v (.int .i64 1), .v (.int .i64 1), .v (.int .i64 1), .v (.int .i64 0), .v (.int .i64 1), .v (.int .i64 0), nil0, .v (.int .i64 0), .v (.int .i64 0)]), (3, .ptr 5 0), (2, .ptr 1 0)]) (H' := [(7, .own 37 7 (rws Am.row [⟨1, 1, mt, mt, false, 1, 0⟩])), (6, .own 37 7 (rws Am.row [a])), (5, .cells 31 [.buf 2, .buf 3, .buf 4, nil0, nil0, nil0, nil0, nil0]), (1, .cells 31 [nil0, nil0, nil0, nil0, nil0, nil0, nil0, nil0]), ownU 2 exU, ownI 3 exI, ownP 4 exP]) [] ?_ (by repeat (first | exact trivial | refine ⟨by rfl, ?_⟩)) (by repeat (first | exact trivial | refine ⟨by rfl, ?_⟩))
 refine RunsS.conc (n := 1) (N.gsub) 6 ?_
 intro a1 c1 G1 h1 N1 R1
 conv => whnf
 try refine gS ?_
 conv => whnf
 repeat ((first | refine oL ?_ | refine oR ?_ | refine oM ?_); (try intro _); conv => whnf)
 refine RunsS.conc (n := 1) (N1.gsub) 7 ?_
 intro a2 c2 G2 h2 N2 R2
 conv => whnf
 try refine gS ?_
 conv => whnf
 repeat ((first | refine oL ?_ | refine oR ?_ | refine oM ?_); (try intro _); conv => whnf)
 try refine RunsS.retU ?_
 try refine RunsS.finU ?_
 exact UnwS.ret tab Tryz.func23 rfl (EndX.mk ((N.trans N1).trans N2) ((⟨a1, c1⟩, ⟨a2, c2⟩)) (fun h' U => ⟨RoF.nil, RoF.up ((N2.step N1.gsub).trans U) R1, RoF.up U R2, RoF.nil⟩) [(0, 2), (1, 3), (2, 4), (3, 8)] (by repeat (first | exact trivial | refine ⟨by rfl, ?_⟩)) rfl rfl (okRet rfl rfl))

def exS (sw : List Sw) (rc : List RcV) : SrcV := ⟨exU, exI, exP, [], [], [], rc, sw⟩
def exA1 : Am := ⟨500, 1, tG, tFlour, false, 0, 0⟩
def exA2 : Am := ⟨2, 1, mt, mt, false, 2, 1⟩
def exA3 : Am := ⟨1, 1, mt, mt, false, 2, 0⟩
def exA4 : Am := ⟨0, 0, mt, mt, false, 0, 0⟩
def exA5 : Am := ⟨1, 0, mt, mt, false, 1, 0⟩
def exA6 : Am := ⟨3, 2, mt, mt, false, 2, 1⟩
def exA7 : Am := ⟨3, 2, mt, mt, false, 0, 1⟩
def noS : SrcV := ⟨[], [], [], [], [], [], [], []⟩
def zIt : It := ⟨mt, mt, 0, 0, 0, 0⟩
def manyS : SrcV := ⟨[], List.replicate 33 zIt, [], [], [], [], [], []⟩
instance (a : Am) : Decidable a.wf := by unfold Am.wf; infer_instance
instance (a : It) : Decidable a.wf := by unfold It.wf; infer_instance
instance (a : Sw) : Decidable a.wf := by unfold Sw.wf; infer_instance
theorem noM {α : Type} {p : α → Prop} : ∀ x ∈ ([] : List α), p x := fun x hx => absurd hx List.not_mem_nil
theorem tf1 : amtT (exS [] []) exA1 = (⟨false, ⟨#[1]⟩, ⟨#[2]⟩⟩, 0) := by decide +kernel
theorem tf2 : massT (exS [] []) exA1 = (⟨false, ⟨#[1, 244]⟩, ⟨#[1]⟩⟩, 0) := by decide +kernel
theorem tf3 : massT (exS [] []) exA2 = (⟨false, ⟨#[5]⟩, ⟨#[1]⟩⟩, 0) := by decide +kernel
theorem tf4 : amtT (exS [] []) exA3 = (zr, 90) := by decide +kernel
theorem tf5 : amtT noS exA4 = (zr, 120) := by decide +kernel
theorem tf6 : amtT (exS [] []) exA5 = (zr, 71) := by decide +kernel
theorem tf7 : checkT noS = 0 := by decide +kernel
theorem tf8 : checkT (exS [] []) = 0 := by decide +kernel
theorem tf9 : checkT (exS [⟨mt, mt, 0, 0⟩] []) = 120 := by decide +kernel
theorem tf10 : checkT (exS [⟨mt, mt, 1, 0⟩] []) = 120 := by decide +kernel
theorem tf11 : checkT manyS = 2 := by decide +kernel
theorem tf12 (x : Hd × Hd) : checkT (exS [] [mkRc exA6 x]) = 0 := by kernel_rfl
theorem tf13 (x : Hd × Hd) : checkT (exS [] [mkRc exA7 x]) = 120 := by kernel_rfl
theorem exU_wf : ∀ u ∈ exU, i64 u.n ∧ i64 u.d := by decide +kernel
theorem exI_wf : ∀ u ∈ exI, u.wf := by decide +kernel
theorem exW {sw : List Sw} {rc : List RcV} (h1 : ∀ x ∈ sw, x.wf) (h2 : ∀ r ∈ rc, r.wf) : (exS sw rc).wf :=
 ⟨exU_wf, exI_wf, noM, noM, h2, h1⟩
theorem mkW {a : Am} (h : a.wf) (x : Hd × Hd) : (mkRc a x).wf :=
 ⟨noM, fun c hc => (by rw [List.mem_singleton.1 hc]; exact h), fun c hc => (by rw [List.mem_singleton.1 hc]; decide), noM, (by decide : i64 0), (by decide : i64 9), (by decide : i64 0), (by decide : i64 1), (by decide : i64 1), (by decide : i64 1), (by decide : i64 0), (by decide : i64 1), (by decide : i64 0), (by decide : i64 0), (by decide : i64 0)⟩
theorem noW : noS.wf := ⟨noM, noM, noM, noM, noM, noM⟩
theorem manyW : manyS.wf := ⟨noM, by decide +kernel, noM, noM, noM, noM⟩
theorem exTop {h : Array Obj} {vU vI vP vR vS : Value} {sw : List Sw} {rc : List RcV} (hU : Ro h vU 8 (rowsU exU)) (hI : Ro h vI 6 (rws It.row exI)) (hP : Ro h vP 1 (rwsB exP)) (hR : Ro h vR 17 (rws RcV.row rc)) (hS : Ro h vS 4 (rws Sw.row sw)) (hr : ∀ r ∈ rc, r.ok (fun k => k < h.size) h) :
  Top h vU vI vP (.slice none 0 0) (.slice none 0 0) (.slice none 0 0) vR vS (exS sw rc) :=
 ⟨hU, hI, hP, Ro.nil, Ro.nil, Ro.nil, hR, hS, ⟨noM, noM, hr⟩⟩
theorem exTop0 {h : Array Obj} {vU vI vP : Value} (hU : Ro h vU 8 (rowsU exU)) (hI : Ro h vI 6 (rws It.row exI)) (hP : Ro h vP 1 (rwsB exP)) :
  Top h vU vI vP (.slice none 0 0) (.slice none 0 0) (.slice none 0 0) (.slice none 0 0) (.slice none 0 0) (exS [] []) := exTop hU hI hP Ro.nil Ro.nil noM
theorem noTop {h : Array Obj} : Top h (.slice none 0 0) (.slice none 0 0) (.slice none 0 0) (.slice none 0 0) (.slice none 0 0) (.slice none 0 0) (.slice none 0 0) (.slice none 0 0) noS :=
 ⟨Ro.nil, Ro.nil, Ro.nil, Ro.nil, Ro.nil, Ro.nil, Ro.nil, Ro.nil, ⟨noM, noM, noM⟩⟩
theorem manyTop {h : Array Obj} {v : Value} (hv : Ro h v 6 (List.replicate 33 zIt.row)) : Top h (.slice none 0 0) v (.slice none 0 0) (.slice none 0 0) (.slice none 0 0) (.slice none 0 0) (.slice none 0 0) (.slice none 0 0) manyS :=
 ⟨Ro.nil, hv, Ro.nil, Ro.nil, Ro.nil, Ro.nil, Ro.nil, Ro.nil, ⟨noM, noM, noM⟩⟩
theorem saneT_fn {h : Array Obj} (hT : TabH h) : FnV Tryz.prog 10 #[] h fun r h' => r = .bool true ∧ Keeps h.size h h' := by
 refine Fn.ofS (args := []) Tryz.func10 (by kernel_rfl) rfl Tryz.ntmps10 rfl fun w0 cs => ?_
 conv => whnf
 refine gS ?_
 conv => whnf
 repeat ((first | refine oL ?_ | refine oR ?_ | refine oM ?_); (try intro _); conv => whnf)
 refine RunsS.callN (example_fn) [] ?CNr1 (by repeat (first | exact trivial | refine ⟨by rfl, ?_⟩)) ?CNa1
 case CNa1 => rfl
 intro _ _
 conv => whnf
 try refine gS ?_
 conv => whnf
 repeat ((first | refine oL ?_ | refine oR ?_ | refine oM ?_); (try intro _); conv => whnf)
 refine RunsS.callV (fun Ez Hz Az Sz K => tAmt_fn (exS [] []) (exTop0 (Sz.ro (b := 0) rfl) (Sz.ro (b := 1) rfl) (Sz.ro (b := 2) rfl)) (exW (by decide) noM) exA1 (by decide) (hT.keeps ⟨K.size, K.same⟩)) ?_
 conv => whnf
 rw [tf1]
 try dsimp only
 try refine gS ?_
 conv => whnf
 repeat ((first | refine oL ?_ | refine oR ?_ | refine oM ?_); (try intro _); conv => whnf)
 refine RunsS.callV (fun Ez Hz Az Sz K => tMass_fn (exS [] []) (exTop0 (Sz.ro (b := 0) rfl) (Sz.ro (b := 1) rfl) (Sz.ro (b := 2) rfl)) (exW (by decide) noM) exA1 (by decide) (hT.keeps ⟨K.size, K.same⟩)) ?_
 conv => whnf
 rw [tf2]
 try dsimp only
 try refine gS ?_
 conv => whnf
 repeat ((first | refine oL ?_ | refine oR ?_ | refine oM ?_); (try intro _); conv => whnf)
 refine RunsS.callV (fun Ez Hz Az Sz K => tMass_fn (exS [] []) (exTop0 (Sz.ro (b := 0) rfl) (Sz.ro (b := 1) rfl) (Sz.ro (b := 2) rfl)) (exW (by decide) noM) exA2 (by decide) (hT.keeps ⟨K.size, K.same⟩)) ?_
 conv => whnf
 rw [tf3]
 try dsimp only
 try refine gS ?_
 conv => whnf
 repeat ((first | refine oL ?_ | refine oR ?_ | refine oM ?_); (try intro _); conv => whnf)
 refine RunsS.callV (fun Ez Hz Az Sz K => tAmt_fn (exS [] []) (exTop0 (Sz.ro (b := 0) rfl) (Sz.ro (b := 1) rfl) (Sz.ro (b := 2) rfl)) (exW (by decide) noM) exA3 (by decide) (hT.keeps ⟨K.size, K.same⟩)) ?_
 conv => whnf
 rw [tf4]
 try dsimp only
 try refine gS ?_
 conv => whnf
 repeat ((first | refine oL ?_ | refine oR ?_ | refine oM ?_); (try intro _); conv => whnf)
 refine RunsS.callV (fun Ez Hz Az Sz K => tAmt_fn noS noTop noW exA4 (by decide) (hT.keeps ⟨K.size, K.same⟩)) ?_
 conv => whnf
 rw [tf5]
 try dsimp only
 try refine gS ?_
 conv => whnf
 repeat ((first | refine oL ?_ | refine oR ?_ | refine oM ?_); (try intro _); conv => whnf)
 refine RunsS.callV (fun Ez Hz Az Sz K => tAmt_fn (exS [] []) (exTop0 (Sz.ro (b := 0) rfl) (Sz.ro (b := 1) rfl) (Sz.ro (b := 2) rfl)) (exW (by decide) noM) exA5 (by decide) (hT.keeps ⟨K.size, K.same⟩)) ?_
 conv => whnf
 rw [tf6]
 try dsimp only
 try refine gS ?_
 conv => whnf
 repeat ((first | refine oL ?_ | refine oR ?_ | refine oM ?_); (try intro _); conv => whnf)
 refine RunsS.callV (fun Ez Hz Az Sz K => tCheck_fn noS noTop noW (hT.keeps ⟨K.size, K.same⟩)) ?_
 conv => whnf
 rw [tf7]
 try dsimp only
 try refine gS ?_
 conv => whnf
 repeat ((first | refine oL ?_ | refine oR ?_ | refine oM ?_); (try intro _); conv => whnf)
 refine RunsS.callV (fun Ez Hz Az Sz K => tCheck_fn (exS [] []) (exTop0 (Sz.ro (b := 0) rfl) (Sz.ro (b := 1) rfl) (Sz.ro (b := 2) rfl)) (exW noM noM) (hT.keeps ⟨K.size, K.same⟩)) ?_
 conv => whnf
 rw [tf8]
 try dsimp only
 try refine gS ?_
 conv => whnf
 repeat ((first | refine oL ?_ | refine oR ?_ | refine oM ?_); (try intro _); conv => whnf)
 refine RunsS.callV (fun Ez Hz Az Sz K => tCheck_fn (exS [⟨mt, mt, 0, 0⟩] []) (exTop (Sz.ro (b := 0) rfl) (Sz.ro (b := 1) rfl) (Sz.ro (b := 2) rfl) Ro.nil (Sz.ro (b := 11) rfl) noM) (exW (by decide) noM) (hT.keeps ⟨K.size, K.same⟩)) ?_
 conv => whnf
 rw [tf9]
 try dsimp only
 try refine gS ?_
 conv => whnf
 repeat ((first | refine oL ?_ | refine oR ?_ | refine oM ?_); (try intro _); conv => whnf)
 refine RunsS.callV (fun Ez Hz Az Sz K => tCheck_fn (exS [⟨mt, mt, 1, 0⟩] []) (exTop (Sz.ro (b := 0) rfl) (Sz.ro (b := 1) rfl) (Sz.ro (b := 2) rfl) Ro.nil (Sz.ro (b := 13) rfl) noM) (exW (by decide) noM) (hT.keeps ⟨K.size, K.same⟩)) ?_
 conv => whnf
 rw [tf10]
 try dsimp only
 try refine gS ?_
 conv => whnf
 repeat ((first | refine oL ?_ | refine oR ?_ | refine oM ?_); (try intro _); conv => whnf)
 refine And.intro (by decide) ?_
 conv => whnf
 try refine gS ?_
 conv => whnf
 repeat ((first | refine oL ?_ | refine oR ?_ | refine oM ?_); (try intro _); conv => whnf)
 refine RunsS.callV (fun Ez Hz Az Sz K => tCheck_fn manyS (manyTop (Sz.ro (b := 14) rfl)) manyW (hT.keeps ⟨K.size, K.same⟩)) ?_
 conv => whnf
 rw [tf11]
 try dsimp only
 try refine gS ?_
 conv => whnf
 repeat ((first | refine oL ?_ | refine oR ?_ | refine oM ?_); (try intro _); conv => whnf)
 refine RunsS.callX (fun _ x => x) (making_fn exA6) (fun _ _ => trivial) [] (by repeat (first | exact trivial | refine ⟨by rfl, ?_⟩)) ?CNa2 ?CNr2
 case CNa2 => rfl
 rintro x1 G1 h1 N1 J1
 conv => whnf
 try refine gS ?_
 conv => whnf
 repeat ((first | refine oL ?_ | refine oR ?_ | refine oM ?_); (try intro _); conv => whnf)
 have hT1 := tabOk.mono _ _ _ N1.sub (tabOk.keep _ _ _ hT.t N1.kp)
 refine RunsS.callV (fun Ez Hz Az Sz K => tCheck_fn (exS [] [mkRc exA6 x1]) (exTop (Sz.ro (b := 15) rfl) (Sz.ro (b := 16) rfl) (Sz.ro (b := 17) rfl) (Sz.ro (b := 18) rfl) Ro.nil (fun r hr => by rw [List.mem_singleton.1 hr]; exact (J1.up (N1.up K)).up (Up.below N1.gsub K))) (exW noM (fun r hr => by rw [List.mem_singleton.1 hr]; exact mkW (by decide) x1)) (tabOk.at hT1 K).1) ?_
 conv => whnf
 rw [tf12 x1]
 try dsimp only
 try refine gS ?_
 conv => whnf
 repeat ((first | refine oL ?_ | refine oR ?_ | refine oM ?_); (try intro _); conv => whnf)
 refine RunsS.callX (N1.gsub) (making_fn exA7) (fun _ _ => trivial) [] (by repeat (first | exact trivial | refine ⟨by rfl, ?_⟩)) ?CNa3 ?CNr3
 case CNa3 => rfl
 rintro x2 G2 h2 N2 J2
 conv => whnf
 try refine gS ?_
 conv => whnf
 repeat ((first | refine oL ?_ | refine oR ?_ | refine oM ?_); (try intro _); conv => whnf)
 have hT2 := tabOk.mono _ _ _ N2.sub (tabOk.keep _ _ _ hT1 N2.kp)
 refine RunsS.callV (fun Ez Hz Az Sz K => tCheck_fn (exS [] [mkRc exA7 x2]) (exTop (Sz.ro (b := 19) rfl) (Sz.ro (b := 20) rfl) (Sz.ro (b := 21) rfl) (Sz.ro (b := 22) rfl) Ro.nil (fun r hr => by rw [List.mem_singleton.1 hr]; exact (J2.up (N2.up K)).up (Up.below N2.gsub K))) (exW noM (fun r hr => by rw [List.mem_singleton.1 hr]; exact mkW (by decide) x2)) (tabOk.at hT2 K).1) ?_
 conv => whnf
 rw [tf13 x2]
 try dsimp only
 try refine gS ?_
 conv => whnf
 repeat ((first | refine oL ?_ | refine oR ?_ | refine oM ?_); (try intro _); conv => whnf)
 refine And.intro (fun _ => ?_) (fun hn => absurd (⟨rfl, rfl, rfl⟩) hn)
 conv => whnf
 try refine gS ?_
 conv => whnf
 repeat ((first | refine oL ?_ | refine oR ?_ | refine oM ?_); (try intro _); conv => whnf)
 refine And.intro (fun _ => ?_) (fun hn => absurd (⟨rfl, rfl, rfl⟩) hn)
 conv => whnf
 try refine gS ?_
 conv => whnf
 repeat ((first | refine oL ?_ | refine oR ?_ | refine oM ?_); (try intro _); conv => whnf)
 refine RunsS.retU (UnwS.ret tab Tryz.func10 rfl fun Ez Hz Az Sz K => ⟨_, rfl, congrArg Value.bool (decide_eq_true ⟨rfl, rfl, rfl⟩), ((N1.trans N2).conv Hz K).keeps⟩)

theorem typesCheckSpec_fn {h : Array Obj} (s : SrcV) {vU vI vP vM vO vF vR vS : Value} (hs : Top h vU vI vP vM vO vF vR vS s) (hw : s.wf) (hT : TabH h) : FnV Tryz.prog 3 #[srcV vU vI vP vM vO vF vR vS] h fun r h' => r = .bool true ∧ Keeps h.size h h' := by
 refine Fn.ofG (envL [vU, vI, vP, vM, vO, vF, vR, vS]) 8 [.agg [.buf 0, .buf 1, .buf 2, .buf 3, .buf 4, .buf 5, .buf 6, .buf 7]] [(0, .ro (8) (rowsU s.units)), (1, .ro (6) (rws It.row s.items)), (2, .ro (1) (rwsB s.plants)), (3, .ro (4) (rws Mc.row s.machines)), (4, .ro (2) (rws OpV.row s.options)), (5, .ro (1) (rws FbV.row s.forbids)), (6, .ro (17) (rws RcV.row s.recipes)), (7, .ro (4) (rws Sw.row s.swaps))] (fun k => k < _) Tryz.func3 (by kernel_rfl) rfl Tryz.ntmps3 rfl (fun _ hk => hk) (Sat.ros (vs := [vU, vI, vP, vM, vO, vF, vR, vS]) (l := [(8, rowsU s.units), (6, rws It.row s.items), (1, rwsB s.plants), (4, rws Mc.row s.machines), (2, rws OpV.row s.options), (1, rws FbV.row s.forbids), (17, rws RcV.row s.recipes), (4, rws Sw.row s.swaps)]) ⟨hs.U, hs.I, hs.P, hs.M, hs.O, hs.F, hs.R, hs.S, trivial⟩) fun w0 cs => ?_
 conv => whnf
 refine gS ?_
 conv => whnf
 repeat ((first | refine oL ?_ | refine oR ?_ | refine oM ?_); (try intro _); conv => whnf)
 refine RunsS.callV (fun Ez Hz Az Sz K => saneT_fn (hT.keeps ⟨K.size, K.same⟩)) ?_
 conv => whnf
 try refine gS ?_
 conv => whnf
 repeat ((first | refine oL ?_ | refine oR ?_ | refine oM ?_); (try intro _); conv => whnf)
 by_cases hf : FewT s
 rotate_left
 ·refine RunsS.callV (fun Ez Hz Az Sz K => yFew_fn s ⟨Sz.ro (b := 0) rfl, Sz.ro (b := 1) rfl, Sz.ro (b := 2) rfl, Sz.ro (b := 3) rfl, Sz.ro (b := 4) rfl, Sz.ro (b := 5) rfl, Sz.ro (b := 6) rfl, Sz.ro (b := 7) rfl, hs.below.up (Up.kp K)⟩) ?_
  conv => whnf
  rw [decide_eq_false hf]
  try dsimp only
  try refine gS ?_
  conv => whnf
  repeat ((first | refine oL ?_ | refine oR ?_ | refine oM ?_); (try intro _); conv => whnf)
  refine RunsS.retU (UnwS.ret tab Tryz.func3 rfl fun Ez Hz Az Sz K => ⟨_, rfl, rfl, K.keeps⟩)
 refine RunsS.callV (fun Ez Hz Az Sz K => yFew_fn s ⟨Sz.ro (b := 0) rfl, Sz.ro (b := 1) rfl, Sz.ro (b := 2) rfl, Sz.ro (b := 3) rfl, Sz.ro (b := 4) rfl, Sz.ro (b := 5) rfl, Sz.ro (b := 6) rfl, Sz.ro (b := 7) rfl, hs.below.up (Up.kp K)⟩) ?_
 conv => whnf
 rw [decide_eq_true hf]
 try dsimp only
 try refine gS ?_
 conv => whnf
 repeat ((first | refine oL ?_ | refine oR ?_ | refine oM ?_); (try intro _); conv => whnf)
 refine RunsS.held tab (.fl 0 (.fl 2 (.e1 1 [2] (.e1 3 [] (.fl 4 (.fl 5 .done)))))) (by kernel_rfl) ?_
 conv => whnf
 try refine gR ?_
 conv => whnf
 repeat ((first | refine oL ?_ | refine oR ?_ | refine oB ?_ | refine oM ?_); (try intro _); conv => whnf)
 try refine gS ?_
 conv => whnf
 repeat ((first | refine oL ?_ | refine oR ?_ | refine oM ?_); (try intro _); conv => whnf)
 refine EffR.callV (fun Ez Hz Az Sz K => tCheck_fn s ⟨Sz.ro (b := 0) rfl, Sz.ro (b := 1) rfl, Sz.ro (b := 2) rfl, Sz.ro (b := 3) rfl, Sz.ro (b := 4) rfl, Sz.ro (b := 5) rfl, Sz.ro (b := 6) rfl, Sz.ro (b := 7) rfl, hs.below.up (Up.kp K)⟩ hw (hT.keeps ⟨K.size, K.same⟩)) (by (conv => whnf); (repeat (refine And.intro (by (conv => whnf); first | rfl | exact trivial) ?_; conv => whnf)); exact trivial) ?_
 conv => whnf
 try refine gR ?_
 conv => whnf
 repeat ((first | refine oL ?_ | refine oR ?_ | refine oB ?_ | refine oM ?_); (try intro _); conv => whnf)
 try refine gS ?_
 conv => whnf
 repeat ((first | refine oL ?_ | refine oR ?_ | refine oM ?_); (try intro _); conv => whnf)
 refine EffR.callV (fun Ez Hz Az Sz K => yCheck_fn s ⟨Sz.ro (b := 0) rfl, Sz.ro (b := 1) rfl, Sz.ro (b := 2) rfl, Sz.ro (b := 3) rfl, Sz.ro (b := 4) rfl, Sz.ro (b := 5) rfl, Sz.ro (b := 6) rfl, Sz.ro (b := 7) rfl, hs.below.up (Up.kp K)⟩ hw) (by (conv => whnf); (repeat (refine And.intro (by (conv => whnf); first | rfl | exact trivial) ?_; conv => whnf)); exact trivial) ?_
 conv => whnf
 try refine gR ?_
 conv => whnf
 repeat ((first | refine oL ?_ | refine oR ?_ | refine oB ?_ | refine oM ?_); (try intro _); conv => whnf)
 try refine gS ?_
 conv => whnf
 repeat ((first | refine oL ?_ | refine oR ?_ | refine oM ?_); (try intro _); conv => whnf)
 refine RunsS.retU (UnwS.ret tab Tryz.func3 rfl fun Ez Hz Az Sz K => ⟨_, rfl, congrArg Value.bool (dec_t rfl), K.keeps⟩)
end Go.Proofs.YtdcdejhobblbpaaGreatDoor

namespace Go.Fw
open Go Go.RowKit Go.WideShapes Go.ChangeShapes

structure FlatP (P : Program) (t : TypeId) (ks : List Sc) : Prop where
 at' : ∀ {H : Type} (enc : TypeId × Value → H) (w : World) (base : Nat) (sp : Nat → Bool) (held : Bool) (fuel : Nat) (cs : List Value) (x : DataW H × List MemPlace),
 DataW.trod enc P w base sp held fuel t cs = some x → cs.length = ks.length ∧ ∀ (i : Nat) (k : Sc) (v : Value), ks[i]? = some k → cs[i]? = some v → k.ok v
theorem FlatP.sc {P : Program} {t : TypeId} {k : Sc} (ht : P.underlying t = some k.und) : FlatP P t [k] := ⟨fun enc w base sp held fuel cs x h => by
 obtain ⟨v, rfl, hv⟩ := trod_sc ht h
 refine ⟨rfl, fun i k' v' h1 h2 => ?_⟩
 cases i with
 | zero => cases h1; cases h2; exact hv
 | succ i => simp at h1⟩
theorem FlatP.struct {P : Program} {t : TypeId} {fs : Array Field} {ks : List Sc} (ht : P.underlying t = some (.struct fs)) (hc : P.cellsOf t = ks.length)
  (hf : ∀ j, j < ks.length → ∃ (i : Nat) (f : Field) (kf : List Sc), fs[i]? = some f ∧ FlatP P f.type kf ∧ P.cellsOf f.type = kf.length ∧ f.offset ≤ j ∧ j - f.offset < kf.length ∧ kf[j - f.offset]? = ks[j]?) : FlatP P t ks := ⟨fun enc w base sp held fuel cs x h => by
 obtain ⟨xs, n, _, rfl, hl, hlen, hx⟩ := DataW.trod_struct ht h
 rw [hc] at hl
 refine ⟨hl, fun j k v hk hv => ?_⟩
 have hj := (List.getElem?_eq_some_iff.1 hk).1
 obtain ⟨i, f, kf, e1, e2, e3, e4, e5, e6⟩ := hf j hj
 have g := hx i f e1
 have hi : i < xs.length := by
  rw [hlen]
  exact (Array.getElem?_eq_some_iff.1 e1).1
 rw [List.getElem?_eq_getElem hi] at g
 obtain ⟨_, g2⟩ := e2.at' enc w base sp held _ _ _ g
 refine g2 (j - f.offset) k v (by rw [e6]; exact hk) ?_
 rw [List.getElem?_take_of_lt (by rw [e3]; exact e5), List.getElem?_drop, show f.offset + (j - f.offset) = j by omega]
 exact hv⟩
section
variable {H : Type} {enc : TypeId × Value → H} {P : Program} {w : World} {base : Nat} {sp : Nat → Bool} {held : Bool}
end
end Go.Fw

namespace Go.Proofs.YtdcdejhobblbpaaGreatDoor
open Go Go.Fw Go.ChangeShapes Go.WideShapes Go.ChangeAt Go.RowKit

theorem own : ownKnob Tryz.prog.godebug = none := by kernel_rfl
theorem gTab : Tryz.prog.globalNamed "math/bits.deBruijn64tab" = some 2 := by kernel_rfl
theorem gTabType : (Tryz.prog.globals[2]?).map (·.type) = some 180 := by kernel_rfl
theorem cellsTab : Tryz.prog.cellsOf 180 = 64 := by kernel_rfl
theorem cellsByte : Tryz.prog.cellsOf 5 = 1 := by kernel_rfl

theorem table {W : World} (h : laidMetH Tryz.prog [("math/bits.deBruijn64tab", Rows.laid_math_bits_deBruijn64tab)] W) : TabH W.heap := by
 have h1 : Lib.TabIs Tryz.prog W "math/bits.deBruijn64tab" .u8 (Go.Lib.deBruijn64tab.map fun (x : Nat) => (x : Int)) :=
  Lib.tabIs_of_head (rest := []) gTab gTabType Tryz.underlying180 Tryz.underlying5 cellsByte cellsTab h
 intro j hj
 have h2 := cellH_of (h1.cell gTab j (by simpa [Go.Lib.deBruijn64tab] using hj))
 have hl : j < Go.Lib.deBruijn64tab.length := by simpa [Go.Lib.deBruijn64tab] using hj
 have hd : (Go.Lib.deBruijn64tab.map fun (x : Nat) => (x : Int)).getD j 0 = ((Go.Lib.deBruijn64tab.getD j 0 : Nat) : Int) := by
  simp [List.getD_eq_getElem?_getD, List.getElem?_map, List.getElem?_eq_getElem hl]
 rw [hd] at h2
 exact h2

noncomputable def laidWorld (os : Os) : World :=
 { World.holding Tryz.prog os ⟨#[], #[], []⟩ with heap := (World.holding Tryz.prog os ⟨#[], #[], []⟩).heap.modify 2 fun
   | .cells _ t frozen => .cells (Go.Lib.deBruijn64tab.map fun (x : Nat) => Value.int .u8 (x : Int)).toArray t frozen
   | o => o }
end Go.Proofs.YtdcdejhobblbpaaGreatDoor

namespace Go.Fw
open Go Go.ChangeShapes Go.ChangeMaps Go.WideShapes Go.RowKit
section
variable {H : Type} {enc : TypeId × Value → H} {P : Program} {w : World} {base : Nat} {sp : Nat → Bool} {held : Bool} {t : TypeId} {f0 f1 f2 : Field}

end
end Go.Fw

namespace Go.Proofs.YtdcdejhobblbpaaGreatDoor
open Go Go.Fw Go.ChangeShapes Go.WideShapes Go.ChangeAt Go.RowKit

end Go.Proofs.YtdcdejhobblbpaaGreatDoor

namespace Go.Proofs.YtdcdejhobblbpaaGreatDoor
open Go Go.Fw Go.RatM Go.ChangeShapes Go.WideShapes Go.ChangeAt Go.RowKit
set_option maxRecDepth 100000

theorem laidOut : laidOutB Tryz.prog = true := by kernel_rfl
theorem ratioF : FlatP Tryz.prog 39 [.b, .s, .s] :=
 FlatP.struct Tryz.underlying39 (by kernel_rfl) fun j hj => match j, hj with
  | 0, _ => ⟨0, _, [.b], rfl, FlatP.sc Tryz.underlying4, by kernel_rfl, by decide, by decide, rfl⟩
  | 1, _ => ⟨1, _, [.s], rfl, FlatP.sc Tryz.underlying9, by kernel_rfl, by decide, by decide, rfl⟩
  | 2, _ => ⟨2, _, [.s], rfl, FlatP.sc Tryz.underlying9, by kernel_rfl, by decide, by decide, rfl⟩
theorem unitF : FlatP Tryz.prog 63 [.s, .s, .i .i64, .i .i64, .i .i64, .b, .s, .s] :=
 FlatP.struct Tryz.underlying63 (by kernel_rfl) fun j hj => match j, hj with
  | 0, _ => ⟨0, _, [.s], rfl, FlatP.sc Tryz.underlying9, by kernel_rfl, by decide, by decide, rfl⟩
  | 1, _ => ⟨1, _, [.s], rfl, FlatP.sc Tryz.underlying9, by kernel_rfl, by decide, by decide, rfl⟩
  | 2, _ => ⟨2, _, [.i .i64], rfl, FlatP.sc Tryz.underlying3, by kernel_rfl, by decide, by decide, rfl⟩
  | 3, _ => ⟨3, _, [.i .i64], rfl, FlatP.sc Tryz.underlying3, by kernel_rfl, by decide, by decide, rfl⟩
  | 4, _ => ⟨4, _, [.i .i64], rfl, FlatP.sc Tryz.underlying3, by kernel_rfl, by decide, by decide, rfl⟩
  | 5, _ => ⟨5, _, [.b, .s, .s], rfl, ratioF, by kernel_rfl, by decide, by decide, rfl⟩
  | 6, _ => ⟨5, _, [.b, .s, .s], rfl, ratioF, by kernel_rfl, by decide, by decide, rfl⟩
  | 7, _ => ⟨5, _, [.b, .s, .s], rfl, ratioF, by kernel_rfl, by decide, by decide, rfl⟩
theorem int_wf' {n : Int} (h : (Lit.int .i64 n).wf = true) : -9223372036854775808 ≤ n ∧ n ≤ 9223372036854775807 := by
 have h1 : IntKind.i64.min ≤ n ∧ n ≤ 9223372036854775807 := by simpa [Lit.wf] using h
 have e : IntKind.i64.min = -9223372036854775808 := rfl
 omega
def UnOk1 (u : Un) : Prop := (-9223372036854775808 ≤ u.n ∧ u.n ≤ 9223372036854775807) ∧ (-9223372036854775808 ≤ u.d ∧ u.d ≤ 9223372036854775807)
theorem unit_row {cs : List Value} (h1 : cs.length = 8) (h2 : ∀ (i : Nat) (k : Sc) (v : Value), [Sc.s, .s, .i .i64, .i .i64, .i .i64, .b, .s, .s][i]? = some k → cs[i]? = some v → k.ok v) : ∃ u : Un, cs = u.row ∧ UnOk1 u := by
 match cs, h1 with
 | [a, b, c, d, e, f, g, i], _ =>
  obtain ⟨a, rfl, _⟩ := h2 0 _ a rfl rfl
  obtain ⟨b, rfl, _⟩ := h2 1 _ b rfl rfl
  obtain ⟨c, rfl, m1⟩ := h2 2 _ c rfl rfl
  obtain ⟨d, rfl, m2⟩ := h2 3 _ d rfl rfl
  obtain ⟨e, rfl, _⟩ := h2 4 _ e rfl rfl
  obtain ⟨f, rfl⟩ := h2 5 _ f rfl rfl
  obtain ⟨g, rfl, _⟩ := h2 6 _ g rfl rfl
  obtain ⟨i, rfl, _⟩ := h2 7 _ i rfl rfl
  exact ⟨⟨a, b, c, d, e, ⟨f, g, i⟩⟩, rfl, int_wf' m1, int_wf' m2⟩
section
variable {H : Type} {enc : TypeId × Value → H} {W : World} {v : Value} {d : DataW H} {ps : List MemPlace} {rr : Reach} {b0 : Nat}
end
end Go.Proofs.YtdcdejhobblbpaaGreatDoor

namespace Go.Fw
open Go Go.RowKit Go.WideShapes Go.ChangeShapes
section
variable {H : Type} {enc : TypeId × Value → H} {P : Program} {W : World}
def TR (enc : TypeId × Value → H) (P : Program) (W : World) (t : TypeId) (cs : List Value) : Prop := ∃ fuel x, DataW.trod enc P W 0 (fun _ => true) true fuel t cs = some x
theorem TR.slice {α : Type} {f : α → List Value} {Q : α → Prop} {sz : Nat} {t e : TypeId} (ht : P.underlying t = some (.slice e)) (hc : P.cellsOf e = sz) (hz : 0 < sz)
  (hf : ∀ a, (f a).length = sz ∧ (Q a → ∀ u ∈ f a, u.oneCell' = true)) (hx : ∀ cs, TR enc P W e cs → ∃ a, cs = f a ∧ Q a) {cs : List Value} (h : TR enc P W t cs) : ∃ v, ∃ l : List α, cs = [v] ∧ Ro W.heap v sz (l.map f) ∧ ∀ a ∈ l, Q a := by
 obtain ⟨fuel, x, hfu⟩ := h
 rcases Deep.open_slice ht hfu with ⟨h0, _⟩ | ⟨a, len, cap, m, n, D, Pl, h1, hb, hlc, hm, hmm, _, hcell⟩
 ·exact ⟨_, [], h0, Ro.nil, fun a ha => by cases ha⟩
 ·have hlm : len ≤ m := by rw [hmm]; simpa using hlc
  have each : ∀ i, i < len → ∃ b : α, W.cells? 0 (a.add (i * P.cellsOf e)) (P.cellsOf e) = some (f b) ∧ Q b := fun i hi => by
   obtain ⟨cs', e1, e2⟩ := hcell i (by omega)
   obtain ⟨b, rfl, hq⟩ := hx _ ⟨_, _, e2⟩
   exact ⟨b, e1, hq⟩
  obtain ⟨l, hl, hp'⟩ := list_lt each
  have hp : ∀ i (h : i < l.length), W.cells? 0 (a.add (i * P.cellsOf e)) (P.cellsOf e) = some (f l[i]) := fun i hi => (hp' i hi).1
  have hQ : ∀ a ∈ l, Q a := fun a ha => by
   obtain ⟨i, hi, rfl⟩ := List.getElem_of_mem ha
   exact (hp' i hi).2
  have hmax : maxLen ≤ 9223372036854775807 := by decide
  have hlen : (l.map f).length ≤ 9223372036854775807 := by
   rw [List.length_map, hl]; omega
  refine ⟨.slice (some a) len cap, l, h1, ⟨fun r hr => ?_, ⟨hlen, hlc⟩, some a, cap, by rw [List.length_map, hl], ?_⟩, hQ⟩
  ·obtain ⟨b, hb, rfl⟩ := List.mem_map.1 hr
   exact ⟨(hf b).1, (hf b).2 (hQ b hb)⟩
  ·by_cases h0 : l = []
   ·exact .inl (by rw [h0]; rfl)
   ·have hpos : 0 < l.length := List.length_pos_iff.2 h0
    have first := World.cells?_some (hp 0 hpos)
    have c0 := first.2.2 0 (by rw [hc]; exact hz)
    have hspot : a.spot = none ∧ a.block < W.heap.size := by
     rw [Nat.zero_mul] at c0
     have e0 : (a.add 0).add 0 = a := rfl
     rw [e0, List.getElem?_eq_getElem (by rw [(hf _).1]; exact hz)] at c0
     unfold World.cell? at c0
     split at c0
     ·rename_i hh
      refine ⟨?_, (Array.getElem?_eq_some_iff.1 hh).1⟩
      cases hs : a.spot with
      | none => rfl
      | some k => rw [hs] at c0; simp at c0
     ·cases c0
    obtain ⟨g, o, s⟩ := a
    obtain ⟨rfl, hg⟩ := hspot
    refine .inr ⟨g, o, rfl, hg, cellsH_flat (sz := sz) (fun r hr => ?_) (fun i r hr j u hu => ?_)⟩
    ·obtain ⟨b, _, rfl⟩ := List.mem_map.1 hr
     exact (hf b).1
    ·rw [List.getElem?_map] at hr
     obtain ⟨b, hb', rfl⟩ := Option.map_eq_some_iff.1 hr
     obtain ⟨hi, rfl⟩ := List.getElem?_eq_some_iff.1 hb'
     have hj : j < P.cellsOf e := by rw [hc, ← (hf l[i]).1]; exact (List.getElem?_eq_some_iff.1 hu).1
     have := (World.cells?_some (hp i hi)).2.2 j hj
     rw [hu] at this
     refine cellH_of ?_
     rw [← this, Deep.add_add]
     congr 1
     unfold Addr.add
     rw [hc]
     by_cases e0 : i * sz + j = 0
     ·rw [if_pos e0]
      congr 1
      omega
     ·rw [if_neg e0]
      congr 1
      dsimp only
      omega
def onesB (P : Program) (fs : Array Field) : Nat → Bool
 | 0 => true
 | n + 1 => onesB P fs n && (match fs[n]? with
  | some f => f.offset == n && P.cellsOf f.type == 1
  | none => false)
theorem onesB_at {fs : Array Field} : ∀ {n : Nat}, onesB P fs n = true → ∀ i, i < n → ∃ f, fs[i]? = some f ∧ f.offset = i ∧ P.cellsOf f.type = 1
 | 0, _, i, hi => absurd hi (Nat.not_lt_zero _)
 | n + 1, h, i, hi => by
  simp only [onesB, Bool.and_eq_true] at h
  by_cases e : i = n
  ·subst e
   have h2 := h.2
   split at h2
   ·rename_i f hf
    simp only [Bool.and_eq_true, beq_iff_eq] at h2
    exact ⟨f, hf, h2.1, h2.2⟩
   ·cases h2
  ·exact onesB_at h.1 i (by omega)
theorem TR.ones {t : TypeId} {fs : Array Field} {n : Nat} (ht : P.underlying t = some (.struct fs)) (hc : P.cellsOf t = n) (hf : onesB P fs n = true) {cs : List Value} (h : TR enc P W t cs) :
  cs.length = n ∧ ∀ (i : Nat) (f : Field) (v : Value), fs[i]? = some f → cs[i]? = some v → TR enc P W f.type [v] := by
 obtain ⟨fuel, x, hx⟩ := h
 obtain ⟨xs, m, _, rfl, hl, hlen, hg⟩ := DataW.trod_struct ht hx
 rw [hc] at hl
 refine ⟨hl, fun i f v h1 h2 => ?_⟩
 have hi : i < n := by rw [← hl]; exact (List.getElem?_eq_some_iff.1 h2).1
 obtain ⟨f', e1, e2, e3⟩ := onesB_at hf i hi
 rw [h1] at e1
 cases e1
 have g := hg i f h1
 have hix : i < xs.length := by rw [hlen]; exact (Array.getElem?_eq_some_iff.1 h1).1
 rw [List.getElem?_eq_getElem hix, e2, e3] at g
 have e4 : (cs.drop i).take 1 = [v] := by
  rw [List.take_one, List.head?_drop, h2]; rfl
 rw [e4] at g
 exact ⟨_, _, g⟩
theorem TR.of {t : TypeId} {v : Value} {d : DataW H} {ps : List MemPlace} (h : DataW.Trod enc P W 0 (fun _ => true) true t v d ps) : TR enc P W t v.cells.toList := by
 obtain ⟨fuel, hf⟩ := h
 exact ⟨fuel, _, hf⟩
end
end Go.Fw
namespace Go.Proofs.YtdcdejhobblbpaaGreatDoor
open Go Go.Fw Go.RatM Go.SrcM Go.ChangeShapes Go.WideShapes Go.ChangeAt Go.RowKit
set_option maxRecDepth 100000
theorem int_wfS {n : Int} (h : (Lit.int .i64 n).wf = true) : i64 n := by
 have h1 : IntKind.i64.min ≤ n ∧ n ≤ 9223372036854775807 := by simpa [Lit.wf] using h
 have e : IntKind.i64.min = -9223372036854775808 := rfl
 unfold i64
 omega
section
variable {H : Type} {enc : TypeId × Value → H} {W : World} {cs : List Value} {v : Value}
theorem tr_string (h : TR enc Tryz.prog W 9 [v]) : ∃ s, v = .string s := by
 obtain ⟨_, _, h⟩ := h
 obtain ⟨s, e, _, _⟩ := DataW.trod_string Tryz.underlying9 h
 cases e; exact ⟨s, rfl⟩
theorem tr_int (h : TR enc Tryz.prog W 3 [v]) : ∃ n, v = .int .i64 n ∧ i64 n := by
 obtain ⟨_, _, h⟩ := h
 obtain ⟨n, e, _, m⟩ := DataW.trod_int Tryz.underlying3 h
 cases e; exact ⟨n, rfl, int_wfS m⟩
theorem tr_bool (h : TR enc Tryz.prog W 4 [v]) : ∃ b, v = .bool b := by
 obtain ⟨_, _, h⟩ := h
 obtain ⟨b, e, _⟩ := DataW.trod_bool Tryz.underlying4 h
 cases e; exact ⟨b, rfl⟩
theorem tr_cd (h : TR enc Tryz.prog W 55 cs) : ∃ c : Cd, cs = c.row ∧ c.wf := by
 obtain ⟨hl, hc⟩ := h.ones Tryz.underlying55 (n := 4) (by kernel_rfl) (by kernel_rfl)
 match cs, hl with
 | [a, b, c, d], _ =>
  obtain ⟨a, rfl⟩ := tr_string (hc 0 _ _ rfl rfl)
  obtain ⟨b, rfl⟩ := tr_string (hc 1 _ _ rfl rfl)
  obtain ⟨c, rfl, m1⟩ := tr_int (hc 2 _ _ rfl rfl)
  obtain ⟨d, rfl, m2⟩ := tr_int (hc 3 _ _ rfl rfl)
  exact ⟨⟨a, b, c, d⟩, rfl, m1, m2⟩
theorem tr_it (h : TR enc Tryz.prog W 59 cs) : ∃ c : It, cs = c.row ∧ c.wf := by
 obtain ⟨hl, hc⟩ := h.ones Tryz.underlying59 (n := 6) (by kernel_rfl) (by kernel_rfl)
 match cs, hl with
 | [a, b, c, d, e, f], _ =>
  obtain ⟨a, rfl⟩ := tr_string (hc 0 _ _ rfl rfl)
  obtain ⟨b, rfl⟩ := tr_string (hc 1 _ _ rfl rfl)
  obtain ⟨c, rfl, m1⟩ := tr_int (hc 2 _ _ rfl rfl)
  obtain ⟨d, rfl, m2⟩ := tr_int (hc 3 _ _ rfl rfl)
  obtain ⟨e, rfl, m3⟩ := tr_int (hc 4 _ _ rfl rfl)
  obtain ⟨f, rfl, m4⟩ := tr_int (hc 5 _ _ rfl rfl)
  exact ⟨⟨a, b, c, d, e, f⟩, rfl, m1, m2, m3, m4⟩
theorem tr_mc (h : TR enc Tryz.prog W 53 cs) : ∃ c : Mc, cs = c.row ∧ c.wf := by
 obtain ⟨hl, hc⟩ := h.ones Tryz.underlying53 (n := 4) (by kernel_rfl) (by kernel_rfl)
 match cs, hl with
 | [a, b, c, d], _ =>
  obtain ⟨a, rfl⟩ := tr_string (hc 0 _ _ rfl rfl)
  obtain ⟨b, rfl⟩ := tr_string (hc 1 _ _ rfl rfl)
  obtain ⟨c, rfl, m1⟩ := tr_int (hc 2 _ _ rfl rfl)
  obtain ⟨d, rfl, m2⟩ := tr_int (hc 3 _ _ rfl rfl)
  exact ⟨⟨a, b, c, d⟩, rfl, m1, m2⟩
theorem tr_sw (h : TR enc Tryz.prog W 71 cs) : ∃ c : Sw, cs = c.row ∧ c.wf := by
 obtain ⟨hl, hc⟩ := h.ones Tryz.underlying71 (n := 4) (by kernel_rfl) (by kernel_rfl)
 match cs, hl with
 | [a, b, c, d], _ =>
  obtain ⟨a, rfl⟩ := tr_string (hc 0 _ _ rfl rfl)
  obtain ⟨b, rfl⟩ := tr_string (hc 1 _ _ rfl rfl)
  obtain ⟨c, rfl, m1⟩ := tr_int (hc 2 _ _ rfl rfl)
  obtain ⟨d, rfl, m2⟩ := tr_int (hc 3 _ _ rfl rfl)
  exact ⟨⟨a, b, c, d⟩, rfl, m1, m2⟩
theorem tr_rn (h : TR enc Tryz.prog W 51 cs) : ∃ c : Rn, cs = c.row ∧ c.wf := by
 obtain ⟨hl, hc⟩ := h.ones Tryz.underlying51 (n := 3) (by kernel_rfl) (by kernel_rfl)
 match cs, hl with
 | [a, b, c], _ =>
  obtain ⟨a, rfl⟩ := tr_string (hc 0 _ _ rfl rfl)
  obtain ⟨b, rfl, m1⟩ := tr_int (hc 1 _ _ rfl rfl)
  obtain ⟨c, rfl, m2⟩ := tr_int (hc 2 _ _ rfl rfl)
  exact ⟨⟨a, b, c⟩, rfl, m1, m2⟩
theorem tr_am (h : TR enc Tryz.prog W 37 cs) : ∃ c : Am, cs = c.row ∧ c.wf := by
 obtain ⟨hl, hc⟩ := h.ones Tryz.underlying37 (n := 7) (by kernel_rfl) (by kernel_rfl)
 match cs, hl with
 | [a, b, c, d, e, f, g], _ =>
  obtain ⟨a, rfl, m1⟩ := tr_int (hc 0 _ _ rfl rfl)
  obtain ⟨b, rfl, m2⟩ := tr_int (hc 1 _ _ rfl rfl)
  obtain ⟨c, rfl⟩ := tr_string (hc 2 _ _ rfl rfl)
  obtain ⟨d, rfl⟩ := tr_string (hc 3 _ _ rfl rfl)
  obtain ⟨e, rfl⟩ := tr_bool (hc 4 _ _ rfl rfl)
  obtain ⟨f, rfl, m3⟩ := tr_int (hc 5 _ _ rfl rfl)
  obtain ⟨g, rfl, m4⟩ := tr_int (hc 6 _ _ rfl rfl)
  exact ⟨⟨a, b, c, d, e, f, g⟩, rfl, m1, m2, m3, m4⟩
theorem ones_cd (c : Cd) : ∀ u ∈ c.row, u.oneCell' = true := by simp [Cd.row, Value.oneCell']
theorem ones_am (c : Am) : ∀ u ∈ c.row, u.oneCell' = true := by simp [Am.row, Value.oneCell']
theorem ones_rn (c : Rn) : ∀ u ∈ c.row, u.oneCell' = true := by simp [Rn.row, Value.oneCell']
theorem ones_it (c : It) : ∀ u ∈ c.row, u.oneCell' = true := by simp [It.row, Value.oneCell']
theorem ones_mc (c : Mc) : ∀ u ∈ c.row, u.oneCell' = true := by simp [Mc.row, Value.oneCell']
theorem ones_sw (c : Sw) : ∀ u ∈ c.row, u.oneCell' = true := by simp [Sw.row, Value.oneCell']
abbrev below (W : World) : Nat → Prop := fun k => k < W.heap.size
theorem rofHd {G : Nat → Prop} {h : Array Obj} {v : Value} {sz : Nat} {α : Type} {f : α → List Value} {l : List α} (H : RoF G h v sz (rws f l)) : ∃ a c, v = .slice a l.length c := by
 obtain ⟨a, c, e⟩ := RoF.ownB H
 exact ⟨a, c, by rw [e, rws_len]⟩
theorem tr_cds (h : TR enc Tryz.prog W 45 cs) : ∃ v l, cs = [v] ∧ RoF (below W) W.heap v 4 (rws Cd.row l) ∧ ∀ c ∈ l, c.wf :=
 h.slice Tryz.underlying45 (sz := 4) (by kernel_rfl) (by decide) (fun a => ⟨rfl, fun _ => ones_cd a⟩) (fun _ h => tr_cd h)
theorem tr_ams (h : TR enc Tryz.prog W 43 cs) : ∃ v l, cs = [v] ∧ RoF (below W) W.heap v 7 (rws Am.row l) ∧ ∀ c ∈ l, c.wf :=
 h.slice Tryz.underlying43 (sz := 7) (by kernel_rfl) (by decide) (fun a => ⟨rfl, fun _ => ones_am a⟩) (fun _ h => tr_am h)
theorem tr_rns (h : TR enc Tryz.prog W 46 cs) : ∃ v l, cs = [v] ∧ RoF (below W) W.heap v 3 (rws Rn.row l) ∧ ∀ c ∈ l, c.wf :=
 h.slice Tryz.underlying46 (sz := 3) (by kernel_rfl) (by decide) (fun a => ⟨rfl, fun _ => ones_rn a⟩) (fun _ h => tr_rn h)
theorem tr_its (h : TR enc Tryz.prog W 23 cs) : ∃ v l, cs = [v] ∧ RoF (below W) W.heap v 6 (rws It.row l) ∧ ∀ c ∈ l, c.wf :=
 h.slice Tryz.underlying23 (sz := 6) (by kernel_rfl) (by decide) (fun a => ⟨rfl, fun _ => ones_it a⟩) (fun _ h => tr_it h)
theorem tr_mcs (h : TR enc Tryz.prog W 25 cs) : ∃ v l, cs = [v] ∧ RoF (below W) W.heap v 4 (rws Mc.row l) ∧ ∀ c ∈ l, c.wf :=
 h.slice Tryz.underlying25 (sz := 4) (by kernel_rfl) (by decide) (fun a => ⟨rfl, fun _ => ones_mc a⟩) (fun _ h => tr_mc h)
theorem tr_sws (h : TR enc Tryz.prog W 29 cs) : ∃ v l, cs = [v] ∧ RoF (below W) W.heap v 4 (rws Sw.row l) ∧ ∀ c ∈ l, c.wf :=
 h.slice Tryz.underlying29 (sz := 4) (by kernel_rfl) (by decide) (fun a => ⟨rfl, fun _ => ones_sw a⟩) (fun _ h => tr_sw h)
theorem tr_strs (h : TR enc Tryz.prog W 24 cs) : ∃ v l, cs = [v] ∧ RoF (below W) W.heap v 1 (rwsB l) := by
 obtain ⟨v, l, e, h, _⟩ := h.slice (f := fun s : ByteArray => [Value.string s]) (Q := fun _ => True) Tryz.underlying24 (sz := 1) (by kernel_rfl) (by decide) (fun a => ⟨rfl, fun _ u hu => by rw [List.mem_singleton.1 hu]; rfl⟩) (fun cs h => by
  obtain ⟨f, x, h⟩ := h
  obtain ⟨s, e, _, _⟩ := DataW.trod_string Tryz.underlying9 h
  exact ⟨s, e, trivial⟩)
 exact ⟨v, l, e, h⟩
theorem RoF.one {G : Nat → Prop} {h : Array Obj} {v : Value} {sz : Nat} {rows : List (List Value)} (H : RoF G h v sz rows) : v.oneCell' = true := by
 obtain ⟨a, c, rfl⟩ := H.ownB
 rfl
theorem tr_op (h : TR enc Tryz.prog W 57 cs) : ∃ o : OpV, cs = o.row ∧ o.ok (below W) W.heap := by
 obtain ⟨hl, hc⟩ := h.ones Tryz.underlying57 (n := 2) (by kernel_rfl) (by kernel_rfl)
 match cs, hl with
 | [a, b], _ =>
  obtain ⟨a, rfl⟩ := tr_string (hc 0 _ _ rfl rfl)
  obtain ⟨b, l, e, hb⟩ := tr_strs (hc 1 _ _ rfl rfl)
  cases e
  obtain ⟨ad, c, rfl⟩ := rofHd hb
  exact ⟨⟨a, ⟨ad, c⟩, l⟩, rfl, hb⟩
theorem tr_ops (h : TR enc Tryz.prog W 26 cs) : ∃ v l, cs = [v] ∧ RoF (below W) W.heap v 2 (rws OpV.row l) ∧ ∀ c ∈ l, c.ok (below W) W.heap :=
 h.slice Tryz.underlying26 (sz := 2) (by kernel_rfl) (by decide) (fun a => ⟨rfl, fun ha u hu => by
  simp only [OpV.row, List.mem_cons, List.not_mem_nil, or_false] at hu
  rcases hu with rfl | rfl
  ·rfl
  ·exact RoF.one ha⟩) (fun _ h => tr_op h)
theorem tr_fb (h : TR enc Tryz.prog W 45 cs) : ∃ o : FbV, cs = o.row ∧ o.ok (below W) W.heap ∧ ∀ c ∈ o.cs, c.wf := by
 obtain ⟨v, l, e, h1, h2⟩ := tr_cds h
 obtain ⟨ad, c, rfl⟩ := rofHd h1
 exact ⟨⟨⟨ad, c⟩, l⟩, e, h1, h2⟩
theorem tr_fbs (h : TR enc Tryz.prog W 27 cs) : ∃ v l, cs = [v] ∧ RoF (below W) W.heap v 1 (rws FbV.row l) ∧ ∀ c ∈ l, c.ok (below W) W.heap ∧ ∀ d ∈ c.cs, d.wf :=
 h.slice Tryz.underlying27 (sz := 1) (by kernel_rfl) (by decide) (fun a => ⟨rfl, fun ha u hu => by
  rw [List.mem_singleton.1 hu]
  exact RoF.one ha.1⟩) (fun _ h => tr_fb h)
theorem tr_rc (h : TR enc Tryz.prog W 48 cs) : ∃ o : RcV, cs = o.row ∧ o.ok (below W) W.heap ∧ o.wf := by
 obtain ⟨hl, hc⟩ := h.ones Tryz.underlying48 (n := 17) (by kernel_rfl) (by kernel_rfl)
 match cs, hl with
 | [a0, a1, a2, a3, a4, a5, a6, a7, a8, a9, a10, a11, a12, a13, a14, a15, a16], _ =>
  obtain ⟨a0, rfl⟩ := tr_string (hc 0 _ _ rfl rfl)
  obtain ⟨a1, rfl⟩ := tr_string (hc 1 _ _ rfl rfl)
  obtain ⟨a2, rfl, m2⟩ := tr_int (hc 2 _ _ rfl rfl)
  obtain ⟨a3, rfl, m3⟩ := tr_int (hc 3 _ _ rfl rfl)
  obtain ⟨a4, l4, e4, h4, w4⟩ := tr_cds (hc 4 _ _ rfl rfl)
  cases e4
  obtain ⟨d4, c4, rfl⟩ := rofHd h4
  obtain ⟨a5, l5, e5, h5, w5⟩ := tr_ams (hc 5 _ _ rfl rfl)
  cases e5
  obtain ⟨d5, c5, rfl⟩ := rofHd h5
  obtain ⟨a6, l6, e6, h6, w6⟩ := tr_ams (hc 6 _ _ rfl rfl)
  cases e6
  obtain ⟨d6, c6, rfl⟩ := rofHd h6
  obtain ⟨a7, rfl, m7⟩ := tr_int (hc 7 _ _ rfl rfl)
  obtain ⟨a8, rfl, m8⟩ := tr_int (hc 8 _ _ rfl rfl)
  obtain ⟨a9, rfl, m9⟩ := tr_int (hc 9 _ _ rfl rfl)
  obtain ⟨a10, rfl, m10⟩ := tr_int (hc 10 _ _ rfl rfl)
  obtain ⟨a11, rfl, m11⟩ := tr_int (hc 11 _ _ rfl rfl)
  obtain ⟨a12, rfl, m12⟩ := tr_int (hc 12 _ _ rfl rfl)
  obtain ⟨a13, rfl, m13⟩ := tr_int (hc 13 _ _ rfl rfl)
  obtain ⟨a14, l14, e14, h14, w14⟩ := tr_rns (hc 14 _ _ rfl rfl)
  cases e14
  obtain ⟨d14, c14, rfl⟩ := rofHd h14
  obtain ⟨a15, rfl, m15⟩ := tr_int (hc 15 _ _ rfl rfl)
  obtain ⟨a16, rfl, m16⟩ := tr_int (hc 16 _ _ rfl rfl)
  exact ⟨⟨a0, a1, a2, a3, ⟨d4, c4⟩, l4, ⟨d5, c5⟩, l5, ⟨d6, c6⟩, l6, a7, a8, a9, a10, a11, a12, a13, ⟨d14, c14⟩, l14, a15, a16⟩, rfl, ⟨h4, h5, h6, h14⟩, ⟨w4, w5, w6, w14, m2, m3, m7, m8, m9, m10, m11, m12, m13, m15, m16⟩⟩
theorem tr_rcs (h : TR enc Tryz.prog W 28 cs) : ∃ v l, cs = [v] ∧ RoF (below W) W.heap v 17 (rws RcV.row l) ∧ ∀ c ∈ l, c.ok (below W) W.heap ∧ c.wf :=
 h.slice Tryz.underlying28 (sz := 17) (by kernel_rfl) (by decide) (fun a => ⟨rfl, fun ha u hu => by
  simp only [RcV.row, List.mem_cons, List.not_mem_nil, or_false] at hu
  rcases hu with rfl | rfl | rfl | rfl | rfl | rfl | rfl | rfl | rfl | rfl | rfl | rfl | rfl | rfl | rfl | rfl | rfl
  all_goals rfl⟩) (fun _ h => tr_rc h)
theorem tr_un (h : TR enc Tryz.prog W 63 cs) : ∃ u : Un, cs = u.row ∧ i64 u.n ∧ i64 u.d := by
 obtain ⟨f, x, h⟩ := h
 obtain ⟨h1, h2⟩ := unitF.at' _ _ _ _ _ _ _ _ h
 obtain ⟨u, e, hu⟩ := unit_row h1 h2
 exact ⟨u, e, hu⟩
theorem ones_un (u : Un) : ∀ c ∈ u.row, c.oneCell' = true := by simp [Un.row, Value.oneCell']
theorem tr_uns (h : TR enc Tryz.prog W 22 cs) : ∃ v l, cs = [v] ∧ RoF (below W) W.heap v 8 (rowsU l) ∧ ∀ u ∈ l, i64 u.n ∧ i64 u.d :=
 h.slice Tryz.underlying22 (sz := 8) (by kernel_rfl) (by decide) (fun a => ⟨rfl, fun _ => ones_un a⟩) (fun _ h => tr_un h)
theorem tr_src (h : TR enc Tryz.prog W 31 cs) : ∃ vU vI vP vM vO vF vR vS, ∃ s : SrcV, cs = [vU, vI, vP, vM, vO, vF, vR, vS] ∧ Top W.heap vU vI vP vM vO vF vR vS s ∧ s.wf := by
 obtain ⟨hl, hc⟩ := h.ones Tryz.underlying31 (n := 8) (by kernel_rfl) (by kernel_rfl)
 match cs, hl with
 | [a0, a1, a2, a3, a4, a5, a6, a7], _ =>
  obtain ⟨a0, l0, e0, h0, w0⟩ := tr_uns (hc 0 _ _ rfl rfl)
  cases e0
  obtain ⟨a1, l1, e1, h1, w1⟩ := tr_its (hc 1 _ _ rfl rfl)
  cases e1
  obtain ⟨a2, l2, e2, h2⟩ := tr_strs (hc 2 _ _ rfl rfl)
  cases e2
  obtain ⟨a3, l3, e3, h3, w3⟩ := tr_mcs (hc 3 _ _ rfl rfl)
  cases e3
  obtain ⟨a4, l4, e4, h4, w4⟩ := tr_ops (hc 4 _ _ rfl rfl)
  cases e4
  obtain ⟨a5, l5, e5, h5, w5⟩ := tr_fbs (hc 5 _ _ rfl rfl)
  cases e5
  obtain ⟨a6, l6, e6, h6, w6⟩ := tr_rcs (hc 6 _ _ rfl rfl)
  cases e6
  obtain ⟨a7, l7, e7, h7, w7⟩ := tr_sws (hc 7 _ _ rfl rfl)
  cases e7
  exact ⟨a0, a1, a2, a3, a4, a5, a6, a7, ⟨l0, l1, l2, l3, l4, l5, l6, l7⟩, rfl, ⟨h0, h1, h2, h3, h4, h5, h6, h7, ⟨w4, fun o ho => (w5 o ho).1, fun o ho => (w6 o ho).1⟩⟩, ⟨w0, w1, w3, fun o ho => (w5 o ho).2, fun o ho => (w6 o ho).2, w7⟩⟩
variable {b0 : Nat} {rr : Reach} {d : DataW H} {ps : List MemPlace}
theorem open_src (hval : Value.okWide Tryz.prog W rr b0 31 v) (hd : DataW.Trod enc Tryz.prog W 0 (fun _ => true) true 31 v d ps) : ∃ vU vI vP vM vO vF vR vS, ∃ s : SrcV, v = srcV vU vI vP vM vO vF vR vS ∧ Top W.heap vU vI vP vM vO vF vR vS s ∧ s.wf := by
 obtain ⟨cs, rfl, _⟩ := okWide_struct Tryz.underlying31 hval
 obtain ⟨vU, vI, vP, vM, vO, vF, vR, vS, s, e, h1, h2⟩ := tr_src (TR.of hd)
 refine ⟨vU, vI, vP, vM, vO, vF, vR, vS, s, ?_, h1, h2⟩
 unfold srcV
 rw [← e]; simp [Value.cells]
end
end Go.Proofs.YtdcdejhobblbpaaGreatDoor
