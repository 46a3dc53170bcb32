/- Texts of this seat, joined: Package units: Convert. The statements about layer 9: few, same, resolved. The statements about layer 9: the chapter's exa -/
import Derived.Test.YtdcdejhobblbpaaGreatDoorJoinD
import Derived.Test.YtdcdejhobblbpaaGreatDoorCards
import Derived.Test.YtdcdejhobblbpaaGreatDoorTie
import Derived.WalkKit
import Derived.ProofKit
import Derived.OpenShut
import Derived.Deep.DeepHandedRow
import Derived.Lib.LaidTab
import Derived.WideShapes
import Derived.ChangeArms
import Derived.RowKit
set_option linter.unusedVariables false
set_option linter.unusedSimpArgs false
namespace Go.Proofs.YtdcdejhobblbpaaGreatDoor
open Go Go.Fw Go.NatM Go.RatM
set_option maxRecDepth 100000
set_option maxHeartbeats 64000000

theorem convU_bad {l : List Un} {a b : Int} {r : Rt} (h : checkU l ≠ 0) : convU l a b r = (zr, checkU l) := if_pos h
theorem convU_out {l : List Un} {a b : Int} {r : Rt} (h : checkU l = 0) (ho : a < 0 ∨ (l.length : Int) ≤ a ∨ b < 0 ∨ (l.length : Int) ≤ b) : convU l a b r = (zr, 90) := by
 unfold convU
 rw [if_neg (fun e => e h)]
 split
 ·rename_i u v hu hv
  have h1 := (List.getElem?_eq_some_iff.1 hu).1
  have h2 := (List.getElem?_eq_some_iff.1 hv).1
  exact if_pos (by omega)
 ·rfl
theorem convU_in {l : List Un} {i j : Nat} {r : Rt} (h : checkU l = 0) (hi : i < l.length) (hj : j < l.length) : convU l i j r =
  if l[i].base ≠ l[j].base then (zr, 90) else if (mulR r l[i].scale).2 ≠ 0 then (zr, (mulR r l[i].scale).2) else divR (mulR r l[i].scale).1 l[j].scale := by
 unfold convU
 rw [if_neg (fun e => e h), Int.toNat_natCast, Int.toNat_natCast, List.getElem?_eq_getElem hi, List.getElem?_eq_getElem hj]
 dsimp only
 by_cases hb : l[i].base ≠ l[j].base
 ·rw [if_pos (.inr (.inr hb)), if_pos hb]
  rfl
 ·rw [if_neg (by omega), if_neg hb]
  rfl
theorem convert_fn {h : Array Obj} (l : List Un) (hi : UnOk l) {v : Value} (hv : Ro h v 8 (rowsU l)) (a b : Int) (r : Rt) (hT : TabH h) : FnV Tryz.prog 20 #[v, .int .i64 a, .int .i64 b, r.v] h fun y h' => y = rev (convU l a b r) ∧ Keeps h.size h h' := by
 have hl := rowsU_len l
 have hm := hv.len
 obtain ⟨y, hy⟩ : ∃ y, y = convU l a b r := ⟨_, rfl⟩
 rw [← hy]
 refine Fn.ofG (envL [v]) 1 [.buf 0, .v (.int .i64 a), .v (.int .i64 b), .agg [.v (.bool r.neg), .v (.string r.n), .v (.string r.d)]] [(0, .ro (8) (rowsU l))] (fun k => k < _) Tryz.func20 (by kernel_rfl) rfl Tryz.ntmps20 rfl (fun _ hk => hk) (Sat.ros (vs := [v]) (l := [(8, rowsU l)]) ⟨hv, trivial⟩) fun w0 cs => ?_
 conv => whnf
 refine gS ?_
 conv => whnf
 by_cases hc : checkU l = 0
 ·refine RunsS.callV (fun Ez Hz Az Sz K => uCheck_fn l hi (Sz.ro (b := 0) rfl) (hT.keeps ⟨K.size, K.same⟩)) ?_
  conv => whnf
  rw [hc]
  try dsimp only
  try refine gS ?_
  conv => whnf
  repeat ((first | refine oM ?_ | refine oL ?_ | refine oR ?_); (try intro _); conv => whnf)
  by_cases ho : a < 0 ∨ (l.length : Int) ≤ a ∨ b < 0 ∨ (l.length : Int) ≤ b
  ·rw [convU_out hc ho] at hy
   subst hy
   refine RunsS.held tab (.fl 0 (.fl 1 (.fl 2 (.fl 3 (.fl 4 (.fl 5 (.fl 6 (.fl 7 (.fl 8 (.fl 9 (.fl 10 (.fl 11 (.fl 12 (.fl 13 (.fl 14 (.fl 15 (.fl 16 (.fl 17 (.fl 18 (.fl 19 (.fl 20 (.fl 21 (.fl 22 (.fl 23 (.fl 24 (.fl 25 (.fl 26 (.fl 27 (.fl 28 (.fl 29 (.fl 30 .done))))))))))))))))))))))))))))))) (by kernel_rfl) ?_
   conv => whnf
   try refine gR ?_
   conv => whnf
   conv => whnf
   by_cases o1 : a < 0
   ·try refine gR ?_
    conv => whnf
    repeat ((first | refine oM ?_ | refine oL ?_ | refine oR ?_ | refine oB ?_); (try intro _); conv => whnf)
    try refine gS ?_
    conv => whnf
    refine RunsS.retU (UnwS.ret tab Tryz.func20 rfl fun Ez Hz Az Sz K => ⟨_, rfl, rfl, K.keeps⟩)
   by_cases o2 : (l.length : Int) ≤ a
   ·try refine gR ?_
    conv => whnf
    repeat ((first | refine oM ?_ | refine oL ?_ | refine oR ?_ | refine oB ?_); (try intro _); conv => whnf)
    try refine gS ?_
    conv => whnf
    refine RunsS.retU (UnwS.ret tab Tryz.func20 rfl fun Ez Hz Az Sz K => ⟨_, rfl, rfl, K.keeps⟩)
   by_cases o3 : b < 0
   ·try refine gR ?_
    conv => whnf
    repeat ((first | refine oM ?_ | refine oL ?_ | refine oR ?_ | refine oB ?_); (try intro _); conv => whnf)
    try refine gS ?_
    conv => whnf
    refine RunsS.retU (UnwS.ret tab Tryz.func20 rfl fun Ez Hz Az Sz K => ⟨_, rfl, rfl, K.keeps⟩)
   ·try refine gR ?_
    conv => whnf
    repeat ((first | refine oM ?_ | refine oL ?_ | refine oR ?_ | refine oB ?_); (try intro _); conv => whnf)
    try refine gS ?_
    conv => whnf
    refine RunsS.retU (UnwS.ret tab Tryz.func20 rfl fun Ez Hz Az Sz K => ⟨_, rfl, rfl, K.keeps⟩)
  ·obtain ⟨i, rfl⟩ : ∃ i : Nat, a = i := ⟨a.toNat, by omega⟩
   obtain ⟨j, rfl⟩ : ∃ j : Nat, b = j := ⟨b.toNat, by omega⟩
   have i1 : i < l.length := by omega
   have j1 : j < l.length := by omega
   rw [convU_in hc i1 j1] at hy
   refine RunsS.held tab (.fl 0 (.fl 1 (.fl 2 (.fl 3 (.fl 4 (.fl 5 (.fl 6 (.fl 7 (.fl 8 (.fl 9 (.fl 10 (.fl 11 (.fl 12 (.fl 13 (.fl 14 (.fl 15 (.fl 16 (.fl 17 (.fl 18 (.fl 19 (.fl 20 (.fl 21 (.fl 22 (.fl 23 (.fl 24 (.fl 25 (.fl 26 (.fl 27 (.fl 28 (.fl 29 (.fl 30 .done))))))))))))))))))))))))))))))) (by kernel_rfl) ?_
   conv => whnf
   try refine gR ?_
   conv => whnf
   repeat ((first | refine oM ?_ | refine oL ?_ | refine oR ?_ | refine oB ?_); (try intro _); conv => whnf)
   conv => whnf
   refine ⟨_, rowsU_get i1, ?_⟩
   conv => whnf
   try (refine oN ?_; conv => whnf)
   conv => whnf
   conv => whnf
   refine ⟨_, rowsU_get j1, ?_⟩
   conv => whnf
   conv => whnf
   conv => whnf
   refine ⟨fun hb => ?_, fun hb => ?_⟩ <;> conv => whnf
   ·try refine gR ?_
    conv => whnf
    try refine gS ?_
    conv => whnf
    refine RunsS.held tab (.fl 0 (.fl 1 (.fl 2 (.fl 3 (.fl 4 (.fl 5 (.e1 6 [] (.fl 7 (.fl 8 (.fl 9 (.e1 10 [] (.fl 11 .done)))))))))))) (by kernel_rfl) ?_
    conv => whnf
    try refine gR ?_
    conv => whnf
    repeat ((first | refine oM ?_ | refine oL ?_ | refine oR ?_ | refine oB ?_); (try intro _); conv => whnf)
    conv => whnf
    refine ⟨_, rowsU_get i1, ?_⟩
    conv => whnf
    try (refine oN ?_; conv => whnf)
    conv => whnf
    conv => whnf
    refine EffR.callV (fun Ez Hz Az Sz K => qMul_fn r l[i].scale (hT.keeps ⟨K.size, K.same⟩)) (by (conv => whnf); (repeat (refine And.intro (by (conv => whnf); first | rfl | exact trivial) ?_; conv => whnf)); exact trivial) ?_
    conv => whnf
    try refine gR ?_
    conv => whnf
    repeat ((first | refine oM ?_ | refine oL ?_ | refine oR ?_ | refine oB ?_); (try intro _); conv => whnf)
    try refine gS ?_
    conv => whnf
    rw [if_neg (fun e => e hb)] at hy
    refine ⟨fun hm => ?_, fun hm => ?_⟩ <;> conv => whnf
    ·try refine gR ?_
     conv => whnf
     try refine gS ?_
     conv => whnf
     rw [if_neg (fun e => e hm)] at hy
     refine RunsS.held tab (.fl 0 (.fl 1 (.fl 2 (.fl 3 (.fl 4 (.fl 5 (.e1 6 [] (.fl 7 (.fl 8 (.e1 9 [] (.fl 10 .done))))))))))) (by kernel_rfl) ?_
     conv => whnf
     try refine gR ?_
     conv => whnf
     repeat ((first | refine oM ?_ | refine oL ?_ | refine oR ?_ | refine oB ?_); (try intro _); conv => whnf)
     conv => whnf
     refine ⟨_, rowsU_get j1, ?_⟩
     conv => whnf
     try (refine oN ?_; conv => whnf)
     conv => whnf
     conv => whnf
     refine EffR.callV (fun Ez Hz Az Sz K => qDiv_fn (mulR r l[i].scale).1 l[j].scale (hT.keeps ⟨K.size, K.same⟩)) (by (conv => whnf); (repeat (refine And.intro (by (conv => whnf); first | rfl | exact trivial) ?_; conv => whnf)); exact trivial) ?_
     conv => whnf
     try refine gR ?_
     conv => whnf
     repeat ((first | refine oM ?_ | refine oL ?_ | refine oR ?_ | refine oB ?_); (try intro _); conv => whnf)
     try refine gS ?_
     conv => whnf
     subst hy
     refine RunsS.retU (UnwS.ret tab Tryz.func20 rfl fun Ez Hz Az Sz K => ⟨_, rfl, rfl, K.keeps⟩)
    ·try refine gR ?_
     conv => whnf
     try refine gS ?_
     conv => whnf
     rw [if_pos hm] at hy
     subst hy
     refine RunsS.retU (UnwS.ret tab Tryz.func20 rfl fun Ez Hz Az Sz K => ⟨_, rfl, rfl, K.keeps⟩)
   ·try refine gR ?_
    conv => whnf
    try refine gS ?_
    conv => whnf
    rw [if_pos hb] at hy
    subst hy
    refine RunsS.retU (UnwS.ret tab Tryz.func20 rfl fun Ez Hz Az Sz K => ⟨_, rfl, rfl, K.keeps⟩)
 ·rw [convU_bad hc] at hy
  subst hy
  refine RunsS.callV (fun Ez Hz Az Sz K => uCheck_fn l hi (Sz.ro (b := 0) rfl) (hT.keeps ⟨K.size, K.same⟩)) ?_
  conv => whnf
  try refine gS ?_
  conv => whnf
  repeat ((first | refine oM ?_ | refine oL ?_ | refine oR ?_); (try intro _); conv => whnf)
  refine RunsS.retU (UnwS.ret tab Tryz.func20 rfl fun Ez Hz Az Sz K => ⟨_, rfl, rfl, K.keeps⟩)

abbrev FewS (a : Rt) : Prop := (a.n.size : Int) ≤ 40 ∧ (a.d.size : Int) ≤ 40
def FewU (l : List Un) : Prop := (∀ u ∈ l, FewS u.scale) ∧ l.length ≤ 8
instance (l : List Un) : Decidable (FewU l) := by unfold FewU; infer_instance

abbrev rw1 (n : Int) : Rt := (newR n 1).1
instance decRtU : DecidableEq Go.RatM.Rt := fun a b => decidable_of_iff (a.neg = b.neg ∧ a.n = b.n ∧ a.d = b.d) ⟨fun h => by cases a; cases b; obtain ⟨rfl, rfl, rfl⟩ := h; rfl, fun h => by subst h; exact ⟨rfl, rfl, rfl⟩⟩
instance (l : List Un) : Decidable (UnOk l) := by unfold UnOk; infer_instance

theorem dec_t {p : Prop} {i : Decidable p} (h : p) : @decide p i = true := decide_eq_true h

theorem nodup_find {l : List Un} : (l.map Un.name).Nodup ↔ ∀ k (hk : k < l.length), findI l l[k].name = k := by
 constructor
 ·intro h k hk
  refine findI_some.2 ⟨hk, rfl, fun j hj e => ?_⟩
  have := (List.pairwise_iff_getElem.1 h) j k (by rw [List.length_map]; omega) (by rw [List.length_map]; omega) hj
  simp only [List.getElem_map] at this
  exact this e
 ·intro h
  refine List.pairwise_iff_getElem.2 fun i j hi hj hij e => ?_
  rw [List.length_map] at hi hj
  rw [List.getElem_map, List.getElem_map] at e
  have h1 := h i hi
  have h2 := h j hj
  rw [← e, h1] at h2
  omega
theorem findI_names : ∀ {x y : List Un} (nm : ByteArray), x.map Un.name = y.map Un.name → findI x nm = findI y nm := by
 have key : ∀ (x : List Un) (nm : ByteArray), findI x nm = match (x.map Un.name).findIdx? (fun s => decide (s = nm)) with | some k => (k : Int) | none => -1 := fun x nm => by
  unfold findI
  rw [List.findIdx?_map]
  rfl
 intro x y nm h
 rw [key, key, h]
theorem findI_take {l : List Un} {i : Nat} (nm : ByteArray) (hi : i ≤ l.length) : findI (l.take i) nm = if findI l nm < i then findI l nm else -1 := by
 by_cases h : findI l nm < 0
 ·have h1 := findI_neg h
  rw [findI_none.2 h1, findI_none.2 fun u hu => h1 u (List.mem_of_mem_take hu)]
  exact (if_pos (by omega)).symm
 ·obtain ⟨k, hk, hk1, hk2, hk3⟩ := findI_nonneg (l := l) (nm := nm) (by omega)
  rw [hk]
  by_cases hik : k < i
  ·rw [if_pos (by omega)]
   refine findI_some.2 ⟨by rw [List.length_take]; omega, by rw [List.getElem_take]; exact hk2, fun j hj => ?_⟩
   rw [List.getElem_take]
   exact hk3 j hj
  ·rw [if_neg (by omega)]
   refine findI_none.2 fun u hu e => ?_
   obtain ⟨j, hj, rfl⟩ := List.getElem_of_mem hu
   rw [List.length_take] at hj
   rw [List.getElem_take] at e
   exact hk3 j (by omega) e
theorem rfind_fn {h : Array Obj} (l : List Un) {v : Value} (hv : Ro h v 8 (rowsU l)) (s : ByteArray) : FnV Tryz.prog 68 #[v, .string s] h fun r h' => r = .int .i64 (findI l s) ∧ Keeps h.size h h' := by
 have hl := rowsU_len l
 have hm := hv.len
 obtain ⟨r, hr⟩ : ∃ r, r = findI l s := ⟨_, rfl⟩
 rw [← hr]
 refine Fn.ofG (envL [v]) 1 [.buf 0, .v (.string s)] [(0, .ro (8) (rowsU l))] (fun k => k < _) Tryz.func68 (by kernel_rfl) rfl Tryz.ntmps68 rfl (fun _ hk => hk) (Sat.ros (vs := [v]) (l := [(8, rowsU l)]) ⟨hv, trivial⟩) fun w0 cs => ?_
 conv => whnf
 refine gS ?_
 conv => whnf
 refine RunsS.subR [] (RunsS.loop (fun (k : Nat) => [(5, .v (.int .i64 k)), (0, .buf 0), (1, .v (.string s))]) (fun (k : Nat) => [(0, .ro 8 (rowsU l))]) 1 (fun (k : Nat) => k ≤ l.length ∧ ∀ j (hj : j < k) (hjl : j < l.length), l[j].name ≠ s) (fun (k : Nat) => l.length - k) ?round1 (0) ?J01) ?SS1 ?HH1
 case J01 => exact (⟨Nat.zero_le _, fun j hj => absurd hj (Nat.not_lt_zero _)⟩)
 case SS1 => repeat (first | exact trivial | refine ⟨by rfl, ?_⟩)
 case HH1 => repeat (first | exact trivial | refine ⟨by rfl, ?_⟩)
 rintro k hJ back
 try dsimp only at hJ back
 conv => whnf
 try dsimp only
 refine gS ?_
 conv => whnf
 refine ⟨fun hk => ?_, fun hk => ?_⟩ <;> conv => whnf
 ·have hk : k < l.length := by omega
  conv => whnf
  repeat ((first | refine oM ?_ | refine oL ?_ | refine oR ?_); (try intro _); conv => whnf)
  refine ⟨_, rowsU_get hk, ?_⟩
  conv => whnf
  refine ⟨fun hn => ?_, fun hn => ?_⟩ <;> conv => whnf
  ·conv => whnf
   have : r = k := by rw [hr]; exact findI_some.2 ⟨hk, hn, fun j hj => hJ.2 j hj (by omega)⟩
   rw [this]
   refine RunsS.retU (UnwS.ret tab Tryz.func68 rfl fun Ez Hz Az Sz K => ⟨_, rfl, rfl, K.keeps⟩)
  ·conv => whnf
   repeat ((first | refine oM ?_ | refine oL ?_ | refine oR ?_); (try intro _); conv => whnf)
   refine RunsS.subR [] (back (k + 1) ?BJ2 ?BM2) ?SS2 ?HH2
   case BJ2 => exact (⟨hk, fun j hj hjl => (Nat.lt_succ_iff_lt_or_eq.1 hj).elim (fun hj => hJ.2 j hj hjl) (fun e => by subst e; exact hn)⟩)
   case BM2 => (try dsimp only); omega
   case SS2 => repeat (first | exact trivial | refine ⟨by rfl, ?_⟩)
   case HH2 => repeat (first | exact trivial | refine ⟨by rfl, ?_⟩)
 ·conv => whnf
  have : r = -1 := by
   rw [hr, findI_none]
   intro w hw
   obtain ⟨j, hj, rfl⟩ := List.getElem_of_mem hw
   exact hJ.2 j (by omega) hj
  rw [this]
  refine RunsS.retU (UnwS.ret tab Tryz.func68 rfl fun Ez Hz Az Sz K => ⟨_, rfl, rfl, K.keeps⟩)
def FitU (u : Un) : Prop := if u.of_ = NatM.mt then u.n = 0 ∧ u.d = 0 else btw u.n ∧ btw u.d
instance (u : Un) : Decidable (FitU u) := by unfold FitU; infer_instance
theorem rfits_fn {h : Array Obj} (u : Un) : FnV Tryz.prog 69 #[u.v] h fun r h' => r = .bool (decide (FitU u)) ∧ Keeps h.size h h' := by
 obtain ⟨r, hr⟩ : ∃ r, r = decide (FitU u) := ⟨_, rfl⟩
 rw [← hr]
 refine Fn.ofS (args := [u.v]) Tryz.func69 (by kernel_rfl) rfl Tryz.ntmps69 rfl fun w0 cs => ?_
 conv => whnf
 refine gS ?_
 conv => whnf
 refine ⟨fun h0 => ?_, fun h0 => ?_⟩ <;> conv => whnf
 ·conv => whnf
  have e : FitU u ↔ (u.n = 0 ∧ u.d = 0) := by unfold FitU; rw [if_pos h0]
  by_cases h1 : u.n = 0
  ·by_cases h2 : u.d = 0
   ·conv => whnf
    repeat ((first | refine oM ?_ | refine oL ?_ | refine oR ?_); (try intro _); conv => whnf)
    have : r = true := by rw [hr]; exact decide_eq_true (e.2 ⟨h1, h2⟩)
    rw [this]
    refine RunsS.retU (UnwS.ret tab Tryz.func69 rfl fun Ez Hz Az Sz K => ⟨_, rfl, ?_, K.keeps⟩)
    exact congrArg Value.bool (decide_eq_true h2)
   ·conv => whnf
    repeat ((first | refine oM ?_ | refine oL ?_ | refine oR ?_); (try intro _); conv => whnf)
    have : r = false := by rw [hr]; exact decide_eq_false (fun h => h2 (e.1 h).2)
    rw [this]
    refine RunsS.retU (UnwS.ret tab Tryz.func69 rfl fun Ez Hz Az Sz K => ⟨_, rfl, ?_, K.keeps⟩)
    exact congrArg Value.bool (decide_eq_false h2)
  ·conv => whnf
   repeat ((first | refine oM ?_ | refine oL ?_ | refine oR ?_); (try intro _); conv => whnf)
   have : r = false := by rw [hr]; exact decide_eq_false (fun h => h1 (e.1 h).1)
   rw [this]
   refine RunsS.retU (UnwS.ret tab Tryz.func69 rfl fun Ez Hz Az Sz K => ⟨_, rfl, rfl, K.keeps⟩)
 ·conv => whnf
  have e : FitU u ↔ (btw u.n ∧ btw u.d) := by unfold FitU; rw [if_neg h0]
  by_cases h1 : btw u.n ∧ btw u.d
  ·have : r = true := by rw [hr]; exact decide_eq_true (e.2 h1)
   rw [this]
   conv => whnf
   repeat ((first | refine oM ?_ | refine oL ?_ | refine oR ?_); (try intro _); conv => whnf)
   refine RunsS.retU (UnwS.ret tab Tryz.func69 rfl fun Ez Hz Az Sz K => ⟨_, rfl, ?_, K.keeps⟩)
   first | rfl | exact congrArg Value.bool (decide_eq_true (by omega))
  ·have : r = false := by rw [hr]; exact decide_eq_false (fun h => h1 (e.1 h))
   rw [this]
   by_cases k1 : 1 ≤ u.n
   ·by_cases k2 : u.n ≤ 1000000
    ·by_cases k3 : 1 ≤ u.d
     ·conv => whnf
      repeat ((first | refine oM ?_ | refine oL ?_ | refine oR ?_); (try intro _); conv => whnf)
      refine RunsS.retU (UnwS.ret tab Tryz.func69 rfl fun Ez Hz Az Sz K => ⟨_, rfl, ?_, K.keeps⟩)
      first | rfl | exact congrArg Value.bool (decide_eq_false (by omega))
     ·conv => whnf
      repeat ((first | refine oM ?_ | refine oL ?_ | refine oR ?_); (try intro _); conv => whnf)
      refine RunsS.retU (UnwS.ret tab Tryz.func69 rfl fun Ez Hz Az Sz K => ⟨_, rfl, rfl, K.keeps⟩)
    ·conv => whnf
     repeat ((first | refine oM ?_ | refine oL ?_ | refine oR ?_); (try intro _); conv => whnf)
     refine RunsS.retU (UnwS.ret tab Tryz.func69 rfl fun Ez Hz Az Sz K => ⟨_, rfl, rfl, K.keeps⟩)
   ·conv => whnf
    repeat ((first | refine oM ?_ | refine oL ?_ | refine oR ?_); (try intro _); conv => whnf)
    refine RunsS.retU (UnwS.ret tab Tryz.func69 rfl fun Ez Hz Az Sz K => ⟨_, rfl, rfl, K.keeps⟩)
theorem rResolve_fn (l : List Un) (hl : l.length ≤ 9223372036854775807) (hi : UnOk l) :
  FnS Tryz.prog 41 1 [.buf 0] [(0, .ro 8 (rowsU l))] (fun _ : Unit => True) (fun _ => resO (resolveU l)) := by
 have hlr := rowsU_len l
 obtain ⟨r, hr⟩ : ∃ r, r = resolveU l := ⟨_, rfl⟩
 rw [← hr]
 unfold resolveU at hr
 refine FnS.of Tryz.func41 (by kernel_rfl) rfl Tryz.ntmps41 rfl fun E0 F h w0 cs => ?_
 conv => whnf
 refine gS ?_
 conv => whnf
 refine ⟨fun h1 => ?_, fun h1 => ?_⟩ <;> conv => whnf
 ·rw [if_pos (by omega)] at hr
  subst hr
  conv => whnf
  try refine RunsS.retU ?_
  try refine RunsS.finU ?_
  exact UnwS.ret tab Tryz.func41 rfl (EndS.mk (()) (trivial) [] (by repeat (first | exact trivial | refine ⟨by rfl, ?_⟩)) rfl rfl (okRet rfl rfl))
 ·rw [if_neg (by omega)] at hr
  have h1 : l.length ≤ 32 := by omega
  conv => whnf
  refine RunsS.subR [] (RunsS.loop (fun (k : Nat) => [(4, .v (.int .i64 k)), (0, .buf 0)]) (fun (k : Nat) => [(0, .ro 8 (rowsU l))]) 1 (fun (k : Nat) => k ≤ l.length ∧ ∀ j (hj : j < k) (hjl : j < l.length), findI l l[j].name = j) (fun (k : Nat) => l.length - k) ?round3 (0) ?J03) ?SS3 ?HH3
  case J03 => exact (⟨Nat.zero_le _, fun j hj => absurd hj (Nat.not_lt_zero _)⟩)
  case SS3 => repeat (first | exact trivial | refine ⟨by rfl, ?_⟩)
  case HH3 => repeat (first | exact trivial | refine ⟨by rfl, ?_⟩)
  rintro k hJ back
  conv => whnf
  refine gS ?_
  conv => whnf
  refine ⟨fun hk => ?_, fun hk => ?_⟩ <;> conv => whnf
  ·have hk : k < l.length := by omega
   conv => whnf
   repeat ((first | refine oM ?_ | refine oL ?_ | refine oR ?_); (try intro _); conv => whnf)
   refine ⟨_, rowsU_get hk, ?_⟩
   conv => whnf
   refine RunsS.callV (fun Ez Hz Az Sz K => rfind_fn l (Sz.ro (b := 0) rfl) l[k].name) ?_
   conv => whnf
   try refine gS ?_
   conv => whnf
   refine ⟨fun hn => ?_, fun hn => ?_⟩ <;> conv => whnf
   ·conv => whnf
    repeat ((first | refine oM ?_ | refine oL ?_ | refine oR ?_); (try intro _); conv => whnf)
    refine RunsS.subR [] (back (k + 1) ?BJ4 ?BM4) ?SS4 ?HH4
    case BJ4 => exact (⟨hk, fun j hj hjl => (Nat.lt_succ_iff_lt_or_eq.1 hj).elim (fun hj => hJ.2 j hj hjl) (fun e => by subst e; exact hn)⟩)
    case BM4 => (try dsimp only); omega
    case SS4 => repeat (first | exact trivial | refine ⟨by rfl, ?_⟩)
    case HH4 => repeat (first | exact trivial | refine ⟨by rfl, ?_⟩)
   ·conv => whnf
    rw [if_pos (fun h => hn (nodup_find.1 h k hk))] at hr
    subst hr
    try refine RunsS.retU ?_
    try refine RunsS.finU ?_
    exact UnwS.ret tab Tryz.func41 rfl (EndS.mk (()) (trivial) [] (by repeat (first | exact trivial | refine ⟨by rfl, ?_⟩)) rfl rfl (okRet rfl rfl))
  ·have hn : (l.map Un.name).Nodup := nodup_find.2 fun j hj => hJ.2 j (by omega) hj
   rw [if_neg (fun h => h hn)] at hr
   clear hJ back
   conv => whnf
   refine RunsS.subR [] (RunsS.loop (fun (⟨k, x⟩ : Nat × List Un) => [(6, .v (.int .i64 k)), (5, .buf 1), (0, .buf 0)]) (fun (⟨k, x⟩ : Nat × List Un) => [ownU 1 x, (0, .ro 8 (rowsU l))]) 2 (fun (⟨k, x⟩ : Nat × List Un) => k ≤ l.length ∧ x.length = k ∧ scOk x ∧ r = resU (l.drop k) x ∧ x.map Un.name = (l.take k).map Un.name) (fun (⟨k, x⟩ : Nat × List Un) => l.length - k) ?round5 ((0, [])) ?J05) ?SS5 ?HH5
   case J05 => exact (⟨Nat.zero_le _, rfl, scOk.nil, hr, by simp⟩)
   case SS5 => repeat (first | exact trivial | refine ⟨by rfl, ?_⟩)
   case HH5 => repeat (first | exact trivial | refine ⟨by rfl, ?_⟩)
   rintro ⟨k, x⟩ hJ back
   try dsimp only at hJ back
   conv => whnf
   try dsimp only
   refine gS ?_
   conv => whnf
   refine ⟨fun hk => ?_, fun hk => ?_⟩ <;> conv => whnf
   ·have hk : k < l.length := by omega
    have hd : l.drop k = l[k] :: l.drop (k + 1) := List.drop_eq_getElem_cons hk
    obtain ⟨hJ1, hJ2, hJ3, hJ4, hJ5⟩ := hJ
    rw [hd] at hJ4
    simp only [resU] at hJ4
    have hxr := rowsU_len x
    have nx : ∀ v : Un, v.name = l[k].name → (x ++ [v]).map Un.name = (l.take (k + 1)).map Un.name := fun v hv => by
     rw [List.map_append, hJ5, List.take_add_one, List.getElem?_eq_getElem hk, List.map_append]
     simp [hv]
    conv => whnf
    repeat ((first | refine oM ?_ | refine oL ?_ | refine oR ?_); (try intro _); conv => whnf)
    refine ⟨_, rowsU_get hk, ?_⟩
    conv => whnf
    try (refine oN ?_; conv => whnf)
    by_cases hf : FitU l[k]
    ·refine RunsS.callV (fun Ez Hz Az Sz K => rfits_fn l[k]) ?_
     conv => whnf
     rw [decide_eq_true hf]
     try refine gS ?_
     conv => whnf
     refine RunsS.callV (fun Ez Hz Az Sz K => rqNew_fn 1 1 (by omega) (by omega)) ?_
     conv => whnf
     rw [newR_one]
     try refine gS ?_
     conv => whnf
     refine ⟨fun e0 => ?_, fun e0 => ?_⟩ <;> conv => whnf
     ·have st : stepU x l[k] = .inl (l[k].re k one1) := by
       unfold stepU
       unfold FitU at hf
       rw [if_pos e0] at hf
       rw [if_pos e0, hJ2, if_pos hf]
      rw [st] at hJ4
      conv => whnf
      refine And.intro (appOb (by rw [rowsU_len]; omega)) ?_
      conv => whnf
      conv => whnf
      repeat ((first | refine oM ?_ | refine oL ?_ | refine oR ?_); (try intro _); conv => whnf)
      refine RunsS.rowsEq (5) (rowsU_app x (l[k].re k one1)) ?_
      conv => whnf
      refine RunsS.subR [(1, 5)] (back ((k + 1, x ++ [(l[k].re k one1)])) ?BJ6 ?BM6) ?SS6 ?HH6
      case BJ6 => exact (⟨hk, by rw [List.length_append, hJ2]; rfl, hJ3.step (by omega) st, hJ4, nx _ rfl⟩)
      case BM6 => (try dsimp only); omega
      case SS6 => repeat (first | exact trivial | refine ⟨by rfl, ?_⟩)
      case HH6 => repeat (first | exact trivial | refine ⟨by rfl, ?_⟩)
     ·have hb : btw l[k].n ∧ btw l[k].d := by
       unfold FitU at hf
       rw [if_neg e0] at hf
       exact hf
      have hfx : findI x l[k].of_ = if findI l l[k].of_ < k then findI l l[k].of_ else -1 := by
       rw [findI_names _ hJ5, findI_take _ hJ1]
      conv => whnf
      refine RunsS.callV (fun Ez Hz Az Sz K => rfind_fn l (Sz.ro (b := 0) rfl) l[k].of_) ?_
      conv => whnf
      try refine gS ?_
      conv => whnf
      by_cases hn1 : findI l l[k].of_ < 0
      ·have st : stepU x l[k] = .inr 110 := by
        unfold stepU
        rw [if_neg e0, if_pos hb]
        split
        ·rw [if_pos (by rw [hfx]; split <;> omega)]
        ·rfl
       rw [st] at hJ4
       subst hJ4
       conv => whnf
       repeat ((first | refine oM ?_ | refine oL ?_ | refine oR ?_); (try intro _); conv => whnf)
       try refine RunsS.retU ?_
       try refine RunsS.finU ?_
       exact UnwS.ret tab Tryz.func41 rfl (EndS.mk (()) (trivial) [] (by repeat (first | exact trivial | refine ⟨by rfl, ?_⟩)) rfl rfl (okRet rfl rfl))
      by_cases hn2 : (k : Int) ≤ findI l l[k].of_
      ·have st : stepU x l[k] = .inr 110 := by
        unfold stepU
        rw [if_neg e0, if_pos hb]
        split
        ·rw [if_pos (by rw [hfx]; split <;> omega)]
        ·rfl
       rw [st] at hJ4
       subst hJ4
       conv => whnf
       repeat ((first | refine oM ?_ | refine oL ?_ | refine oR ?_); (try intro _); conv => whnf)
       try refine RunsS.retU ?_
       try refine RunsS.finU ?_
       exact UnwS.ret tab Tryz.func41 rfl (EndS.mk (()) (trivial) [] (by repeat (first | exact trivial | refine ⟨by rfl, ?_⟩)) rfl rfl (okRet rfl rfl))
      rw [if_pos (by omega)] at hfx
      obtain ⟨j, hj⟩ : ∃ j : Nat, findI l l[k].of_ = j := ⟨(findI l l[k].of_).toNat, by omega⟩
      rw [hj] at hfx hn1 hn2 ⊢
      have hj1 : j < x.length := by omega
      have st : stepU x l[k] = .inl (l[k].re x[j].base (mulR x[j].scale (newR l[k].n l[k].d).1).1) := by
       unfold stepU
       rw [if_neg e0, if_pos hb, hfx, Int.toNat_natCast, List.getElem?_eq_getElem hj1]
       exact if_neg (by omega)
      rw [st] at hJ4
      have hi' := hi l[k] (List.getElem_mem hk)
      conv => whnf
      repeat ((first | refine oM ?_ | refine oL ?_ | refine oR ?_); (try intro _); conv => whnf)
      refine RunsS.callV (fun Ez Hz Az Sz K => rqNew_fn l[k].n l[k].d hi'.1 hi'.2) ?_
      conv => whnf
      try refine gS ?_
      conv => whnf
      repeat ((first | refine oM ?_ | refine oL ?_ | refine oR ?_); (try intro _); conv => whnf)
      refine ⟨_, rowsU_get hj1, ?_⟩
      conv => whnf
      refine RunsS.held tab (.fl 0 (.fl 1 (.fl 2 (.fl 3 (.fl 4 (.fl 5 (.e1 6 [] (.fl 7 (.fl 8 (.fl 9 (.fl 10 (.e1 11 [] .done)))))))))))) (by kernel_rfl) ?_
      conv => whnf
      try refine gR ?_
      conv => whnf
      repeat ((first | refine oM ?_ | refine oL ?_ | refine oR ?_ | refine oB ?_); (try intro _); conv => whnf)
      conv => whnf
      refine ⟨_, rowsU_get hj1, ?_⟩
      conv => whnf
      try (refine oN ?_; conv => whnf)
      conv => whnf
      conv => whnf
      refine EffR.callV (fun Ez Hz Az Sz K => rqMul_fn x[j].scale (newR l[k].n l[k].d).1) (by (conv => whnf); (repeat (refine And.intro (by (conv => whnf); first | rfl | exact trivial) ?_; conv => whnf)); exact trivial) ?_
      conv => whnf
      try refine gR ?_
      conv => whnf
      repeat ((first | refine oM ?_ | refine oL ?_ | refine oR ?_ | refine oB ?_); (try intro _); conv => whnf)
      try refine gS ?_
      conv => whnf
      refine And.intro (appOb (by rw [rowsU_len]; omega)) ?_
      conv => whnf
      conv => whnf
      repeat ((first | refine oM ?_ | refine oL ?_ | refine oR ?_); (try intro _); conv => whnf)
      refine RunsS.rowsEq (6) (rowsU_app x (l[k].re x[j].base (mulR x[j].scale (newR l[k].n l[k].d).1).1)) ?_
      conv => whnf
      refine RunsS.subR [(1, 6)] (back ((k + 1, x ++ [l[k].re x[j].base (mulR x[j].scale (newR l[k].n l[k].d).1).1])) ?BJ7 ?BM7) ?SS7 ?HH7
      case BJ7 => exact (⟨hk, by rw [List.length_append, hJ2]; rfl, hJ3.step (by omega) st, hJ4, nx _ rfl⟩)
      case BM7 => (try dsimp only); omega
      case SS7 => repeat (first | exact trivial | refine ⟨by rfl, ?_⟩)
      case HH7 => repeat (first | exact trivial | refine ⟨by rfl, ?_⟩)
    ·have st : stepU x l[k] = .inr 90 := by
      unfold stepU
      unfold FitU at hf
      split
      ·rename_i e0
       rw [if_pos e0] at hf
       exact if_neg hf
      ·rename_i e0
       rw [if_neg e0] at hf
       exact if_neg hf
     rw [st] at hJ4
     subst hJ4
     refine RunsS.callV (fun Ez Hz Az Sz K => rfits_fn l[k]) ?_
     conv => whnf
     rw [decide_eq_false hf]
     try dsimp only
     try refine gS ?_
     conv => whnf
     try refine RunsS.retU ?_
     try refine RunsS.finU ?_
     exact UnwS.ret tab Tryz.func41 rfl (EndS.mk (()) (trivial) [] (by repeat (first | exact trivial | refine ⟨by rfl, ?_⟩)) rfl rfl (okRet rfl rfl))
   ·have hk : k = l.length := by omega
    have hJ4 := hJ.2.2.2.1
    rw [hk, List.drop_length] at hJ4
    have hJ4 : r = .inl x := hJ4
    conv => whnf
    rw [hJ4]
    try refine RunsS.retU ?_
    try refine RunsS.finU ?_
    exact UnwS.ret tab Tryz.func41 rfl (EndS.mk (()) (trivial) [(1, 1)] (by repeat (first | exact trivial | refine ⟨by rfl, ?_⟩)) rfl rfl (okRet rfl rfl))

theorem rresOk {l x : List Un} (hl : l.length ≤ 9223372036854775807) (hi : UnOk l) (hx : resolveU l = .inl x) :
  FnS Tryz.prog 41 1 [.buf 0] [(0, .ro 8 (rowsU l))] (fun _ : Unit => True) (fun _ => .ret (.tup [.buf 1, .v (.int .i64 0)]) 2 [ownU 1 x]) := by
 have := rResolve_fn l hl hi
 rw [hx] at this
 exact this
end Go.Proofs.YtdcdejhobblbpaaGreatDoor

namespace Go.SrcM
open Go Go.Fw Go.RatM

abbrev rws {α : Type} (f : α → List Value) (l : List α) : List (List Value) := l.map f
theorem rws_len {α : Type} (f : α → List Value) (l : List α) : (rws f l).length = l.length := by simp [rws]
theorem rws_get {α : Type} {f : α → List Value} {l : List α} {k : Nat} (hk : k < l.length) : (rws f l)[k]? = some (f l[k]) := by simp [rws, hk]
abbrev rwsB (l : List ByteArray) : List (List Value) := rws (fun s => [Value.string s]) l
theorem rwsB_len (l : List ByteArray) : (rwsB l).length = l.length := rws_len _ l
structure It where
 name : ByteArray
 unit : ByteArray
 mn : Int
 md : Int
 shelf : Int
 un : Int
def It.row (i : It) : List Value := [.string i.name, .string i.unit, .int .i64 i.mn, .int .i64 i.md, .int .i64 i.shelf, .int .i64 i.un]
structure Mc where
 name : ByteArray
 plant : ByteArray
 clean : Int
 pn : Int
def Mc.row (i : Mc) : List Value := [.string i.name, .string i.plant, .int .i64 i.clean, .int .i64 i.pn]
structure Cd where
 opt : ByteArray
 ch : ByteArray
 on : Int
 cn : Int
def Cd.row (i : Cd) : List Value := [.string i.opt, .string i.ch, .int .i64 i.on, .int .i64 i.cn]
structure Am where
 n : Int
 d : Int
 unit : ByteArray
 item : ByteArray
 back : Bool
 un : Int
 inn : Int
def Am.row (i : Am) : List Value := [.int .i64 i.n, .int .i64 i.d, .string i.unit, .string i.item, .bool i.back, .int .i64 i.un, .int .i64 i.inn]
structure Rn where
 mach : ByteArray
 slots : Int
 mn : Int
def Rn.row (i : Rn) : List Value := [.string i.mach, .int .i64 i.slots, .int .i64 i.mn]
structure Sw where
 a : ByteArray
 b : ByteArray
 an : Int
 bn : Int
def Sw.row (i : Sw) : List Value := [.string i.a, .string i.b, .int .i64 i.an, .int .i64 i.bn]
structure Hd where
 a : Option Addr
 c : Nat
abbrev Hd.v (h : Hd) (n : Nat) : Value := .slice h.a n h.c
structure OpV where
 name : ByteArray
 hd : Hd
 ch : List ByteArray
def OpV.row (i : OpV) : List Value := [.string i.name, .slice i.hd.a i.ch.length i.hd.c]
structure FbV where
 hd : Hd
 cs : List Cd
def FbV.row (i : FbV) : List Value := [.slice i.hd.a i.cs.length i.hd.c]
structure RcV where
 item : ByteArray
 plant : ByteArray
 fr : Int
 to : Int
 hc : Hd
 cs : List Cd
 hi : Hd
 inn : List Am
 ho : Hd
 out : List Am
 rwN : Int
 rwD : Int
 yN : Int
 yD : Int
 tN : Int
 tD : Int
 lead : Int
 hr : Hd
 runs : List Rn
 inum : Int
 pnum : Int
def RcV.row (r : RcV) : List Value := [.string r.item, .string r.plant, .int .i64 r.fr, .int .i64 r.to, .slice r.hc.a r.cs.length r.hc.c, .slice r.hi.a r.inn.length r.hi.c, .slice r.ho.a r.out.length r.ho.c, .int .i64 r.rwN, .int .i64 r.rwD, .int .i64 r.yN, .int .i64 r.yD, .int .i64 r.tN, .int .i64 r.tD, .int .i64 r.lead, .slice r.hr.a r.runs.length r.hr.c, .int .i64 r.inum, .int .i64 r.pnum]
structure SrcV where
 units : List Un
 items : List It
 plants : List ByteArray
 machines : List Mc
 options : List OpV
 forbids : List FbV
 recipes : List RcV
 swaps : List Sw
abbrev srcV (vU vI vP vM vO vF vR vS : Value) : Value := .agg #[vU, vI, vP, vM, vO, vF, vR, vS]

section
variable (G : Nat → Prop) (h : Array Obj)
def OpV.ok (o : OpV) : Prop := RoF G h (o.hd.v o.ch.length) 1 (rwsB o.ch)
def FbV.ok (o : FbV) : Prop := RoF G h (o.hd.v o.cs.length) 4 (rws Cd.row o.cs)
structure RcV.ok (r : RcV) : Prop where
 c : RoF G h (r.hc.v r.cs.length) 4 (rws Cd.row r.cs)
 i : RoF G h (r.hi.v r.inn.length) 7 (rws Am.row r.inn)
 o : RoF G h (r.ho.v r.out.length) 7 (rws Am.row r.out)
 rn : RoF G h (r.hr.v r.runs.length) 3 (rws Rn.row r.runs)
structure SrcV.sub (s : SrcV) : Prop where
 o : ∀ o ∈ s.options, o.ok G h
 f : ∀ o ∈ s.forbids, o.ok G h
 r : ∀ o ∈ s.recipes, o.ok G h
end
section
variable {G G' : Nat → Prop} {h h' : Array Obj}
theorem OpV.ok.up {o : OpV} (H : o.ok G h) (U : Up G h G' h') : o.ok G' h' := RoF.up U H
theorem FbV.ok.up {o : FbV} (H : o.ok G h) (U : Up G h G' h') : o.ok G' h' := RoF.up U H
theorem RcV.ok.up {o : RcV} (H : o.ok G h) (U : Up G h G' h') : o.ok G' h' := ⟨RoF.up U H.c, RoF.up U H.i, RoF.up U H.o, RoF.up U H.rn⟩
theorem SrcV.sub.up {s : SrcV} (H : s.sub G h) (U : Up G h G' h') : s.sub G' h' := ⟨fun o ho => (H.o o ho).up U, fun o ho => (H.f o ho).up U, fun o ho => (H.r o ho).up U⟩
theorem Up.kp {F : Nat → Prop} (K : Kp F h h') : Up F h (fun k => k < h'.size) h' := ⟨fun i hi => Nat.lt_of_lt_of_le (K.lt i hi) K.size, K.same⟩
theorem Up.below {F : Nat → Prop} (hG : ∀ i, G i → F i) (K : Kp F h h') : Up G h' (fun k => k < h'.size) h' := ⟨fun i hi => Nat.lt_of_lt_of_le (K.lt i (hG i hi)) K.size, fun _ _ => rfl⟩
structure Top (h : Array Obj) (vU vI vP vM vO vF vR vS : Value) (s : SrcV) : Prop where
 U : Ro h vU 8 (rowsU s.units)
 I : Ro h vI 6 (rws It.row s.items)
 P : Ro h vP 1 (rwsB s.plants)
 M : Ro h vM 4 (rws Mc.row s.machines)
 O : Ro h vO 2 (rws OpV.row s.options)
 F : Ro h vF 1 (rws FbV.row s.forbids)
 R : Ro h vR 17 (rws RcV.row s.recipes)
 S : Ro h vS 4 (rws Sw.row s.swaps)
 below : s.sub (fun k => k < h.size) h
theorem RcV.ok.tok (r : RcV) : TOk (fun F h => r.ok F h) := ⟨fun _ _ _ hs H => H.up ⟨hs, fun _ _ => rfl⟩, fun _ _ _ H K => H.up ⟨fun _ x => x, K.same⟩⟩
theorem RoF.tok (v : Value) (sz : Nat) (rows : List (List Value)) : TOk (fun F h => RoF F h v sz rows) := ⟨fun _ _ _ hs H => RoF.up ⟨hs, fun _ _ => rfl⟩ H, fun _ _ _ H K => RoF.up ⟨fun _ x => x, K.same⟩ H⟩
theorem SrcV.sub.tok (s : SrcV) : TOk (fun F h => s.sub F h) := ⟨fun _ _ _ hs H => H.up ⟨hs, fun _ _ => rfl⟩, fun _ _ _ H K => H.up ⟨fun _ x => x, K.same⟩⟩
end
abbrev i64 (n : Int) : Prop := -9223372036854775808 ≤ n ∧ n ≤ 9223372036854775807
def Cd.wf (c : Cd) : Prop := i64 c.on ∧ i64 c.cn
def Am.wf (a : Am) : Prop := i64 a.n ∧ i64 a.d ∧ i64 a.un ∧ i64 a.inn
def Rn.wf (r : Rn) : Prop := i64 r.slots ∧ i64 r.mn
def Sw.wf (r : Sw) : Prop := i64 r.an ∧ i64 r.bn
def It.wf (i : It) : Prop := i64 i.mn ∧ i64 i.md ∧ i64 i.shelf ∧ i64 i.un
def Mc.wf (i : Mc) : Prop := i64 i.clean ∧ i64 i.pn
structure RcV.wf (r : RcV) : Prop where
 c : ∀ c ∈ r.cs, c.wf
 i : ∀ c ∈ r.inn, c.wf
 o : ∀ c ∈ r.out, c.wf
 rn : ∀ c ∈ r.runs, c.wf
 n : i64 r.fr ∧ i64 r.to ∧ i64 r.rwN ∧ i64 r.rwD ∧ i64 r.yN ∧ i64 r.yD ∧ i64 r.tN ∧ i64 r.tD ∧ i64 r.lead ∧ i64 r.inum ∧ i64 r.pnum
structure SrcV.wf (s : SrcV) : Prop where
 U : ∀ u ∈ s.units, i64 u.n ∧ i64 u.d
 I : ∀ u ∈ s.items, u.wf
 M : ∀ u ∈ s.machines, u.wf
 F : ∀ u ∈ s.forbids, ∀ c ∈ u.cs, c.wf
 R : ∀ u ∈ s.recipes, u.wf
 S : ∀ u ∈ s.swaps, u.wf
end Go.SrcM

namespace Go.SrcM
open Go Go.Fw Go.RatM

def osat {α : Type} (o : Option α) (P : α → Prop) : Prop := match o with
 | some a => P a
 | none => False
instance osatD {α : Type} (o : Option α) (P : α → Prop) [DecidablePred P] : Decidable (osat o P) := by
 cases o <;> (unfold osat; infer_instance)
theorem osat_iff {α : Type} {o : Option α} {P : α → Prop} : osat o P ↔ ∃ a, o = some a ∧ P a := by
 cases o <;> simp [osat]
theorem osat_at {α : Type} {l : List α} {i : Nat} {P : α → Prop} (h : i < l.length) : osat l[i]? P ↔ P l[i] := by
 rw [List.getElem?_eq_getElem h]; exact Iff.rfl
abbrev idx (n : Int) (m : Nat) : Prop := 0 ≤ n ∧ n < m
abbrev bt (n a b : Int) : Prop := a ≤ n ∧ n ≤ b
def at? {α : Type} (l : List α) (i : Int) : Option α := if 0 ≤ i then l[i.toNat]? else none
theorem at?_nat {α : Type} (l : List α) (i : Nat) : at? l i = l[i]? := if_pos (Int.natCast_nonneg i)
theorem at?_some {α : Type} {l : List α} {i : Int} {a : α} (h : at? l i = some a) : ∃ k : Nat, i = k ∧ ∃ hk : k < l.length, l[k] = a := by
 unfold at? at h
 split at h
 ·obtain ⟨h1, h2⟩ := List.getElem?_eq_some_iff.1 h
  exact ⟨i.toNat, by omega, h1, h2⟩
 ·cases h
theorem at?_none {α : Type} {l : List α} {i : Int} (h : ¬ idx i l.length) : at? l i = none := by
 unfold at?
 split
 ·exact List.getElem?_eq_none (by unfold idx at h; omega)
 ·rfl
theorem at?_idx {α : Type} {l : List α} {i : Int} (h : idx i l.length) : ∃ k : Nat, i = k ∧ ∃ hk : k < l.length, at? l i = some l[k] := by
 obtain ⟨k, rfl⟩ : ∃ k : Nat, i = k := ⟨i.toNat, by unfold idx at h; omega⟩
 have hk : k < l.length := by unfold idx at h; omega
 exact ⟨k, rfl, hk, by rw [at?_nat, List.getElem?_eq_getElem hk]⟩
def SrcV.base (s : SrcV) (i : Int) : Option Int := match at? s.items i with
 | some x => match at? s.units x.un with
  | some u => some u.base
  | none => none
 | none => none
def itemOk (s : SrcV) (i : It) : Prop := idx i.un s.units.length ∧ bt i.mn 0 1048576 ∧ bt i.md 1 1048576 ∧ bt i.shelf 0 1023
def machOk (s : SrcV) (m : Mc) : Prop := idx m.pn s.plants.length ∧ bt m.clean 0 15
def condOk (s : SrcV) (c : Cd) : Prop := osat (at? s.options c.on) fun o => idx c.cn o.ch.length
def condsOk (s : SrcV) (l : List Cd) : Prop := (∀ c ∈ l, condOk s c) ∧ (l.map Cd.on).Nodup
def amtOk (s : SrcV) (a : Am) : Prop := bt a.n 1 1048576 ∧ bt a.d 1 1048576 ∧ osat (s.base a.inn) fun b => osat (at? s.units a.un) fun u => u.base = b
def share (n d : Int) : Prop := bt d 1 1048576 ∧ bt n 0 d
def firstOk (r : RcV) : Prop := osat r.out[0]? fun a => a.inn = r.inum
def outsOk (s : SrcV) (r : RcV) : Prop := firstOk r ∧ (∀ a ∈ r.out, amtOk s a ∧ a.back = false) ∧ (r.out.map Am.inn).Nodup
def runOk (s : SrcV) (r : RcV) (x : Rn) : Prop := (osat (at? s.machines x.mn) fun m => m.pn = r.pnum) ∧ bt x.slots 0 15
def runsOk (s : SrcV) (r : RcV) : Prop := (∀ x ∈ r.runs, runOk s r x) ∧ (r.runs.map Rn.mn).Nodup
def daysOk (r : RcV) : Prop := 0 ≤ r.fr ∧ r.fr < r.to ∧ r.to ≤ 1024
def recOk (s : SrcV) (r : RcV) : Prop := idx r.inum s.items.length ∧ idx r.pnum s.plants.length ∧ daysOk r ∧ condsOk s r.cs ∧ (∀ a ∈ r.inn, amtOk s a) ∧ outsOk s r ∧
 share r.rwN r.rwD ∧ share r.yN r.yD ∧ share r.tN r.tD ∧ r.rwN < r.rwD ∧ bt r.lead 0 15 ∧ runsOk s r
def swapOk (s : SrcV) (x : Sw) : Prop := (osat (s.base x.an) fun b => osat (s.base x.bn) fun c => b = c) ∧ x.an ≠ x.bn
structure Typed (s : SrcV) : Prop where
 I : ∀ i ∈ s.items, itemOk s i
 M : ∀ m ∈ s.machines, machOk s m
 O : ∀ o ∈ s.options, o.ch ≠ []
 F : ∀ f ∈ s.forbids, f.cs ≠ [] ∧ condsOk s f.cs
 R : ∀ r ∈ s.recipes, recOk s r
 S : ∀ x ∈ s.swaps, swapOk s x
def Small (s : SrcV) : Prop := (∀ o ∈ s.options, o.ch.length ≤ 4) ∧ (∀ r ∈ s.recipes, r.inn.length ≤ 8 ∧ r.out.length ≤ 8) ∧ s.items.length ≤ 32 ∧ s.plants.length ≤ 8 ∧ s.machines.length ≤ 16 ∧ s.options.length ≤ 6 ∧ s.forbids.length ≤ 16 ∧ s.recipes.length ≤ 64 ∧ s.swaps.length ≤ 64
instance (s : SrcV) (i : It) : Decidable (itemOk s i) := by unfold itemOk; infer_instance
instance (s : SrcV) (i : Mc) : Decidable (machOk s i) := by unfold machOk; infer_instance
instance (s : SrcV) (i : Cd) : Decidable (condOk s i) := by unfold condOk; infer_instance
instance (s : SrcV) (i : List Cd) : Decidable (condsOk s i) := by unfold condsOk; infer_instance
instance (s : SrcV) (a : Am) : Decidable (amtOk s a) := by unfold amtOk; infer_instance
instance (n d : Int) : Decidable (share n d) := by unfold share; infer_instance
instance (r : RcV) : Decidable (firstOk r) := by unfold firstOk; infer_instance
instance (r : RcV) : Decidable (daysOk r) := by unfold daysOk; infer_instance
instance (s : SrcV) (r : RcV) : Decidable (outsOk s r) := by unfold outsOk; infer_instance
instance (s : SrcV) (r : RcV) (x : Rn) : Decidable (runOk s r x) := by unfold runOk; infer_instance
instance (s : SrcV) (r : RcV) : Decidable (runsOk s r) := by unfold runsOk; infer_instance
instance (s : SrcV) (r : RcV) : Decidable (recOk s r) := by unfold recOk; infer_instance
instance (s : SrcV) (x : Sw) : Decidable (swapOk s x) := by unfold swapOk; infer_instance
instance (o : OpV) : Decidable (o.ch ≠ []) := decidable_of_iff (o.ch.isEmpty = false) (by cases o.ch <;> simp)
instance (o : FbV) : Decidable (o.cs ≠ []) := decidable_of_iff (o.cs.isEmpty = false) (by cases o.cs <;> simp)
instance (s : SrcV) : Decidable (Typed s) := decidable_of_iff ((∀ i ∈ s.items, itemOk s i) ∧ (∀ m ∈ s.machines, machOk s m) ∧ (∀ o ∈ s.options, o.ch ≠ []) ∧ (∀ f ∈ s.forbids, f.cs ≠ [] ∧ condsOk s f.cs) ∧ (∀ r ∈ s.recipes, recOk s r) ∧ (∀ x ∈ s.swaps, swapOk s x))
 ⟨fun ⟨a, b, c, d, e, f⟩ => ⟨a, b, c, d, e, f⟩, fun ⟨a, b, c, d, e, f⟩ => ⟨a, b, c, d, e, f⟩⟩
instance (s : SrcV) : Decidable (Small s) := by unfold Small; infer_instance
def checkT (s : SrcV) : Int := if checkU s.units ≠ 0 then checkU s.units else if ¬ Small s then 2 else if ¬ Typed s then 120 else 0
def amtT (s : SrcV) (a : Am) : Rt × Int := match at? s.items a.inn with
 | some x => if (newR a.n a.d).2 ≠ 0 then (zr, (newR a.n a.d).2) else convU s.units a.un x.un (newR a.n a.d).1
 | none => (zr, 120)
def massT (s : SrcV) (a : Am) : Rt × Int := if (amtT s a).2 ≠ 0 then (zr, (amtT s a).2) else match at? s.items a.inn with
 | some x => if (newR x.mn x.md).2 ≠ 0 then (zr, (newR x.mn x.md).2) else mulR (amtT s a).1 (newR x.mn x.md).1
 | none => (zr, 120)
def FewT (s : SrcV) : Prop := (∀ u ∈ s.units, u.scale.n.size ≤ 60 ∧ u.scale.d.size ≤ 60) ∧ (∀ o ∈ s.options, o.ch.length ≤ 6) ∧ (∀ o ∈ s.forbids, o.cs.length ≤ 8) ∧
 (∀ r ∈ s.recipes, r.cs.length ≤ 8 ∧ r.inn.length ≤ 10 ∧ r.out.length ≤ 10 ∧ r.runs.length ≤ 20) ∧
 s.units.length ≤ 40 ∧ s.items.length ≤ 40 ∧ s.plants.length ≤ 10 ∧ s.machines.length ≤ 20 ∧ s.options.length ≤ 8 ∧ s.forbids.length ≤ 20 ∧ s.recipes.length ≤ 70 ∧ s.swaps.length ≤ 70
instance (s : SrcV) : Decidable (FewT s) := by unfold FewT; infer_instance
end Go.SrcM

namespace Go.Proofs.YtdcdejhobblbpaaGreatDoor
open Go Go.Fw Go.NatM Go.RatM Go.SrcM
set_option maxRecDepth 100000
set_option maxHeartbeats 64000000

theorem tIndex_fn {h : Array Obj} (n m : Int) : FnV Tryz.prog 30 #[.int .i64 n, .int .i64 m] h fun r h' => r = .bool (decide (0 ≤ n ∧ n < m)) ∧ Keeps h.size h h' := by
 refine Fn.ofS (args := [.int .i64 n, .int .i64 m]) Tryz.func30 (by kernel_rfl) rfl Tryz.ntmps30 rfl fun w0 cs => ?_
 conv => whnf
 refine gS ?_
 conv => whnf
 repeat' (refine And.intro (fun hs => ?_) (fun hs => ?_) <;> (conv => whnf))
 all_goals (
  refine RunsS.retU (UnwS.ret tab Tryz.func30 rfl fun Ez Hz Az Sz K => ⟨_, rfl, ?_, K.keeps⟩)
  first | exact congrArg Value.bool (decide_eq_true (by omega)).symm | exact congrArg Value.bool (decide_eq_false (by omega)).symm | exact congrArg Value.bool (decide_eq_decide.2 (by omega))
 )
theorem tBetween_fn {h : Array Obj} (n a b : Int) : FnV Tryz.prog 46 #[.int .i64 n, .int .i64 a, .int .i64 b] h fun r h' => r = .bool (decide (bt n a b)) ∧ Keeps h.size h h' := by
 refine Fn.ofS (args := [.int .i64 n, .int .i64 a, .int .i64 b]) Tryz.func46 (by kernel_rfl) rfl Tryz.ntmps46 rfl fun w0 cs => ?_
 conv => whnf
 refine gS ?_
 conv => whnf
 repeat' (refine And.intro (fun hs => ?_) (fun hs => ?_) <;> (conv => whnf))
 all_goals (
  refine RunsS.retU (UnwS.ret tab Tryz.func46 rfl fun Ez Hz Az Sz K => ⟨_, rfl, ?_, K.keeps⟩)
  first | exact congrArg Value.bool (decide_eq_true (by omega)).symm | exact congrArg Value.bool (decide_eq_false (by omega)).symm | exact congrArg Value.bool (decide_eq_decide.2 (by omega))
 )
abbrev ckC (b : Bool) : Nat × Fw.Blk := (8, .cells 76 [.buf 0, .buf 1, .buf 2, .buf 3, .buf 4, .buf 5, .buf 6, .buf 7, .v (.bool b)])
abbrev roS (s : SrcV) : SH := [(0, .ro 8 (rowsU s.units)), (1, .ro 6 (rws It.row s.items)), (2, .ro 1 (rwsB s.plants)), (3, .ro 4 (rws Mc.row s.machines)), (4, .ro 2 (rws OpV.row s.options)), (5, .ro 1 (rws FbV.row s.forbids)), (6, .ro 17 (rws RcV.row s.recipes)), (7, .ro 4 (rws Sw.row s.swaps))]
abbrev ckH (s : SrcV) (b : Bool) : SH := ckC b :: roS s
theorem tNeed_fn (b x : Bool) : FnS Tryz.prog 45 9 [.ptr 8 0, .v (.bool x)] [ckC b] (fun _ : Unit => True) (fun _ => .ret (.tup []) 9 [ckC (b && x)]) := by
 cases b with
 | true =>
  refine FnS.of Tryz.func45 (by kernel_rfl) rfl Tryz.ntmps45 rfl fun E0 F h w0 cs => ?_
  conv => whnf
  refine gS ?_
  conv => whnf
  try refine RunsS.retU ?_
  try refine RunsS.finU ?_
  exact UnwS.ret tab Tryz.func45 rfl (EndS.mk (()) (trivial) [] (by repeat (first | exact trivial | refine ⟨by rfl, ?_⟩)) rfl rfl (okRet rfl rfl))
 | false =>
  refine FnS.of Tryz.func45 (by kernel_rfl) rfl Tryz.ntmps45 rfl fun E0 F h w0 cs => ?_
  conv => whnf
  refine gS ?_
  conv => whnf
  try refine RunsS.retU ?_
  try refine RunsS.finU ?_
  exact UnwS.ret tab Tryz.func45 rfl (EndS.mk (()) (trivial) [] (by repeat (first | exact trivial | refine ⟨by rfl, ?_⟩)) rfl rfl (okRet rfl rfl))
theorem tItem_fn (s : SrcV) (b : Bool) (i : It) : FnS Tryz.prog 44 9 [.ptr 8 0, .agg (toV i.row)] (ckH s b) (fun _ : Unit => True) (fun _ => .ret (.tup []) 9 (ckH s (b && decide (itemOk s i)))) := by
 have lU := rowsU_len s.units
 have lI := rws_len It.row s.items
 have lP := rwsB_len s.plants
 have lM := rws_len Mc.row s.machines
 have lO := rws_len OpV.row s.options
 have lF := rws_len FbV.row s.forbids
 have lR := rws_len RcV.row s.recipes
 have lS := rws_len Sw.row s.swaps
 refine FnS.of Tryz.func44 (by kernel_rfl) rfl Tryz.ntmps44 rfl fun E0 F h w0 cs => ?_
 conv => whnf
 refine gS ?_
 conv => whnf
 refine RunsS.held tab (.fl 0 (.fl 1 (.fl 2 (.fl 3 (.fl 4 (.fl 5 (.fl 6 (.fl 7 (.fl 8 (.e1 9 [] (.e1 10 [] .done))))))))))) (by kernel_rfl) ?_
 conv => whnf
 try refine gR ?_
 conv => whnf
 conv => whnf
 refine EffR.callV (fun Ez Hz Az Sz K => tIndex_fn i.un (rowsU s.units).length) (by (conv => whnf); (repeat (refine And.intro (by (conv => whnf); first | rfl | exact trivial) ?_; conv => whnf)); exact trivial) ?_
 conv => whnf
 try refine gR ?_
 conv => whnf
 conv => whnf
 refine EffR.callN (tNeed_fn b (decide (0 ≤ i.un ∧ i.un < (rowsU s.units).length))) [0, 1, 2, 3, 4, 5, 6, 7, 8] ?CNr1 (by repeat (first | exact trivial | refine ⟨by rfl, ?_⟩)) ?CNa1
 case CNa1 => rfl
 intro _ _
 conv => whnf
 try refine And.intro (by (conv => whnf); (repeat (refine And.intro (by (conv => whnf); first | rfl | exact trivial) ?_; conv => whnf)); exact trivial) ?_
 try refine gR ?_
 conv => whnf
 try refine gS ?_
 conv => whnf
 refine RunsS.callV (fun Ez Hz Az Sz K => tBetween_fn i.mn 0 1048576) ?_
 conv => whnf
 try refine gS ?_
 conv => whnf
 refine RunsS.callN (tNeed_fn _ (decide (bt i.mn 0 1048576))) [0, 1, 2, 3, 4, 5, 6, 7, 8] ?CNr2 (by repeat (first | exact trivial | refine ⟨by rfl, ?_⟩)) ?CNa2
 case CNa2 => rfl
 intro _ _
 conv => whnf
 try refine gS ?_
 conv => whnf
 refine RunsS.callV (fun Ez Hz Az Sz K => tBetween_fn i.md 1 1048576) ?_
 conv => whnf
 try refine gS ?_
 conv => whnf
 refine RunsS.callN (tNeed_fn _ (decide (bt i.md 1 1048576))) [0, 1, 2, 3, 4, 5, 6, 7, 8] ?CNr3 (by repeat (first | exact trivial | refine ⟨by rfl, ?_⟩)) ?CNa3
 case CNa3 => rfl
 intro _ _
 conv => whnf
 try refine gS ?_
 conv => whnf
 refine RunsS.callV (fun Ez Hz Az Sz K => tBetween_fn i.shelf 0 1023) ?_
 conv => whnf
 try refine gS ?_
 conv => whnf
 refine RunsS.callN (tNeed_fn _ (decide (bt i.shelf 0 1023))) [0, 1, 2, 3, 4, 5, 6, 7, 8] ?CNr4 (by repeat (first | exact trivial | refine ⟨by rfl, ?_⟩)) ?CNa4
 case CNa4 => rfl
 intro _ _
 conv => whnf
 try refine gS ?_
 conv => whnf
 have e : (b && decide (0 ≤ i.un ∧ i.un < (rowsU s.units).length) && decide (bt i.mn 0 1048576) && decide (bt i.md 1 1048576) && decide (bt i.shelf 0 1023)) = (b && decide (itemOk s i)) := by
  rw [Bool.eq_iff_iff]; simp only [Bool.and_eq_true, decide_eq_true_eq, lU, itemOk, and_assoc]
 rw [e]
 try refine RunsS.retU ?_
 try refine RunsS.finU ?_
 exact UnwS.ret tab Tryz.func44 rfl (EndS.mk (()) (trivial) [] (by repeat (first | exact trivial | refine ⟨by rfl, ?_⟩)) rfl rfl (okRet rfl rfl))
theorem tIndex_y {h : Array Obj} (n m : Int) (k : 0 ≤ n ∧ n < m) : FnV Tryz.prog 30 #[.int .i64 n, .int .i64 m] h fun r h' => r = .bool true ∧ Keeps h.size h h' := by
 have := tIndex_fn (h := h) n m
 rw [decide_eq_true k] at this
 exact this
theorem tIndex_n {h : Array Obj} (n m : Int) (k : ¬ (0 ≤ n ∧ n < m)) : FnV Tryz.prog 30 #[.int .i64 n, .int .i64 m] h fun r h' => r = .bool false ∧ Keeps h.size h h' := by
 have := tIndex_fn (h := h) n m
 rw [decide_eq_false k] at this
 exact this
theorem tShare_fn (s : SrcV) (b : Bool) (n d : Int) : FnS Tryz.prog 80 9 [.ptr 8 0, .v (.int .i64 n), .v (.int .i64 d)] (ckH s b) (fun _ : Unit => True) (fun _ => .ret (.tup []) 9 (ckH s (b && decide (share n d)))) := by
 refine FnS.of Tryz.func80 (by kernel_rfl) rfl Tryz.ntmps80 rfl fun E0 F h w0 cs => ?_
 conv => whnf
 refine gS ?_
 conv => whnf
 refine RunsS.callV (fun Ez Hz Az Sz K => tBetween_fn d 1 1048576) ?_
 conv => whnf
 try refine gS ?_
 conv => whnf
 refine RunsS.callN (tNeed_fn b (decide (bt d 1 1048576))) [0, 1, 2, 3, 4, 5, 6, 7, 8] ?CNr5 (by repeat (first | exact trivial | refine ⟨by rfl, ?_⟩)) ?CNa5
 case CNa5 => rfl
 intro _ _
 conv => whnf
 try refine gS ?_
 conv => whnf
 refine RunsS.callV (fun Ez Hz Az Sz K => tBetween_fn n 0 d) ?_
 conv => whnf
 try refine gS ?_
 conv => whnf
 refine RunsS.callN (tNeed_fn _ (decide (bt n 0 d))) [0, 1, 2, 3, 4, 5, 6, 7, 8] ?CNr6 (by repeat (first | exact trivial | refine ⟨by rfl, ?_⟩)) ?CNa6
 case CNa6 => rfl
 intro _ _
 conv => whnf
 try refine gS ?_
 conv => whnf
 have e : (b && decide (bt d 1 1048576) && decide (bt n 0 d)) = (b && decide (share n d)) := by
  rw [Bool.eq_iff_iff]; simp only [Bool.and_eq_true, decide_eq_true_eq, share, and_assoc]
 rw [e]
 try refine RunsS.retU ?_
 try refine RunsS.finU ?_
 exact UnwS.ret tab Tryz.func80 rfl (EndS.mk (()) (trivial) [] (by repeat (first | exact trivial | refine ⟨by rfl, ?_⟩)) rfl rfl (okRet rfl rfl))
theorem base_some {s : SrcV} {i n : Int} (h : s.base i = some n) : ∃ (k : Nat) (_ : i = k) (hk : k < s.items.length) (j : Nat) (_ : s.items[k].un = j) (hj : j < s.units.length), n = s.units[j].base := by
 unfold SrcV.base at h
 split at h
 ·rename_i x hx
  split at h
  ·rename_i u hu
   obtain ⟨k, e, hk, rfl⟩ := at?_some hx
   obtain ⟨j, e2, hj, rfl⟩ := at?_some hu
   exact ⟨k, e, hk, j, e2, hj, (Option.some.inj h).symm⟩
  ·cases h
 ·cases h
theorem base_none {s : SrcV} {i : Int} (h : s.base i = none) : ¬ idx i s.items.length ∨ ∃ (k : Nat) (_ : i = k) (hk : k < s.items.length), ¬ idx s.items[k].un s.units.length := by
 by_cases h1 : idx i s.items.length
 ·obtain ⟨k, rfl, hk, e⟩ := at?_idx h1
  refine .inr ⟨k, rfl, hk, fun h2 => ?_⟩
  obtain ⟨j, e2, hj, e3⟩ := at?_idx h2
  unfold SrcV.base at h
  rw [e] at h
  simp only [e3] at h
  cases h
 ·exact .inl h1
theorem tBaseS_fn {s : SrcV} {i n : Int} (b : Bool) (hb : s.base i = some n) : FnS Tryz.prog 82 9 [.ptr 8 0, .v (.int .i64 i)] (ckH s b) (fun _ : Unit => True) (fun _ => .ret (.tup [.v (.int .i64 n), .v (.bool true)]) 9 (ckH s b)) := by
 have lU := rowsU_len s.units
 have lI := rws_len It.row s.items
 have lP := rwsB_len s.plants
 have lM := rws_len Mc.row s.machines
 have lO := rws_len OpV.row s.options
 have lF := rws_len FbV.row s.forbids
 have lR := rws_len RcV.row s.recipes
 have lS := rws_len Sw.row s.swaps
 obtain ⟨k, rfl, hk, j, hu, hj, rfl⟩ := base_some hb
 refine FnS.of Tryz.func82 (by kernel_rfl) rfl Tryz.ntmps82 rfl fun E0 F h w0 cs => ?_
 conv => whnf
 refine gS ?_
 conv => whnf
 refine RunsS.callV (fun Ez Hz Az Sz K => tIndex_y k (rws It.row s.items).length (by omega)) ?_
 conv => whnf
 try refine gS ?_
 conv => whnf
 repeat ((first | refine oM ?_ | refine oL ?_ | refine oR ?_); (try intro _); conv => whnf)
 refine ⟨_, rws_get hk, ?_⟩
 conv => whnf
 refine RunsS.callV (fun Ez Hz Az Sz K => tIndex_y s.items[k].un (rowsU s.units).length (by omega)) ?_
 conv => whnf
 try refine gS ?_
 conv => whnf
 repeat ((first | refine oM ?_ | refine oL ?_ | refine oR ?_); (try intro _); conv => whnf)
 refine ⟨_, (by rw [hu]; exact rowsU_get hj), ?_⟩
 conv => whnf
 try refine RunsS.retU ?_
 try refine RunsS.finU ?_
 exact UnwS.ret tab Tryz.func82 rfl (EndS.mk (()) (trivial) [] (by repeat (first | exact trivial | refine ⟨by rfl, ?_⟩)) rfl rfl (okRet rfl rfl))
theorem tBaseN_fn {s : SrcV} {i : Int} (b : Bool) (hb : s.base i = none) : FnS Tryz.prog 82 9 [.ptr 8 0, .v (.int .i64 i)] (ckH s b) (fun _ : Unit => True) (fun _ => .ret (.tup [.v (.int .i64 0), .v (.bool false)]) 9 (ckH s b)) := by
 have lU := rowsU_len s.units
 have lI := rws_len It.row s.items
 have lP := rwsB_len s.plants
 have lM := rws_len Mc.row s.machines
 have lO := rws_len OpV.row s.options
 have lF := rws_len FbV.row s.forbids
 have lR := rws_len RcV.row s.recipes
 have lS := rws_len Sw.row s.swaps
 rcases base_none hb with h1 | ⟨k, rfl, hk, h2⟩
 ·refine FnS.of Tryz.func82 (by kernel_rfl) rfl Tryz.ntmps82 rfl fun E0 F h w0 cs => ?_
  conv => whnf
  refine gS ?_
  conv => whnf
  refine RunsS.callV (fun Ez Hz Az Sz K => tIndex_n i (rws It.row s.items).length (by rw [lI]; exact h1)) ?_
  conv => whnf
  try refine gS ?_
  conv => whnf
  try refine RunsS.retU ?_
  try refine RunsS.finU ?_
  exact UnwS.ret tab Tryz.func82 rfl (EndS.mk (()) (trivial) [] (by repeat (first | exact trivial | refine ⟨by rfl, ?_⟩)) rfl rfl (okRet rfl rfl))
 ·refine FnS.of Tryz.func82 (by kernel_rfl) rfl Tryz.ntmps82 rfl fun E0 F h w0 cs => ?_
  conv => whnf
  refine gS ?_
  conv => whnf
  refine RunsS.callV (fun Ez Hz Az Sz K => tIndex_y k (rws It.row s.items).length (by omega)) ?_
  conv => whnf
  try refine gS ?_
  conv => whnf
  repeat ((first | refine oM ?_ | refine oL ?_ | refine oR ?_); (try intro _); conv => whnf)
  refine ⟨_, rws_get hk, ?_⟩
  conv => whnf
  refine RunsS.callV (fun Ez Hz Az Sz K => tIndex_n s.items[k].un (rowsU s.units).length (by rw [lU]; exact h2)) ?_
  conv => whnf
  try refine gS ?_
  conv => whnf
  try refine RunsS.retU ?_
  try refine RunsS.finU ?_
  exact UnwS.ret tab Tryz.func82 rfl (EndS.mk (()) (trivial) [] (by repeat (first | exact trivial | refine ⟨by rfl, ?_⟩)) rfl rfl (okRet rfl rfl))

theorem nodup_take {α : Type} {f : α → Int} {l : List α} {k : Nat} (hk : k < l.length) (h : ((l.take k).map f).Nodup) (hn : ∀ i (_ : i < k) (hil : i < l.length), f l[i] ≠ f l[k]) : ((l.take (k + 1)).map f).Nodup := by
 rw [List.take_add_one, List.getElem?_eq_getElem hk, List.map_append]
 refine List.nodup_append.2 ⟨h, by simp, ?_⟩
 intro a ha b hb e
 obtain ⟨u, hu, rfl⟩ := List.mem_map.1 ha
 simp only [Option.toList, List.map_cons, List.map_nil, List.mem_singleton] at hb
 obtain ⟨i, hi, rfl⟩ := List.getElem_of_mem hu
 rw [List.length_take] at hi
 rw [List.getElem_take] at e
 exact hn i (by omega) (by omega) (e.trans hb)
theorem dup_take {α : Type} {f : α → Int} {l : List α} {j k : Nat} (hk : k < l.length) (hj : j < k) (he : f l[j] = f l[k]) : ¬ (l.map f).Nodup := by
 intro h
 have h1 := (List.pairwise_iff_getElem.1 h) j k (by rw [List.length_map]; omega) (by rw [List.length_map]; omega) hj
 simp only [List.getElem_map] at h1
 exact h1 he
theorem rws_tget {α : Type} {f : α → List Value} {l : List α} {j k : Nat} (hj : j < k) (hl : j < l.length) : ((rws f l).take ((k : Int)).toNat)[((j : Int)).toNat]? = some (f l[j]) := by
 rw [Int.toNat_natCast, Int.toNat_natCast, List.getElem?_take_of_lt hj]
 exact rws_get hl
theorem twC1_fn {h : Array Obj} (c : Cd) : FnV Tryz.prog 77 #[.agg c.row.toArray] h fun r h' => r = .int .i64 c.on ∧ Keeps h.size h h' := by
 refine Fn.ofS (args := [.agg c.row.toArray]) Tryz.func77 (by kernel_rfl) rfl Tryz.ntmps77 rfl fun w0 cs => ?_
 conv => whnf
 refine gS ?_
 conv => whnf
 refine RunsS.retU (UnwS.ret tab Tryz.func77 rfl fun Ez Hz Az Sz K => ⟨_, rfl, rfl, K.keeps⟩)
theorem twinsC_fn {h : Array Obj} (l : List Cd) {v : Value} (hv : Ro h v 4 (rws Cd.row l)) : FnV Tryz.prog 76 #[v, .func (.func 77) #[] #[]] h fun r h' => r = .bool (decide (¬ (l.map Cd.on).Nodup)) ∧ Keeps h.size h h' := by
 have hl := rws_len Cd.row l
 have hm := hv.len
 obtain ⟨r, hr⟩ : ∃ r, r = decide (¬ (l.map Cd.on).Nodup) := ⟨_, rfl⟩
 rw [← hr]
 refine Fn.ofG (envL [v]) 1 [.buf 0, .v (.func (.func 77) #[] #[])] [(0, .ro (4) (rws Cd.row l))] (fun k => k < _) Tryz.func76 (by kernel_rfl) rfl Tryz.ntmps76 rfl (fun _ hk => hk) (Sat.ros (vs := [v]) (l := [(4, rws Cd.row l)]) ⟨hv, trivial⟩) fun w0 cs => ?_
 conv => whnf
 refine gS ?_
 conv => whnf
 refine RunsS.meet (fun (b : Bool) => [(5, .v (.bool b))]) (fun (b : Bool) => [(0, .ro 4 (rws Cd.row l))]) 1 (fun (b : Bool) => b = r) ?_ (fun meet => ?_)
 ·rintro b rfl
  try refine gS ?_
  conv => whnf
  refine RunsS.retU (UnwS.ret tab Tryz.func76 rfl fun Ez Hz Az Sz K => ⟨_, rfl, rfl, K.keeps⟩)
 refine RunsS.subR [] (RunsS.loop (fun (k : Nat) => [(12, .v (.int .i64 k)), (11, .v (.int .i64 (rws Cd.row l).length)), (10, .buf 0), (5, .v (.bool false)), (0, .buf 0), (1, .v (.func (.func 77) #[] #[]))]) (fun (k : Nat) => [(0, .ro 4 (rws Cd.row l))]) 1 (fun (k : Nat) => k ≤ l.length ∧ ((l.take k).map Cd.on).Nodup) (fun (k : Nat) => l.length - k) ?round1 (0) ?J01) ?SS1 ?HH1
 case J01 => exact (⟨Nat.zero_le _, by simp⟩)
 case SS1 => repeat (first | exact trivial | refine ⟨by rfl, ?_⟩)
 case HH1 => repeat (first | exact trivial | refine ⟨by rfl, ?_⟩)
 rintro k hJ back
 try dsimp only at hJ back
 conv => whnf
 try dsimp only
 refine gS ?_
 conv => whnf
 refine ⟨fun hk => ?_, fun hk => ?_⟩ <;> conv => whnf
 ·have hk : k < l.length := by omega
  conv => whnf
  repeat ((first | refine oM ?_ | refine oL ?_ | refine oR ?_); (try intro _); conv => whnf)
  refine ⟨_, rws_get hk, ?_⟩
  conv => whnf
  try (refine oN ?_; conv => whnf)
  repeat ((first | refine oM ?_ | refine oL ?_ | refine oR ?_); (try intro _); conv => whnf)
  try refine gS ?_
  conv => whnf
  have htl : ((rws Cd.row l).take ((k : Int)).toNat).length = k := by rw [List.length_take, hl, Int.toNat_natCast]; omega
  have backO := back
  have hJo := hJ.2
  refine RunsS.subR [] (RunsS.loop (fun (j : Nat) => [(21, .v (.int .i64 j)), (20, .v (.int .i64 ((rws Cd.row l).take ((k : Int)).toNat).length)), (19, .buf 2), (7, .ptr 1 0), (12, .v (.int .i64 k)), (11, .v (.int .i64 (rws Cd.row l).length)), (10, .buf 0), (5, .v (.bool false)), (0, .buf 0), (1, .v (.func (.func 77) #[] #[]))]) (fun (j : Nat) => [(2, .ro 4 ((rws Cd.row l).take ((k : Int)).toNat)), (1, .cells 55 (toV (Cd.row l[k]))), (0, .ro 4 (rws Cd.row l))]) 3 (fun (j : Nat) => j ≤ k ∧ ∀ i (hi : i < j) (hil : i < l.length), l[i].on ≠ l[k].on) (fun (j : Nat) => k - j) ?round2 (0) ?J02) ?SS2 ?HH2
  case J02 => exact (⟨Nat.zero_le _, fun i hi => absurd hi (Nat.not_lt_zero _)⟩)
  case SS2 => repeat (first | exact trivial | refine ⟨by rfl, ?_⟩)
  case HH2 => repeat (first | exact trivial | refine ⟨by rfl, ?_⟩)
  rintro j hJ back
  conv => whnf
  refine gS ?_
  conv => whnf
  refine ⟨fun hj => ?_, fun hj => ?_⟩ <;> conv => whnf
  ·have hj : j < k := by omega
   have hjl : j < l.length := by omega
   conv => whnf
   repeat ((first | refine oM ?_ | refine oL ?_ | refine oR ?_); (try intro _); conv => whnf)
   refine ⟨_, rws_tget hj hjl, ?_⟩
   conv => whnf
   try (refine oN ?_; conv => whnf)
   refine RunsS.held tab (.fl 0 (.fl 1 (.fl 3 (.fl 4 (.e1 2 [4] (.e1 5 [] (.fl 6 .done))))))) (by kernel_rfl) ?_
   conv => whnf
   try refine gR ?_
   conv => whnf
   conv => whnf
   refine EffR.callV (fun Ez Hz Az Sz K => twC1_fn l[k]) (by (conv => whnf); (repeat (refine And.intro (by (conv => whnf); first | rfl | exact trivial) ?_; conv => whnf)); exact trivial) ?_
   conv => whnf
   try refine gR ?_
   conv => whnf
   conv => whnf
   refine EffR.callV (fun Ez Hz Az Sz K => twC1_fn l[j]) (by (conv => whnf); (repeat (refine And.intro (by (conv => whnf); first | rfl | exact trivial) ?_; conv => whnf)); exact trivial) ?_
   conv => whnf
   try refine gR ?_
   conv => whnf
   conv => whnf
   refine ⟨fun he => ?_, fun he => ?_⟩ <;> conv => whnf
   ·try refine gR ?_
    conv => whnf
    try refine gS ?_
    conv => whnf
    refine RunsS.subR [] (meet (true) ?BJ3) ?SS3 ?HH3
    case BJ3 => exact (hr ▸ (decide_eq_true (dup_take hk hj he.symm)).symm)
    case SS3 => repeat (first | exact trivial | refine ⟨by rfl, ?_⟩)
    case HH3 => repeat (first | exact trivial | refine ⟨by rfl, ?_⟩)
   ·try refine gR ?_
    conv => whnf
    try refine gS ?_
    conv => whnf
    repeat ((first | refine oM ?_ | refine oL ?_ | refine oR ?_); (try intro _); conv => whnf)
    refine RunsS.subR [] (back (j + 1) ?BJ4 ?BM4) ?SS4 ?HH4
    case BJ4 => exact (⟨hj, fun i hi hil => (Nat.lt_succ_iff_lt_or_eq.1 hi).elim (fun hi => hJ.2 i hi hil) (fun e => by subst e; exact fun h => he h.symm)⟩)
    case BM4 => (try dsimp only); omega
    case SS4 => repeat (first | exact trivial | refine ⟨by rfl, ?_⟩)
    case HH4 => repeat (first | exact trivial | refine ⟨by rfl, ?_⟩)
  ·have hj : j = k := by omega
   have hJ2 := hJ.2
   subst hj
   have back := backO
   conv => whnf
   repeat ((first | refine oM ?_ | refine oL ?_ | refine oR ?_); (try intro _); conv => whnf)
   refine RunsS.subR [] (back (j + 1) ?BJ5 ?BM5) ?SS5 ?HH5
   case BJ5 => exact (⟨hk, nodup_take hk hJo hJ2⟩)
   case BM5 => (try dsimp only); omega
   case SS5 => repeat (first | exact trivial | refine ⟨by rfl, ?_⟩)
   case HH5 => repeat (first | exact trivial | refine ⟨by rfl, ?_⟩)
 ·have hk : k = l.length := by omega
  have h2 := hJ.2
  rw [hk, List.take_length] at h2
  conv => whnf
  refine RunsS.subR [] (meet (false) ?BJ6) ?SS6 ?HH6
  case BJ6 => exact (hr ▸ (decide_eq_false (fun h => h h2)).symm)
  case SS6 => repeat (first | exact trivial | refine ⟨by rfl, ?_⟩)
  case HH6 => repeat (first | exact trivial | refine ⟨by rfl, ?_⟩)
theorem twA1_fn {h : Array Obj} (c : Am) : FnV Tryz.prog 116 #[.agg c.row.toArray] h fun r h' => r = .int .i64 c.inn ∧ Keeps h.size h h' := by
 refine Fn.ofS (args := [.agg c.row.toArray]) Tryz.func116 (by kernel_rfl) rfl Tryz.ntmps116 rfl fun w0 cs => ?_
 conv => whnf
 refine gS ?_
 conv => whnf
 refine RunsS.retU (UnwS.ret tab Tryz.func116 rfl fun Ez Hz Az Sz K => ⟨_, rfl, rfl, K.keeps⟩)
theorem twinsA_fn {h : Array Obj} (l : List Am) {v : Value} (hv : Ro h v 7 (rws Am.row l)) : FnV Tryz.prog 115 #[v, .func (.func 116) #[] #[]] h fun r h' => r = .bool (decide (¬ (l.map Am.inn).Nodup)) ∧ Keeps h.size h h' := by
 have hl := rws_len Am.row l
 have hm := hv.len
 obtain ⟨r, hr⟩ : ∃ r, r = decide (¬ (l.map Am.inn).Nodup) := ⟨_, rfl⟩
 rw [← hr]
 refine Fn.ofG (envL [v]) 1 [.buf 0, .v (.func (.func 116) #[] #[])] [(0, .ro (7) (rws Am.row l))] (fun k => k < _) Tryz.func115 (by kernel_rfl) rfl Tryz.ntmps115 rfl (fun _ hk => hk) (Sat.ros (vs := [v]) (l := [(7, rws Am.row l)]) ⟨hv, trivial⟩) fun w0 cs => ?_
 conv => whnf
 refine gS ?_
 conv => whnf
 refine RunsS.meet (fun (b : Bool) => [(5, .v (.bool b))]) (fun (b : Bool) => [(0, .ro 7 (rws Am.row l))]) 1 (fun (b : Bool) => b = r) ?_ (fun meet => ?_)
 ·rintro b rfl
  try refine gS ?_
  conv => whnf
  refine RunsS.retU (UnwS.ret tab Tryz.func115 rfl fun Ez Hz Az Sz K => ⟨_, rfl, rfl, K.keeps⟩)
 refine RunsS.subR [] (RunsS.loop (fun (k : Nat) => [(12, .v (.int .i64 k)), (11, .v (.int .i64 (rws Am.row l).length)), (10, .buf 0), (5, .v (.bool false)), (0, .buf 0), (1, .v (.func (.func 116) #[] #[]))]) (fun (k : Nat) => [(0, .ro 7 (rws Am.row l))]) 1 (fun (k : Nat) => k ≤ l.length ∧ ((l.take k).map Am.inn).Nodup) (fun (k : Nat) => l.length - k) ?round7 (0) ?J07) ?SS7 ?HH7
 case J07 => exact (⟨Nat.zero_le _, by simp⟩)
 case SS7 => repeat (first | exact trivial | refine ⟨by rfl, ?_⟩)
 case HH7 => repeat (first | exact trivial | refine ⟨by rfl, ?_⟩)
 rintro k hJ back
 try dsimp only at hJ back
 conv => whnf
 try dsimp only
 refine gS ?_
 conv => whnf
 refine ⟨fun hk => ?_, fun hk => ?_⟩ <;> conv => whnf
 ·have hk : k < l.length := by omega
  conv => whnf
  repeat ((first | refine oM ?_ | refine oL ?_ | refine oR ?_); (try intro _); conv => whnf)
  refine ⟨_, rws_get hk, ?_⟩
  conv => whnf
  try (refine oN ?_; conv => whnf)
  repeat ((first | refine oM ?_ | refine oL ?_ | refine oR ?_); (try intro _); conv => whnf)
  try refine gS ?_
  conv => whnf
  have htl : ((rws Am.row l).take ((k : Int)).toNat).length = k := by rw [List.length_take, hl, Int.toNat_natCast]; omega
  have backO := back
  have hJo := hJ.2
  refine RunsS.subR [] (RunsS.loop (fun (j : Nat) => [(21, .v (.int .i64 j)), (20, .v (.int .i64 ((rws Am.row l).take ((k : Int)).toNat).length)), (19, .buf 2), (7, .ptr 1 0), (12, .v (.int .i64 k)), (11, .v (.int .i64 (rws Am.row l).length)), (10, .buf 0), (5, .v (.bool false)), (0, .buf 0), (1, .v (.func (.func 116) #[] #[]))]) (fun (j : Nat) => [(2, .ro 7 ((rws Am.row l).take ((k : Int)).toNat)), (1, .cells 37 (toV (Am.row l[k]))), (0, .ro 7 (rws Am.row l))]) 3 (fun (j : Nat) => j ≤ k ∧ ∀ i (hi : i < j) (hil : i < l.length), l[i].inn ≠ l[k].inn) (fun (j : Nat) => k - j) ?round8 (0) ?J08) ?SS8 ?HH8
  case J08 => exact (⟨Nat.zero_le _, fun i hi => absurd hi (Nat.not_lt_zero _)⟩)
  case SS8 => repeat (first | exact trivial | refine ⟨by rfl, ?_⟩)
  case HH8 => repeat (first | exact trivial | refine ⟨by rfl, ?_⟩)
  rintro j hJ back
  conv => whnf
  refine gS ?_
  conv => whnf
  refine ⟨fun hj => ?_, fun hj => ?_⟩ <;> conv => whnf
  ·have hj : j < k := by omega
   have hjl : j < l.length := by omega
   conv => whnf
   repeat ((first | refine oM ?_ | refine oL ?_ | refine oR ?_); (try intro _); conv => whnf)
   refine ⟨_, rws_tget hj hjl, ?_⟩
   conv => whnf
   try (refine oN ?_; conv => whnf)
   refine RunsS.held tab (.fl 0 (.fl 1 (.fl 3 (.fl 4 (.e1 2 [4] (.e1 5 [] (.fl 6 .done))))))) (by kernel_rfl) ?_
   conv => whnf
   try refine gR ?_
   conv => whnf
   conv => whnf
   refine EffR.callV (fun Ez Hz Az Sz K => twA1_fn l[k]) (by (conv => whnf); (repeat (refine And.intro (by (conv => whnf); first | rfl | exact trivial) ?_; conv => whnf)); exact trivial) ?_
   conv => whnf
   try refine gR ?_
   conv => whnf
   conv => whnf
   refine EffR.callV (fun Ez Hz Az Sz K => twA1_fn l[j]) (by (conv => whnf); (repeat (refine And.intro (by (conv => whnf); first | rfl | exact trivial) ?_; conv => whnf)); exact trivial) ?_
   conv => whnf
   try refine gR ?_
   conv => whnf
   conv => whnf
   refine ⟨fun he => ?_, fun he => ?_⟩ <;> conv => whnf
   ·try refine gR ?_
    conv => whnf
    try refine gS ?_
    conv => whnf
    refine RunsS.subR [] (meet (true) ?BJ9) ?SS9 ?HH9
    case BJ9 => exact (hr ▸ (decide_eq_true (dup_take hk hj he.symm)).symm)
    case SS9 => repeat (first | exact trivial | refine ⟨by rfl, ?_⟩)
    case HH9 => repeat (first | exact trivial | refine ⟨by rfl, ?_⟩)
   ·try refine gR ?_
    conv => whnf
    try refine gS ?_
    conv => whnf
    repeat ((first | refine oM ?_ | refine oL ?_ | refine oR ?_); (try intro _); conv => whnf)
    refine RunsS.subR [] (back (j + 1) ?BJ10 ?BM10) ?SS10 ?HH10
    case BJ10 => exact (⟨hj, fun i hi hil => (Nat.lt_succ_iff_lt_or_eq.1 hi).elim (fun hi => hJ.2 i hi hil) (fun e => by subst e; exact fun h => he h.symm)⟩)
    case BM10 => (try dsimp only); omega
    case SS10 => repeat (first | exact trivial | refine ⟨by rfl, ?_⟩)
    case HH10 => repeat (first | exact trivial | refine ⟨by rfl, ?_⟩)
  ·have hj : j = k := by omega
   have hJ2 := hJ.2
   subst hj
   have back := backO
   conv => whnf
   repeat ((first | refine oM ?_ | refine oL ?_ | refine oR ?_); (try intro _); conv => whnf)
   refine RunsS.subR [] (back (j + 1) ?BJ11 ?BM11) ?SS11 ?HH11
   case BJ11 => exact (⟨hk, nodup_take hk hJo hJ2⟩)
   case BM11 => (try dsimp only); omega
   case SS11 => repeat (first | exact trivial | refine ⟨by rfl, ?_⟩)
   case HH11 => repeat (first | exact trivial | refine ⟨by rfl, ?_⟩)
 ·have hk : k = l.length := by omega
  have h2 := hJ.2
  rw [hk, List.take_length] at h2
  conv => whnf
  refine RunsS.subR [] (meet (false) ?BJ12) ?SS12 ?HH12
  case BJ12 => exact (hr ▸ (decide_eq_false (fun h => h h2)).symm)
  case SS12 => repeat (first | exact trivial | refine ⟨by rfl, ?_⟩)
  case HH12 => repeat (first | exact trivial | refine ⟨by rfl, ?_⟩)
theorem twR1_fn {h : Array Obj} (c : Rn) : FnV Tryz.prog 118 #[.agg c.row.toArray] h fun r h' => r = .int .i64 c.mn ∧ Keeps h.size h h' := by
 refine Fn.ofS (args := [.agg c.row.toArray]) Tryz.func118 (by kernel_rfl) rfl Tryz.ntmps118 rfl fun w0 cs => ?_
 conv => whnf
 refine gS ?_
 conv => whnf
 refine RunsS.retU (UnwS.ret tab Tryz.func118 rfl fun Ez Hz Az Sz K => ⟨_, rfl, rfl, K.keeps⟩)
theorem twinsR_fn {h : Array Obj} (l : List Rn) {v : Value} (hv : Ro h v 3 (rws Rn.row l)) : FnV Tryz.prog 117 #[v, .func (.func 118) #[] #[]] h fun r h' => r = .bool (decide (¬ (l.map Rn.mn).Nodup)) ∧ Keeps h.size h h' := by
 have hl := rws_len Rn.row l
 have hm := hv.len
 obtain ⟨r, hr⟩ : ∃ r, r = decide (¬ (l.map Rn.mn).Nodup) := ⟨_, rfl⟩
 rw [← hr]
 refine Fn.ofG (envL [v]) 1 [.buf 0, .v (.func (.func 118) #[] #[])] [(0, .ro (3) (rws Rn.row l))] (fun k => k < _) Tryz.func117 (by kernel_rfl) rfl Tryz.ntmps117 rfl (fun _ hk => hk) (Sat.ros (vs := [v]) (l := [(3, rws Rn.row l)]) ⟨hv, trivial⟩) fun w0 cs => ?_
 conv => whnf
 refine gS ?_
 conv => whnf
 refine RunsS.meet (fun (b : Bool) => [(5, .v (.bool b))]) (fun (b : Bool) => [(0, .ro 3 (rws Rn.row l))]) 1 (fun (b : Bool) => b = r) ?_ (fun meet => ?_)
 ·rintro b rfl
  try refine gS ?_
  conv => whnf
  refine RunsS.retU (UnwS.ret tab Tryz.func117 rfl fun Ez Hz Az Sz K => ⟨_, rfl, rfl, K.keeps⟩)
 refine RunsS.subR [] (RunsS.loop (fun (k : Nat) => [(12, .v (.int .i64 k)), (11, .v (.int .i64 (rws Rn.row l).length)), (10, .buf 0), (5, .v (.bool false)), (0, .buf 0), (1, .v (.func (.func 118) #[] #[]))]) (fun (k : Nat) => [(0, .ro 3 (rws Rn.row l))]) 1 (fun (k : Nat) => k ≤ l.length ∧ ((l.take k).map Rn.mn).Nodup) (fun (k : Nat) => l.length - k) ?round13 (0) ?J013) ?SS13 ?HH13
 case J013 => exact (⟨Nat.zero_le _, by simp⟩)
 case SS13 => repeat (first | exact trivial | refine ⟨by rfl, ?_⟩)
 case HH13 => repeat (first | exact trivial | refine ⟨by rfl, ?_⟩)
 rintro k hJ back
 try dsimp only at hJ back
 conv => whnf
 try dsimp only
 refine gS ?_
 conv => whnf
 refine ⟨fun hk => ?_, fun hk => ?_⟩ <;> conv => whnf
 ·have hk : k < l.length := by omega
  conv => whnf
  repeat ((first | refine oM ?_ | refine oL ?_ | refine oR ?_); (try intro _); conv => whnf)
  refine ⟨_, rws_get hk, ?_⟩
  conv => whnf
  try (refine oN ?_; conv => whnf)
  repeat ((first | refine oM ?_ | refine oL ?_ | refine oR ?_); (try intro _); conv => whnf)
  try refine gS ?_
  conv => whnf
  have htl : ((rws Rn.row l).take ((k : Int)).toNat).length = k := by rw [List.length_take, hl, Int.toNat_natCast]; omega
  have backO := back
  have hJo := hJ.2
  refine RunsS.subR [] (RunsS.loop (fun (j : Nat) => [(21, .v (.int .i64 j)), (20, .v (.int .i64 ((rws Rn.row l).take ((k : Int)).toNat).length)), (19, .buf 2), (7, .ptr 1 0), (12, .v (.int .i64 k)), (11, .v (.int .i64 (rws Rn.row l).length)), (10, .buf 0), (5, .v (.bool false)), (0, .buf 0), (1, .v (.func (.func 118) #[] #[]))]) (fun (j : Nat) => [(2, .ro 3 ((rws Rn.row l).take ((k : Int)).toNat)), (1, .cells 51 (toV (Rn.row l[k]))), (0, .ro 3 (rws Rn.row l))]) 3 (fun (j : Nat) => j ≤ k ∧ ∀ i (hi : i < j) (hil : i < l.length), l[i].mn ≠ l[k].mn) (fun (j : Nat) => k - j) ?round14 (0) ?J014) ?SS14 ?HH14
  case J014 => exact (⟨Nat.zero_le _, fun i hi => absurd hi (Nat.not_lt_zero _)⟩)
  case SS14 => repeat (first | exact trivial | refine ⟨by rfl, ?_⟩)
  case HH14 => repeat (first | exact trivial | refine ⟨by rfl, ?_⟩)
  rintro j hJ back
  conv => whnf
  refine gS ?_
  conv => whnf
  refine ⟨fun hj => ?_, fun hj => ?_⟩ <;> conv => whnf
  ·have hj : j < k := by omega
   have hjl : j < l.length := by omega
   conv => whnf
   repeat ((first | refine oM ?_ | refine oL ?_ | refine oR ?_); (try intro _); conv => whnf)
   refine ⟨_, rws_tget hj hjl, ?_⟩
   conv => whnf
   try (refine oN ?_; conv => whnf)
   refine RunsS.held tab (.fl 0 (.fl 1 (.fl 3 (.fl 4 (.e1 2 [4] (.e1 5 [] (.fl 6 .done))))))) (by kernel_rfl) ?_
   conv => whnf
   try refine gR ?_
   conv => whnf
   conv => whnf
   refine EffR.callV (fun Ez Hz Az Sz K => twR1_fn l[k]) (by (conv => whnf); (repeat (refine And.intro (by (conv => whnf); first | rfl | exact trivial) ?_; conv => whnf)); exact trivial) ?_
   conv => whnf
   try refine gR ?_
   conv => whnf
   conv => whnf
   refine EffR.callV (fun Ez Hz Az Sz K => twR1_fn l[j]) (by (conv => whnf); (repeat (refine And.intro (by (conv => whnf); first | rfl | exact trivial) ?_; conv => whnf)); exact trivial) ?_
   conv => whnf
   try refine gR ?_
   conv => whnf
   conv => whnf
   refine ⟨fun he => ?_, fun he => ?_⟩ <;> conv => whnf
   ·try refine gR ?_
    conv => whnf
    try refine gS ?_
    conv => whnf
    refine RunsS.subR [] (meet (true) ?BJ15) ?SS15 ?HH15
    case BJ15 => exact (hr ▸ (decide_eq_true (dup_take hk hj he.symm)).symm)
    case SS15 => repeat (first | exact trivial | refine ⟨by rfl, ?_⟩)
    case HH15 => repeat (first | exact trivial | refine ⟨by rfl, ?_⟩)
   ·try refine gR ?_
    conv => whnf
    try refine gS ?_
    conv => whnf
    repeat ((first | refine oM ?_ | refine oL ?_ | refine oR ?_); (try intro _); conv => whnf)
    refine RunsS.subR [] (back (j + 1) ?BJ16 ?BM16) ?SS16 ?HH16
    case BJ16 => exact (⟨hj, fun i hi hil => (Nat.lt_succ_iff_lt_or_eq.1 hi).elim (fun hi => hJ.2 i hi hil) (fun e => by subst e; exact fun h => he h.symm)⟩)
    case BM16 => (try dsimp only); omega
    case SS16 => repeat (first | exact trivial | refine ⟨by rfl, ?_⟩)
    case HH16 => repeat (first | exact trivial | refine ⟨by rfl, ?_⟩)
  ·have hj : j = k := by omega
   have hJ2 := hJ.2
   subst hj
   have back := backO
   conv => whnf
   repeat ((first | refine oM ?_ | refine oL ?_ | refine oR ?_); (try intro _); conv => whnf)
   refine RunsS.subR [] (back (j + 1) ?BJ17 ?BM17) ?SS17 ?HH17
   case BJ17 => exact (⟨hk, nodup_take hk hJo hJ2⟩)
   case BM17 => (try dsimp only); omega
   case SS17 => repeat (first | exact trivial | refine ⟨by rfl, ?_⟩)
   case HH17 => repeat (first | exact trivial | refine ⟨by rfl, ?_⟩)
 ·have hk : k = l.length := by omega
  have h2 := hJ.2
  rw [hk, List.take_length] at h2
  conv => whnf
  refine RunsS.subR [] (meet (false) ?BJ18) ?SS18 ?HH18
  case BJ18 => exact (hr ▸ (decide_eq_false (fun h => h h2)).symm)
  case SS18 => repeat (first | exact trivial | refine ⟨by rfl, ?_⟩)
  case HH18 => repeat (first | exact trivial | refine ⟨by rfl, ?_⟩)

theorem all_step {α : Type} {p : α → Prop} {l : List α} {k : Nat} (hk : k < l.length) {b b' x : Bool} {d1 : Decidable (∀ c ∈ l.take k, p c)} {d2 : Decidable (∀ c ∈ l.take (k + 1), p c)} {d3 : Decidable (p l[k])} (hb : b' = (b && @decide _ d1)) (hx : x = @decide _ d3) : (b' && x) = (b && @decide _ d2) := by
 rw [hb, hx, Bool.eq_iff_iff]
 simp only [Bool.and_eq_true, decide_eq_true_eq, and_assoc]
 rw [List.take_add_one, List.getElem?_eq_getElem hk]
 simp only [List.mem_append, Option.toList, List.mem_singleton]
 exact and_congr_right fun _ => ⟨fun h c hc => hc.elim (h.1 c) (fun e => e ▸ h.2), fun h => ⟨fun c hc => h c (.inl hc), h _ (.inr rfl)⟩⟩
theorem all_zero {α : Type} {p : α → Prop} {l : List α} {d : Decidable (∀ c ∈ l.take 0, p c)} (b : Bool) : b = (b && @decide _ d) := by
 rw [decide_eq_true (by simp)]; simp
theorem condOk_n {s : SrcV} {c : Cd} (h : ¬ idx c.on s.options.length) : false = decide (condOk s c) := by
 refine (decide_eq_false fun hc => ?_).symm
 unfold condOk at hc
 rw [at?_none h] at hc
 exact hc
theorem condOk_y {s : SrcV} {c : Cd} {k : Nat} (e : c.on = k) (hk : k < s.options.length) : decide (0 ≤ c.cn ∧ c.cn < s.options[k].ch.length) = decide (condOk s c) := by
 refine decide_eq_decide.2 ?_
 unfold condOk
 rw [e, at?_nat, osat_at hk]
theorem tConds_fn (s : SrcV) (b : Bool) (l : List Cd) (a : Option Addr) (c : Nat) : FnT Tryz.prog (fun F h => RoF F h (.slice a l.length c) 4 (rws Cd.row l)) 47 9 [.ptr 8 0, .v (.slice a l.length c)] (ckH s b) (fun _ : Unit => True) (fun _ => .ret (.tup []) 9 (ckH s (b && decide (condsOk s l)))) := by
 have lU := rowsU_len s.units
 have lI := rws_len It.row s.items
 have lP := rwsB_len s.plants
 have lM := rws_len Mc.row s.machines
 have lO := rws_len OpV.row s.options
 have lF := rws_len FbV.row s.forbids
 have lR := rws_len RcV.row s.recipes
 have lS := rws_len Sw.row s.swaps
 have hl := rws_len Cd.row l
 refine FnT.of Tryz.func47 (by kernel_rfl) rfl Tryz.ntmps47 rfl fun E0 F h hT w0 cs => ?_
 conv => whnf
 refine gS ?_
 conv => whnf
 have hm := hT.len
 refine RunsS.nameAt (fun _ x => x) 6 (by exact hT) ?_
 conv => whnf
 try refine gS ?_
 conv => whnf
 refine RunsS.subR [] (RunsS.loop (fun (⟨k, b'⟩ : Nat × Bool) => [(8, .v (.int .i64 k)), (7, .v (.int .i64 l.length)), (6, .buf 9), (0, .ptr 8 0), (1, .v (.slice a l.length c))]) (fun (⟨k, b'⟩ : Nat × Bool) => [(9, .ro 4 (rws Cd.row l)), ckC b', (0, .ro 8 (rowsU s.units)), (1, .ro 6 (rws It.row s.items)), (2, .ro 1 (rwsB s.plants)), (3, .ro 4 (rws Mc.row s.machines)), (4, .ro 2 (rws OpV.row s.options)), (5, .ro 1 (rws FbV.row s.forbids)), (6, .ro 17 (rws RcV.row s.recipes)), (7, .ro 4 (rws Sw.row s.swaps))]) 10 (fun (⟨k, b'⟩ : Nat × Bool) => k ≤ l.length ∧ b' = (b && decide (∀ c ∈ l.take k, condOk s c))) (fun (⟨k, b'⟩ : Nat × Bool) => l.length - k) ?round1 ((0, b)) ?J01) ?SS1 ?HH1
 case J01 => exact (⟨Nat.zero_le _, all_zero b⟩)
 case SS1 => repeat (first | exact trivial | refine ⟨by rfl, ?_⟩)
 case HH1 => repeat (first | exact trivial | refine ⟨by rfl, ?_⟩)
 rintro ⟨k, b'⟩ hJ back
 try dsimp only at hJ back
 conv => whnf
 try dsimp only
 refine gS ?_
 conv => whnf
 refine ⟨fun hk => ?_, fun hk => ?_⟩ <;> conv => whnf
 ·have hk : k < l.length := by omega
  conv => whnf
  repeat ((first | refine oM ?_ | refine oL ?_ | refine oR ?_); (try intro _); conv => whnf)
  refine ⟨_, rws_get hk, ?_⟩
  conv => whnf
  try (refine oN ?_; conv => whnf)
  by_cases h1 : idx l[k].on s.options.length
  ·obtain ⟨j, e, hj, _⟩ := at?_idx h1
   refine RunsS.held tab (.fl 0 (.fl 1 (.fl 2 (.fl 3 (.fl 4 (.fl 5 (.fl 6 (.fl 7 (.fl 8 (.e1 9 [] (.fl 10 (.fl 11 (.fl 12 (.fl 13 (.fl 14 (.fl 15 (.fl 16 (.fl 17 (.fl 18 (.fl 19 (.fl 20 (.fl 21 (.fl 22 (.fl 23 (.e1 24 [] (.fl 25 (.e1 26 [] .done))))))))))))))))))))))))))) (by kernel_rfl) ?_
   conv => whnf
   try refine gR ?_
   conv => whnf
   conv => whnf
   refine EffR.callV (fun Ez Hz Az Sz K => tIndex_y l[k].on (rws OpV.row s.options).length (by omega)) (by (conv => whnf); (repeat (refine And.intro (by (conv => whnf); first | rfl | exact trivial) ?_; conv => whnf)); exact trivial) ?_
   conv => whnf
   try refine gR ?_
   conv => whnf
   repeat ((first | refine oM ?_ | refine oL ?_ | refine oR ?_ | refine oB ?_); (try intro _); conv => whnf)
   conv => whnf
   refine ⟨_, (by rw [e]; exact rws_get hj), ?_⟩
   conv => whnf
   conv => whnf
   conv => whnf
   refine EffR.callV (fun Ez Hz Az Sz K => tIndex_fn l[k].cn s.options[j].ch.length) (by (conv => whnf); (repeat (refine And.intro (by (conv => whnf); first | rfl | exact trivial) ?_; conv => whnf)); exact trivial) ?_
   conv => whnf
   try refine gR ?_
   conv => whnf
   conv => whnf
   refine EffR.callN (tNeed_fn b' (decide (0 ≤ l[k].cn ∧ l[k].cn < s.options[j].ch.length))) [0, 1, 2, 3, 4, 5, 6, 7, 8] ?CNr2 (by repeat (first | exact trivial | refine ⟨by rfl, ?_⟩)) ?CNa2
   case CNa2 => rfl
   intro _ _
   conv => whnf
   try refine And.intro (by (conv => whnf); (repeat (refine And.intro (by (conv => whnf); first | rfl | exact trivial) ?_; conv => whnf)); exact trivial) ?_
   try refine gR ?_
   conv => whnf
   try refine gS ?_
   conv => whnf
   repeat ((first | refine oM ?_ | refine oL ?_ | refine oR ?_); (try intro _); conv => whnf)
   refine RunsS.subR [] (back ((k + 1, b' && decide (0 ≤ l[k].cn ∧ l[k].cn < s.options[j].ch.length))) ?BJ3 ?BM3) ?SS3 ?HH3
   case BJ3 => exact (⟨hk, all_step hk hJ.2 (condOk_y e hj)⟩)
   case BM3 => (try dsimp only); omega
   case SS3 => repeat (first | exact trivial | refine ⟨by rfl, ?_⟩)
   case HH3 => repeat (first | exact trivial | refine ⟨by rfl, ?_⟩)
  ·refine RunsS.held tab (.fl 0 (.fl 1 (.fl 2 (.fl 3 (.fl 4 (.fl 5 (.fl 6 (.fl 7 (.fl 8 (.e1 9 [] (.fl 10 (.fl 11 (.fl 12 (.fl 13 (.fl 14 (.fl 15 (.fl 16 (.fl 17 (.fl 18 (.fl 19 (.fl 20 (.fl 21 (.fl 22 (.fl 23 (.e1 24 [] (.fl 25 (.e1 26 [] .done))))))))))))))))))))))))))) (by kernel_rfl) ?_
   conv => whnf
   try refine gR ?_
   conv => whnf
   conv => whnf
   refine EffR.callV (fun Ez Hz Az Sz K => tIndex_n l[k].on (rws OpV.row s.options).length (by rw [lO]; exact h1)) (by (conv => whnf); (repeat (refine And.intro (by (conv => whnf); first | rfl | exact trivial) ?_; conv => whnf)); exact trivial) ?_
   conv => whnf
   try refine gR ?_
   conv => whnf
   repeat ((first | refine oM ?_ | refine oL ?_ | refine oR ?_ | refine oB ?_); (try intro _); conv => whnf)
   conv => whnf
   refine EffR.callN (tNeed_fn b' false) [0, 1, 2, 3, 4, 5, 6, 7, 8] ?CNr4 (by repeat (first | exact trivial | refine ⟨by rfl, ?_⟩)) ?CNa4
   case CNa4 => rfl
   intro _ _
   conv => whnf
   try refine And.intro (by (conv => whnf); (repeat (refine And.intro (by (conv => whnf); first | rfl | exact trivial) ?_; conv => whnf)); exact trivial) ?_
   try refine gR ?_
   conv => whnf
   try refine gS ?_
   conv => whnf
   repeat ((first | refine oM ?_ | refine oL ?_ | refine oR ?_); (try intro _); conv => whnf)
   refine RunsS.subR [] (back ((k + 1, b' && false)) ?BJ5 ?BM5) ?SS5 ?HH5
   case BJ5 => exact (⟨hk, all_step hk hJ.2 (condOk_n h1)⟩)
   case BM5 => (try dsimp only); omega
   case SS5 => repeat (first | exact trivial | refine ⟨by rfl, ?_⟩)
   case HH5 => repeat (first | exact trivial | refine ⟨by rfl, ?_⟩)
 ·have hk : k = l.length := by omega
  have h2 := hJ.2
  rw [hk, List.take_length] at h2
  conv => whnf
  refine RunsS.callV (fun Ez Hz Az Sz K => twinsC_fn l (RoF.up (Up.kp K) hT)) ?_
  conv => whnf
  try refine gS ?_
  conv => whnf
  refine RunsS.callN (tNeed_fn b' (!decide (¬ (l.map Cd.on).Nodup))) [0, 1, 2, 3, 4, 5, 6, 7, 8] ?CNr6 (by repeat (first | exact trivial | refine ⟨by rfl, ?_⟩)) ?CNa6
  case CNa6 => rfl
  intro _ _
  conv => whnf
  try refine gS ?_
  conv => whnf
  have e : (b' && !decide (¬ (l.map Cd.on).Nodup)) = (b && decide (condsOk s l)) := by
   rw [h2, Bool.eq_iff_iff]
   simp only [Bool.and_eq_true, decide_eq_true_eq, and_assoc, Bool.not_eq_true', decide_eq_false_iff_not, Decidable.not_not]
   exact Iff.rfl
  rw [e]
  try refine RunsS.retU ?_
  try refine RunsS.finU ?_
  exact UnwS.ret tab Tryz.func47 rfl (EndS.mk (()) (trivial) [] (by repeat (first | exact trivial | refine ⟨by rfl, ?_⟩)) rfl rfl (okRet rfl rfl))
theorem tAmount_fn (s : SrcV) (b : Bool) (a : Am) : FnS Tryz.prog 78 9 [.ptr 8 0, .agg (toV a.row)] (ckH s b) (fun _ : Unit => True) (fun _ => .ret (.tup []) 9 (ckH s (b && decide (amtOk s a)))) := by
 have lU := rowsU_len s.units
 have lI := rws_len It.row s.items
 have lP := rwsB_len s.plants
 have lM := rws_len Mc.row s.machines
 have lO := rws_len OpV.row s.options
 have lF := rws_len FbV.row s.forbids
 have lR := rws_len RcV.row s.recipes
 have lS := rws_len Sw.row s.swaps
 have key : ∀ x : Bool, (x = true ↔ osat (s.base a.inn) fun b => osat (at? s.units a.un) fun u => u.base = b) → (b && decide (bt a.n 1 1048576) && decide (bt a.d 1 1048576) && x) = (b && decide (amtOk s a)) := by
  intro x hx
  rw [Bool.eq_iff_iff]
  simp only [Bool.and_eq_true, decide_eq_true_eq, amtOk, and_assoc, hx]
 cases hb : s.base a.inn with
 | none =>
  refine FnS.of Tryz.func78 (by kernel_rfl) rfl Tryz.ntmps78 rfl fun E0 F h w0 cs => ?_
  conv => whnf
  refine gS ?_
  conv => whnf
  refine RunsS.callV (fun Ez Hz Az Sz K => tBetween_fn a.n 1 1048576) ?_
  conv => whnf
  try refine gS ?_
  conv => whnf
  refine RunsS.callN (tNeed_fn b (decide (bt a.n 1 1048576))) [0, 1, 2, 3, 4, 5, 6, 7, 8] ?CNr7 (by repeat (first | exact trivial | refine ⟨by rfl, ?_⟩)) ?CNa7
  case CNa7 => rfl
  intro _ _
  conv => whnf
  try refine gS ?_
  conv => whnf
  refine RunsS.callV (fun Ez Hz Az Sz K => tBetween_fn a.d 1 1048576) ?_
  conv => whnf
  try refine gS ?_
  conv => whnf
  refine RunsS.callN (tNeed_fn _ (decide (bt a.d 1 1048576))) [0, 1, 2, 3, 4, 5, 6, 7, 8] ?CNr8 (by repeat (first | exact trivial | refine ⟨by rfl, ?_⟩)) ?CNa8
  case CNa8 => rfl
  intro _ _
  conv => whnf
  try refine gS ?_
  conv => whnf
  refine RunsS.callN (tBaseN_fn _ hb) [0, 1, 2, 3, 4, 5, 6, 7, 8] ?CNr9 (by repeat (first | exact trivial | refine ⟨by rfl, ?_⟩)) ?CNa9
  case CNa9 => rfl
  intro _ _
  conv => whnf
  try refine gS ?_
  conv => whnf
  refine RunsS.held tab (.fl 0 (.fl 1 (.fl 2 (.fl 3 (.fl 4 (.fl 5 (.fl 6 (.fl 7 (.fl 8 (.fl 9 (.fl 10 (.e1 11 [] (.fl 12 (.fl 13 (.fl 14 (.fl 15 (.fl 16 (.fl 17 (.fl 18 (.fl 19 (.fl 20 (.fl 21 (.fl 22 (.fl 23 (.fl 24 (.fl 25 (.fl 26 (.e1 27 [] .done)))))))))))))))))))))))))))) (by kernel_rfl) ?_
  conv => whnf
  try refine gR ?_
  conv => whnf
  repeat ((first | refine oM ?_ | refine oL ?_ | refine oR ?_ | refine oB ?_); (try intro _); conv => whnf)
  conv => whnf
  refine EffR.callN (tNeed_fn _ false) [0, 1, 2, 3, 4, 5, 6, 7, 8] ?CNr10 (by repeat (first | exact trivial | refine ⟨by rfl, ?_⟩)) ?CNa10
  case CNa10 => rfl
  intro _ _
  conv => whnf
  try refine And.intro (by (conv => whnf); (repeat (refine And.intro (by (conv => whnf); first | rfl | exact trivial) ?_; conv => whnf)); exact trivial) ?_
  try refine gR ?_
  conv => whnf
  try refine gS ?_
  conv => whnf
  rw [key false (by rw [hb]; exact ⟨fun h => (by cases h), fun h => h.elim⟩)]
  try refine RunsS.retU ?_
  try refine RunsS.finU ?_
  exact UnwS.ret tab Tryz.func78 rfl (EndS.mk (()) (trivial) [] (by repeat (first | exact trivial | refine ⟨by rfl, ?_⟩)) rfl rfl (okRet rfl rfl))
 | some n =>
  by_cases h1 : idx a.un s.units.length
  ·obtain ⟨j, e, hj, e3⟩ := at?_idx h1
   refine FnS.of Tryz.func78 (by kernel_rfl) rfl Tryz.ntmps78 rfl fun E0 F h w0 cs => ?_
   conv => whnf
   refine gS ?_
   conv => whnf
   refine RunsS.callV (fun Ez Hz Az Sz K => tBetween_fn a.n 1 1048576) ?_
   conv => whnf
   try refine gS ?_
   conv => whnf
   refine RunsS.callN (tNeed_fn b (decide (bt a.n 1 1048576))) [0, 1, 2, 3, 4, 5, 6, 7, 8] ?CNr11 (by repeat (first | exact trivial | refine ⟨by rfl, ?_⟩)) ?CNa11
   case CNa11 => rfl
   intro _ _
   conv => whnf
   try refine gS ?_
   conv => whnf
   refine RunsS.callV (fun Ez Hz Az Sz K => tBetween_fn a.d 1 1048576) ?_
   conv => whnf
   try refine gS ?_
   conv => whnf
   refine RunsS.callN (tNeed_fn _ (decide (bt a.d 1 1048576))) [0, 1, 2, 3, 4, 5, 6, 7, 8] ?CNr12 (by repeat (first | exact trivial | refine ⟨by rfl, ?_⟩)) ?CNa12
   case CNa12 => rfl
   intro _ _
   conv => whnf
   try refine gS ?_
   conv => whnf
   refine RunsS.callN (tBaseS_fn _ hb) [0, 1, 2, 3, 4, 5, 6, 7, 8] ?CNr13 (by repeat (first | exact trivial | refine ⟨by rfl, ?_⟩)) ?CNa13
   case CNa13 => rfl
   intro _ _
   conv => whnf
   try refine gS ?_
   conv => whnf
   refine RunsS.held tab (.fl 0 (.fl 1 (.fl 2 (.fl 3 (.fl 4 (.fl 5 (.fl 6 (.fl 7 (.fl 8 (.fl 9 (.fl 10 (.e1 11 [] (.fl 12 (.fl 13 (.fl 14 (.fl 15 (.fl 16 (.fl 17 (.fl 18 (.fl 19 (.fl 20 (.fl 21 (.fl 22 (.fl 23 (.fl 24 (.fl 25 (.fl 26 (.e1 27 [] .done)))))))))))))))))))))))))))) (by kernel_rfl) ?_
   conv => whnf
   try refine gR ?_
   conv => whnf
   conv => whnf
   refine EffR.callV (fun Ez Hz Az Sz K => tIndex_y a.un (rowsU s.units).length (by omega)) (by (conv => whnf); (repeat (refine And.intro (by (conv => whnf); first | rfl | exact trivial) ?_; conv => whnf)); exact trivial) ?_
   conv => whnf
   try refine gR ?_
   conv => whnf
   repeat ((first | refine oM ?_ | refine oL ?_ | refine oR ?_ | refine oB ?_); (try intro _); conv => whnf)
   conv => whnf
   refine ⟨_, (by rw [e]; exact rowsU_get hj), ?_⟩
   conv => whnf
   conv => whnf
   conv => whnf
   refine EffR.callN (tNeed_fn _ (decide (s.units[j].base = n))) [0, 1, 2, 3, 4, 5, 6, 7, 8] ?CNr14 (by repeat (first | exact trivial | refine ⟨by rfl, ?_⟩)) ?CNa14
   case CNa14 => rfl
   intro _ _
   conv => whnf
   try refine And.intro (by (conv => whnf); (repeat (refine And.intro (by (conv => whnf); first | rfl | exact trivial) ?_; conv => whnf)); exact trivial) ?_
   try refine gR ?_
   conv => whnf
   try refine gS ?_
   conv => whnf
   rw [key (decide (s.units[j].base = n)) (by rw [hb, e3]; exact decide_eq_true_iff)]
   try refine RunsS.retU ?_
   try refine RunsS.finU ?_
   exact UnwS.ret tab Tryz.func78 rfl (EndS.mk (()) (trivial) [] (by repeat (first | exact trivial | refine ⟨by rfl, ?_⟩)) rfl rfl (okRet rfl rfl))
  ·refine FnS.of Tryz.func78 (by kernel_rfl) rfl Tryz.ntmps78 rfl fun E0 F h w0 cs => ?_
   conv => whnf
   refine gS ?_
   conv => whnf
   refine RunsS.callV (fun Ez Hz Az Sz K => tBetween_fn a.n 1 1048576) ?_
   conv => whnf
   try refine gS ?_
   conv => whnf
   refine RunsS.callN (tNeed_fn b (decide (bt a.n 1 1048576))) [0, 1, 2, 3, 4, 5, 6, 7, 8] ?CNr15 (by repeat (first | exact trivial | refine ⟨by rfl, ?_⟩)) ?CNa15
   case CNa15 => rfl
   intro _ _
   conv => whnf
   try refine gS ?_
   conv => whnf
   refine RunsS.callV (fun Ez Hz Az Sz K => tBetween_fn a.d 1 1048576) ?_
   conv => whnf
   try refine gS ?_
   conv => whnf
   refine RunsS.callN (tNeed_fn _ (decide (bt a.d 1 1048576))) [0, 1, 2, 3, 4, 5, 6, 7, 8] ?CNr16 (by repeat (first | exact trivial | refine ⟨by rfl, ?_⟩)) ?CNa16
   case CNa16 => rfl
   intro _ _
   conv => whnf
   try refine gS ?_
   conv => whnf
   refine RunsS.callN (tBaseS_fn _ hb) [0, 1, 2, 3, 4, 5, 6, 7, 8] ?CNr17 (by repeat (first | exact trivial | refine ⟨by rfl, ?_⟩)) ?CNa17
   case CNa17 => rfl
   intro _ _
   conv => whnf
   try refine gS ?_
   conv => whnf
   refine RunsS.held tab (.fl 0 (.fl 1 (.fl 2 (.fl 3 (.fl 4 (.fl 5 (.fl 6 (.fl 7 (.fl 8 (.fl 9 (.fl 10 (.e1 11 [] (.fl 12 (.fl 13 (.fl 14 (.fl 15 (.fl 16 (.fl 17 (.fl 18 (.fl 19 (.fl 20 (.fl 21 (.fl 22 (.fl 23 (.fl 24 (.fl 25 (.fl 26 (.e1 27 [] .done)))))))))))))))))))))))))))) (by kernel_rfl) ?_
   conv => whnf
   try refine gR ?_
   conv => whnf
   conv => whnf
   refine EffR.callV (fun Ez Hz Az Sz K => tIndex_n a.un (rowsU s.units).length (by rw [lU]; exact h1)) (by (conv => whnf); (repeat (refine And.intro (by (conv => whnf); first | rfl | exact trivial) ?_; conv => whnf)); exact trivial) ?_
   conv => whnf
   try refine gR ?_
   conv => whnf
   conv => whnf
   refine EffR.callN (tNeed_fn _ false) [0, 1, 2, 3, 4, 5, 6, 7, 8] ?CNr18 (by repeat (first | exact trivial | refine ⟨by rfl, ?_⟩)) ?CNa18
   case CNa18 => rfl
   intro _ _
   conv => whnf
   try refine And.intro (by (conv => whnf); (repeat (refine And.intro (by (conv => whnf); first | rfl | exact trivial) ?_; conv => whnf)); exact trivial) ?_
   try refine gR ?_
   conv => whnf
   try refine gS ?_
   conv => whnf
   rw [key false (by rw [hb, at?_none h1]; exact ⟨fun h => (by cases h), fun h => h.elim⟩)]
   try refine RunsS.retU ?_
   try refine RunsS.finU ?_
   exact UnwS.ret tab Tryz.func78 rfl (EndS.mk (()) (trivial) [] (by repeat (first | exact trivial | refine ⟨by rfl, ?_⟩)) rfl rfl (okRet rfl rfl))
theorem firstOk_nil {r : RcV} (h : r.out = []) : false = decide (firstOk r) := by
 refine (decide_eq_false fun hc => ?_).symm
 unfold firstOk at hc
 rw [h] at hc
 exact hc
theorem firstOk_at {r : RcV} (h : 0 < r.out.length) : decide ((r.out[0]'h).inn = r.inum) = decide (firstOk r) := by
 refine decide_eq_decide.2 ?_
 unfold firstOk
 rw [osat_at h]
abbrev rcC (b : Nat) (r : RcV) (c i o u : SV) : Nat × Fw.Blk := (b, .cells 48 [.v (.string r.item), .v (.string r.plant), .v (.int .i64 r.fr), .v (.int .i64 r.to), c, i, o, .v (.int .i64 r.rwN), .v (.int .i64 r.rwD), .v (.int .i64 r.yN), .v (.int .i64 r.yD), .v (.int .i64 r.tN), .v (.int .i64 r.tD), .v (.int .i64 r.lead), u, .v (.int .i64 r.inum), .v (.int .i64 r.pnum)])
theorem tOuts_fn (s : SrcV) (b : Bool) (r : RcV) : FnT Tryz.prog (fun F h => r.ok F h) 79 9 [.ptr 8 0, .agg (toV r.row)] (ckH s b) (fun _ : Unit => True) (fun _ => .ret (.tup []) 9 (ckH s (b && decide (outsOk s r)))) := by
 have hl := rws_len Am.row r.out
 have hd : ∀ a : Am, (decide (amtOk s a) && !a.back) = decide (amtOk s a ∧ a.back = false) := fun a => by
  rw [Bool.eq_iff_iff]; simp only [Bool.and_eq_true, decide_eq_true_eq, Bool.not_eq_true']
 refine FnT.of Tryz.func79 (by kernel_rfl) rfl Tryz.ntmps79 rfl fun E0 F h hT w0 cs => ?_
 conv => whnf
 refine gS ?_
 conv => whnf
 have hm := hT.o.len
 refine RunsS.nameCell (fun _ x => x) 9 6 (by exact hT.o) ?_
 conv => whnf
 try refine gS ?_
 conv => whnf
 refine RunsS.join (fun (_ : Unit) => [(3, .ptr 9 0), (0, .ptr 8 0)]) (fun (_ : Unit) => [ckC (b && decide (firstOk r)), (10, .ro 7 (rws Am.row r.out)), rcC 9 r (.v (.slice r.hc.a r.cs.length r.hc.c)) (.v (.slice r.hi.a r.inn.length r.hi.c)) (.buf 10) (.v (.slice r.hr.a r.runs.length r.hr.c)), (0, .ro 8 (rowsU s.units)), (1, .ro 6 (rws It.row s.items)), (2, .ro 1 (rwsB s.plants)), (3, .ro 4 (rws Mc.row s.machines)), (4, .ro 2 (rws OpV.row s.options)), (5, .ro 1 (rws FbV.row s.forbids)), (6, .ro 17 (rws RcV.row s.recipes)), (7, .ro 4 (rws Sw.row s.swaps))]) 11 (fun (_ : Unit) => True) ?_ (fun meet => ?_)
 rotate_left
 ·by_cases h0 : 0 < r.out.length
  ·refine RunsS.held tab (.fl 0 (.fl 1 (.fl 2 (.fl 3 (.fl 4 (.fl 5 (.fl 6 (.fl 7 (.fl 8 (.fl 9 (.fl 10 (.fl 11 (.fl 12 (.fl 13 (.fl 14 (.e1 15 [] .done)))))))))))))))) (by kernel_rfl) ?_
   conv => whnf
   try refine gR ?_
   conv => whnf
   repeat ((first | refine oM ?_ | refine oL ?_ | refine oR ?_ | refine oB ?_); (try intro _); conv => whnf)
   conv => whnf
   refine ⟨_, (rws_get (k := 0) h0), ?_⟩
   conv => whnf
   conv => whnf
   conv => whnf
   refine EffR.callN (tNeed_fn b (decide ((r.out[0]'h0).inn = r.inum))) [0, 1, 2, 3, 4, 5, 6, 7, 8] ?CNr19 (by repeat (first | exact trivial | refine ⟨by rfl, ?_⟩)) ?CNa19
   case CNa19 => rfl
   intro _ _
   conv => whnf
   try refine And.intro (by (conv => whnf); (repeat (refine And.intro (by (conv => whnf); first | rfl | exact trivial) ?_; conv => whnf)); exact trivial) ?_
   try refine gR ?_
   conv => whnf
   try refine gS ?_
   conv => whnf
   rw [firstOk_at h0]
   refine RunsS.subR [] (meet (()) ?BJ20) ?SS20 ?HH20
   case BJ20 => first | trivial | omega | ((try dsimp only); omega)
   case SS20 => repeat (first | exact trivial | refine ⟨by rfl, ?_⟩)
   case HH20 => repeat (first | exact trivial | refine ⟨by rfl, ?_⟩)
  ·refine RunsS.held tab (.fl 0 (.fl 1 (.fl 2 (.fl 3 (.fl 4 (.fl 5 (.fl 6 (.fl 7 (.fl 8 (.fl 9 (.fl 10 (.fl 11 (.fl 12 (.fl 13 (.fl 14 (.e1 15 [] .done)))))))))))))))) (by kernel_rfl) ?_
   conv => whnf
   try refine gR ?_
   conv => whnf
   repeat ((first | refine oM ?_ | refine oL ?_ | refine oR ?_ | refine oB ?_); (try intro _); conv => whnf)
   conv => whnf
   refine EffR.callN (tNeed_fn b false) [0, 1, 2, 3, 4, 5, 6, 7, 8] ?CNr21 (by repeat (first | exact trivial | refine ⟨by rfl, ?_⟩)) ?CNa21
   case CNa21 => rfl
   intro _ _
   conv => whnf
   try refine And.intro (by (conv => whnf); (repeat (refine And.intro (by (conv => whnf); first | rfl | exact trivial) ?_; conv => whnf)); exact trivial) ?_
   try refine gR ?_
   conv => whnf
   try refine gS ?_
   conv => whnf
   rw [show (b && false) = (b && decide (firstOk r)) by rw [firstOk_nil (r := r) (List.eq_nil_of_length_eq_zero (by omega))]]
   refine RunsS.subR [] (meet (()) ?BJ22) ?SS22 ?HH22
   case BJ22 => first | trivial | omega | ((try dsimp only); omega)
   case SS22 => repeat (first | exact trivial | refine ⟨by rfl, ?_⟩)
   case HH22 => repeat (first | exact trivial | refine ⟨by rfl, ?_⟩)
 intro _ _
 try refine gS ?_
 conv => whnf
 refine RunsS.subR [] (RunsS.loop (fun (⟨k, b'⟩ : Nat × Bool) => [(25, .v (.int .i64 k)), (24, .v (.int .i64 (rws Am.row r.out).length)), (23, .buf 10), (3, .ptr 9 0), (0, .ptr 8 0)]) (fun (⟨k, b'⟩ : Nat × Bool) => [ckC b', (10, .ro 7 (rws Am.row r.out)), rcC 9 r (.v (.slice r.hc.a r.cs.length r.hc.c)) (.v (.slice r.hi.a r.inn.length r.hi.c)) (.buf 10) (.v (.slice r.hr.a r.runs.length r.hr.c)), (0, .ro 8 (rowsU s.units)), (1, .ro 6 (rws It.row s.items)), (2, .ro 1 (rwsB s.plants)), (3, .ro 4 (rws Mc.row s.machines)), (4, .ro 2 (rws OpV.row s.options)), (5, .ro 1 (rws FbV.row s.forbids)), (6, .ro 17 (rws RcV.row s.recipes)), (7, .ro 4 (rws Sw.row s.swaps))]) 11 (fun (⟨k, b'⟩ : Nat × Bool) => k ≤ r.out.length ∧ b' = (b && decide (firstOk r) && decide (∀ a ∈ r.out.take k, amtOk s a ∧ a.back = false))) (fun (⟨k, b'⟩ : Nat × Bool) => r.out.length - k) ?round23 ((0, b && decide (firstOk r))) ?J023) ?SS23 ?HH23
 case J023 => exact (⟨Nat.zero_le _, all_zero _⟩)
 case SS23 => repeat (first | exact trivial | refine ⟨by rfl, ?_⟩)
 case HH23 => repeat (first | exact trivial | refine ⟨by rfl, ?_⟩)
 rintro ⟨k, b'⟩ hJ back
 try dsimp only at hJ back
 conv => whnf
 try dsimp only
 refine gS ?_
 conv => whnf
 refine ⟨fun hk => ?_, fun hk => ?_⟩ <;> conv => whnf
 ·have hk : k < r.out.length := by omega
  conv => whnf
  repeat ((first | refine oM ?_ | refine oL ?_ | refine oR ?_); (try intro _); conv => whnf)
  refine ⟨_, rws_get hk, ?_⟩
  conv => whnf
  try (refine oN ?_; conv => whnf)
  refine RunsS.callN (tAmount_fn s b' r.out[k]) [0, 1, 2, 3, 4, 5, 6, 7, 8] ?CNr24 (by repeat (first | exact trivial | refine ⟨by rfl, ?_⟩)) ?CNa24
  case CNa24 => rfl
  intro _ _
  conv => whnf
  try refine gS ?_
  conv => whnf
  refine RunsS.callN (tNeed_fn (b' && decide (amtOk s r.out[k])) (!r.out[k].back)) [0, 1, 2, 3, 4, 5, 6, 7, 8] ?CNr25 (by repeat (first | exact trivial | refine ⟨by rfl, ?_⟩)) ?CNa25
  case CNa25 => rfl
  intro _ _
  conv => whnf
  try refine gS ?_
  conv => whnf
  repeat ((first | refine oM ?_ | refine oL ?_ | refine oR ?_); (try intro _); conv => whnf)
  rw [Bool.and_assoc b', hd]
  refine RunsS.subR [] (back ((k + 1, b' && decide (amtOk s r.out[k] ∧ r.out[k].back = false))) ?BJ26 ?BM26) ?SS26 ?HH26
  case BJ26 => exact (⟨hk, all_step hk hJ.2 rfl⟩)
  case BM26 => (try dsimp only); omega
  case SS26 => repeat (first | exact trivial | refine ⟨by rfl, ?_⟩)
  case HH26 => repeat (first | exact trivial | refine ⟨by rfl, ?_⟩)
 ·have hk : k = r.out.length := by omega
  have h2 := hJ.2
  rw [hk, List.take_length] at h2
  conv => whnf
  refine RunsS.callV (fun Ez Hz Az Sz K => twinsA_fn r.out (Sz.ro (b := 10) rfl)) ?_
  conv => whnf
  try refine gS ?_
  conv => whnf
  refine RunsS.callN (tNeed_fn b' (!decide (¬ (r.out.map Am.inn).Nodup))) [0, 1, 2, 3, 4, 5, 6, 7, 8] ?CNr27 (by repeat (first | exact trivial | refine ⟨by rfl, ?_⟩)) ?CNa27
  case CNa27 => rfl
  intro _ _
  conv => whnf
  try refine gS ?_
  conv => whnf
  have e : (b' && !decide (¬ (r.out.map Am.inn).Nodup)) = (b && decide (outsOk s r)) := by
   rw [h2, Bool.eq_iff_iff]
   simp only [Bool.and_eq_true, decide_eq_true_eq, and_assoc, Bool.not_eq_true', decide_eq_false_iff_not, Decidable.not_not]
   exact Iff.rfl
  rw [e]
  try refine RunsS.retU ?_
  try refine RunsS.finU ?_
  exact UnwS.ret tab Tryz.func79 rfl (EndS.mk (()) (trivial) [] (by repeat (first | exact trivial | refine ⟨by rfl, ?_⟩)) rfl rfl (okRet rfl rfl))
theorem runOk_n {s : SrcV} {r : RcV} {x : Rn} (h : ¬ idx x.mn s.machines.length) : (false && decide (bt x.slots 0 15)) = decide (runOk s r x) := by
 rw [Bool.false_and]
 refine (decide_eq_false fun hc => ?_).symm
 unfold runOk at hc
 rw [at?_none h] at hc
 exact hc.1
theorem runOk_y {s : SrcV} {r : RcV} {x : Rn} {k : Nat} (e : x.mn = k) (hk : k < s.machines.length) : (decide (s.machines[k].pn = r.pnum) && decide (bt x.slots 0 15)) = decide (runOk s r x) := by
 rw [Bool.eq_iff_iff]
 simp only [Bool.and_eq_true, decide_eq_true_eq]
 unfold runOk
 rw [e, at?_nat, osat_at hk]
theorem tRuns_fn (s : SrcV) (b : Bool) (r : RcV) : FnT Tryz.prog (fun F h => r.ok F h) 81 9 [.ptr 8 0, .agg (toV r.row)] (ckH s b) (fun _ : Unit => True) (fun _ => .ret (.tup []) 9 (ckH s (b && decide (runsOk s r)))) := by
 have lU := rowsU_len s.units
 have lI := rws_len It.row s.items
 have lP := rwsB_len s.plants
 have lM := rws_len Mc.row s.machines
 have lO := rws_len OpV.row s.options
 have lF := rws_len FbV.row s.forbids
 have lR := rws_len RcV.row s.recipes
 have lS := rws_len Sw.row s.swaps
 have hl := rws_len Rn.row r.runs
 refine FnT.of Tryz.func81 (by kernel_rfl) rfl Tryz.ntmps81 rfl fun E0 F h hT w0 cs => ?_
 conv => whnf
 refine gS ?_
 conv => whnf
 have hm := hT.rn.len
 refine RunsS.nameCell (fun _ x => x) 9 14 (by exact hT.rn) ?_
 conv => whnf
 try refine gS ?_
 conv => whnf
 refine RunsS.nameAt (fun _ x => x) 7 (by exact hT.rn) ?_
 conv => whnf
 try refine gS ?_
 conv => whnf
 refine RunsS.subR [] (RunsS.loop (fun (⟨k, b'⟩ : Nat × Bool) => [(9, .v (.int .i64 k)), (8, .v (.int .i64 r.runs.length)), (7, .buf 11), (3, .ptr 9 0), (0, .ptr 8 0)]) (fun (⟨k, b'⟩ : Nat × Bool) => [ckC b', (11, .ro 3 (rws Rn.row r.runs)), (10, .ro 3 (rws Rn.row r.runs)), rcC 9 r (.v (.slice r.hc.a r.cs.length r.hc.c)) (.v (.slice r.hi.a r.inn.length r.hi.c)) (.v (.slice r.ho.a r.out.length r.ho.c)) (.buf 10), (0, .ro 8 (rowsU s.units)), (1, .ro 6 (rws It.row s.items)), (2, .ro 1 (rwsB s.plants)), (3, .ro 4 (rws Mc.row s.machines)), (4, .ro 2 (rws OpV.row s.options)), (5, .ro 1 (rws FbV.row s.forbids)), (6, .ro 17 (rws RcV.row s.recipes)), (7, .ro 4 (rws Sw.row s.swaps))]) 12 (fun (⟨k, b'⟩ : Nat × Bool) => k ≤ r.runs.length ∧ b' = (b && decide (∀ a ∈ r.runs.take k, runOk s r a))) (fun (⟨k, b'⟩ : Nat × Bool) => r.runs.length - k) ?round28 ((0, b)) ?J028) ?SS28 ?HH28
 case J028 => exact (⟨Nat.zero_le _, all_zero b⟩)
 case SS28 => repeat (first | exact trivial | refine ⟨by rfl, ?_⟩)
 case HH28 => repeat (first | exact trivial | refine ⟨by rfl, ?_⟩)
 rintro ⟨k, b'⟩ hJ back
 try dsimp only at hJ back
 conv => whnf
 try dsimp only
 refine gS ?_
 conv => whnf
 refine ⟨fun hk => ?_, fun hk => ?_⟩ <;> conv => whnf
 ·have hk : k < r.runs.length := by omega
  conv => whnf
  repeat ((first | refine oM ?_ | refine oL ?_ | refine oR ?_); (try intro _); conv => whnf)
  refine ⟨_, rws_get hk, ?_⟩
  conv => whnf
  try (refine oN ?_; conv => whnf)
  by_cases h1 : idx r.runs[k].mn s.machines.length
  ·obtain ⟨j, e, hj, _⟩ := at?_idx h1
   refine RunsS.held tab (.fl 0 (.fl 1 (.fl 2 (.fl 3 (.fl 4 (.fl 5 (.fl 6 (.fl 7 (.fl 8 (.e1 9 [] (.fl 10 (.fl 11 (.fl 12 (.fl 13 (.fl 14 (.fl 15 (.fl 16 (.fl 17 (.fl 18 (.fl 19 (.fl 20 (.fl 21 (.fl 22 (.fl 23 (.fl 24 (.e1 25 [] .done)))))))))))))))))))))))))) (by kernel_rfl) ?_
   conv => whnf
   try refine gR ?_
   conv => whnf
   conv => whnf
   refine EffR.callV (fun Ez Hz Az Sz K => tIndex_y r.runs[k].mn (rws Mc.row s.machines).length (by omega)) (by (conv => whnf); (repeat (refine And.intro (by (conv => whnf); first | rfl | exact trivial) ?_; conv => whnf)); exact trivial) ?_
   conv => whnf
   try refine gR ?_
   conv => whnf
   repeat ((first | refine oM ?_ | refine oL ?_ | refine oR ?_ | refine oB ?_); (try intro _); conv => whnf)
   conv => whnf
   refine ⟨_, (by rw [e]; exact rws_get hj), ?_⟩
   conv => whnf
   conv => whnf
   conv => whnf
   refine EffR.callN (tNeed_fn b' (decide (s.machines[j].pn = r.pnum))) [0, 1, 2, 3, 4, 5, 6, 7, 8] ?CNr29 (by repeat (first | exact trivial | refine ⟨by rfl, ?_⟩)) ?CNa29
   case CNa29 => rfl
   intro _ _
   conv => whnf
   try refine And.intro (by (conv => whnf); (repeat (refine And.intro (by (conv => whnf); first | rfl | exact trivial) ?_; conv => whnf)); exact trivial) ?_
   try refine gR ?_
   conv => whnf
   try refine gS ?_
   conv => whnf
   refine RunsS.callV (fun Ez Hz Az Sz K => tBetween_fn r.runs[k].slots 0 15) ?_
   conv => whnf
   try refine gS ?_
   conv => whnf
   refine RunsS.callN (tNeed_fn _ (decide (bt r.runs[k].slots 0 15))) [0, 1, 2, 3, 4, 5, 6, 7, 8] ?CNr30 (by repeat (first | exact trivial | refine ⟨by rfl, ?_⟩)) ?CNa30
   case CNa30 => rfl
   intro _ _
   conv => whnf
   try refine gS ?_
   conv => whnf
   repeat ((first | refine oM ?_ | refine oL ?_ | refine oR ?_); (try intro _); conv => whnf)
   rw [Bool.and_assoc b', runOk_y e hj]
   refine RunsS.subR [] (back ((k + 1, b' && decide (runOk s r r.runs[k]))) ?BJ31 ?BM31) ?SS31 ?HH31
   case BJ31 => exact (⟨hk, all_step hk hJ.2 rfl⟩)
   case BM31 => (try dsimp only); omega
   case SS31 => repeat (first | exact trivial | refine ⟨by rfl, ?_⟩)
   case HH31 => repeat (first | exact trivial | refine ⟨by rfl, ?_⟩)
  ·refine RunsS.held tab (.fl 0 (.fl 1 (.fl 2 (.fl 3 (.fl 4 (.fl 5 (.fl 6 (.fl 7 (.fl 8 (.e1 9 [] (.fl 10 (.fl 11 (.fl 12 (.fl 13 (.fl 14 (.fl 15 (.fl 16 (.fl 17 (.fl 18 (.fl 19 (.fl 20 (.fl 21 (.fl 22 (.fl 23 (.fl 24 (.e1 25 [] .done)))))))))))))))))))))))))) (by kernel_rfl) ?_
   conv => whnf
   try refine gR ?_
   conv => whnf
   conv => whnf
   refine EffR.callV (fun Ez Hz Az Sz K => tIndex_n r.runs[k].mn (rws Mc.row s.machines).length (by rw [lM]; exact h1)) (by (conv => whnf); (repeat (refine And.intro (by (conv => whnf); first | rfl | exact trivial) ?_; conv => whnf)); exact trivial) ?_
   conv => whnf
   try refine gR ?_
   conv => whnf
   conv => whnf
   refine EffR.callN (tNeed_fn b' false) [0, 1, 2, 3, 4, 5, 6, 7, 8] ?CNr32 (by repeat (first | exact trivial | refine ⟨by rfl, ?_⟩)) ?CNa32
   case CNa32 => rfl
   intro _ _
   conv => whnf
   try refine And.intro (by (conv => whnf); (repeat (refine And.intro (by (conv => whnf); first | rfl | exact trivial) ?_; conv => whnf)); exact trivial) ?_
   try refine gR ?_
   conv => whnf
   try refine gS ?_
   conv => whnf
   refine RunsS.callV (fun Ez Hz Az Sz K => tBetween_fn r.runs[k].slots 0 15) ?_
   conv => whnf
   try refine gS ?_
   conv => whnf
   refine RunsS.callN (tNeed_fn _ (decide (bt r.runs[k].slots 0 15))) [0, 1, 2, 3, 4, 5, 6, 7, 8] ?CNr33 (by repeat (first | exact trivial | refine ⟨by rfl, ?_⟩)) ?CNa33
   case CNa33 => rfl
   intro _ _
   conv => whnf
   try refine gS ?_
   conv => whnf
   repeat ((first | refine oM ?_ | refine oL ?_ | refine oR ?_); (try intro _); conv => whnf)
   rw [Bool.and_assoc b', runOk_n h1]
   refine RunsS.subR [] (back ((k + 1, b' && decide (runOk s r r.runs[k]))) ?BJ34 ?BM34) ?SS34 ?HH34
   case BJ34 => exact (⟨hk, all_step hk hJ.2 rfl⟩)
   case BM34 => (try dsimp only); omega
   case SS34 => repeat (first | exact trivial | refine ⟨by rfl, ?_⟩)
   case HH34 => repeat (first | exact trivial | refine ⟨by rfl, ?_⟩)
 ·have hk : k = r.runs.length := by omega
  have h2 := hJ.2
  rw [hk, List.take_length] at h2
  conv => whnf
  refine RunsS.callV (fun Ez Hz Az Sz K => twinsR_fn r.runs (Sz.ro (b := 10) rfl)) ?_
  conv => whnf
  try refine gS ?_
  conv => whnf
  refine RunsS.callN (tNeed_fn b' (!decide (¬ (r.runs.map Rn.mn).Nodup))) [0, 1, 2, 3, 4, 5, 6, 7, 8] ?CNr35 (by repeat (first | exact trivial | refine ⟨by rfl, ?_⟩)) ?CNa35
  case CNa35 => rfl
  intro _ _
  conv => whnf
  try refine gS ?_
  conv => whnf
  have e : (b' && !decide (¬ (r.runs.map Rn.mn).Nodup)) = (b && decide (runsOk s r)) := by
   rw [h2, Bool.eq_iff_iff]
   simp only [Bool.and_eq_true, decide_eq_true_eq, and_assoc, Bool.not_eq_true', decide_eq_false_iff_not, Decidable.not_not]
   exact Iff.rfl
  rw [e]
  try refine RunsS.retU ?_
  try refine RunsS.finU ?_
  exact UnwS.ret tab Tryz.func81 rfl (EndS.mk (()) (trivial) [] (by repeat (first | exact trivial | refine ⟨by rfl, ?_⟩)) rfl rfl (okRet rfl rfl))

theorem tIdx_fn {h : Array Obj} (n : Int) {m l : Nat} (e : m = l) : FnV Tryz.prog 30 #[.int .i64 n, .int .i64 m] h fun r h' => r = .bool (decide (idx n l)) ∧ Keeps h.size h h' := by
 subst e; exact tIndex_fn n m
theorem tRecipe_fn (s : SrcV) (b : Bool) (r : RcV) : FnT Tryz.prog (fun F h => r.ok F h) 48 9 [.ptr 8 0, .agg (toV r.row)] (ckH s b) (fun _ : Unit => True) (fun _ => .ret (.tup []) 9 (ckH s (b && decide (recOk s r)))) := by
 have lU := rowsU_len s.units
 have lI := rws_len It.row s.items
 have lP := rwsB_len s.plants
 have lM := rws_len Mc.row s.machines
 have lO := rws_len OpV.row s.options
 have lF := rws_len FbV.row s.forbids
 have lR := rws_len RcV.row s.recipes
 have lS := rws_len Sw.row s.swaps
 have hl := rws_len Am.row r.inn
 refine FnT.of Tryz.func48 (by kernel_rfl) rfl Tryz.ntmps48 rfl fun E0 F h hT w0 cs => ?_
 conv => whnf
 refine gS ?_
 conv => whnf
 have hm := hT.i.len
 refine RunsS.held tab (.fl 0 (.fl 1 (.fl 2 (.fl 3 (.fl 4 (.fl 5 (.fl 6 (.fl 7 (.fl 8 (.e1 9 [] (.e1 10 [] .done))))))))))) (by kernel_rfl) ?_
 conv => whnf
 try refine gR ?_
 conv => whnf
 conv => whnf
 refine EffR.callV (fun Ez Hz Az Sz K => tIdx_fn r.inum lI) (by (conv => whnf); (repeat (refine And.intro (by (conv => whnf); first | rfl | exact trivial) ?_; conv => whnf)); exact trivial) ?_
 conv => whnf
 try refine gR ?_
 conv => whnf
 conv => whnf
 refine EffR.callN (tNeed_fn b (decide (idx r.inum s.items.length))) [0, 1, 2, 3, 4, 5, 6, 7, 8] ?CNr1 (by repeat (first | exact trivial | refine ⟨by rfl, ?_⟩)) ?CNa1
 case CNa1 => rfl
 intro _ _
 conv => whnf
 try refine And.intro (by (conv => whnf); (repeat (refine And.intro (by (conv => whnf); first | rfl | exact trivial) ?_; conv => whnf)); exact trivial) ?_
 try refine gR ?_
 conv => whnf
 try refine gS ?_
 conv => whnf
 refine RunsS.join (fun (_ : Unit) => [(3, .ptr 9 0), (0, .ptr 8 0)]) (fun (_ : Unit) => [ckC (b && decide (idx r.inum s.items.length) && decide (idx r.pnum s.plants.length)), (9, .cells 48 (toV r.row)), (0, .ro 8 (rowsU s.units)), (1, .ro 6 (rws It.row s.items)), (2, .ro 1 (rwsB s.plants)), (3, .ro 4 (rws Mc.row s.machines)), (4, .ro 2 (rws OpV.row s.options)), (5, .ro 1 (rws FbV.row s.forbids)), (6, .ro 17 (rws RcV.row s.recipes)), (7, .ro 4 (rws Sw.row s.swaps))]) 10 (fun (_ : Unit) => True) ?_ (fun meet => ?_)
 rotate_left
 ·refine RunsS.held tab (.fl 0 (.fl 1 (.fl 2 (.fl 3 (.fl 4 (.fl 5 (.fl 6 (.fl 7 (.fl 8 (.e1 9 [] (.e1 10 [] .done))))))))))) (by kernel_rfl) ?_
  conv => whnf
  try refine gR ?_
  conv => whnf
  conv => whnf
  refine EffR.callV (fun Ez Hz Az Sz K => tIdx_fn r.pnum lP) (by (conv => whnf); (repeat (refine And.intro (by (conv => whnf); first | rfl | exact trivial) ?_; conv => whnf)); exact trivial) ?_
  conv => whnf
  try refine gR ?_
  conv => whnf
  conv => whnf
  refine EffR.callN (tNeed_fn _ (decide (idx r.pnum s.plants.length))) [0, 1, 2, 3, 4, 5, 6, 7, 8] ?CNr2 (by repeat (first | exact trivial | refine ⟨by rfl, ?_⟩)) ?CNa2
  case CNa2 => rfl
  intro _ _
  conv => whnf
  try refine And.intro (by (conv => whnf); (repeat (refine And.intro (by (conv => whnf); first | rfl | exact trivial) ?_; conv => whnf)); exact trivial) ?_
  try refine gR ?_
  conv => whnf
  try refine gS ?_
  conv => whnf
  refine RunsS.subR [] (meet (()) ?BJ3) ?SS3 ?HH3
  case BJ3 => first | trivial | omega | ((try dsimp only); omega)
  case SS3 => repeat (first | exact trivial | refine ⟨by rfl, ?_⟩)
  case HH3 => repeat (first | exact trivial | refine ⟨by rfl, ?_⟩)
 intro _ _
 refine goS_run tab 1 _ _ _ _ ?_
 conv => whnf
 refine RunsS.join (fun (_ : Unit) => [(3, .ptr 9 0), (0, .ptr 8 0)]) (fun (_ : Unit) => [ckC (b && decide (idx r.inum s.items.length) && decide (idx r.pnum s.plants.length) && decide (daysOk r)), (9, .cells 48 (toV r.row)), (0, .ro 8 (rowsU s.units)), (1, .ro 6 (rws It.row s.items)), (2, .ro 1 (rwsB s.plants)), (3, .ro 4 (rws Mc.row s.machines)), (4, .ro 2 (rws OpV.row s.options)), (5, .ro 1 (rws FbV.row s.forbids)), (6, .ro 17 (rws RcV.row s.recipes)), (7, .ro 4 (rws Sw.row s.swaps))]) 10 (fun (_ : Unit) => True) ?_ (fun meet => ?_)
 rotate_left
 ·have kd : ∀ x : Bool, (x = true ↔ (0 ≤ r.fr ∧ r.fr < r.to ∧ r.to ≤ 1024)) → (b && decide (idx r.inum s.items.length) && decide (idx r.pnum s.plants.length) && x) = (b && decide (idx r.inum s.items.length) && decide (idx r.pnum s.plants.length) && decide (daysOk r)) := fun x hx => by
   rw [show x = decide (daysOk r) by rw [Bool.eq_iff_iff, decide_eq_true_eq]; exact hx]
  by_cases d1 : 0 ≤ r.fr
  ·by_cases d2 : r.fr < r.to
   ·try refine gS ?_
    conv => whnf
    repeat ((first | refine oM ?_ | refine oL ?_ | refine oR ?_); (try intro _); conv => whnf)
    refine RunsS.callN (tNeed_fn _ (decide (r.to ≤ 1024))) [0, 1, 2, 3, 4, 5, 6, 7, 8] ?CNr4 (by repeat (first | exact trivial | refine ⟨by rfl, ?_⟩)) ?CNa4
    case CNa4 => rfl
    intro _ _
    conv => whnf
    try refine gS ?_
    conv => whnf
    rw [kd (decide (r.to ≤ 1024)) (by rw [decide_eq_true_eq]; omega)]
    refine RunsS.subR [] (meet (()) ?BJ5) ?SS5 ?HH5
    case BJ5 => first | trivial | omega | ((try dsimp only); omega)
    case SS5 => repeat (first | exact trivial | refine ⟨by rfl, ?_⟩)
    case HH5 => repeat (first | exact trivial | refine ⟨by rfl, ?_⟩)
   ·try refine gS ?_
    conv => whnf
    repeat ((first | refine oM ?_ | refine oL ?_ | refine oR ?_); (try intro _); conv => whnf)
    refine RunsS.callN (tNeed_fn _ false) [0, 1, 2, 3, 4, 5, 6, 7, 8] ?CNr6 (by repeat (first | exact trivial | refine ⟨by rfl, ?_⟩)) ?CNa6
    case CNa6 => rfl
    intro _ _
    conv => whnf
    try refine gS ?_
    conv => whnf
    rw [kd false ⟨fun h => (by cases h), fun h => (by omega)⟩]
    refine RunsS.subR [] (meet (()) ?BJ7) ?SS7 ?HH7
    case BJ7 => first | trivial | omega | ((try dsimp only); omega)
    case SS7 => repeat (first | exact trivial | refine ⟨by rfl, ?_⟩)
    case HH7 => repeat (first | exact trivial | refine ⟨by rfl, ?_⟩)
  ·try refine gS ?_
   conv => whnf
   repeat ((first | refine oM ?_ | refine oL ?_ | refine oR ?_); (try intro _); conv => whnf)
   refine RunsS.callN (tNeed_fn _ false) [0, 1, 2, 3, 4, 5, 6, 7, 8] ?CNr8 (by repeat (first | exact trivial | refine ⟨by rfl, ?_⟩)) ?CNa8
   case CNa8 => rfl
   intro _ _
   conv => whnf
   try refine gS ?_
   conv => whnf
   rw [kd false ⟨fun h => (by cases h), fun h => (by omega)⟩]
   refine RunsS.subR [] (meet (()) ?BJ9) ?SS9 ?HH9
   case BJ9 => first | trivial | omega | ((try dsimp only); omega)
   case SS9 => repeat (first | exact trivial | refine ⟨by rfl, ?_⟩)
   case HH9 => repeat (first | exact trivial | refine ⟨by rfl, ?_⟩)
 intro _ _
 try refine gS ?_
 conv => whnf
 refine RunsS.callT (RoF.tok _ _ _) (hT.c) (tConds_fn s _ r.cs r.hc.a r.hc.c) [0, 1, 2, 3, 4, 5, 6, 7, 8] (by repeat (first | exact trivial | refine ⟨by rfl, ?_⟩)) ?CNa10 ?CNr10
 case CNa10 => rfl
 intro _ _
 conv => whnf
 try refine gS ?_
 conv => whnf
 refine RunsS.nameAt (fun _ x => x) 50 (by exact hT.i) ?_
 conv => whnf
 try refine gS ?_
 conv => whnf
 refine RunsS.subR [] (RunsS.loop (fun (⟨k, b'⟩ : Nat × Bool) => [(52, .v (.int .i64 k)), (51, .v (.int .i64 r.inn.length)), (50, .buf 10), (3, .ptr 9 0), (0, .ptr 8 0)]) (fun (⟨k, b'⟩ : Nat × Bool) => [(10, .ro 7 (rws Am.row r.inn)), ckC b', (9, .cells 48 (toV r.row)), (0, .ro 8 (rowsU s.units)), (1, .ro 6 (rws It.row s.items)), (2, .ro 1 (rwsB s.plants)), (3, .ro 4 (rws Mc.row s.machines)), (4, .ro 2 (rws OpV.row s.options)), (5, .ro 1 (rws FbV.row s.forbids)), (6, .ro 17 (rws RcV.row s.recipes)), (7, .ro 4 (rws Sw.row s.swaps))]) 11 (fun (⟨k, b'⟩ : Nat × Bool) => k ≤ r.inn.length ∧ b' = (b && decide (idx r.inum s.items.length) && decide (idx r.pnum s.plants.length) && decide (daysOk r) && decide (condsOk s r.cs) && decide (∀ a ∈ r.inn.take k, amtOk s a))) (fun (⟨k, b'⟩ : Nat × Bool) => r.inn.length - k) ?round11 ((0, b && decide (idx r.inum s.items.length) && decide (idx r.pnum s.plants.length) && decide (daysOk r) && decide (condsOk s r.cs))) ?J011) ?SS11 ?HH11
 case J011 => exact (⟨Nat.zero_le _, all_zero _⟩)
 case SS11 => repeat (first | exact trivial | refine ⟨by rfl, ?_⟩)
 case HH11 => repeat (first | exact trivial | refine ⟨by rfl, ?_⟩)
 rintro ⟨k, b'⟩ hJ back
 try dsimp only at hJ back
 conv => whnf
 try dsimp only
 refine gS ?_
 conv => whnf
 refine ⟨fun hk => ?_, fun hk => ?_⟩ <;> conv => whnf
 ·have hk : k < r.inn.length := by omega
  conv => whnf
  repeat ((first | refine oM ?_ | refine oL ?_ | refine oR ?_); (try intro _); conv => whnf)
  refine ⟨_, rws_get hk, ?_⟩
  conv => whnf
  try (refine oN ?_; conv => whnf)
  refine RunsS.callN (tAmount_fn s b' r.inn[k]) [0, 1, 2, 3, 4, 5, 6, 7, 8] ?CNr12 (by repeat (first | exact trivial | refine ⟨by rfl, ?_⟩)) ?CNa12
  case CNa12 => rfl
  intro _ _
  conv => whnf
  try refine gS ?_
  conv => whnf
  repeat ((first | refine oM ?_ | refine oL ?_ | refine oR ?_); (try intro _); conv => whnf)
  refine RunsS.subR [] (back ((k + 1, b' && decide (amtOk s r.inn[k]))) ?BJ13 ?BM13) ?SS13 ?HH13
  case BJ13 => exact (⟨hk, all_step hk hJ.2 rfl⟩)
  case BM13 => (try dsimp only); omega
  case SS13 => repeat (first | exact trivial | refine ⟨by rfl, ?_⟩)
  case HH13 => repeat (first | exact trivial | refine ⟨by rfl, ?_⟩)
 ·have hk : k = r.inn.length := by omega
  have h2 := hJ.2
  rw [hk, List.take_length] at h2
  conv => whnf
  refine RunsS.callT (RcV.ok.tok _) (hT) (tOuts_fn s b' r) [0, 1, 2, 3, 4, 5, 6, 7, 8] (by repeat (first | exact trivial | refine ⟨by rfl, ?_⟩)) ?CNa14 ?CNr14
  case CNa14 => rfl
  intro _ _
  conv => whnf
  try refine gS ?_
  conv => whnf
  refine RunsS.callN (tShare_fn s _ r.rwN r.rwD) [0, 1, 2, 3, 4, 5, 6, 7, 8] ?CNr15 (by repeat (first | exact trivial | refine ⟨by rfl, ?_⟩)) ?CNa15
  case CNa15 => rfl
  intro _ _
  conv => whnf
  try refine gS ?_
  conv => whnf
  refine RunsS.callN (tShare_fn s _ r.yN r.yD) [0, 1, 2, 3, 4, 5, 6, 7, 8] ?CNr16 (by repeat (first | exact trivial | refine ⟨by rfl, ?_⟩)) ?CNa16
  case CNa16 => rfl
  intro _ _
  conv => whnf
  try refine gS ?_
  conv => whnf
  refine RunsS.callN (tShare_fn s _ r.tN r.tD) [0, 1, 2, 3, 4, 5, 6, 7, 8] ?CNr17 (by repeat (first | exact trivial | refine ⟨by rfl, ?_⟩)) ?CNa17
  case CNa17 => rfl
  intro _ _
  conv => whnf
  try refine gS ?_
  conv => whnf
  refine RunsS.callN (tNeed_fn _ (decide (r.rwN < r.rwD))) [0, 1, 2, 3, 4, 5, 6, 7, 8] ?CNr18 (by repeat (first | exact trivial | refine ⟨by rfl, ?_⟩)) ?CNa18
  case CNa18 => rfl
  intro _ _
  conv => whnf
  try refine gS ?_
  conv => whnf
  refine RunsS.callV (fun Ez Hz Az Sz K => tBetween_fn r.lead 0 15) ?_
  conv => whnf
  try refine gS ?_
  conv => whnf
  refine RunsS.callN (tNeed_fn _ (decide (bt r.lead 0 15))) [0, 1, 2, 3, 4, 5, 6, 7, 8] ?CNr19 (by repeat (first | exact trivial | refine ⟨by rfl, ?_⟩)) ?CNa19
  case CNa19 => rfl
  intro _ _
  conv => whnf
  try refine gS ?_
  conv => whnf
  refine RunsS.callT (RcV.ok.tok _) (hT) (tRuns_fn s _ r) [0, 1, 2, 3, 4, 5, 6, 7, 8] (by repeat (first | exact trivial | refine ⟨by rfl, ?_⟩)) ?CNa20 ?CNr20
  case CNa20 => rfl
  intro _ _
  conv => whnf
  try refine gS ?_
  conv => whnf
  have e : (b' && decide (outsOk s r) && decide (share r.rwN r.rwD) && decide (share r.yN r.yD) && decide (share r.tN r.tD) && decide (r.rwN < r.rwD) && decide (bt r.lead 0 15) && decide (runsOk s r)) = (b && decide (recOk s r)) := by
   rw [h2, Bool.eq_iff_iff]
   simp only [Bool.and_eq_true, decide_eq_true_eq]
   unfold recOk
   simp only [and_assoc]
  rw [e]
  try refine RunsS.retU ?_
  try refine RunsS.finU ?_
  exact UnwS.ret tab Tryz.func48 rfl (EndS.mk (()) (trivial) [] (by repeat (first | exact trivial | refine ⟨by rfl, ?_⟩)) rfl rfl (okRet rfl rfl))
theorem tSwap_fn (s : SrcV) (b : Bool) (x : Sw) : FnS Tryz.prog 49 9 [.ptr 8 0, .agg (toV x.row)] (ckH s b) (fun _ : Unit => True) (fun _ => .ret (.tup []) 9 (ckH s (b && decide (swapOk s x)))) := by
 have key : ∀ y : Bool, (y = true ↔ swapOk s x) → (b && y) = (b && decide (swapOk s x)) := fun y hy => by
  rw [show y = decide (swapOk s x) by rw [Bool.eq_iff_iff, decide_eq_true_eq]; exact hy]
 have hP : swapOk s x ↔ ((osat (s.base x.an) fun b => osat (s.base x.bn) fun c => b = c) ∧ x.an ≠ x.bn) := Iff.rfl
 cases h1 : s.base x.an with
 | none =>
  rw [h1] at hP
  cases h2 : s.base x.bn with
  | none =>
   refine FnS.of Tryz.func49 (by kernel_rfl) rfl Tryz.ntmps49 rfl fun E0 F h w0 cs => ?_
   conv => whnf
   refine gS ?_
   conv => whnf
   refine RunsS.callN (tBaseN_fn _ h1) [0, 1, 2, 3, 4, 5, 6, 7, 8] ?CNr21 (by repeat (first | exact trivial | refine ⟨by rfl, ?_⟩)) ?CNa21
   case CNa21 => rfl
   intro _ _
   conv => whnf
   try refine gS ?_
   conv => whnf
   refine RunsS.callN (tBaseN_fn _ h2) [0, 1, 2, 3, 4, 5, 6, 7, 8] ?CNr22 (by repeat (first | exact trivial | refine ⟨by rfl, ?_⟩)) ?CNa22
   case CNa22 => rfl
   intro _ _
   conv => whnf
   try refine gS ?_
   conv => whnf
   refine RunsS.callN (tNeed_fn _ false) [0, 1, 2, 3, 4, 5, 6, 7, 8] ?CNr23 (by repeat (first | exact trivial | refine ⟨by rfl, ?_⟩)) ?CNa23
   case CNa23 => rfl
   intro _ _
   conv => whnf
   try refine gS ?_
   conv => whnf
   rw [key false (by rw [hP]; exact ⟨fun h => (by cases h), fun h => h.1.elim⟩)]
   try refine RunsS.retU ?_
   try refine RunsS.finU ?_
   exact UnwS.ret tab Tryz.func49 rfl (EndS.mk (()) (trivial) [] (by repeat (first | exact trivial | refine ⟨by rfl, ?_⟩)) rfl rfl (okRet rfl rfl))
  | some n2 =>
   refine FnS.of Tryz.func49 (by kernel_rfl) rfl Tryz.ntmps49 rfl fun E0 F h w0 cs => ?_
   conv => whnf
   refine gS ?_
   conv => whnf
   refine RunsS.callN (tBaseN_fn _ h1) [0, 1, 2, 3, 4, 5, 6, 7, 8] ?CNr24 (by repeat (first | exact trivial | refine ⟨by rfl, ?_⟩)) ?CNa24
   case CNa24 => rfl
   intro _ _
   conv => whnf
   try refine gS ?_
   conv => whnf
   refine RunsS.callN (tBaseS_fn _ h2) [0, 1, 2, 3, 4, 5, 6, 7, 8] ?CNr25 (by repeat (first | exact trivial | refine ⟨by rfl, ?_⟩)) ?CNa25
   case CNa25 => rfl
   intro _ _
   conv => whnf
   try refine gS ?_
   conv => whnf
   refine RunsS.callN (tNeed_fn _ false) [0, 1, 2, 3, 4, 5, 6, 7, 8] ?CNr26 (by repeat (first | exact trivial | refine ⟨by rfl, ?_⟩)) ?CNa26
   case CNa26 => rfl
   intro _ _
   conv => whnf
   try refine gS ?_
   conv => whnf
   rw [key false (by rw [hP]; exact ⟨fun h => (by cases h), fun h => h.1.elim⟩)]
   try refine RunsS.retU ?_
   try refine RunsS.finU ?_
   exact UnwS.ret tab Tryz.func49 rfl (EndS.mk (()) (trivial) [] (by repeat (first | exact trivial | refine ⟨by rfl, ?_⟩)) rfl rfl (okRet rfl rfl))
 | some n =>
  rw [h1] at hP
  cases h2 : s.base x.bn with
  | none =>
   rw [h2] at hP
   refine FnS.of Tryz.func49 (by kernel_rfl) rfl Tryz.ntmps49 rfl fun E0 F h w0 cs => ?_
   conv => whnf
   refine gS ?_
   conv => whnf
   refine RunsS.callN (tBaseS_fn _ h1) [0, 1, 2, 3, 4, 5, 6, 7, 8] ?CNr27 (by repeat (first | exact trivial | refine ⟨by rfl, ?_⟩)) ?CNa27
   case CNa27 => rfl
   intro _ _
   conv => whnf
   try refine gS ?_
   conv => whnf
   refine RunsS.callN (tBaseN_fn _ h2) [0, 1, 2, 3, 4, 5, 6, 7, 8] ?CNr28 (by repeat (first | exact trivial | refine ⟨by rfl, ?_⟩)) ?CNa28
   case CNa28 => rfl
   intro _ _
   conv => whnf
   try refine gS ?_
   conv => whnf
   refine RunsS.callN (tNeed_fn _ false) [0, 1, 2, 3, 4, 5, 6, 7, 8] ?CNr29 (by repeat (first | exact trivial | refine ⟨by rfl, ?_⟩)) ?CNa29
   case CNa29 => rfl
   intro _ _
   conv => whnf
   try refine gS ?_
   conv => whnf
   rw [key false (by rw [hP]; exact ⟨fun h => (by cases h), fun h => h.1.elim⟩)]
   try refine RunsS.retU ?_
   try refine RunsS.finU ?_
   exact UnwS.ret tab Tryz.func49 rfl (EndS.mk (()) (trivial) [] (by repeat (first | exact trivial | refine ⟨by rfl, ?_⟩)) rfl rfl (okRet rfl rfl))
  | some m =>
   rw [h2] at hP
   by_cases h3 : n = m
   ·refine FnS.of Tryz.func49 (by kernel_rfl) rfl Tryz.ntmps49 rfl fun E0 F h w0 cs => ?_
    conv => whnf
    refine gS ?_
    conv => whnf
    refine RunsS.callN (tBaseS_fn _ h1) [0, 1, 2, 3, 4, 5, 6, 7, 8] ?CNr30 (by repeat (first | exact trivial | refine ⟨by rfl, ?_⟩)) ?CNa30
    case CNa30 => rfl
    intro _ _
    conv => whnf
    try refine gS ?_
    conv => whnf
    refine RunsS.callN (tBaseS_fn _ h2) [0, 1, 2, 3, 4, 5, 6, 7, 8] ?CNr31 (by repeat (first | exact trivial | refine ⟨by rfl, ?_⟩)) ?CNa31
    case CNa31 => rfl
    intro _ _
    conv => whnf
    try refine gS ?_
    conv => whnf
    repeat ((first | refine oM ?_ | refine oL ?_ | refine oR ?_); (try intro _); conv => whnf)
    refine RunsS.callN (tNeed_fn _ (!decide (x.an = x.bn))) [0, 1, 2, 3, 4, 5, 6, 7, 8] ?CNr32 (by repeat (first | exact trivial | refine ⟨by rfl, ?_⟩)) ?CNa32
    case CNa32 => rfl
    intro _ _
    conv => whnf
    try refine gS ?_
    conv => whnf
    rw [key (!decide (x.an = x.bn)) (by rw [hP, Bool.not_eq_true', decide_eq_false_iff_not]; exact ⟨fun h => ⟨h3, h⟩, fun h => h.2⟩)]
    try refine RunsS.retU ?_
    try refine RunsS.finU ?_
    exact UnwS.ret tab Tryz.func49 rfl (EndS.mk (()) (trivial) [] (by repeat (first | exact trivial | refine ⟨by rfl, ?_⟩)) rfl rfl (okRet rfl rfl))
   ·refine FnS.of Tryz.func49 (by kernel_rfl) rfl Tryz.ntmps49 rfl fun E0 F h w0 cs => ?_
    conv => whnf
    refine gS ?_
    conv => whnf
    refine RunsS.callN (tBaseS_fn _ h1) [0, 1, 2, 3, 4, 5, 6, 7, 8] ?CNr33 (by repeat (first | exact trivial | refine ⟨by rfl, ?_⟩)) ?CNa33
    case CNa33 => rfl
    intro _ _
    conv => whnf
    try refine gS ?_
    conv => whnf
    refine RunsS.callN (tBaseS_fn _ h2) [0, 1, 2, 3, 4, 5, 6, 7, 8] ?CNr34 (by repeat (first | exact trivial | refine ⟨by rfl, ?_⟩)) ?CNa34
    case CNa34 => rfl
    intro _ _
    conv => whnf
    try refine gS ?_
    conv => whnf
    repeat ((first | refine oM ?_ | refine oL ?_ | refine oR ?_); (try intro _); conv => whnf)
    refine RunsS.callN (tNeed_fn _ false) [0, 1, 2, 3, 4, 5, 6, 7, 8] ?CNr35 (by repeat (first | exact trivial | refine ⟨by rfl, ?_⟩)) ?CNa35
    case CNa35 => rfl
    intro _ _
    conv => whnf
    try refine gS ?_
    conv => whnf
    rw [key false (by rw [hP]; exact ⟨fun h => (by cases h), fun h => absurd h.1 h3⟩)]
    try refine RunsS.retU ?_
    try refine RunsS.finU ?_
    exact UnwS.ret tab Tryz.func49 rfl (EndS.mk (()) (trivial) [] (by repeat (first | exact trivial | refine ⟨by rfl, ?_⟩)) rfl rfl (okRet rfl rfl))

structure LeAll (c : Int) (m : Nat) (P : Prop) : Prop where
 nn : 0 ≤ c
 iff : c ≤ m ↔ P
theorem take_le {α : Type} {f : α → Nat} {l : List α} {k m : Nat} (hk : k < l.length) {c : Int} (hc : LeAll c m (∀ o ∈ l.take k, f o ≤ m)) : LeAll (max c (f l[k])) m (∀ o ∈ l.take (k + 1), f o ≤ m) := by
 obtain ⟨h0, hi⟩ := hc
 rw [List.take_add_one, List.getElem?_eq_getElem hk]
 simp only [List.mem_append, Option.toList, List.mem_singleton]
 refine ⟨by omega, ⟨fun h o ho => ho.elim (hi.1 (by omega) o) (fun e => by subst e; omega), fun h => ?_⟩⟩
 have h1 := hi.2 fun o ho => h o (.inl ho)
 have h2 := h _ (.inr rfl)
 omega
theorem take_le0 {α : Type} {f : α → Nat} {l : List α} {m : Nat} : LeAll 0 m (∀ o ∈ l.take 0, f o ≤ m) := ⟨by omega, by simp⟩
theorem tWithin_fn {h : Array Obj} (s : SrcV) {vU vI vP vM vO vF vR vS : Value} (hs : Top h vU vI vP vM vO vF vR vS s) : FnV Tryz.prog 25 #[srcV vU vI vP vM vO vF vR vS] h fun r h' => r = .bool (decide (Small s)) ∧ Keeps h.size h h' := by
 have lU := rowsU_len s.units
 have lI := rws_len It.row s.items
 have lP := rwsB_len s.plants
 have lM := rws_len Mc.row s.machines
 have lO := rws_len OpV.row s.options
 have lF := rws_len FbV.row s.forbids
 have lR := rws_len RcV.row s.recipes
 have lS := rws_len Sw.row s.swaps
 have mU := hs.U.len
 have mI := hs.I.len
 have mP := hs.P.len
 have mM := hs.M.len
 have mO := hs.O.len
 have mF := hs.F.len
 have mR := hs.R.len
 have mS := hs.S.len
 obtain ⟨r, hr⟩ : ∃ r, r = decide (Small s) := ⟨_, rfl⟩
 rw [← hr]
 refine Fn.ofG (envL [vU, vI, vP, vM, vO, vF, vR, vS]) 8 [.agg [.buf 0, .buf 1, .buf 2, .buf 3, .buf 4, .buf 5, .buf 6, .buf 7]] [(0, .ro (8) (rowsU s.units)), (1, .ro (6) (rws It.row s.items)), (2, .ro (1) (rwsB s.plants)), (3, .ro (4) (rws Mc.row s.machines)), (4, .ro (2) (rws OpV.row s.options)), (5, .ro (1) (rws FbV.row s.forbids)), (6, .ro (17) (rws RcV.row s.recipes)), (7, .ro (4) (rws Sw.row s.swaps))] (fun k => k < _) Tryz.func25 (by kernel_rfl) rfl Tryz.ntmps25 rfl (fun _ hk => hk) (Sat.ros (vs := [vU, vI, vP, vM, vO, vF, vR, vS]) (l := [(8, rowsU s.units), (6, rws It.row s.items), (1, rwsB s.plants), (4, rws Mc.row s.machines), (2, rws OpV.row s.options), (1, rws FbV.row s.forbids), (17, rws RcV.row s.recipes), (4, rws Sw.row s.swaps)]) ⟨hs.U, hs.I, hs.P, hs.M, hs.O, hs.F, hs.R, hs.S, trivial⟩) fun w0 cs => ?_
 conv => whnf
 refine gS ?_
 conv => whnf
 refine RunsS.subR [] (RunsS.loop (fun (⟨k, c⟩ : Nat × Int) => [(15, .v (.int .i64 k)), (14, .v (.int .i64 (rws OpV.row s.options).length)), (13, .buf 4), (5, .v (.int .i64 0)), (4, .v (.int .i64 0)), (3, .v (.int .i64 c)), (1, .ptr 8 0)]) (fun (⟨k, c⟩ : Nat × Int) => [(8, .cells 31 [.buf 0, .buf 1, .buf 2, .buf 3, .buf 4, .buf 5, .buf 6, .buf 7]), (0, .ro 8 (rowsU s.units)), (1, .ro 6 (rws It.row s.items)), (2, .ro 1 (rwsB s.plants)), (3, .ro 4 (rws Mc.row s.machines)), (4, .ro 2 (rws OpV.row s.options)), (5, .ro 1 (rws FbV.row s.forbids)), (6, .ro 17 (rws RcV.row s.recipes)), (7, .ro 4 (rws Sw.row s.swaps))]) 9 (fun (⟨k, c⟩ : Nat × Int) => k ≤ s.options.length ∧ LeAll c 4 (∀ o ∈ s.options.take k, o.ch.length ≤ 4)) (fun (⟨k, c⟩ : Nat × Int) => s.options.length - k) ?round1 ((0, 0)) ?J01) ?SS1 ?HH1
 case J01 => exact (⟨Nat.zero_le _, take_le0⟩)
 case SS1 => repeat (first | exact trivial | refine ⟨by rfl, ?_⟩)
 case HH1 => repeat (first | exact trivial | refine ⟨by rfl, ?_⟩)
 rintro ⟨k, c⟩ hJ back
 try dsimp only at hJ back
 conv => whnf
 try dsimp only
 refine gS ?_
 conv => whnf
 refine ⟨fun hk => ?_, fun hk => ?_⟩ <;> conv => whnf
 ·have hk : k < s.options.length := by omega
  conv => whnf
  repeat ((first | refine oM ?_ | refine oL ?_ | refine oR ?_); (try intro _); conv => whnf)
  refine ⟨_, rws_get hk, ?_⟩
  conv => whnf
  try (refine oN ?_; conv => whnf)
  repeat ((first | refine oM ?_ | refine oL ?_ | refine oR ?_); (try intro _); conv => whnf)
  refine RunsS.subR [] (back ((k + 1, max c s.options[k].ch.length)) ?BJ2 ?BM2) ?SS2 ?HH2
  case BJ2 => exact (⟨hk, take_le (f := fun o => o.ch.length) hk hJ.2⟩)
  case BM2 => (try dsimp only); omega
  case SS2 => repeat (first | exact trivial | refine ⟨by rfl, ?_⟩)
  case HH2 => repeat (first | exact trivial | refine ⟨by rfl, ?_⟩)
 have hk : k = s.options.length := by omega
 have hO := hJ.2
 rw [hk, List.take_length] at hO
 clear back hJ
 conv => whnf
 refine RunsS.subR [] (RunsS.loop (fun (⟨k, p⟩ : Nat × (Int × Int)) => [(28, .v (.int .i64 k)), (27, .v (.int .i64 (rws RcV.row s.recipes).length)), (26, .buf 6), (5, .v (.int .i64 p.2)), (4, .v (.int .i64 p.1)), (3, .v (.int .i64 c)), (1, .ptr 8 0)]) (fun (⟨k, p⟩ : Nat × (Int × Int)) => [(8, .cells 31 [.buf 0, .buf 1, .buf 2, .buf 3, .buf 4, .buf 5, .buf 6, .buf 7]), (0, .ro 8 (rowsU s.units)), (1, .ro 6 (rws It.row s.items)), (2, .ro 1 (rwsB s.plants)), (3, .ro 4 (rws Mc.row s.machines)), (4, .ro 2 (rws OpV.row s.options)), (5, .ro 1 (rws FbV.row s.forbids)), (6, .ro 17 (rws RcV.row s.recipes)), (7, .ro 4 (rws Sw.row s.swaps))]) 9 (fun (⟨k, p⟩ : Nat × (Int × Int)) => k ≤ s.recipes.length ∧ LeAll p.1 8 (∀ r ∈ s.recipes.take k, r.inn.length ≤ 8) ∧ LeAll p.2 8 (∀ r ∈ s.recipes.take k, r.out.length ≤ 8)) (fun (⟨k, p⟩ : Nat × (Int × Int)) => s.recipes.length - k) ?round3 ((0, (0, 0))) ?J03) ?SS3 ?HH3
 case J03 => exact (⟨Nat.zero_le _, take_le0, take_le0⟩)
 case SS3 => repeat (first | exact trivial | refine ⟨by rfl, ?_⟩)
 case HH3 => repeat (first | exact trivial | refine ⟨by rfl, ?_⟩)
 rintro ⟨k, p⟩ hJ back
 try dsimp only at hJ back
 conv => whnf
 try dsimp only
 refine gS ?_
 conv => whnf
 refine ⟨fun hk => ?_, fun hk => ?_⟩ <;> conv => whnf
 ·have hk : k < s.recipes.length := by omega
  conv => whnf
  repeat ((first | refine oM ?_ | refine oL ?_ | refine oR ?_); (try intro _); conv => whnf)
  refine ⟨_, rws_get hk, ?_⟩
  conv => whnf
  try (refine oN ?_; conv => whnf)
  refine RunsS.held tab (.fl 0 (.fl 1 (.fl 2 (.fl 3 (.fl 4 (.fl 5 (.fl 6 (.fl 7 (.fl 8 (.fl 9 (.fl 10 (.fl 11 .done)))))))))))) (by kernel_rfl) ?_
  conv => whnf
  try refine gR ?_
  conv => whnf
  try refine gS ?_
  conv => whnf
  repeat ((first | refine oM ?_ | refine oL ?_ | refine oR ?_); (try intro _); conv => whnf)
  refine RunsS.subR [] (back ((k + 1, (max p.1 s.recipes[k].inn.length, max p.2 s.recipes[k].out.length))) ?BJ4 ?BM4) ?SS4 ?HH4
  case BJ4 => exact (⟨hk, take_le (f := fun o => o.inn.length) hk hJ.2.1, take_le (f := fun o => o.out.length) hk hJ.2.2⟩)
  case BM4 => (try dsimp only); omega
  case SS4 => repeat (first | exact trivial | refine ⟨by rfl, ?_⟩)
  case HH4 => repeat (first | exact trivial | refine ⟨by rfl, ?_⟩)
 have hk : k = s.recipes.length := by omega
 have hI2 := hJ.2.1
 have hP2 := hJ.2.2
 rw [hk, List.take_length] at hI2 hP2
 clear back hJ
 conv => whnf
 refine RunsS.loopU ?_
 try refine gS ?_
 conv => whnf
 repeat ((first | refine oM ?_ | refine oL ?_ | refine oR ?_); (try intro _); conv => whnf)
 refine RunsS.indexA tab 0 ?_
 try refine gS ?_
 conv => whnf
 repeat ((first | refine oM ?_ | refine oL ?_ | refine oR ?_); (try intro _); conv => whnf)
 refine ⟨fun q0 => ?_, fun q0 => ?_⟩ <;> conv => whnf
 ·conv => whnf
  rw [hr, decide_eq_false (fun hsm => by obtain ⟨a1, a2, a3⟩ := hsm; have := hO.iff.2 a1; have := hI2.iff.2 (fun r hr => (a2 r hr).1); have := hP2.iff.2 (fun r hr => (a2 r hr).2); omega)]
  refine RunsS.retU (UnwS.ret tab Tryz.func25 rfl fun Ez Hz Az Sz K => ⟨_, rfl, rfl, K.keeps⟩)
 conv => whnf
 repeat ((first | refine oM ?_ | refine oL ?_ | refine oR ?_); (try intro _); conv => whnf)
 refine RunsS.againU ?_
 try refine gS ?_
 conv => whnf
 repeat ((first | refine oM ?_ | refine oL ?_ | refine oR ?_); (try intro _); conv => whnf)
 refine RunsS.indexA tab 1 ?_
 try refine gS ?_
 conv => whnf
 repeat ((first | refine oM ?_ | refine oL ?_ | refine oR ?_); (try intro _); conv => whnf)
 refine ⟨fun q1 => ?_, fun q1 => ?_⟩ <;> conv => whnf
 ·conv => whnf
  rw [hr, decide_eq_false (fun hsm => by obtain ⟨a1, a2, a3⟩ := hsm; have := hO.iff.2 a1; have := hI2.iff.2 (fun r hr => (a2 r hr).1); have := hP2.iff.2 (fun r hr => (a2 r hr).2); omega)]
  refine RunsS.retU (UnwS.ret tab Tryz.func25 rfl fun Ez Hz Az Sz K => ⟨_, rfl, rfl, K.keeps⟩)
 conv => whnf
 repeat ((first | refine oM ?_ | refine oL ?_ | refine oR ?_); (try intro _); conv => whnf)
 refine RunsS.againU ?_
 try refine gS ?_
 conv => whnf
 repeat ((first | refine oM ?_ | refine oL ?_ | refine oR ?_); (try intro _); conv => whnf)
 refine RunsS.indexA tab 2 ?_
 try refine gS ?_
 conv => whnf
 repeat ((first | refine oM ?_ | refine oL ?_ | refine oR ?_); (try intro _); conv => whnf)
 refine ⟨fun q2 => ?_, fun q2 => ?_⟩ <;> conv => whnf
 ·conv => whnf
  rw [hr, decide_eq_false (fun hsm => by obtain ⟨a1, a2, a3⟩ := hsm; have := hO.iff.2 a1; have := hI2.iff.2 (fun r hr => (a2 r hr).1); have := hP2.iff.2 (fun r hr => (a2 r hr).2); omega)]
  refine RunsS.retU (UnwS.ret tab Tryz.func25 rfl fun Ez Hz Az Sz K => ⟨_, rfl, rfl, K.keeps⟩)
 conv => whnf
 repeat ((first | refine oM ?_ | refine oL ?_ | refine oR ?_); (try intro _); conv => whnf)
 refine RunsS.againU ?_
 try refine gS ?_
 conv => whnf
 repeat ((first | refine oM ?_ | refine oL ?_ | refine oR ?_); (try intro _); conv => whnf)
 refine RunsS.indexA tab 3 ?_
 try refine gS ?_
 conv => whnf
 repeat ((first | refine oM ?_ | refine oL ?_ | refine oR ?_); (try intro _); conv => whnf)
 refine ⟨fun q3 => ?_, fun q3 => ?_⟩ <;> conv => whnf
 ·conv => whnf
  rw [hr, decide_eq_false (fun hsm => by obtain ⟨a1, a2, a3⟩ := hsm; have := hO.iff.2 a1; have := hI2.iff.2 (fun r hr => (a2 r hr).1); have := hP2.iff.2 (fun r hr => (a2 r hr).2); omega)]
  refine RunsS.retU (UnwS.ret tab Tryz.func25 rfl fun Ez Hz Az Sz K => ⟨_, rfl, rfl, K.keeps⟩)
 conv => whnf
 repeat ((first | refine oM ?_ | refine oL ?_ | refine oR ?_); (try intro _); conv => whnf)
 refine RunsS.againU ?_
 try refine gS ?_
 conv => whnf
 repeat ((first | refine oM ?_ | refine oL ?_ | refine oR ?_); (try intro _); conv => whnf)
 refine RunsS.indexA tab 4 ?_
 try refine gS ?_
 conv => whnf
 repeat ((first | refine oM ?_ | refine oL ?_ | refine oR ?_); (try intro _); conv => whnf)
 refine ⟨fun q4 => ?_, fun q4 => ?_⟩ <;> conv => whnf
 ·conv => whnf
  rw [hr, decide_eq_false (fun hsm => by obtain ⟨a1, a2, a3⟩ := hsm; have := hO.iff.2 a1; have := hI2.iff.2 (fun r hr => (a2 r hr).1); have := hP2.iff.2 (fun r hr => (a2 r hr).2); omega)]
  refine RunsS.retU (UnwS.ret tab Tryz.func25 rfl fun Ez Hz Az Sz K => ⟨_, rfl, rfl, K.keeps⟩)
 conv => whnf
 repeat ((first | refine oM ?_ | refine oL ?_ | refine oR ?_); (try intro _); conv => whnf)
 refine RunsS.againU ?_
 try refine gS ?_
 conv => whnf
 repeat ((first | refine oM ?_ | refine oL ?_ | refine oR ?_); (try intro _); conv => whnf)
 refine RunsS.indexA tab 5 ?_
 try refine gS ?_
 conv => whnf
 repeat ((first | refine oM ?_ | refine oL ?_ | refine oR ?_); (try intro _); conv => whnf)
 refine ⟨fun q5 => ?_, fun q5 => ?_⟩ <;> conv => whnf
 ·conv => whnf
  rw [hr, decide_eq_false (fun hsm => by obtain ⟨a1, a2, a3⟩ := hsm; have := hO.iff.2 a1; have := hI2.iff.2 (fun r hr => (a2 r hr).1); have := hP2.iff.2 (fun r hr => (a2 r hr).2); omega)]
  refine RunsS.retU (UnwS.ret tab Tryz.func25 rfl fun Ez Hz Az Sz K => ⟨_, rfl, rfl, K.keeps⟩)
 conv => whnf
 repeat ((first | refine oM ?_ | refine oL ?_ | refine oR ?_); (try intro _); conv => whnf)
 refine RunsS.againU ?_
 try refine gS ?_
 conv => whnf
 repeat ((first | refine oM ?_ | refine oL ?_ | refine oR ?_); (try intro _); conv => whnf)
 refine RunsS.indexA tab 6 ?_
 try refine gS ?_
 conv => whnf
 repeat ((first | refine oM ?_ | refine oL ?_ | refine oR ?_); (try intro _); conv => whnf)
 refine ⟨fun q6 => ?_, fun q6 => ?_⟩ <;> conv => whnf
 ·conv => whnf
  rw [hr, decide_eq_false (fun hsm => by obtain ⟨a1, a2, a3⟩ := hsm; have := hO.iff.2 a1; have := hI2.iff.2 (fun r hr => (a2 r hr).1); have := hP2.iff.2 (fun r hr => (a2 r hr).2); omega)]
  refine RunsS.retU (UnwS.ret tab Tryz.func25 rfl fun Ez Hz Az Sz K => ⟨_, rfl, rfl, K.keeps⟩)
 conv => whnf
 repeat ((first | refine oM ?_ | refine oL ?_ | refine oR ?_); (try intro _); conv => whnf)
 refine RunsS.againU ?_
 try refine gS ?_
 conv => whnf
 repeat ((first | refine oM ?_ | refine oL ?_ | refine oR ?_); (try intro _); conv => whnf)
 refine RunsS.indexA tab 7 ?_
 try refine gS ?_
 conv => whnf
 repeat ((first | refine oM ?_ | refine oL ?_ | refine oR ?_); (try intro _); conv => whnf)
 refine ⟨fun q7 => ?_, fun q7 => ?_⟩ <;> conv => whnf
 ·conv => whnf
  rw [hr, decide_eq_false (fun hsm => by obtain ⟨a1, a2, a3⟩ := hsm; have := hO.iff.2 a1; have := hI2.iff.2 (fun r hr => (a2 r hr).1); have := hP2.iff.2 (fun r hr => (a2 r hr).2); omega)]
  refine RunsS.retU (UnwS.ret tab Tryz.func25 rfl fun Ez Hz Az Sz K => ⟨_, rfl, rfl, K.keeps⟩)
 conv => whnf
 repeat ((first | refine oM ?_ | refine oL ?_ | refine oR ?_); (try intro _); conv => whnf)
 refine RunsS.againU ?_
 try refine gS ?_
 conv => whnf
 repeat ((first | refine oM ?_ | refine oL ?_ | refine oR ?_); (try intro _); conv => whnf)
 refine RunsS.indexA tab 8 ?_
 try refine gS ?_
 conv => whnf
 repeat ((first | refine oM ?_ | refine oL ?_ | refine oR ?_); (try intro _); conv => whnf)
 refine ⟨fun q8 => ?_, fun q8 => ?_⟩ <;> conv => whnf
 ·conv => whnf
  rw [hr, decide_eq_false (fun hsm => by obtain ⟨a1, a2, a3⟩ := hsm; have := hO.iff.2 a1; have := hI2.iff.2 (fun r hr => (a2 r hr).1); have := hP2.iff.2 (fun r hr => (a2 r hr).2); omega)]
  refine RunsS.retU (UnwS.ret tab Tryz.func25 rfl fun Ez Hz Az Sz K => ⟨_, rfl, rfl, K.keeps⟩)
 conv => whnf
 repeat ((first | refine oM ?_ | refine oL ?_ | refine oR ?_); (try intro _); conv => whnf)
 refine RunsS.againU ?_
 try refine gS ?_
 conv => whnf
 repeat ((first | refine oM ?_ | refine oL ?_ | refine oR ?_); (try intro _); conv => whnf)
 refine RunsS.indexA tab 9 ?_
 try refine gS ?_
 conv => whnf
 repeat ((first | refine oM ?_ | refine oL ?_ | refine oR ?_); (try intro _); conv => whnf)
 refine ⟨fun q9 => ?_, fun q9 => ?_⟩ <;> conv => whnf
 ·conv => whnf
  rw [hr, decide_eq_false (fun hsm => by obtain ⟨a1, a2, a3⟩ := hsm; have := hO.iff.2 a1; have := hI2.iff.2 (fun r hr => (a2 r hr).1); have := hP2.iff.2 (fun r hr => (a2 r hr).2); omega)]
  refine RunsS.retU (UnwS.ret tab Tryz.func25 rfl fun Ez Hz Az Sz K => ⟨_, rfl, rfl, K.keeps⟩)
 conv => whnf
 repeat ((first | refine oM ?_ | refine oL ?_ | refine oR ?_); (try intro _); conv => whnf)
 refine RunsS.againU ?_
 try refine gS ?_
 conv => whnf
 repeat ((first | refine oM ?_ | refine oL ?_ | refine oR ?_); (try intro _); conv => whnf)
 have hsm : Small s := ⟨hO.iff.1 (by omega), fun r hr => ⟨hI2.iff.1 (by omega) r hr, hP2.iff.1 (by omega) r hr⟩, by omega⟩
 rw [hr, decide_eq_true hsm]
 refine RunsS.retU (UnwS.ret tab Tryz.func25 rfl fun Ez Hz Az Sz K => ⟨_, rfl, rfl, K.keeps⟩)
theorem opt_ne (o : OpV) : decide (0 < (o.ch.length : Int)) = decide (o.ch ≠ []) := by
 refine decide_eq_decide.2 ?_
 cases o.ch <;> simp
theorem fb_ne (o : FbV) : decide (0 < (o.cs.length : Int)) = decide (o.cs ≠ []) := by
 refine decide_eq_decide.2 ?_
 cases o.cs <;> simp
theorem tSource_fn (s : SrcV) (b : Bool) : FnT Tryz.prog (fun F h => s.sub F h) 26 9 [.ptr 8 0] (ckH s b) (fun _ : Unit => True) (fun _ => .ret (.tup []) 9 (ckH s (b && decide (Typed s)))) := by
 have lU := rowsU_len s.units
 have lI := rws_len It.row s.items
 have lP := rwsB_len s.plants
 have lM := rws_len Mc.row s.machines
 have lO := rws_len OpV.row s.options
 have lF := rws_len FbV.row s.forbids
 have lR := rws_len RcV.row s.recipes
 have lS := rws_len Sw.row s.swaps
 refine FnT.of Tryz.func26 (by kernel_rfl) rfl Tryz.ntmps26 rfl fun E0 F h hT w0 cs => ?_
 conv => whnf
 refine gS ?_
 conv => whnf
 refine RunsS.lenB 1 (fun m1 => ?_)
 refine RunsS.subR [] (RunsS.loop (fun (⟨k, b1⟩ : Nat × Bool) => [(20, .v (.int .i64 k)), (19, .v (.int .i64 (rws It.row s.items).length)), (18, .buf 1), (0, .ptr 8 0)]) (fun (⟨k, b1⟩ : Nat × Bool) => [ckC b1, (0, .ro 8 (rowsU s.units)), (1, .ro 6 (rws It.row s.items)), (2, .ro 1 (rwsB s.plants)), (3, .ro 4 (rws Mc.row s.machines)), (4, .ro 2 (rws OpV.row s.options)), (5, .ro 1 (rws FbV.row s.forbids)), (6, .ro 17 (rws RcV.row s.recipes)), (7, .ro 4 (rws Sw.row s.swaps))]) 9 (fun (⟨k, b1⟩ : Nat × Bool) => k ≤ s.items.length ∧ b1 = (b && decide (∀ a ∈ s.items.take k, itemOk s a))) (fun (⟨k, b1⟩ : Nat × Bool) => s.items.length - k) ?round5 ((0, b)) ?J05) ?SS5 ?HH5
 case J05 => exact (⟨Nat.zero_le _, all_zero _⟩)
 case SS5 => repeat (first | exact trivial | refine ⟨by rfl, ?_⟩)
 case HH5 => repeat (first | exact trivial | refine ⟨by rfl, ?_⟩)
 rintro ⟨k, b1⟩ hJ back
 try dsimp only at hJ back
 conv => whnf
 try dsimp only
 refine gS ?_
 conv => whnf
 refine ⟨fun hk => ?_, fun hk => ?_⟩ <;> conv => whnf
 ·have hk : k < s.items.length := by omega
  conv => whnf
  repeat ((first | refine oM ?_ | refine oL ?_ | refine oR ?_); (try intro _); conv => whnf)
  refine ⟨_, rws_get hk, ?_⟩
  conv => whnf
  try (refine oN ?_; conv => whnf)
  refine RunsS.callN (tItem_fn s b1 s.items[k]) [0, 1, 2, 3, 4, 5, 6, 7, 8] ?CNr6 (by repeat (first | exact trivial | refine ⟨by rfl, ?_⟩)) ?CNa6
  case CNa6 => rfl
  intro _ _
  conv => whnf
  try refine gS ?_
  conv => whnf
  repeat ((first | refine oM ?_ | refine oL ?_ | refine oR ?_); (try intro _); conv => whnf)
  refine RunsS.subR [] (back ((k + 1, b1 && decide (itemOk s s.items[k]))) ?BJ7 ?BM7) ?SS7 ?HH7
  case BJ7 => exact (⟨hk, all_step hk hJ.2 rfl⟩)
  case BM7 => (try dsimp only); omega
  case SS7 => repeat (first | exact trivial | refine ⟨by rfl, ?_⟩)
  case HH7 => repeat (first | exact trivial | refine ⟨by rfl, ?_⟩)
 have hk : k = s.items.length := by omega
 have h1 := hJ.2
 rw [hk, List.take_length] at h1
 rename_i hk0
 clear back hJ hk hk0 m1
 conv => whnf
 refine RunsS.lenB 3 (fun m2 => ?_)
 refine RunsS.subR [] (RunsS.loop (fun (⟨k, b2⟩ : Nat × Bool) => [(34, .v (.int .i64 k)), (33, .v (.int .i64 (rws Mc.row s.machines).length)), (32, .buf 3), (0, .ptr 8 0)]) (fun (⟨k, b2⟩ : Nat × Bool) => [ckC b2, (0, .ro 8 (rowsU s.units)), (1, .ro 6 (rws It.row s.items)), (2, .ro 1 (rwsB s.plants)), (3, .ro 4 (rws Mc.row s.machines)), (4, .ro 2 (rws OpV.row s.options)), (5, .ro 1 (rws FbV.row s.forbids)), (6, .ro 17 (rws RcV.row s.recipes)), (7, .ro 4 (rws Sw.row s.swaps))]) 9 (fun (⟨k, b2⟩ : Nat × Bool) => k ≤ s.machines.length ∧ b2 = (b1 && decide (∀ a ∈ s.machines.take k, machOk s a))) (fun (⟨k, b2⟩ : Nat × Bool) => s.machines.length - k) ?round8 ((0, b1)) ?J08) ?SS8 ?HH8
 case J08 => exact (⟨Nat.zero_le _, all_zero _⟩)
 case SS8 => repeat (first | exact trivial | refine ⟨by rfl, ?_⟩)
 case HH8 => repeat (first | exact trivial | refine ⟨by rfl, ?_⟩)
 rintro ⟨k, b2⟩ hJ back
 try dsimp only at hJ back
 conv => whnf
 try dsimp only
 refine gS ?_
 conv => whnf
 refine ⟨fun hk => ?_, fun hk => ?_⟩ <;> conv => whnf
 ·have hk : k < s.machines.length := by omega
  conv => whnf
  repeat ((first | refine oM ?_ | refine oL ?_ | refine oR ?_); (try intro _); conv => whnf)
  refine ⟨_, rws_get hk, ?_⟩
  conv => whnf
  try (refine oN ?_; conv => whnf)
  refine RunsS.held tab (.fl 0 (.fl 1 (.fl 2 (.fl 3 (.fl 4 (.fl 5 (.fl 6 (.fl 7 (.fl 8 (.e1 9 [] (.e1 10 [] .done))))))))))) (by kernel_rfl) ?_
  conv => whnf
  try refine gR ?_
  conv => whnf
  conv => whnf
  refine EffR.callV (fun Ez Hz Az Sz K => tIdx_fn s.machines[k].pn lP) (by (conv => whnf); (repeat (refine And.intro (by (conv => whnf); first | rfl | exact trivial) ?_; conv => whnf)); exact trivial) ?_
  conv => whnf
  try refine gR ?_
  conv => whnf
  conv => whnf
  refine EffR.callN (tNeed_fn b2 (decide (idx s.machines[k].pn s.plants.length))) [0, 1, 2, 3, 4, 5, 6, 7, 8] ?CNr9 (by repeat (first | exact trivial | refine ⟨by rfl, ?_⟩)) ?CNa9
  case CNa9 => rfl
  intro _ _
  conv => whnf
  try refine And.intro (by (conv => whnf); (repeat (refine And.intro (by (conv => whnf); first | rfl | exact trivial) ?_; conv => whnf)); exact trivial) ?_
  try refine gR ?_
  conv => whnf
  try refine gS ?_
  conv => whnf
  refine RunsS.callV (fun Ez Hz Az Sz K => tBetween_fn s.machines[k].clean 0 15) ?_
  conv => whnf
  try refine gS ?_
  conv => whnf
  refine RunsS.callN (tNeed_fn _ (decide (bt s.machines[k].clean 0 15))) [0, 1, 2, 3, 4, 5, 6, 7, 8] ?CNr10 (by repeat (first | exact trivial | refine ⟨by rfl, ?_⟩)) ?CNa10
  case CNa10 => rfl
  intro _ _
  conv => whnf
  try refine gS ?_
  conv => whnf
  repeat ((first | refine oM ?_ | refine oL ?_ | refine oR ?_); (try intro _); conv => whnf)
  rw [Bool.and_assoc b2, show (decide (idx s.machines[k].pn s.plants.length) && decide (bt s.machines[k].clean 0 15)) = decide (machOk s s.machines[k]) by rw [Bool.eq_iff_iff]; simp only [Bool.and_eq_true, decide_eq_true_eq]; exact Iff.rfl]
  refine RunsS.subR [] (back ((k + 1, b2 && decide (machOk s s.machines[k]))) ?BJ11 ?BM11) ?SS11 ?HH11
  case BJ11 => exact (⟨hk, all_step hk hJ.2 rfl⟩)
  case BM11 => (try dsimp only); omega
  case SS11 => repeat (first | exact trivial | refine ⟨by rfl, ?_⟩)
  case HH11 => repeat (first | exact trivial | refine ⟨by rfl, ?_⟩)
 have hk : k = s.machines.length := by omega
 have h2 := hJ.2
 rw [hk, List.take_length] at h2
 rename_i hk0
 clear back hJ hk hk0 m2
 conv => whnf
 refine RunsS.lenB 4 (fun m3 => ?_)
 refine RunsS.subR [] (RunsS.loop (fun (⟨k, b3⟩ : Nat × Bool) => [(61, .v (.int .i64 k)), (60, .v (.int .i64 (rws OpV.row s.options).length)), (59, .buf 4), (0, .ptr 8 0)]) (fun (⟨k, b3⟩ : Nat × Bool) => [ckC b3, (0, .ro 8 (rowsU s.units)), (1, .ro 6 (rws It.row s.items)), (2, .ro 1 (rwsB s.plants)), (3, .ro 4 (rws Mc.row s.machines)), (4, .ro 2 (rws OpV.row s.options)), (5, .ro 1 (rws FbV.row s.forbids)), (6, .ro 17 (rws RcV.row s.recipes)), (7, .ro 4 (rws Sw.row s.swaps))]) 9 (fun (⟨k, b3⟩ : Nat × Bool) => k ≤ s.options.length ∧ b3 = (b2 && decide (∀ a ∈ s.options.take k, a.ch ≠ []))) (fun (⟨k, b3⟩ : Nat × Bool) => s.options.length - k) ?round12 ((0, b2)) ?J012) ?SS12 ?HH12
 case J012 => exact (⟨Nat.zero_le _, all_zero _⟩)
 case SS12 => repeat (first | exact trivial | refine ⟨by rfl, ?_⟩)
 case HH12 => repeat (first | exact trivial | refine ⟨by rfl, ?_⟩)
 rintro ⟨k, b3⟩ hJ back
 try dsimp only at hJ back
 conv => whnf
 try dsimp only
 refine gS ?_
 conv => whnf
 refine ⟨fun hk => ?_, fun hk => ?_⟩ <;> conv => whnf
 ·have hk : k < s.options.length := by omega
  conv => whnf
  repeat ((first | refine oM ?_ | refine oL ?_ | refine oR ?_); (try intro _); conv => whnf)
  refine ⟨_, rws_get hk, ?_⟩
  conv => whnf
  try (refine oN ?_; conv => whnf)
  refine RunsS.callN (tNeed_fn b3 (decide (0 < (s.options[k].ch.length : Int)))) [0, 1, 2, 3, 4, 5, 6, 7, 8] ?CNr13 (by repeat (first | exact trivial | refine ⟨by rfl, ?_⟩)) ?CNa13
  case CNa13 => rfl
  intro _ _
  conv => whnf
  try refine gS ?_
  conv => whnf
  repeat ((first | refine oM ?_ | refine oL ?_ | refine oR ?_); (try intro _); conv => whnf)
  refine RunsS.subR [] (back ((k + 1, b3 && decide (0 < (s.options[k].ch.length : Int)))) ?BJ14 ?BM14) ?SS14 ?HH14
  case BJ14 => exact (⟨hk, all_step hk hJ.2 (opt_ne _)⟩)
  case BM14 => (try dsimp only); omega
  case SS14 => repeat (first | exact trivial | refine ⟨by rfl, ?_⟩)
  case HH14 => repeat (first | exact trivial | refine ⟨by rfl, ?_⟩)
 have hk : k = s.options.length := by omega
 have h3 := hJ.2
 rw [hk, List.take_length] at h3
 rename_i hk0
 clear back hJ hk hk0 m3
 conv => whnf
 refine RunsS.lenB 5 (fun m4 => ?_)
 refine RunsS.subR [] (RunsS.loop (fun (⟨k, b4⟩ : Nat × Bool) => [(78, .v (.int .i64 k)), (77, .v (.int .i64 (rws FbV.row s.forbids).length)), (76, .buf 5), (0, .ptr 8 0)]) (fun (⟨k, b4⟩ : Nat × Bool) => [ckC b4, (0, .ro 8 (rowsU s.units)), (1, .ro 6 (rws It.row s.items)), (2, .ro 1 (rwsB s.plants)), (3, .ro 4 (rws Mc.row s.machines)), (4, .ro 2 (rws OpV.row s.options)), (5, .ro 1 (rws FbV.row s.forbids)), (6, .ro 17 (rws RcV.row s.recipes)), (7, .ro 4 (rws Sw.row s.swaps))]) 9 (fun (⟨k, b4⟩ : Nat × Bool) => k ≤ s.forbids.length ∧ b4 = (b3 && decide (∀ a ∈ s.forbids.take k, a.cs ≠ [] ∧ condsOk s a.cs))) (fun (⟨k, b4⟩ : Nat × Bool) => s.forbids.length - k) ?round15 ((0, b3)) ?J015) ?SS15 ?HH15
 case J015 => exact (⟨Nat.zero_le _, all_zero _⟩)
 case SS15 => repeat (first | exact trivial | refine ⟨by rfl, ?_⟩)
 case HH15 => repeat (first | exact trivial | refine ⟨by rfl, ?_⟩)
 rintro ⟨k, b4⟩ hJ back
 try dsimp only at hJ back
 conv => whnf
 try dsimp only
 refine gS ?_
 conv => whnf
 refine ⟨fun hk => ?_, fun hk => ?_⟩ <;> conv => whnf
 ·have hk : k < s.forbids.length := by omega
  conv => whnf
  repeat ((first | refine oM ?_ | refine oL ?_ | refine oR ?_); (try intro _); conv => whnf)
  refine ⟨_, rws_get hk, ?_⟩
  conv => whnf
  refine RunsS.callN (tNeed_fn b4 (decide (0 < (s.forbids[k].cs.length : Int)))) [0, 1, 2, 3, 4, 5, 6, 7, 8] ?CNr16 (by repeat (first | exact trivial | refine ⟨by rfl, ?_⟩)) ?CNa16
  case CNa16 => rfl
  intro _ _
  conv => whnf
  try refine gS ?_
  conv => whnf
  refine RunsS.callT (RoF.tok _ _ _) (hT.f _ (List.getElem_mem hk)) (tConds_fn s _ s.forbids[k].cs s.forbids[k].hd.a s.forbids[k].hd.c) [0, 1, 2, 3, 4, 5, 6, 7, 8] (by repeat (first | exact trivial | refine ⟨by rfl, ?_⟩)) ?CNa17 ?CNr17
  case CNa17 => rfl
  intro _ _
  conv => whnf
  try refine gS ?_
  conv => whnf
  repeat ((first | refine oM ?_ | refine oL ?_ | refine oR ?_); (try intro _); conv => whnf)
  rw [Bool.and_assoc b4, fb_ne, show (decide (s.forbids[k].cs ≠ []) && decide (condsOk s s.forbids[k].cs)) = decide (s.forbids[k].cs ≠ [] ∧ condsOk s s.forbids[k].cs) by rw [Bool.eq_iff_iff]; simp only [Bool.and_eq_true, decide_eq_true_eq]]
  refine RunsS.subR [] (back ((k + 1, b4 && decide (s.forbids[k].cs ≠ [] ∧ condsOk s s.forbids[k].cs))) ?BJ18 ?BM18) ?SS18 ?HH18
  case BJ18 => exact (⟨hk, all_step hk hJ.2 rfl⟩)
  case BM18 => (try dsimp only); omega
  case SS18 => repeat (first | exact trivial | refine ⟨by rfl, ?_⟩)
  case HH18 => repeat (first | exact trivial | refine ⟨by rfl, ?_⟩)
 have hk : k = s.forbids.length := by omega
 have h4 := hJ.2
 rw [hk, List.take_length] at h4
 rename_i hk0
 clear back hJ hk hk0 m4
 conv => whnf
 refine RunsS.lenB 6 (fun m5 => ?_)
 refine RunsS.subR [] (RunsS.loop (fun (⟨k, b5⟩ : Nat × Bool) => [(97, .v (.int .i64 k)), (96, .v (.int .i64 (rws RcV.row s.recipes).length)), (95, .buf 6), (0, .ptr 8 0)]) (fun (⟨k, b5⟩ : Nat × Bool) => [ckC b5, (0, .ro 8 (rowsU s.units)), (1, .ro 6 (rws It.row s.items)), (2, .ro 1 (rwsB s.plants)), (3, .ro 4 (rws Mc.row s.machines)), (4, .ro 2 (rws OpV.row s.options)), (5, .ro 1 (rws FbV.row s.forbids)), (6, .ro 17 (rws RcV.row s.recipes)), (7, .ro 4 (rws Sw.row s.swaps))]) 9 (fun (⟨k, b5⟩ : Nat × Bool) => k ≤ s.recipes.length ∧ b5 = (b4 && decide (∀ a ∈ s.recipes.take k, recOk s a))) (fun (⟨k, b5⟩ : Nat × Bool) => s.recipes.length - k) ?round19 ((0, b4)) ?J019) ?SS19 ?HH19
 case J019 => exact (⟨Nat.zero_le _, all_zero _⟩)
 case SS19 => repeat (first | exact trivial | refine ⟨by rfl, ?_⟩)
 case HH19 => repeat (first | exact trivial | refine ⟨by rfl, ?_⟩)
 rintro ⟨k, b5⟩ hJ back
 try dsimp only at hJ back
 conv => whnf
 try dsimp only
 refine gS ?_
 conv => whnf
 refine ⟨fun hk => ?_, fun hk => ?_⟩ <;> conv => whnf
 ·have hk : k < s.recipes.length := by omega
  conv => whnf
  repeat ((first | refine oM ?_ | refine oL ?_ | refine oR ?_); (try intro _); conv => whnf)
  refine ⟨_, rws_get hk, ?_⟩
  conv => whnf
  try (refine oN ?_; conv => whnf)
  refine RunsS.callT (RcV.ok.tok _) (hT.r _ (List.getElem_mem hk)) (tRecipe_fn s b5 s.recipes[k]) [0, 1, 2, 3, 4, 5, 6, 7, 8] (by repeat (first | exact trivial | refine ⟨by rfl, ?_⟩)) ?CNa20 ?CNr20
  case CNa20 => rfl
  intro _ _
  conv => whnf
  try refine gS ?_
  conv => whnf
  repeat ((first | refine oM ?_ | refine oL ?_ | refine oR ?_); (try intro _); conv => whnf)
  refine RunsS.subR [] (back ((k + 1, b5 && decide (recOk s s.recipes[k]))) ?BJ21 ?BM21) ?SS21 ?HH21
  case BJ21 => exact (⟨hk, all_step hk hJ.2 rfl⟩)
  case BM21 => (try dsimp only); omega
  case SS21 => repeat (first | exact trivial | refine ⟨by rfl, ?_⟩)
  case HH21 => repeat (first | exact trivial | refine ⟨by rfl, ?_⟩)
 have hk : k = s.recipes.length := by omega
 have h5 := hJ.2
 rw [hk, List.take_length] at h5
 rename_i hk0
 clear back hJ hk hk0 m5
 conv => whnf
 refine RunsS.lenB 7 (fun m6 => ?_)
 refine RunsS.subR [] (RunsS.loop (fun (⟨k, b6⟩ : Nat × Bool) => [(111, .v (.int .i64 k)), (110, .v (.int .i64 (rws Sw.row s.swaps).length)), (109, .buf 7), (0, .ptr 8 0)]) (fun (⟨k, b6⟩ : Nat × Bool) => [ckC b6, (0, .ro 8 (rowsU s.units)), (1, .ro 6 (rws It.row s.items)), (2, .ro 1 (rwsB s.plants)), (3, .ro 4 (rws Mc.row s.machines)), (4, .ro 2 (rws OpV.row s.options)), (5, .ro 1 (rws FbV.row s.forbids)), (6, .ro 17 (rws RcV.row s.recipes)), (7, .ro 4 (rws Sw.row s.swaps))]) 9 (fun (⟨k, b6⟩ : Nat × Bool) => k ≤ s.swaps.length ∧ b6 = (b5 && decide (∀ a ∈ s.swaps.take k, swapOk s a))) (fun (⟨k, b6⟩ : Nat × Bool) => s.swaps.length - k) ?round22 ((0, b5)) ?J022) ?SS22 ?HH22
 case J022 => exact (⟨Nat.zero_le _, all_zero _⟩)
 case SS22 => repeat (first | exact trivial | refine ⟨by rfl, ?_⟩)
 case HH22 => repeat (first | exact trivial | refine ⟨by rfl, ?_⟩)
 rintro ⟨k, b6⟩ hJ back
 try dsimp only at hJ back
 conv => whnf
 try dsimp only
 refine gS ?_
 conv => whnf
 refine ⟨fun hk => ?_, fun hk => ?_⟩ <;> conv => whnf
 ·have hk : k < s.swaps.length := by omega
  conv => whnf
  repeat ((first | refine oM ?_ | refine oL ?_ | refine oR ?_); (try intro _); conv => whnf)
  refine ⟨_, rws_get hk, ?_⟩
  conv => whnf
  try (refine oN ?_; conv => whnf)
  refine RunsS.callN (tSwap_fn s b6 s.swaps[k]) [0, 1, 2, 3, 4, 5, 6, 7, 8] ?CNr23 (by repeat (first | exact trivial | refine ⟨by rfl, ?_⟩)) ?CNa23
  case CNa23 => rfl
  intro _ _
  conv => whnf
  try refine gS ?_
  conv => whnf
  repeat ((first | refine oM ?_ | refine oL ?_ | refine oR ?_); (try intro _); conv => whnf)
  refine RunsS.subR [] (back ((k + 1, b6 && decide (swapOk s s.swaps[k]))) ?BJ24 ?BM24) ?SS24 ?HH24
  case BJ24 => exact (⟨hk, all_step hk hJ.2 rfl⟩)
  case BM24 => (try dsimp only); omega
  case SS24 => repeat (first | exact trivial | refine ⟨by rfl, ?_⟩)
  case HH24 => repeat (first | exact trivial | refine ⟨by rfl, ?_⟩)
 have hk : k = s.swaps.length := by omega
 have h6 := hJ.2
 rw [hk, List.take_length] at h6
 rename_i hk0
 clear back hJ hk hk0 m6
 conv => whnf
 have e : b6 = (b && decide (Typed s)) := by
  rw [h6, h5, h4, h3, h2, h1, Bool.eq_iff_iff]
  simp only [Bool.and_eq_true, decide_eq_true_eq, and_assoc]
  exact ⟨fun ⟨a, b, c, d, e, f, g⟩ => ⟨a, b, c, d, e, f, g⟩, fun ⟨a, ⟨b, c, d, e, f, g⟩⟩ => ⟨a, b, c, d, e, f, g⟩⟩
 rw [e]
 try refine RunsS.retU ?_
 try refine RunsS.finU ?_
 exact UnwS.ret tab Tryz.func26 rfl (EndS.mk (()) (trivial) [] (by repeat (first | exact trivial | refine ⟨by rfl, ?_⟩)) rfl rfl (okRet rfl rfl))

theorem tCheck_fn {h : Array Obj} (s : SrcV) {vU vI vP vM vO vF vR vS : Value} (hs : Top h vU vI vP vM vO vF vR vS s) (hw : s.wf) (hT : TabH h) : FnV Tryz.prog 12 #[srcV vU vI vP vM vO vF vR vS] h fun r h' => r = .int .i64 (checkT s) ∧ Keeps h.size h h' := by
 refine Fn.ofG (envL [vU, vI, vP, vM, vO, vF, vR, vS]) 8 [.agg [.buf 0, .buf 1, .buf 2, .buf 3, .buf 4, .buf 5, .buf 6, .buf 7]] [(0, .ro (8) (rowsU s.units)), (1, .ro (6) (rws It.row s.items)), (2, .ro (1) (rwsB s.plants)), (3, .ro (4) (rws Mc.row s.machines)), (4, .ro (2) (rws OpV.row s.options)), (5, .ro (1) (rws FbV.row s.forbids)), (6, .ro (17) (rws RcV.row s.recipes)), (7, .ro (4) (rws Sw.row s.swaps))] (fun k => k < _) Tryz.func12 (by kernel_rfl) rfl Tryz.ntmps12 rfl (fun _ hk => hk) (Sat.ros (vs := [vU, vI, vP, vM, vO, vF, vR, vS]) (l := [(8, rowsU s.units), (6, rws It.row s.items), (1, rwsB s.plants), (4, rws Mc.row s.machines), (2, rws OpV.row s.options), (1, rws FbV.row s.forbids), (17, rws RcV.row s.recipes), (4, rws Sw.row s.swaps)]) ⟨hs.U, hs.I, hs.P, hs.M, hs.O, hs.F, hs.R, hs.S, trivial⟩) fun w0 cs => ?_
 conv => whnf
 refine gS ?_
 conv => whnf
 by_cases hu : checkU s.units = 0
 ·refine RunsS.callV (fun Ez Hz Az Sz K => uCheck_fn s.units hw.U (Sz.ro (b := 0) rfl) (hT.keeps ⟨K.size, K.same⟩)) ?_
  conv => whnf
  rw [hu]
  try dsimp only
  try refine gS ?_
  conv => whnf
  repeat ((first | refine oM ?_ | refine oL ?_ | refine oR ?_); (try intro _); conv => whnf)
  by_cases hm : Small s
  ·refine RunsS.callV (fun Ez Hz Az Sz K => tWithin_fn s ⟨Sz.ro (b := 0) rfl, Sz.ro (b := 1) rfl, Sz.ro (b := 2) rfl, Sz.ro (b := 3) rfl, Sz.ro (b := 4) rfl, Sz.ro (b := 5) rfl, Sz.ro (b := 6) rfl, Sz.ro (b := 7) rfl, hs.below.up (Up.kp K)⟩) ?_
   conv => whnf
   rw [decide_eq_true hm]
   try refine gS ?_
   conv => whnf
   have C := tSource_fn s true
   by_cases ht : Typed s
   ·rw [Bool.true_and, decide_eq_true ht] at C
    refine RunsS.callT (SrcV.sub.tok _) (hs.below) (C) [0, 1, 2, 3, 4, 5, 6, 7, 9] (by repeat (first | exact trivial | refine ⟨by rfl, ?_⟩)) ?CNa1 ?CNr1
    case CNa1 => rfl
    intro _ _
    conv => whnf
    try refine gS ?_
    conv => whnf
    have : checkT s = 0 := by unfold checkT; rw [if_neg (fun h => h hu), if_neg (fun h => h hm), if_neg (fun h => h ht)]
    rw [this]
    refine RunsS.retU (UnwS.ret tab Tryz.func12 rfl fun Ez Hz Az Sz K => ⟨_, rfl, rfl, K.keeps⟩)
   ·rw [Bool.true_and, decide_eq_false ht] at C
    refine RunsS.callT (SrcV.sub.tok _) (hs.below) (C) [0, 1, 2, 3, 4, 5, 6, 7, 9] (by repeat (first | exact trivial | refine ⟨by rfl, ?_⟩)) ?CNa2 ?CNr2
    case CNa2 => rfl
    intro _ _
    conv => whnf
    try refine gS ?_
    conv => whnf
    have : checkT s = 120 := by unfold checkT; rw [if_neg (fun h => h hu), if_neg (fun h => h hm), if_pos ht]
    rw [this]
    refine RunsS.retU (UnwS.ret tab Tryz.func12 rfl fun Ez Hz Az Sz K => ⟨_, rfl, rfl, K.keeps⟩)
  ·refine RunsS.callV (fun Ez Hz Az Sz K => tWithin_fn s ⟨Sz.ro (b := 0) rfl, Sz.ro (b := 1) rfl, Sz.ro (b := 2) rfl, Sz.ro (b := 3) rfl, Sz.ro (b := 4) rfl, Sz.ro (b := 5) rfl, Sz.ro (b := 6) rfl, Sz.ro (b := 7) rfl, hs.below.up (Up.kp K)⟩) ?_
   conv => whnf
   rw [decide_eq_false hm]
   try refine gS ?_
   conv => whnf
   have : checkT s = 2 := by unfold checkT; rw [if_neg (fun h => h hu), if_pos hm]
   rw [this]
   refine RunsS.retU (UnwS.ret tab Tryz.func12 rfl fun Ez Hz Az Sz K => ⟨_, rfl, rfl, K.keeps⟩)
 ·refine RunsS.callV (fun Ez Hz Az Sz K => uCheck_fn s.units hw.U (Sz.ro (b := 0) rfl) (hT.keeps ⟨K.size, K.same⟩)) ?_
  conv => whnf
  try refine gS ?_
  conv => whnf
  repeat ((first | refine oM ?_ | refine oL ?_ | refine oR ?_); (try intro _); conv => whnf)
  have : checkT s = checkU s.units := by unfold checkT; rw [if_pos hu]
  rw [this]
  refine RunsS.retU (UnwS.ret tab Tryz.func12 rfl fun Ez Hz Az Sz K => ⟨_, rfl, rfl, K.keeps⟩)
abbrev amV (a : Am) : Value := .agg a.row.toArray
abbrev zrC (b : Nat) : Nat × Fw.Blk := (b, .cells 39 [.v (.bool false), .v (.string ⟨#[]⟩), .v (.string ⟨#[]⟩)])
theorem tAmt_fn {h : Array Obj} (s : SrcV) {vU vI vP vM vO vF vR vS : Value} (hs : Top h vU vI vP vM vO vF vR vS s) (hw : s.wf) (a : Am) (ha : a.wf) (hT : TabH h) : FnV Tryz.prog 14 #[srcV vU vI vP vM vO vF vR vS, amV a] h fun r h' => r = rev (amtT s a) ∧ Keeps h.size h h' := by
 have lU := rowsU_len s.units
 have lI := rws_len It.row s.items
 have lP := rwsB_len s.plants
 have lM := rws_len Mc.row s.machines
 have lO := rws_len OpV.row s.options
 have lF := rws_len FbV.row s.forbids
 have lR := rws_len RcV.row s.recipes
 have lS := rws_len Sw.row s.swaps
 obtain ⟨y, hy⟩ : ∃ y, y = amtT s a := ⟨_, rfl⟩
 rw [← hy]
 unfold amtT at hy
 refine Fn.ofG (envL [vU, vI, vP, vM, vO, vF, vR, vS]) 8 [.agg [.buf 0, .buf 1, .buf 2, .buf 3, .buf 4, .buf 5, .buf 6, .buf 7], .agg (toV a.row)] [(0, .ro (8) (rowsU s.units)), (1, .ro (6) (rws It.row s.items)), (2, .ro (1) (rwsB s.plants)), (3, .ro (4) (rws Mc.row s.machines)), (4, .ro (2) (rws OpV.row s.options)), (5, .ro (1) (rws FbV.row s.forbids)), (6, .ro (17) (rws RcV.row s.recipes)), (7, .ro (4) (rws Sw.row s.swaps))] (fun k => k < _) Tryz.func14 (by kernel_rfl) rfl Tryz.ntmps14 rfl (fun _ hk => hk) (Sat.ros (vs := [vU, vI, vP, vM, vO, vF, vR, vS]) (l := [(8, rowsU s.units), (6, rws It.row s.items), (1, rwsB s.plants), (4, rws Mc.row s.machines), (2, rws OpV.row s.options), (1, rws FbV.row s.forbids), (17, rws RcV.row s.recipes), (4, rws Sw.row s.swaps)]) ⟨hs.U, hs.I, hs.P, hs.M, hs.O, hs.F, hs.R, hs.S, trivial⟩) fun w0 cs => ?_
 conv => whnf
 refine gS ?_
 conv => whnf
 by_cases h1 : idx a.inn s.items.length
 ·obtain ⟨k, e, hk, e3⟩ := at?_idx h1
  rw [e3] at hy
  dsimp only at hy
  refine RunsS.callV (fun Ez Hz Az Sz K => tIndex_y a.inn (rws It.row s.items).length (by omega)) ?_
  conv => whnf
  try refine gS ?_
  conv => whnf
  refine RunsS.callV (fun Ez Hz Az Sz K => qNew_fn a.n a.d ha.1 ha.2.1 (hT.keeps ⟨K.size, K.same⟩)) ?_
  conv => whnf
  try refine gS ?_
  conv => whnf
  refine ⟨fun h2 => ?_, fun h2 => ?_⟩ <;> conv => whnf
  ·conv => whnf
   rw [if_neg (fun h => h h2)] at hy
   refine RunsS.held tab (.fl 0 (.fl 1 (.fl 2 (.fl 3 (.fl 4 (.fl 5 (.fl 6 (.fl 7 (.fl 8 (.fl 9 (.fl 10 (.fl 11 (.e1 12 [] (.fl 13 (.fl 14 (.e1 15 [] (.fl 16 .done))))))))))))))))) (by kernel_rfl) ?_
   conv => whnf
   try refine gR ?_
   conv => whnf
   repeat ((first | refine oM ?_ | refine oL ?_ | refine oR ?_ | refine oB ?_); (try intro _); conv => whnf)
   conv => whnf
   refine ⟨_, (by rw [e]; exact rws_get hk), ?_⟩
   conv => whnf
   conv => whnf
   conv => whnf
   refine EffR.callV (fun Ez Hz Az Sz K => convert_fn s.units hw.U (Sz.ro (b := 0) rfl) a.un s.items[k].un (newR a.n a.d).1 (hT.keeps ⟨K.size, K.same⟩)) (by (conv => whnf); (repeat (refine And.intro (by (conv => whnf); first | rfl | exact trivial) ?_; conv => whnf)); exact trivial) ?_
   conv => whnf
   try refine gR ?_
   conv => whnf
   repeat ((first | refine oM ?_ | refine oL ?_ | refine oR ?_ | refine oB ?_); (try intro _); conv => whnf)
   try refine gS ?_
   conv => whnf
   subst hy
   refine RunsS.retU (UnwS.ret tab Tryz.func14 rfl fun Ez Hz Az Sz K => ⟨_, rfl, rfl, K.keeps⟩)
  ·conv => whnf
   rw [if_pos h2] at hy
   subst hy
   refine RunsS.retU (UnwS.ret tab Tryz.func14 rfl fun Ez Hz Az Sz K => ⟨_, rfl, rfl, K.keeps⟩)
 ·rw [at?_none h1] at hy
  subst hy
  refine RunsS.callV (fun Ez Hz Az Sz K => tIndex_n a.inn (rws It.row s.items).length (by rw [lI]; exact h1)) ?_
  conv => whnf
  try refine gS ?_
  conv => whnf
  refine RunsS.retU (UnwS.ret tab Tryz.func14 rfl fun Ez Hz Az Sz K => ⟨_, rfl, rfl, K.keeps⟩)
theorem tMass_fn {h : Array Obj} (s : SrcV) {vU vI vP vM vO vF vR vS : Value} (hs : Top h vU vI vP vM vO vF vR vS s) (hw : s.wf) (a : Am) (ha : a.wf) (hT : TabH h) : FnV Tryz.prog 16 #[srcV vU vI vP vM vO vF vR vS, amV a] h fun r h' => r = rev (massT s a) ∧ Keeps h.size h h' := by
 have lU := rowsU_len s.units
 have lI := rws_len It.row s.items
 have lP := rwsB_len s.plants
 have lM := rws_len Mc.row s.machines
 have lO := rws_len OpV.row s.options
 have lF := rws_len FbV.row s.forbids
 have lR := rws_len RcV.row s.recipes
 have lS := rws_len Sw.row s.swaps
 obtain ⟨y, hy⟩ : ∃ y, y = massT s a := ⟨_, rfl⟩
 rw [← hy]
 unfold massT at hy
 refine Fn.ofG (envL [vU, vI, vP, vM, vO, vF, vR, vS]) 8 [.agg [.buf 0, .buf 1, .buf 2, .buf 3, .buf 4, .buf 5, .buf 6, .buf 7], .agg (toV a.row)] [(0, .ro (8) (rowsU s.units)), (1, .ro (6) (rws It.row s.items)), (2, .ro (1) (rwsB s.plants)), (3, .ro (4) (rws Mc.row s.machines)), (4, .ro (2) (rws OpV.row s.options)), (5, .ro (1) (rws FbV.row s.forbids)), (6, .ro (17) (rws RcV.row s.recipes)), (7, .ro (4) (rws Sw.row s.swaps))] (fun k => k < _) Tryz.func16 (by kernel_rfl) rfl Tryz.ntmps16 rfl (fun _ hk => hk) (Sat.ros (vs := [vU, vI, vP, vM, vO, vF, vR, vS]) (l := [(8, rowsU s.units), (6, rws It.row s.items), (1, rwsB s.plants), (4, rws Mc.row s.machines), (2, rws OpV.row s.options), (1, rws FbV.row s.forbids), (17, rws RcV.row s.recipes), (4, rws Sw.row s.swaps)]) ⟨hs.U, hs.I, hs.P, hs.M, hs.O, hs.F, hs.R, hs.S, trivial⟩) fun w0 cs => ?_
 conv => whnf
 refine gS ?_
 conv => whnf
 refine RunsS.callV (fun Ez Hz Az Sz K => tAmt_fn s ⟨Sz.ro (b := 0) rfl, Sz.ro (b := 1) rfl, Sz.ro (b := 2) rfl, Sz.ro (b := 3) rfl, Sz.ro (b := 4) rfl, Sz.ro (b := 5) rfl, Sz.ro (b := 6) rfl, Sz.ro (b := 7) rfl, hs.below.up (Up.kp K)⟩ hw a ha (hT.keeps ⟨K.size, K.same⟩)) ?_
 conv => whnf
 try refine gS ?_
 conv => whnf
 refine ⟨fun h0 => ?_, fun h0 => ?_⟩ <;> conv => whnf
 ·conv => whnf
  rw [if_neg (fun h => h h0)] at hy
  have h1 : idx a.inn s.items.length := Decidable.byContradiction fun h1 => by
   unfold amtT at h0
   rw [at?_none h1] at h0
   exact absurd (show (120 : Int) = 0 from h0) (by omega)
  obtain ⟨k, e, hk, e3⟩ := at?_idx h1
  rw [e3] at hy
  dsimp only at hy
  have hi := hw.I _ (List.getElem_mem hk)
  refine RunsS.join (fun (_ : Unit) => [(7, .ptr 12 0), (6, .ptr 11 0), (5, .v (.int .i64 (newR s.items[k].mn s.items[k].md).2)), (4, .ptr 10 0)]) (fun (_ : Unit) => [rtB 12 (newR s.items[k].mn s.items[k].md).1, rtB 11 (amtT s a).1, zrC 10]) 13 (fun (_ : Unit) => True) ?_ (fun meet => ?_)
  rotate_left
  ·refine RunsS.held tab (.fl 0 (.fl 1 (.fl 2 (.fl 3 (.fl 4 (.fl 5 (.fl 6 (.fl 7 (.fl 8 (.fl 9 (.fl 10 (.fl 11 (.fl 12 (.fl 13 (.e2 14 [] (.fl 15 (.fl 16 (.fl 17 (.e1 18 [1, 3, 6, 8, 10, 13] (.e1 19 [] (.fl 20 .done)))))) 18 [1, 3, 6, 8, 10, 13] (.e1 14 [] (.fl 15 (.fl 16 (.fl 17 (.e1 19 [] (.fl 20 .done))))))))))))))))))))) (by kernel_rfl) ?_
   conv => whnf
   try refine gR ?_
   conv => whnf
   repeat ((first | refine oM ?_ | refine oL ?_ | refine oR ?_ | refine oB ?_); (try intro _); conv => whnf)
   conv => whnf
   refine ⟨_, (by rw [e]; exact rws_get hk), ?_⟩
   conv => whnf
   try (refine oN ?_; conv => whnf)
   conv => whnf
   conv => whnf
   refine ⟨_, (by rw [e]; exact rws_get hk), ?_⟩
   conv => whnf
   conv => whnf
   conv => whnf
   refine ⟨?_, ?_⟩ <;> conv => whnf
   ·refine EffR.callV (fun Ez Hz Az Sz K => qNew_fn s.items[k].mn s.items[k].md hi.1 hi.2.1 (hT.keeps ⟨K.size, K.same⟩)) (by (conv => whnf); (repeat (refine And.intro (by (conv => whnf); first | rfl | exact trivial) ?_; conv => whnf)); exact trivial) ?_
    conv => whnf
    try refine gR ?_
    conv => whnf
    repeat ((first | refine oM ?_ | refine oL ?_ | refine oR ?_ | refine oB ?_); (try intro _); conv => whnf)
    try refine gS ?_
    conv => whnf
    refine RunsS.subR [] (meet (()) ?BJ3) ?SS3 ?HH3
    case BJ3 => first | trivial | omega | ((try dsimp only); omega)
    case SS3 => repeat (first | exact trivial | refine ⟨by rfl, ?_⟩)
    case HH3 => repeat (first | exact trivial | refine ⟨by rfl, ?_⟩)
   ·try refine gR ?_
    conv => whnf
    repeat ((first | refine oM ?_ | refine oL ?_ | refine oR ?_ | refine oB ?_); (try intro _); conv => whnf)
    conv => whnf
    refine EffR.callV (fun Ez Hz Az Sz K => qNew_fn s.items[k].mn s.items[k].md hi.1 hi.2.1 (hT.keeps ⟨K.size, K.same⟩)) (by (conv => whnf); (repeat (refine And.intro (by (conv => whnf); first | rfl | exact trivial) ?_; conv => whnf)); exact trivial) ?_
    conv => whnf
    try refine gR ?_
    conv => whnf
    repeat ((first | refine oM ?_ | refine oL ?_ | refine oR ?_ | refine oB ?_); (try intro _); conv => whnf)
    try refine gS ?_
    conv => whnf
    refine RunsS.subR [] (meet (()) ?BJ4) ?SS4 ?HH4
    case BJ4 => first | trivial | omega | ((try dsimp only); omega)
    case SS4 => repeat (first | exact trivial | refine ⟨by rfl, ?_⟩)
    case HH4 => repeat (first | exact trivial | refine ⟨by rfl, ?_⟩)
  intro _ _
  try refine gS ?_
  conv => whnf
  refine ⟨fun h2 => ?_, fun h2 => ?_⟩ <;> conv => whnf
  ·conv => whnf
   rw [if_neg (fun h => h h2)] at hy
   refine RunsS.callV (fun Ez Hz Az Sz K => qMul_fn (amtT s a).1 (newR s.items[k].mn s.items[k].md).1 (hT.keeps ⟨K.size, K.same⟩)) ?_
   conv => whnf
   try refine gS ?_
   conv => whnf
   subst hy
   refine RunsS.retU (UnwS.ret tab Tryz.func16 rfl fun Ez Hz Az Sz K => ⟨_, rfl, rfl, K.keeps⟩)
  ·conv => whnf
   rw [if_pos h2] at hy
   subst hy
   refine RunsS.retU (UnwS.ret tab Tryz.func16 rfl fun Ez Hz Az Sz K => ⟨_, rfl, rfl, K.keeps⟩)
 ·conv => whnf
  rw [if_pos h0] at hy
  subst hy
  refine RunsS.retU (UnwS.ret tab Tryz.func16 rfl fun Ez Hz Az Sz K => ⟨_, rfl, rfl, K.keeps⟩)




theorem yFew_fn {h : Array Obj} (s : SrcV) {vU vI vP vM vO vF vR vS : Value} (hs : Top h vU vI vP vM vO vF vR vS s) : FnV Tryz.prog 11 #[srcV vU vI vP vM vO vF vR vS] h fun r h' => r = .bool (decide (FewT s)) ∧ Keeps h.size h h' := by
 have lU := rowsU_len s.units
 have lI := rws_len It.row s.items
 have lP := rwsB_len s.plants
 have lM := rws_len Mc.row s.machines
 have lO := rws_len OpV.row s.options
 have lF := rws_len FbV.row s.forbids
 have lR := rws_len RcV.row s.recipes
 have lS := rws_len Sw.row s.swaps
 have mU := hs.U.len
 have mO := hs.O.len
 have mF := hs.F.len
 have mR := hs.R.len
 obtain ⟨r, hr⟩ : ∃ r, r = decide (FewT s) := ⟨_, rfl⟩
 rw [← hr]
 refine Fn.ofG (envL [vU, vI, vP, vM, vO, vF, vR, vS]) 8 [.agg [.buf 0, .buf 1, .buf 2, .buf 3, .buf 4, .buf 5, .buf 6, .buf 7]] [(0, .ro (8) (rowsU s.units)), (1, .ro (6) (rws It.row s.items)), (2, .ro (1) (rwsB s.plants)), (3, .ro (4) (rws Mc.row s.machines)), (4, .ro (2) (rws OpV.row s.options)), (5, .ro (1) (rws FbV.row s.forbids)), (6, .ro (17) (rws RcV.row s.recipes)), (7, .ro (4) (rws Sw.row s.swaps))] (fun k => k < _) Tryz.func11 (by kernel_rfl) rfl Tryz.ntmps11 rfl (fun _ hk => hk) (Sat.ros (vs := [vU, vI, vP, vM, vO, vF, vR, vS]) (l := [(8, rowsU s.units), (6, rws It.row s.items), (1, rwsB s.plants), (4, rws Mc.row s.machines), (2, rws OpV.row s.options), (1, rws FbV.row s.forbids), (17, rws RcV.row s.recipes), (4, rws Sw.row s.swaps)]) ⟨hs.U, hs.I, hs.P, hs.M, hs.O, hs.F, hs.R, hs.S, trivial⟩) fun w0 cs => ?_
 conv => whnf
 refine gS ?_
 conv => whnf
 refine RunsS.subR [] (RunsS.loop (fun (k : Nat) => [(3, .v (.int .i64 k)), (1, .ptr 8 0)]) (fun (k : Nat) => [(8, .cells 31 [.buf 0, .buf 1, .buf 2, .buf 3, .buf 4, .buf 5, .buf 6, .buf 7]), (0, .ro 8 (rowsU s.units)), (1, .ro 6 (rws It.row s.items)), (2, .ro 1 (rwsB s.plants)), (3, .ro 4 (rws Mc.row s.machines)), (4, .ro 2 (rws OpV.row s.options)), (5, .ro 1 (rws FbV.row s.forbids)), (6, .ro 17 (rws RcV.row s.recipes)), (7, .ro 4 (rws Sw.row s.swaps))]) 9 (fun (k : Nat) => k ≤ s.units.length ∧ ∀ o ∈ s.units.take k, o.scale.n.size ≤ 60 ∧ o.scale.d.size ≤ 60) (fun (k : Nat) => s.units.length - k) ?round5 (0) ?J05) ?SS5 ?HH5
 case J05 => exact (⟨Nat.zero_le _, by simp⟩)
 case SS5 => repeat (first | exact trivial | refine ⟨by rfl, ?_⟩)
 case HH5 => repeat (first | exact trivial | refine ⟨by rfl, ?_⟩)
 rintro k hJ back
 try dsimp only at hJ back
 conv => whnf
 try dsimp only
 refine gS ?_
 conv => whnf
 refine ⟨fun hk => ?_, fun hk => ?_⟩ <;> conv => whnf
 ·have hk : k < s.units.length := by omega
  conv => whnf
  repeat ((first | refine oM ?_ | refine oL ?_ | refine oR ?_); (try intro _); conv => whnf)
  refine ⟨_, rowsU_get hk, ?_⟩
  conv => whnf
  by_cases t1 : s.units[k].scale.n.size ≤ 60
  rotate_left
  ·try intro _
   conv => whnf
   repeat ((first | refine oM ?_ | refine oL ?_ | refine oR ?_); (try intro _); conv => whnf)
   have : r = false := by rw [hr]; exact decide_eq_false fun h => t1 (h.1 _ (List.getElem_mem hk)).1
   rw [this]
   refine RunsS.retU (UnwS.ret tab Tryz.func11 rfl fun Ez Hz Az Sz K => ⟨_, rfl, rfl, K.keeps⟩)
  try intro _
  conv => whnf
  repeat ((first | refine oM ?_ | refine oL ?_ | refine oR ?_); (try intro _); conv => whnf)
  refine ⟨_, rowsU_get hk, ?_⟩
  conv => whnf
  by_cases t2 : s.units[k].scale.d.size ≤ 60
  rotate_left
  ·try intro _
   conv => whnf
   repeat ((first | refine oM ?_ | refine oL ?_ | refine oR ?_); (try intro _); conv => whnf)
   have : r = false := by rw [hr]; exact decide_eq_false fun h => t2 (h.1 _ (List.getElem_mem hk)).2
   rw [this]
   refine RunsS.retU (UnwS.ret tab Tryz.func11 rfl fun Ez Hz Az Sz K => ⟨_, rfl, rfl, K.keeps⟩)
  try intro _
  conv => whnf
  repeat ((first | refine oM ?_ | refine oL ?_ | refine oR ?_); (try intro _); conv => whnf)
  refine RunsS.subR [] (back (k + 1) ?BJ6 ?BM6) ?SS6 ?HH6
  case BJ6 => exact (⟨hk, all_take hk hJ.2 ⟨t1, t2⟩⟩)
  case BM6 => (try dsimp only); omega
  case SS6 => repeat (first | exact trivial | refine ⟨by rfl, ?_⟩)
  case HH6 => repeat (first | exact trivial | refine ⟨by rfl, ?_⟩)
 have hk : k = s.units.length := by omega
 have hU := hJ.2
 rw [hk, List.take_length] at hU
 clear back hJ mU
 conv => whnf
 refine RunsS.subR [] (RunsS.loop (fun (k : Nat) => [(4, .v (.int .i64 k)), (1, .ptr 8 0)]) (fun (k : Nat) => [(8, .cells 31 [.buf 0, .buf 1, .buf 2, .buf 3, .buf 4, .buf 5, .buf 6, .buf 7]), (0, .ro 8 (rowsU s.units)), (1, .ro 6 (rws It.row s.items)), (2, .ro 1 (rwsB s.plants)), (3, .ro 4 (rws Mc.row s.machines)), (4, .ro 2 (rws OpV.row s.options)), (5, .ro 1 (rws FbV.row s.forbids)), (6, .ro 17 (rws RcV.row s.recipes)), (7, .ro 4 (rws Sw.row s.swaps))]) 9 (fun (k : Nat) => k ≤ s.options.length ∧ ∀ o ∈ s.options.take k, o.ch.length ≤ 6) (fun (k : Nat) => s.options.length - k) ?round7 (0) ?J07) ?SS7 ?HH7
 case J07 => exact (⟨Nat.zero_le _, by simp⟩)
 case SS7 => repeat (first | exact trivial | refine ⟨by rfl, ?_⟩)
 case HH7 => repeat (first | exact trivial | refine ⟨by rfl, ?_⟩)
 rintro k hJ back
 conv => whnf
 refine gS ?_
 conv => whnf
 refine ⟨fun hk => ?_, fun hk => ?_⟩ <;> conv => whnf
 ·have hk : k < s.options.length := by omega
  conv => whnf
  repeat ((first | refine oM ?_ | refine oL ?_ | refine oR ?_); (try intro _); conv => whnf)
  refine ⟨_, rws_get hk, ?_⟩
  conv => whnf
  by_cases t1 : s.options[k].ch.length ≤ 6
  rotate_left
  ·try intro _
   conv => whnf
   repeat ((first | refine oM ?_ | refine oL ?_ | refine oR ?_); (try intro _); conv => whnf)
   have : r = false := by rw [hr]; exact decide_eq_false fun h => t1 (h.2.1 _ (List.getElem_mem hk))
   rw [this]
   refine RunsS.retU (UnwS.ret tab Tryz.func11 rfl fun Ez Hz Az Sz K => ⟨_, rfl, rfl, K.keeps⟩)
  try intro _
  conv => whnf
  repeat ((first | refine oM ?_ | refine oL ?_ | refine oR ?_); (try intro _); conv => whnf)
  refine RunsS.subR [] (back (k + 1) ?BJ8 ?BM8) ?SS8 ?HH8
  case BJ8 => exact (⟨hk, all_take hk hJ.2 t1⟩)
  case BM8 => (try dsimp only); omega
  case SS8 => repeat (first | exact trivial | refine ⟨by rfl, ?_⟩)
  case HH8 => repeat (first | exact trivial | refine ⟨by rfl, ?_⟩)
 have hk : k = s.options.length := by omega
 have hO := hJ.2
 rw [hk, List.take_length] at hO
 clear back hJ mO
 conv => whnf
 refine RunsS.subR [] (RunsS.loop (fun (k : Nat) => [(5, .v (.int .i64 k)), (1, .ptr 8 0)]) (fun (k : Nat) => [(8, .cells 31 [.buf 0, .buf 1, .buf 2, .buf 3, .buf 4, .buf 5, .buf 6, .buf 7]), (0, .ro 8 (rowsU s.units)), (1, .ro 6 (rws It.row s.items)), (2, .ro 1 (rwsB s.plants)), (3, .ro 4 (rws Mc.row s.machines)), (4, .ro 2 (rws OpV.row s.options)), (5, .ro 1 (rws FbV.row s.forbids)), (6, .ro 17 (rws RcV.row s.recipes)), (7, .ro 4 (rws Sw.row s.swaps))]) 9 (fun (k : Nat) => k ≤ s.forbids.length ∧ ∀ o ∈ s.forbids.take k, o.cs.length ≤ 8) (fun (k : Nat) => s.forbids.length - k) ?round9 (0) ?J09) ?SS9 ?HH9
 case J09 => exact (⟨Nat.zero_le _, by simp⟩)
 case SS9 => repeat (first | exact trivial | refine ⟨by rfl, ?_⟩)
 case HH9 => repeat (first | exact trivial | refine ⟨by rfl, ?_⟩)
 rintro k hJ back
 conv => whnf
 refine gS ?_
 conv => whnf
 refine ⟨fun hk => ?_, fun hk => ?_⟩ <;> conv => whnf
 ·have hk : k < s.forbids.length := by omega
  conv => whnf
  repeat ((first | refine oM ?_ | refine oL ?_ | refine oR ?_); (try intro _); conv => whnf)
  refine ⟨_, rws_get hk, ?_⟩
  conv => whnf
  by_cases t1 : s.forbids[k].cs.length ≤ 8
  rotate_left
  ·try intro _
   conv => whnf
   repeat ((first | refine oM ?_ | refine oL ?_ | refine oR ?_); (try intro _); conv => whnf)
   have : r = false := by rw [hr]; exact decide_eq_false fun h => t1 (h.2.2.1 _ (List.getElem_mem hk))
   rw [this]
   refine RunsS.retU (UnwS.ret tab Tryz.func11 rfl fun Ez Hz Az Sz K => ⟨_, rfl, rfl, K.keeps⟩)
  try intro _
  conv => whnf
  repeat ((first | refine oM ?_ | refine oL ?_ | refine oR ?_); (try intro _); conv => whnf)
  refine RunsS.subR [] (back (k + 1) ?BJ10 ?BM10) ?SS10 ?HH10
  case BJ10 => exact (⟨hk, all_take hk hJ.2 t1⟩)
  case BM10 => (try dsimp only); omega
  case SS10 => repeat (first | exact trivial | refine ⟨by rfl, ?_⟩)
  case HH10 => repeat (first | exact trivial | refine ⟨by rfl, ?_⟩)
 have hk : k = s.forbids.length := by omega
 have hF := hJ.2
 rw [hk, List.take_length] at hF
 clear back hJ mF
 conv => whnf
 refine RunsS.subR [] (RunsS.loop (fun (k : Nat) => [(6, .v (.int .i64 k)), (1, .ptr 8 0)]) (fun (k : Nat) => [(8, .cells 31 [.buf 0, .buf 1, .buf 2, .buf 3, .buf 4, .buf 5, .buf 6, .buf 7]), (0, .ro 8 (rowsU s.units)), (1, .ro 6 (rws It.row s.items)), (2, .ro 1 (rwsB s.plants)), (3, .ro 4 (rws Mc.row s.machines)), (4, .ro 2 (rws OpV.row s.options)), (5, .ro 1 (rws FbV.row s.forbids)), (6, .ro 17 (rws RcV.row s.recipes)), (7, .ro 4 (rws Sw.row s.swaps))]) 9 (fun (k : Nat) => k ≤ s.recipes.length ∧ ∀ o ∈ s.recipes.take k, o.cs.length ≤ 8 ∧ o.inn.length ≤ 10 ∧ o.out.length ≤ 10 ∧ o.runs.length ≤ 20) (fun (k : Nat) => s.recipes.length - k) ?round11 (0) ?J011) ?SS11 ?HH11
 case J011 => exact (⟨Nat.zero_le _, by simp⟩)
 case SS11 => repeat (first | exact trivial | refine ⟨by rfl, ?_⟩)
 case HH11 => repeat (first | exact trivial | refine ⟨by rfl, ?_⟩)
 rintro k hJ back
 conv => whnf
 refine gS ?_
 conv => whnf
 refine ⟨fun hk => ?_, fun hk => ?_⟩ <;> conv => whnf
 ·have hk : k < s.recipes.length := by omega
  conv => whnf
  repeat ((first | refine oM ?_ | refine oL ?_ | refine oR ?_); (try intro _); conv => whnf)
  refine ⟨_, rws_get hk, ?_⟩
  conv => whnf
  try (refine oN ?_; conv => whnf)
  by_cases t1 : s.recipes[k].cs.length ≤ 8
  rotate_left
  ·try intro _
   conv => whnf
   repeat ((first | refine oM ?_ | refine oL ?_ | refine oR ?_); (try intro _); conv => whnf)
   have : r = false := by rw [hr]; exact decide_eq_false fun h => t1 (h.2.2.2.1 _ (List.getElem_mem hk)).1
   rw [this]
   refine RunsS.retU (UnwS.ret tab Tryz.func11 rfl fun Ez Hz Az Sz K => ⟨_, rfl, rfl, K.keeps⟩)
  try intro _
  conv => whnf
  repeat ((first | refine oM ?_ | refine oL ?_ | refine oR ?_); (try intro _); conv => whnf)
  by_cases t2 : s.recipes[k].inn.length ≤ 10
  rotate_left
  ·try intro _
   conv => whnf
   repeat ((first | refine oM ?_ | refine oL ?_ | refine oR ?_); (try intro _); conv => whnf)
   have : r = false := by rw [hr]; exact decide_eq_false fun h => t2 (h.2.2.2.1 _ (List.getElem_mem hk)).2.1
   rw [this]
   refine RunsS.retU (UnwS.ret tab Tryz.func11 rfl fun Ez Hz Az Sz K => ⟨_, rfl, rfl, K.keeps⟩)
  try intro _
  conv => whnf
  repeat ((first | refine oM ?_ | refine oL ?_ | refine oR ?_); (try intro _); conv => whnf)
  by_cases t3 : s.recipes[k].out.length ≤ 10
  rotate_left
  ·try intro _
   conv => whnf
   repeat ((first | refine oM ?_ | refine oL ?_ | refine oR ?_); (try intro _); conv => whnf)
   have : r = false := by rw [hr]; exact decide_eq_false fun h => t3 (h.2.2.2.1 _ (List.getElem_mem hk)).2.2.1
   rw [this]
   refine RunsS.retU (UnwS.ret tab Tryz.func11 rfl fun Ez Hz Az Sz K => ⟨_, rfl, rfl, K.keeps⟩)
  try intro _
  conv => whnf
  repeat ((first | refine oM ?_ | refine oL ?_ | refine oR ?_); (try intro _); conv => whnf)
  by_cases t4 : s.recipes[k].runs.length ≤ 20
  rotate_left
  ·try intro _
   conv => whnf
   repeat ((first | refine oM ?_ | refine oL ?_ | refine oR ?_); (try intro _); conv => whnf)
   have : r = false := by rw [hr]; exact decide_eq_false fun h => t4 (h.2.2.2.1 _ (List.getElem_mem hk)).2.2.2
   rw [this]
   refine RunsS.retU (UnwS.ret tab Tryz.func11 rfl fun Ez Hz Az Sz K => ⟨_, rfl, rfl, K.keeps⟩)
  try intro _
  conv => whnf
  repeat ((first | refine oM ?_ | refine oL ?_ | refine oR ?_); (try intro _); conv => whnf)
  refine RunsS.subR [] (back (k + 1) ?BJ12 ?BM12) ?SS12 ?HH12
  case BJ12 => exact (⟨hk, all_take hk hJ.2 ⟨t1, t2, t3, t4⟩⟩)
  case BM12 => (try dsimp only); omega
  case SS12 => repeat (first | exact trivial | refine ⟨by rfl, ?_⟩)
  case HH12 => repeat (first | exact trivial | refine ⟨by rfl, ?_⟩)
 have hk : k = s.recipes.length := by omega
 have hR := hJ.2
 rw [hk, List.take_length] at hR
 clear back hJ mR
 by_cases c1 : s.units.length ≤ 40
 rotate_left
 ·conv => whnf
  repeat ((first | refine oM ?_ | refine oL ?_ | refine oR ?_); (try intro _); conv => whnf)
  have : r = false := by rw [hr]; exact decide_eq_false fun h => c1 h.2.2.2.2.1
  rw [this]
  refine RunsS.retU (UnwS.ret tab Tryz.func11 rfl fun Ez Hz Az Sz K => ⟨_, rfl, rfl, K.keeps⟩)
 by_cases c2 : s.items.length ≤ 40
 rotate_left
 ·conv => whnf
  repeat ((first | refine oM ?_ | refine oL ?_ | refine oR ?_); (try intro _); conv => whnf)
  have : r = false := by rw [hr]; exact decide_eq_false fun h => c2 h.2.2.2.2.2.1
  rw [this]
  refine RunsS.retU (UnwS.ret tab Tryz.func11 rfl fun Ez Hz Az Sz K => ⟨_, rfl, rfl, K.keeps⟩)
 by_cases c3 : s.plants.length ≤ 10
 rotate_left
 ·conv => whnf
  repeat ((first | refine oM ?_ | refine oL ?_ | refine oR ?_); (try intro _); conv => whnf)
  have : r = false := by rw [hr]; exact decide_eq_false fun h => c3 h.2.2.2.2.2.2.1
  rw [this]
  refine RunsS.retU (UnwS.ret tab Tryz.func11 rfl fun Ez Hz Az Sz K => ⟨_, rfl, rfl, K.keeps⟩)
 by_cases c4 : s.machines.length ≤ 20
 rotate_left
 ·conv => whnf
  repeat ((first | refine oM ?_ | refine oL ?_ | refine oR ?_); (try intro _); conv => whnf)
  have : r = false := by rw [hr]; exact decide_eq_false fun h => c4 h.2.2.2.2.2.2.2.1
  rw [this]
  refine RunsS.retU (UnwS.ret tab Tryz.func11 rfl fun Ez Hz Az Sz K => ⟨_, rfl, rfl, K.keeps⟩)
 by_cases c5 : s.options.length ≤ 8
 rotate_left
 ·conv => whnf
  repeat ((first | refine oM ?_ | refine oL ?_ | refine oR ?_); (try intro _); conv => whnf)
  have : r = false := by rw [hr]; exact decide_eq_false fun h => c5 h.2.2.2.2.2.2.2.2.1
  rw [this]
  refine RunsS.retU (UnwS.ret tab Tryz.func11 rfl fun Ez Hz Az Sz K => ⟨_, rfl, rfl, K.keeps⟩)
 by_cases c6 : s.forbids.length ≤ 20
 rotate_left
 ·conv => whnf
  repeat ((first | refine oM ?_ | refine oL ?_ | refine oR ?_); (try intro _); conv => whnf)
  have : r = false := by rw [hr]; exact decide_eq_false fun h => c6 h.2.2.2.2.2.2.2.2.2.1
  rw [this]
  refine RunsS.retU (UnwS.ret tab Tryz.func11 rfl fun Ez Hz Az Sz K => ⟨_, rfl, rfl, K.keeps⟩)
 by_cases c7 : s.recipes.length ≤ 70
 rotate_left
 ·conv => whnf
  repeat ((first | refine oM ?_ | refine oL ?_ | refine oR ?_); (try intro _); conv => whnf)
  have : r = false := by rw [hr]; exact decide_eq_false fun h => c7 h.2.2.2.2.2.2.2.2.2.2.1
  rw [this]
  refine RunsS.retU (UnwS.ret tab Tryz.func11 rfl fun Ez Hz Az Sz K => ⟨_, rfl, rfl, K.keeps⟩)
 by_cases c8 : s.swaps.length ≤ 70
 rotate_left
 ·conv => whnf
  repeat ((first | refine oM ?_ | refine oL ?_ | refine oR ?_); (try intro _); conv => whnf)
  have : r = false := by rw [hr]; exact decide_eq_false fun h => c8 h.2.2.2.2.2.2.2.2.2.2.2
  rw [this]
  refine RunsS.retU (UnwS.ret tab Tryz.func11 rfl fun Ez Hz Az Sz K => ⟨_, rfl, congrArg Value.bool (decide_eq_false (by omega)), K.keeps⟩)
 conv => whnf
 repeat ((first | refine oM ?_ | refine oL ?_ | refine oR ?_); (try intro _); conv => whnf)
 have : r = true := by rw [hr]; exact decide_eq_true ⟨hU, hO, hF, hR, c1, c2, c3, c4, c5, c6, c7, c8⟩
 rw [this]
 refine RunsS.retU (UnwS.ret tab Tryz.func11 rfl fun Ez Hz Az Sz K => ⟨_, rfl, congrArg Value.bool (decide_eq_true (by omega)), K.keeps⟩)



def tG : ByteArray := ⟨#[103]⟩
def tKg : ByteArray := ⟨#[107, 103]⟩
def tM : ByteArray := ⟨#[109]⟩
def tFlour : ByteArray := ⟨#[102, 108, 111, 117, 114]⟩
def tWire : ByteArray := ⟨#[119, 105, 114, 101]⟩
def tP : ByteArray := ⟨#[112]⟩
def exU0 : List Un := [⟨tG, mt, 0, 0, 0, zr⟩, ⟨tKg, tG, 1000, 1, 0, zr⟩, ⟨tM, mt, 0, 0, 0, zr⟩]
def exU : List Un := [⟨tG, mt, 0, 0, 0, rw1 1⟩, ⟨tKg, tG, 1000, 1, 0, rw1 1000⟩, ⟨tM, mt, 0, 0, 2, rw1 1⟩]
def exI : List It := [⟨tFlour, tKg, 1000, 1, 0, 1⟩, ⟨tWire, tM, 5, 2, 0, 2⟩]
def exP : List ByteArray := [tP]
theorem exU_res : resolveU exU0 = .inl exU := by decide +kernel
theorem exU0_ok : UnOk exU0 := by decide +kernel
abbrev ownI (b : Nat) (l : List It) : Nat × Fw.Blk := (b, .own 59 6 (rws It.row l))
abbrev ownP (b : Nat) (l : List ByteArray) : Nat × Fw.Blk := (b, .own 9 1 (rwsB l))
abbrev ownR (b : Nat) (l : List RcV) : Nat × Fw.Blk := (b, .own 48 17 (rws RcV.row l))
abbrev nil0 : SV := .v (.slice none 0 0)
theorem rresOkO {l x : List Un} (hl : l.length ≤ 9223372036854775807) (hi : UnOk l) (hx : resolveU l = .inl x) :
  FnT Tryz.prog (fun _ _ => True) 41 1 [.buf 0] [ownU 0 l] (fun _ : Unit => True) (fun _ => .ret (.tup [.buf 1, .v (.int .i64 0)]) 2 [ownU 1 x]) :=
 FnT.ofRo ⟨fun _ _ _ _ _ => trivial, fun _ _ _ _ _ => trivial⟩ (C := ⟨fun E F h hF _ S => (rresOk hl hi hx).call E F h hF S⟩) _ fun _ _ p hp => by rw [List.mem_singleton.1 hp]; rfl
theorem true_tok : TOk (fun _ _ => True) := ⟨fun _ _ _ _ _ => trivial, fun _ _ _ _ _ => trivial⟩
theorem example_fn : FnS Tryz.prog 22 0 [] [] (fun _ : Unit => True) (fun _ => .ret (.agg [.buf 0, .buf 1, .buf 2, nil0, nil0, nil0, nil0, nil0]) 3 [ownU 0 exU, ownI 1 exI, ownP 2 exP]) := by
 refine FnS.of Tryz.func22 (by kernel_rfl) rfl Tryz.ntmps22 rfl fun E0 F h w0 cs => ?_
 conv => whnf
 refine gS ?_
 conv => whnf
 repeat ((first | refine oM ?_ | refine oL ?_ | refine oR ?_); (try intro _); conv => whnf)
 refine RunsS.callT (true_tok) (trivial) (rresOkO (by decide) exU0_ok exU_res) [1] (by repeat (first | exact trivial | refine ⟨by rfl, ?_⟩)) ?CNa1 ?CNr1
 case CNa1 => rfl
 intro _ _
 conv => whnf
 try refine gS ?_
 conv => whnf
 repeat ((first | refine oM ?_ | refine oL ?_ | refine oR ?_); (try intro _); conv => whnf)
 try refine RunsS.retU ?_
 try refine RunsS.finU ?_
 exact UnwS.ret tab Tryz.func22 rfl (EndS.mk (()) (trivial) [(0, 2), (1, 3), (2, 4)] (by repeat (first | exact trivial | refine ⟨by rfl, ?_⟩)) rfl rfl (okRet rfl rfl))
def mkRc (a : Am) (x : Hd × Hd) : RcV := ⟨tFlour, tP, 0, 9, ⟨none, 0⟩, [], x.1, [a], x.2, [⟨1, 1, mt, mt, false, 1, 0⟩], 0, 1, 1, 1, 0, 1, 0, ⟨none, 0⟩, [], 0, 0⟩
theorem making_fn (a : Am) : FnX Tryz.prog 23 0 [.agg (toV a.row)] [] (fun _ _ => True) (fun (x : Hd × Hd) G h => (mkRc a x).ok G h)
  (fun x => .ret (.agg [.buf 0, .buf 1, .buf 2, nil0, nil0, nil0, .buf 3, nil0]) 4 [ownU 0 exU, ownI 1 exI, ownP 2 exP, ownR 3 [mkRc a x]]) := by
 refine FnX.of Tryz.func23 (by kernel_rfl) rfl Tryz.ntmps23 rfl fun E0 F G h N hP w0 cs => ?_
 conv => whnf
 refine gS ?_
 conv => whnf
 repeat ((first | refine oM ?_ | refine oL ?_ | refine oR ?_); (try intro _); conv => whnf)
 refine RunsS.callN (example_fn) [] ?CNr2 (by repeat (first | exact trivial | refine ⟨by rfl, ?_⟩)) ?CNa2
 case CNa2 => rfl
 intro _ _
 conv => whnf
 try refine gS ?_
 conv => whnf
 repeat ((first | refine oM ?_ | refine oL ?_ | refine oR ?_); (try intro _); conv => whnf)
 refine RunsS.subR (nx' := 8) (l' := [(9, .agg [.v (.string tFlour), .v (.string tP), .v (.int .i64 0), .v (.int .i64 9), nil0, .buf 6, .buf 7, .v (.int .i64 0), .v (.int .i64 1), .v (.int .i64 1), .v (.int .i64 1), .v (.int .i64 0), .v (.int .i64 1), .v (.int .i64 0), nil0, .v (.int .i64 0), .v (.int .i64 0)]), (3, .ptr 5 0), (2, .ptr 1 0)]) (H' := [(7, .own 37 7 (rws Am.row [⟨1, 1, mt, mt, false, 1, 0⟩])), (6, .own 37 7 (rws Am.row [a])), (5, .cells 31 [.buf 2, .buf 3, .buf 4, nil0, nil0, nil0, nil0, nil0]), (1, .cells 31 [nil0, nil0, nil0, nil0, nil0, nil0, nil0, nil0]), ownU 2 exU, ownI 3 exI, ownP 4 exP]) [] ?_ (by repeat (first | exact trivial | refine ⟨by rfl, ?_⟩)) (by repeat (first | exact trivial | refine ⟨by rfl, ?_⟩))
 refine RunsS.conc (n := 1) (N.gsub) 6 ?_
 intro a1 c1 G1 h1 N1 R1
 conv => whnf
 try refine gS ?_
 conv => whnf
 repeat ((first | refine oM ?_ | refine oL ?_ | refine oR ?_); (try intro _); conv => whnf)
 refine RunsS.conc (n := 1) (N1.gsub) 7 ?_
 intro a2 c2 G2 h2 N2 R2
 conv => whnf
 try refine gS ?_
 conv => whnf
 repeat ((first | refine oM ?_ | refine oL ?_ | refine oR ?_); (try intro _); conv => whnf)
 try refine RunsS.retU ?_
 try refine RunsS.finU ?_
 exact UnwS.ret tab Tryz.func23 rfl (EndX.mk ((N.trans N1).trans N2) ((⟨a1, c1⟩, ⟨a2, c2⟩)) (fun h' U => ⟨RoF.nil, RoF.up ((N2.step N1.gsub).trans U) R1, RoF.up U R2, RoF.nil⟩) [(0, 2), (1, 3), (2, 4), (3, 8)] (by repeat (first | exact trivial | refine ⟨by rfl, ?_⟩)) rfl rfl (okRet rfl rfl))

def exS (sw : List Sw) (rc : List RcV) : SrcV := ⟨exU, exI, exP, [], [], [], rc, sw⟩
def exA1 : Am := ⟨500, 1, tG, tFlour, false, 0, 0⟩
def exA2 : Am := ⟨2, 1, mt, mt, false, 2, 1⟩
def exA3 : Am := ⟨1, 1, mt, mt, false, 2, 0⟩
def exA4 : Am := ⟨0, 0, mt, mt, false, 0, 0⟩
def exA5 : Am := ⟨1, 0, mt, mt, false, 1, 0⟩
def exA6 : Am := ⟨3, 2, mt, mt, false, 2, 1⟩
def exA7 : Am := ⟨3, 2, mt, mt, false, 0, 1⟩
def noS : SrcV := ⟨[], [], [], [], [], [], [], []⟩
def zIt : It := ⟨mt, mt, 0, 0, 0, 0⟩
def manyS : SrcV := ⟨[], List.replicate 33 zIt, [], [], [], [], [], []⟩
instance (a : Am) : Decidable a.wf := by unfold Am.wf; infer_instance
instance (a : It) : Decidable a.wf := by unfold It.wf; infer_instance
instance (a : Sw) : Decidable a.wf := by unfold Sw.wf; infer_instance
theorem noM {α : Type} {p : α → Prop} : ∀ x ∈ ([] : List α), p x := fun x hx => absurd hx List.not_mem_nil
theorem tf1 : amtT (exS [] []) exA1 = (⟨false, ⟨#[1]⟩, ⟨#[2]⟩⟩, 0) := by decide +kernel
theorem tf2 : massT (exS [] []) exA1 = (⟨false, ⟨#[1, 244]⟩, ⟨#[1]⟩⟩, 0) := by decide +kernel
theorem tf3 : massT (exS [] []) exA2 = (⟨false, ⟨#[5]⟩, ⟨#[1]⟩⟩, 0) := by decide +kernel
theorem tf4 : amtT (exS [] []) exA3 = (zr, 90) := by decide +kernel
theorem tf5 : amtT noS exA4 = (zr, 120) := by decide +kernel
theorem tf6 : amtT (exS [] []) exA5 = (zr, 71) := by decide +kernel
theorem tf7 : checkT noS = 0 := by decide +kernel
theorem tf8 : checkT (exS [] []) = 0 := by decide +kernel
theorem tf9 : checkT (exS [⟨mt, mt, 0, 0⟩] []) = 120 := by decide +kernel
theorem tf10 : checkT (exS [⟨mt, mt, 1, 0⟩] []) = 120 := by decide +kernel
theorem tf11 : checkT manyS = 2 := by decide +kernel
theorem tf12 (x : Hd × Hd) : checkT (exS [] [mkRc exA6 x]) = 0 := by kernel_rfl
theorem tf13 (x : Hd × Hd) : checkT (exS [] [mkRc exA7 x]) = 120 := by kernel_rfl
theorem exU_wf : ∀ u ∈ exU, i64 u.n ∧ i64 u.d := by decide +kernel
theorem exI_wf : ∀ u ∈ exI, u.wf := by decide +kernel
theorem exW {sw : List Sw} {rc : List RcV} (h1 : ∀ x ∈ sw, x.wf) (h2 : ∀ r ∈ rc, r.wf) : (exS sw rc).wf :=
 ⟨exU_wf, exI_wf, noM, noM, h2, h1⟩
theorem mkW {a : Am} (h : a.wf) (x : Hd × Hd) : (mkRc a x).wf :=
 ⟨noM, fun c hc => (by rw [List.mem_singleton.1 hc]; exact h), fun c hc => (by rw [List.mem_singleton.1 hc]; decide), noM, (by decide : i64 0), (by decide : i64 9), (by decide : i64 0), (by decide : i64 1), (by decide : i64 1), (by decide : i64 1), (by decide : i64 0), (by decide : i64 1), (by decide : i64 0), (by decide : i64 0), (by decide : i64 0)⟩
theorem noW : noS.wf := ⟨noM, noM, noM, noM, noM, noM⟩
theorem manyW : manyS.wf := ⟨noM, by decide +kernel, noM, noM, noM, noM⟩
theorem exTop {h : Array Obj} {vU vI vP vR vS : Value} {sw : List Sw} {rc : List RcV} (hU : Ro h vU 8 (rowsU exU)) (hI : Ro h vI 6 (rws It.row exI)) (hP : Ro h vP 1 (rwsB exP)) (hR : Ro h vR 17 (rws RcV.row rc)) (hS : Ro h vS 4 (rws Sw.row sw)) (hr : ∀ r ∈ rc, r.ok (fun k => k < h.size) h) :
  Top h vU vI vP (.slice none 0 0) (.slice none 0 0) (.slice none 0 0) vR vS (exS sw rc) :=
 ⟨hU, hI, hP, Ro.nil, Ro.nil, Ro.nil, hR, hS, ⟨noM, noM, hr⟩⟩
theorem exTop0 {h : Array Obj} {vU vI vP : Value} (hU : Ro h vU 8 (rowsU exU)) (hI : Ro h vI 6 (rws It.row exI)) (hP : Ro h vP 1 (rwsB exP)) :
  Top h vU vI vP (.slice none 0 0) (.slice none 0 0) (.slice none 0 0) (.slice none 0 0) (.slice none 0 0) (exS [] []) := exTop hU hI hP Ro.nil Ro.nil noM
theorem noTop {h : Array Obj} : Top h (.slice none 0 0) (.slice none 0 0) (.slice none 0 0) (.slice none 0 0) (.slice none 0 0) (.slice none 0 0) (.slice none 0 0) (.slice none 0 0) noS :=
 ⟨Ro.nil, Ro.nil, Ro.nil, Ro.nil, Ro.nil, Ro.nil, Ro.nil, Ro.nil, ⟨noM, noM, noM⟩⟩
theorem manyTop {h : Array Obj} {v : Value} (hv : Ro h v 6 (List.replicate 33 zIt.row)) : Top h (.slice none 0 0) v (.slice none 0 0) (.slice none 0 0) (.slice none 0 0) (.slice none 0 0) (.slice none 0 0) (.slice none 0 0) manyS :=
 ⟨Ro.nil, hv, Ro.nil, Ro.nil, Ro.nil, Ro.nil, Ro.nil, Ro.nil, ⟨noM, noM, noM⟩⟩
theorem saneT_fn {h : Array Obj} (hT : TabH h) : FnV Tryz.prog 10 #[] h fun r h' => r = .bool true ∧ Keeps h.size h h' := by
 refine Fn.ofS (args := []) Tryz.func10 (by kernel_rfl) rfl Tryz.ntmps10 rfl fun w0 cs => ?_
 conv => whnf
 refine gS ?_
 conv => whnf
 repeat ((first | refine oM ?_ | refine oL ?_ | refine oR ?_); (try intro _); conv => whnf)
 refine RunsS.callN (example_fn) [] ?CNr1 (by repeat (first | exact trivial | refine ⟨by rfl, ?_⟩)) ?CNa1
 case CNa1 => rfl
 intro _ _
 conv => whnf
 try refine gS ?_
 conv => whnf
 repeat ((first | refine oM ?_ | refine oL ?_ | refine oR ?_); (try intro _); conv => whnf)
 refine RunsS.callV (fun Ez Hz Az Sz K => tAmt_fn (exS [] []) (exTop0 (Sz.ro (b := 0) rfl) (Sz.ro (b := 1) rfl) (Sz.ro (b := 2) rfl)) (exW (by decide) noM) exA1 (by decide) (hT.keeps ⟨K.size, K.same⟩)) ?_
 conv => whnf
 rw [tf1]
 try dsimp only
 try refine gS ?_
 conv => whnf
 repeat ((first | refine oM ?_ | refine oL ?_ | refine oR ?_); (try intro _); conv => whnf)
 refine RunsS.callV (fun Ez Hz Az Sz K => tMass_fn (exS [] []) (exTop0 (Sz.ro (b := 0) rfl) (Sz.ro (b := 1) rfl) (Sz.ro (b := 2) rfl)) (exW (by decide) noM) exA1 (by decide) (hT.keeps ⟨K.size, K.same⟩)) ?_
 conv => whnf
 rw [tf2]
 try dsimp only
 try refine gS ?_
 conv => whnf
 repeat ((first | refine oM ?_ | refine oL ?_ | refine oR ?_); (try intro _); conv => whnf)
 refine RunsS.callV (fun Ez Hz Az Sz K => tMass_fn (exS [] []) (exTop0 (Sz.ro (b := 0) rfl) (Sz.ro (b := 1) rfl) (Sz.ro (b := 2) rfl)) (exW (by decide) noM) exA2 (by decide) (hT.keeps ⟨K.size, K.same⟩)) ?_
 conv => whnf
 rw [tf3]
 try dsimp only
 try refine gS ?_
 conv => whnf
 repeat ((first | refine oM ?_ | refine oL ?_ | refine oR ?_); (try intro _); conv => whnf)
 refine RunsS.callV (fun Ez Hz Az Sz K => tAmt_fn (exS [] []) (exTop0 (Sz.ro (b := 0) rfl) (Sz.ro (b := 1) rfl) (Sz.ro (b := 2) rfl)) (exW (by decide) noM) exA3 (by decide) (hT.keeps ⟨K.size, K.same⟩)) ?_
 conv => whnf
 rw [tf4]
 try dsimp only
 try refine gS ?_
 conv => whnf
 repeat ((first | refine oM ?_ | refine oL ?_ | refine oR ?_); (try intro _); conv => whnf)
 refine RunsS.callV (fun Ez Hz Az Sz K => tAmt_fn noS noTop noW exA4 (by decide) (hT.keeps ⟨K.size, K.same⟩)) ?_
 conv => whnf
 rw [tf5]
 try dsimp only
 try refine gS ?_
 conv => whnf
 repeat ((first | refine oM ?_ | refine oL ?_ | refine oR ?_); (try intro _); conv => whnf)
 refine RunsS.callV (fun Ez Hz Az Sz K => tAmt_fn (exS [] []) (exTop0 (Sz.ro (b := 0) rfl) (Sz.ro (b := 1) rfl) (Sz.ro (b := 2) rfl)) (exW (by decide) noM) exA5 (by decide) (hT.keeps ⟨K.size, K.same⟩)) ?_
 conv => whnf
 rw [tf6]
 try dsimp only
 try refine gS ?_
 conv => whnf
 repeat ((first | refine oM ?_ | refine oL ?_ | refine oR ?_); (try intro _); conv => whnf)
 refine RunsS.callV (fun Ez Hz Az Sz K => tCheck_fn noS noTop noW (hT.keeps ⟨K.size, K.same⟩)) ?_
 conv => whnf
 rw [tf7]
 try dsimp only
 try refine gS ?_
 conv => whnf
 repeat ((first | refine oM ?_ | refine oL ?_ | refine oR ?_); (try intro _); conv => whnf)
 refine RunsS.callV (fun Ez Hz Az Sz K => tCheck_fn (exS [] []) (exTop0 (Sz.ro (b := 0) rfl) (Sz.ro (b := 1) rfl) (Sz.ro (b := 2) rfl)) (exW noM noM) (hT.keeps ⟨K.size, K.same⟩)) ?_
 conv => whnf
 rw [tf8]
 try dsimp only
 try refine gS ?_
 conv => whnf
 repeat ((first | refine oM ?_ | refine oL ?_ | refine oR ?_); (try intro _); conv => whnf)
 refine RunsS.callV (fun Ez Hz Az Sz K => tCheck_fn (exS [⟨mt, mt, 0, 0⟩] []) (exTop (Sz.ro (b := 0) rfl) (Sz.ro (b := 1) rfl) (Sz.ro (b := 2) rfl) Ro.nil (Sz.ro (b := 11) rfl) noM) (exW (by decide) noM) (hT.keeps ⟨K.size, K.same⟩)) ?_
 conv => whnf
 rw [tf9]
 try dsimp only
 try refine gS ?_
 conv => whnf
 repeat ((first | refine oM ?_ | refine oL ?_ | refine oR ?_); (try intro _); conv => whnf)
 refine RunsS.callV (fun Ez Hz Az Sz K => tCheck_fn (exS [⟨mt, mt, 1, 0⟩] []) (exTop (Sz.ro (b := 0) rfl) (Sz.ro (b := 1) rfl) (Sz.ro (b := 2) rfl) Ro.nil (Sz.ro (b := 13) rfl) noM) (exW (by decide) noM) (hT.keeps ⟨K.size, K.same⟩)) ?_
 conv => whnf
 rw [tf10]
 try dsimp only
 try refine gS ?_
 conv => whnf
 repeat ((first | refine oM ?_ | refine oL ?_ | refine oR ?_); (try intro _); conv => whnf)
 refine And.intro (by decide) ?_
 conv => whnf
 try refine gS ?_
 conv => whnf
 repeat ((first | refine oM ?_ | refine oL ?_ | refine oR ?_); (try intro _); conv => whnf)
 refine RunsS.callV (fun Ez Hz Az Sz K => tCheck_fn manyS (manyTop (Sz.ro (b := 14) rfl)) manyW (hT.keeps ⟨K.size, K.same⟩)) ?_
 conv => whnf
 rw [tf11]
 try dsimp only
 try refine gS ?_
 conv => whnf
 repeat ((first | refine oM ?_ | refine oL ?_ | refine oR ?_); (try intro _); conv => whnf)
 refine RunsS.callX (fun _ x => x) (making_fn exA6) (fun _ _ => trivial) [] (by repeat (first | exact trivial | refine ⟨by rfl, ?_⟩)) ?CNa2 ?CNr2
 case CNa2 => rfl
 rintro x1 G1 h1 N1 J1
 conv => whnf
 try refine gS ?_
 conv => whnf
 repeat ((first | refine oM ?_ | refine oL ?_ | refine oR ?_); (try intro _); conv => whnf)
 have hT1 := tabOk.mono _ _ _ N1.sub (tabOk.keep _ _ _ hT.t N1.kp)
 refine RunsS.callV (fun Ez Hz Az Sz K => tCheck_fn (exS [] [mkRc exA6 x1]) (exTop (Sz.ro (b := 15) rfl) (Sz.ro (b := 16) rfl) (Sz.ro (b := 17) rfl) (Sz.ro (b := 18) rfl) Ro.nil (fun r hr => by rw [List.mem_singleton.1 hr]; exact (J1.up (N1.up K)).up (Up.below N1.gsub K))) (exW noM (fun r hr => by rw [List.mem_singleton.1 hr]; exact mkW (by decide) x1)) (tabOk.at hT1 K).1) ?_
 conv => whnf
 rw [tf12 x1]
 try dsimp only
 try refine gS ?_
 conv => whnf
 repeat ((first | refine oM ?_ | refine oL ?_ | refine oR ?_); (try intro _); conv => whnf)
 refine RunsS.callX (N1.gsub) (making_fn exA7) (fun _ _ => trivial) [] (by repeat (first | exact trivial | refine ⟨by rfl, ?_⟩)) ?CNa3 ?CNr3
 case CNa3 => rfl
 rintro x2 G2 h2 N2 J2
 conv => whnf
 try refine gS ?_
 conv => whnf
 repeat ((first | refine oM ?_ | refine oL ?_ | refine oR ?_); (try intro _); conv => whnf)
 have hT2 := tabOk.mono _ _ _ N2.sub (tabOk.keep _ _ _ hT1 N2.kp)
 refine RunsS.callV (fun Ez Hz Az Sz K => tCheck_fn (exS [] [mkRc exA7 x2]) (exTop (Sz.ro (b := 19) rfl) (Sz.ro (b := 20) rfl) (Sz.ro (b := 21) rfl) (Sz.ro (b := 22) rfl) Ro.nil (fun r hr => by rw [List.mem_singleton.1 hr]; exact (J2.up (N2.up K)).up (Up.below N2.gsub K))) (exW noM (fun r hr => by rw [List.mem_singleton.1 hr]; exact mkW (by decide) x2)) (tabOk.at hT2 K).1) ?_
 conv => whnf
 rw [tf13 x2]
 try dsimp only
 try refine gS ?_
 conv => whnf
 repeat ((first | refine oM ?_ | refine oL ?_ | refine oR ?_); (try intro _); conv => whnf)
 refine And.intro (fun _ => ?_) (fun hn => absurd (⟨rfl, rfl, rfl⟩) hn)
 conv => whnf
 try refine gS ?_
 conv => whnf
 repeat ((first | refine oM ?_ | refine oL ?_ | refine oR ?_); (try intro _); conv => whnf)
 refine And.intro (fun _ => ?_) (fun hn => absurd (⟨rfl, rfl, rfl⟩) hn)
 conv => whnf
 try refine gS ?_
 conv => whnf
 repeat ((first | refine oM ?_ | refine oL ?_ | refine oR ?_); (try intro _); conv => whnf)
 refine RunsS.retU (UnwS.ret tab Tryz.func10 rfl fun Ez Hz Az Sz K => ⟨_, rfl, congrArg Value.bool (decide_eq_true ⟨rfl, rfl, rfl⟩), ((N1.trans N2).conv Hz K).keeps⟩)
end Go.Proofs.YtdcdejhobblbpaaGreatDoor

namespace Go.RatM
open Go Go.Fw Go.NatM

def Un.sv (u : Un) : Rat := (decQ u.scale).val
theorem Sc1.sv {k : Nat} {u : Un} (h : Sc1 k u) : ∃ q : Q, u.scale = encQ q ∧ q.Ok ∧ q.le k ∧ q.val = u.sv ∧ 0 < u.sv := by
 obtain ⟨q, h1, h2, h3, h4⟩ := h
 refine ⟨q, h1, h2, h3, ?_, ?_⟩
 ·unfold Un.sv; rw [h1, dec_enc]
 ·unfold Un.sv; rw [h1, dec_enc]; exact h4
theorem cvU_in {l : List Un} {i j : Nat} {r : Rt} (h : checkU l = 0) (hi : i < l.length) (hj : j < l.length) (hb : l[i].base = l[j].base) : convU l i j r =
  if (mulR r l[i].scale).2 ≠ 0 then (zr, (mulR r l[i].scale).2) else divR (mulR r l[i].scale).1 l[j].scale := by
 unfold convU
 rw [if_neg (fun e => e h), Int.toNat_natCast, Int.toNat_natCast, List.getElem?_eq_getElem hi, List.getElem?_eq_getElem hj]
 dsimp only
 rw [if_neg (by omega)]
 rfl
theorem conv_ok {l : List Un} {m k i j : Nat} {R : Q} (h : checkU l = 0) (hs : ∀ u ∈ l, Sc1 m u) (hk : k + m + m ≤ 256) (hi : i < l.length) (hj : j < l.length) (hb : l[i].base = l[j].base) (oR : R.Ok) (lR : R.le k) :
  ∃ P : Q, convU l i j (encQ R) = (encQ P, 0) ∧ P.Ok ∧ P.le (k + m + m) ∧ P.val = R.val * l[i].sv * l[j].sv⁻¹ := by
 obtain ⟨a, a1, a2, a3, a4, a5⟩ := (hs _ (List.getElem_mem hi)).sv
 obtain ⟨b, b1, b2, b3, b4, b5⟩ := (hs _ (List.getElem_mem hj)).sv
 obtain ⟨c, c1, c2, c3, c4⟩ := mulR_ok oR a2 lR a3 (by omega)
 have hz : b ≠ zq := fun e => by
  have := (val_zero b2).2 e
  rw [b4] at this
  rw [this] at b5
  exact absurd b5 (by decide)
 obtain ⟨d, d1, d2, d3, d4⟩ := divR_ok c2 b2 c3 b3 hk hz
 refine ⟨d, ?_, d2, d3, ?_⟩
 ·rw [cvU_in h hi hj hb, a1, c1, if_neg (by simp), b1, d1]
 ·rw [d4, c4, a4, b4]
end Go.RatM

namespace Go.SrcM
open Go Go.Fw Go.NatM Go.RatM

theorem checkT_zero {s : SrcV} : checkT s = 0 ↔ checkU s.units = 0 ∧ Small s ∧ Typed s := by
 unfold checkT
 by_cases h1 : checkU s.units = 0
 ·rw [if_neg (fun h => h h1)]
  by_cases h2 : Small s
  ·rw [if_neg (fun h => h h2)]
   by_cases h3 : Typed s
   ·rw [if_neg (fun h => h h3)]; simp [*]
   ·rw [if_pos h3]; simp [*]
  ·rw [if_pos h2]; simp [*]
 ·rw [if_pos h1]; simp [*]
theorem stepU_nz {x : List Un} {u : Un} {e : Int} (h : stepU x u = .inr e) : e ≠ 0 := by
 unfold stepU at h
 split at h
 ·split at h
  ·cases h
  ·cases h; decide
 ·split at h
  ·split at h
   ·split at h
    ·cases h; decide
    ·cases h
   ·cases h; decide
  ·cases h; decide
theorem resU_nz : ∀ {l x : List Un} {e : Int}, resU l x = .inr e → e ≠ 0
 | [], _, _, h => by cases h
 | u :: l, x, e, h => by
  simp only [resU] at h
  split at h
  ·exact resU_nz h
  ·rename_i e' he
   cases h
   exact stepU_nz he
theorem resolveU_nz {l : List Un} {e : Int} (h : resolveU l = .inr e) : e ≠ 0 := by
 unfold resolveU at h
 split at h
 ·cases h; decide
 ·split at h
  ·cases h; decide
  ·exact resU_nz h
theorem units_res {l : List Un} (h : checkU l = 0) : resolveU l = .inl l := by
 unfold checkU at h
 split at h
 ·rename_i e he
  exact absurd h (resolveU_nz he)
 ·rename_i x hx
  split at h
  ·rename_i e; rw [hx, e]
  ·cases h
theorem units_sc {l : List Un} (h : checkU l = 0) : ∀ u ∈ l, Sc1 97 u := by
 obtain ⟨h1, _, h3⟩ := resolveU_inl.1 (units_res h)
 exact h3.sc (by omega) (by omega)
def facT (s : SrcV) (un inn : Int) : Rat := match at? s.items inn with
 | some x => match at? s.units un with
  | some u => match at? s.units x.un with
   | some v => u.sv * v.sv⁻¹
   | none => 0
  | none => 0
 | none => 0
def masT (s : SrcV) (inn : Int) : Rat := match at? s.items inn with
 | some x => (x.mn : Rat) * (x.md : Rat)⁻¹
 | none => 0
def baseOk (s : SrcV) (un inn : Int) : Prop := osat (s.base inn) fun b => osat (at? s.units un) fun u => u.base = b
theorem baseOk_iff {s : SrcV} {un inn : Int} (h : baseOk s un inn) : ∃ (k i j : Nat) (hk : k < s.items.length) (hi : i < s.units.length) (hj : j < s.units.length), inn = k ∧ un = i ∧ s.items[k].un = j ∧ s.units[i].base = s.units[j].base := by
 obtain ⟨b, h1, h2⟩ := osat_iff.1 h
 obtain ⟨u, h3, h4⟩ := osat_iff.1 h2
 unfold SrcV.base at h1
 split at h1
 ·rename_i x hx
  split at h1
  ·rename_i v hv
   obtain ⟨k, e1, hk, e2⟩ := at?_some hx
   obtain ⟨j, e3, hj, e4⟩ := at?_some hv
   obtain ⟨i, e5, hi, e6⟩ := at?_some h3
   cases h1
   refine ⟨k, i, j, hk, hi, hj, e1, e5, by rw [e2]; exact e3, by rw [e6, e4, h4]⟩
  ·cases h1
 ·cases h1
theorem newQ_in {n d : Int} {k : Nat} (hn : 0 ≤ n ∧ n.natAbs < 256 ^ k) (hk : 3 ≤ k) (hd : 1 ≤ d ∧ d ≤ 1048576) : newR n d = (encQ (newQ n d), 0) ∧ (newQ n d).Ok ∧ (newQ n d).le k ∧ (newQ n d).val = (n : Rat) * (d : Rat)⁻¹ :=
 by
 have h1 : (256 : Nat) ^ 3 ≤ 256 ^ k := Nat.pow_le_pow_right (by decide) hk
 have h2 : (256 : Nat) ^ 3 = 16777216 := by decide
 exact ⟨newR_ok (by omega), newQ_ok (by omega), newQ_le hn.2 (by omega), newQ_val (by omega)⟩
theorem amt_ok {s : SrcV} {a : Am} (hU : checkU s.units = 0) (hn : 0 ≤ a.n ∧ a.n < 4294967296) (hd : 1 ≤ a.d ∧ a.d ≤ 1048576) (hb : baseOk s a.un a.inn) :
  ∃ P : Q, amtT s a = (encQ P, 0) ∧ P.Ok ∧ P.le 198 ∧ P.val = (a.n : Rat) * (a.d : Rat)⁻¹ * facT s a.un a.inn ∧ 0 < facT s a.un a.inn := by
 obtain ⟨k, i, j, hk, hi, hj, e1, e2, e3, e4⟩ := baseOk_iff hb
 have hpw : (256 : Nat) ^ 4 = 4294967296 := by decide
 obtain ⟨n1, n2, n3, n4⟩ := newQ_in (n := a.n) (d := a.d) (k := 4) (by omega) (by omega) hd
 have hsc := units_sc hU
 obtain ⟨P, p1, p2, p3, p4⟩ := conv_ok hU hsc (k := 4) (by omega) hi hj e4 n2 n3
 obtain ⟨_, _, _, _, _, b5⟩ := (hsc _ (List.getElem_mem hi)).sv
 obtain ⟨_, _, _, _, _, c5⟩ := (hsc _ (List.getElem_mem hj)).sv
 have g1 : at? s.items a.inn = some s.items[k] := by rw [e1, at?_nat, List.getElem?_eq_getElem hk]
 have g2 : at? s.units a.un = some s.units[i] := by rw [e2, at?_nat, List.getElem?_eq_getElem hi]
 have g3 : at? s.units s.items[k].un = some s.units[j] := by rw [e3, at?_nat, List.getElem?_eq_getElem hj]
 have hf : facT s a.un a.inn = s.units[i].sv * s.units[j].sv⁻¹ := by unfold facT; simp only [g1, g2, g3]
 refine ⟨P, ?_, p2, p3.mono (by omega), ?_, ?_⟩
 ·unfold amtT
  simp only [g1, n1, e2, e3]
  rw [if_neg (by omega)]
  exact p1
 ·rw [p4, n4, hf]; simp only [Rat.mul_assoc]
 ·rw [hf]; exact Rat.mul_pos b5 (Rat.inv_pos.2 c5)
theorem mass_ok {s : SrcV} {a : Am} {P : Q} (hI : ∀ i ∈ s.items, itemOk s i) (hb : baseOk s a.un a.inn) (hP : amtT s a = (encQ P, 0)) (oP : P.Ok) (lP : P.le 198) :
  ∃ M : Q, massT s a = (encQ M, 0) ∧ M.Ok ∧ M.le 201 ∧ M.val = P.val * masT s a.inn ∧ 0 ≤ masT s a.inn := by
 obtain ⟨k, i, j, hk, hi, hj, e1, e2, e3, e4⟩ := baseOk_iff hb
 have g1 : at? s.items a.inn = some s.items[k] := by rw [e1, at?_nat, List.getElem?_eq_getElem hk]
 obtain ⟨_, hm, hd, _⟩ := hI _ (List.getElem_mem hk)
 unfold bt at hm hd
 have hpw : (256 : Nat) ^ 3 = 16777216 := by decide
 obtain ⟨n1, n2, n3, n4⟩ := newQ_in (n := s.items[k].mn) (d := s.items[k].md) (k := 3) (by omega) (by omega) hd
 obtain ⟨M, m1, m2, m3, m4⟩ := mulR_ok oP n2 lP n3 (by omega)
 have hf : masT s a.inn = (s.items[k].mn : Rat) * (s.items[k].md : Rat)⁻¹ := by unfold masT; simp only [g1]
 refine ⟨M, ?_, m2, m3, by rw [m4, n4, hf], ?_⟩
 ·unfold massT
  simp only [hP, g1, n1]
  rw [if_neg (by omega), if_neg (by omega)]
  exact m1
 ·rw [hf]
  have h1 : (0 : Rat) ≤ (s.items[k].mn : Rat) := by
   have := (Rat.intCast_le_intCast (a := 0) (b := s.items[k].mn)).2 (by omega)
   simpa using this
  have h2 : (0 : Rat) < (s.items[k].md : Rat) := by
   have := (Rat.intCast_lt_intCast (a := 0) (b := s.items[k].md)).2 (by omega)
   simpa using this
  exact Rat.mul_nonneg h1 (Rat.le_of_lt (Rat.inv_pos.2 h2))
theorem amts_ok {s : SrcV} (h : checkT s = 0) {a : Am} (ha : ∃ r ∈ s.recipes, a ∈ r.inn ∨ a ∈ r.out) : amtOk s a := by
 obtain ⟨_, _, hT⟩ := checkT_zero.1 h
 obtain ⟨r, hr, ha⟩ := ha
 obtain ⟨_, _, _, _, h1, ⟨_, h2, _⟩, _⟩ := hT.R r hr
 rcases ha with ha | ha
 ·exact h1 a ha
 ·exact (h2 a ha).1
theorem scale_law {s : SrcV} (h : checkT s = 0) {a : Am} (ha : amtOk s a) {f : Int} (hf : 0 ≤ f ∧ f ≤ 1000) {b : Am} (hbn : b.n = a.n * f) (hbd : b.d = a.d) (hbu : b.un = a.un) (hbi : b.inn = a.inn) :
  (newR f 1).2 = 0 ∧ (massT s a).2 = 0 ∧ (amtT s a).2 = 0 ∧ mulR (newR f 1).1 (massT s a).1 = massT s b ∧ mulR (newR f 1).1 (amtT s a).1 = amtT s b ∧ (massT s b).2 = 0 ∧ (amtT s b).2 = 0 := by
 obtain ⟨hU, _, hT⟩ := checkT_zero.1 h
 obtain ⟨hn, hd, hb⟩ := ha
 unfold bt at hn hd
 obtain ⟨P, p1, p2, p3, p4, p5⟩ := amt_ok (a := a) hU (by omega) hd hb
 obtain ⟨M, m1, m2, m3, m4, m5⟩ := mass_ok hT.I hb p1 p2 p3
 have hb' : baseOk s b.un b.inn := by rw [hbu, hbi]; exact hb
 have hbn' : 0 ≤ b.n ∧ b.n < 4294967296 := by
  rw [hbn]
  refine ⟨Int.mul_nonneg (by omega) hf.1, ?_⟩
  have := Int.mul_le_mul hn.2 hf.2 hf.1 (by decide)
  omega
 obtain ⟨R, r1, r2, r3, r4, r5⟩ := amt_ok (a := b) hU hbn' (by rw [hbd]; exact hd) hb'
 obtain ⟨N, q1, q2, q3, q4, q5⟩ := mass_ok hT.I hb' r1 r2 r3
 have hpw : (256 : Nat) ^ 3 = 16777216 := by decide
 obtain ⟨n1, n2, n3, n4⟩ := newQ_in (n := f) (d := 1) (k := 3) (by omega) (by omega) (by omega)
 obtain ⟨A, a1, a2, a3, a4⟩ := mulR_ok n2 m2 n3 m3 (by omega)
 obtain ⟨B, b1, b2, b3, b4⟩ := mulR_ok n2 p2 n3 p3 (by omega)
 have hv : R.val = (newQ f 1).val * P.val := by
  rw [r4, p4, n4, hbn, hbd, hbu, hbi, Rat.intCast_mul]
  have : ((1 : Int) : Rat)⁻¹ = 1 := by decide +kernel
  rw [this]
  grind
 have e1 : B = R := Q.inj b2 r2 (by rw [b4, hv])
 have e2 : A = N := Q.inj a2 q2 (by rw [a4, q4, hv, m4, hbi, Rat.mul_assoc])
 rw [n1, m1, p1, q1, r1]
 exact ⟨rfl, rfl, rfl, by rw [a1, e2], by rw [b1, e1], rfl, rfl⟩
end Go.SrcM

namespace Go.Proofs.YtdcdejhobblbpaaGreatDoor
open Go Go.Fw Go.NatM Go.RatM Go.SrcM
set_option maxRecDepth 100000
set_option maxHeartbeats 64000000

theorem uint8_wf {n : Int} (h : (Lit.int .u8 n).wf = true) : 0 ≤ n ∧ n < 256 := by
 have h1 : IntKind.u8.min ≤ n ∧ n ≤ IntKind.u8.max := by simpa [Lit.wf] using h
 have e : IntKind.u8.min = 0 := rfl
 have e2 : IntKind.u8.max = 255 := rfl
 omega
theorem emod_nat {i : Int} {n : Nat} (hi : 0 ≤ i) (hn : n ≠ 0) : ∃ k : Nat, i % (n : Int) = k ∧ k < n := by
 have h1 := Int.emod_nonneg i (b := (n : Int)) (by omega)
 have h2 := Int.emod_lt_of_pos i (b := (n : Int)) (by omega)
 exact ⟨(i % (n : Int)).toNat, by omega, by omega⟩

def amtsT (s : SrcV) : List Am := s.recipes.flatMap fun r => r.inn ++ r.out
theorem amts_take {l : List RcV} {k : Nat} (hk : k < l.length) : rws Am.row ((l.take k).flatMap fun r => r.inn ++ r.out) ++ rws Am.row l[k].inn ++ rws Am.row l[k].out = rws Am.row ((l.take (k + 1)).flatMap fun r => r.inn ++ r.out) := by
 have e : l.take (k + 1) = l.take k ++ [l[k]] := by rw [List.take_add_one, List.getElem?_eq_getElem hk]; rfl
 rw [e, List.flatMap_append, List.flatMap_singleton]
 simp only [rws, List.map_append, List.append_assoc]
theorem amts_len {l : List RcV} {k : Nat} (hk : k < l.length) : ((l.take k).flatMap fun r => r.inn ++ r.out).length + l[k].inn.length + l[k].out.length ≤ (l.flatMap fun r => r.inn ++ r.out).length := by
 have e : l = l.take k ++ l[k] :: l.drop (k + 1) := by rw [List.getElem_cons_drop, List.take_append_drop]
 have := congrArg (fun l : List RcV => (l.flatMap fun r => r.inn ++ r.out).length) e
 simp only [List.flatMap_append, List.flatMap_cons, List.length_append] at this
 omega
abbrev ownAm (b : Nat) (l : List Am) : Nat × Fw.Blk := (b, .own 37 7 (rws Am.row l))
theorem amounts_fn (s : SrcV) (hb : (amtsT s).length ≤ 1000000) : FnT Tryz.prog (fun F h => s.sub F h) 18 8 [.agg [.buf 0, .buf 1, .buf 2, .buf 3, .buf 4, .buf 5, .buf 6, .buf 7]] [(0, .ro 8 (rowsU s.units)), (1, .ro 6 (rws It.row s.items)), (2, .ro 1 (rwsB s.plants)), (3, .ro 4 (rws Mc.row s.machines)), (4, .ro 2 (rws OpV.row s.options)), (5, .ro 1 (rws FbV.row s.forbids)), (6, .ro 17 (rws RcV.row s.recipes)), (7, .ro 4 (rws Sw.row s.swaps))] (fun _ : Unit => True) (fun _ => .ret (.buf 8) 9 [ownAm 8 (amtsT s)]) := by
 have lU := rowsU_len s.units
 have lI := rws_len It.row s.items
 have lP := rwsB_len s.plants
 have lM := rws_len Mc.row s.machines
 have lO := rws_len OpV.row s.options
 have lF := rws_len FbV.row s.forbids
 have lR := rws_len RcV.row s.recipes
 have lS := rws_len Sw.row s.swaps
 refine FnT.of Tryz.func18 (by kernel_rfl) rfl Tryz.ntmps18 rfl fun E0 F h hT w0 cs => ?_
 conv => whnf
 refine gS ?_
 conv => whnf
 refine RunsS.lenB 6 (fun mR => ?_)
 refine RunsS.subR (nx' := 8) (l' := [(8, .v (.int .i64 0)), (7, .v (.int .i64 (rws RcV.row s.recipes).length)), (6, .buf 6), (2, .v (.slice none 0 0))]) (H' := [(0, .ro 8 (rowsU s.units)), (1, .ro 6 (rws It.row s.items)), (2, .ro 1 (rwsB s.plants)), (3, .ro 4 (rws Mc.row s.machines)), (4, .ro 2 (rws OpV.row s.options)), (5, .ro 1 (rws FbV.row s.forbids)), (6, .ro 17 (rws RcV.row s.recipes)), (7, .ro 4 (rws Sw.row s.swaps))]) [] ?_ (by repeat (first | exact trivial | refine ⟨by rfl, ?_⟩)) (by repeat (first | exact trivial | refine ⟨by rfl, ?_⟩))
 refine RunsS.nilOwn (l' := [(8, .v (.int .i64 0)), (7, .v (.int .i64 (rws RcV.row s.recipes).length)), (6, .buf 6), (2, .buf 8)]) (H' := [(0, .ro 8 (rowsU s.units)), (1, .ro 6 (rws It.row s.items)), (2, .ro 1 (rwsB s.plants)), (3, .ro 4 (rws Mc.row s.machines)), (4, .ro 2 (rws OpV.row s.options)), (5, .ro 1 (rws FbV.row s.forbids)), (6, .ro 17 (rws RcV.row s.recipes)), (7, .ro 4 (rws Sw.row s.swaps))]) 37 7 ?_ (by rfl) (by rfl) (by rfl)
 refine RunsS.subR [] (RunsS.loop (fun (k : Nat) => [(8, .v (.int .i64 k)), (7, .v (.int .i64 (rws RcV.row s.recipes).length)), (6, .buf 6), (2, .buf 8)]) (fun (k : Nat) => [ownAm 8 ((s.recipes.take k).flatMap fun r => r.inn ++ r.out), (0, .ro 8 (rowsU s.units)), (1, .ro 6 (rws It.row s.items)), (2, .ro 1 (rwsB s.plants)), (3, .ro 4 (rws Mc.row s.machines)), (4, .ro 2 (rws OpV.row s.options)), (5, .ro 1 (rws FbV.row s.forbids)), (6, .ro 17 (rws RcV.row s.recipes)), (7, .ro 4 (rws Sw.row s.swaps))]) 9 (fun (k : Nat) => k ≤ s.recipes.length) (fun (k : Nat) => s.recipes.length - k) ?round1 (0) ?J01) ?SS1 ?HH1
 case J01 => first | omega | trivial
 case SS1 => repeat (first | exact trivial | refine ⟨by rfl, ?_⟩)
 case HH1 => repeat (first | exact trivial | refine ⟨by rfl, ?_⟩)
 rintro k hJ back
 conv => whnf
 refine gS ?_
 conv => whnf
 refine ⟨fun hk => ?_, fun hk => ?_⟩ <;> conv => whnf
 ·have hk : k < s.recipes.length := by omega
  have hl := amts_len hk
  have hok := hT.r _ (List.getElem_mem hk)
  have hb2 := hb
  unfold amtsT at hb2
  conv => whnf
  repeat ((first | refine oM ?_ | refine oL ?_ | refine oR ?_); (try intro _); conv => whnf)
  refine ⟨_, rws_get hk, ?_⟩
  conv => whnf
  try (refine oN ?_; conv => whnf)
  refine RunsS.nameCell (fun _ x => x) 9 5 (by exact hok.i) ?_
  conv => whnf
  try refine gS ?_
  conv => whnf
  refine RunsS.nameCell (fun _ x => x) 9 6 (by exact hok.o) ?_
  conv => whnf
  try refine gS ?_
  conv => whnf
  refine RunsS.held tab (.fl 0 (.fl 1 (.fl 2 (.fl 4 (.fl 5 (.e1 3 [5] (.e1 6 [] (.fl 7 .done)))))))) (by kernel_rfl) ?_
  conv => whnf
  try refine gR ?_
  conv => whnf
  conv => whnf
  refine And.intro (appOb2 (by rw [rws_len, rws_len]; omega)) ?_
  conv => whnf
  conv => whnf
  repeat ((first | refine oM ?_ | refine oL ?_ | refine oR ?_ | refine oB ?_); (try intro _); conv => whnf)
  conv => whnf
  refine And.intro (appOb2 (by rw [List.length_append, rws_len, rws_len, rws_len]; omega)) ?_
  conv => whnf
  conv => whnf
  repeat ((first | refine oM ?_ | refine oL ?_ | refine oR ?_ | refine oB ?_); (try intro _); conv => whnf)
  try refine gS ?_
  conv => whnf
  repeat ((first | refine oM ?_ | refine oL ?_ | refine oR ?_); (try intro _); conv => whnf)
  refine RunsS.rowsEq 13 (amts_take hk) ?_
  conv => whnf
  refine RunsS.subR [(8, 13)] (back (k + 1) ?BJ2 ?BM2) ?SS2 ?HH2
  case BJ2 => (try dsimp only); first | omega | trivial
  case BM2 => (try dsimp only); omega
  case SS2 => repeat (first | exact trivial | refine ⟨by rfl, ?_⟩)
  case HH2 => repeat (first | exact trivial | refine ⟨by rfl, ?_⟩)
 have hk : k = s.recipes.length := by omega
 clear back hJ
 subst hk
 conv => whnf
 refine RunsS.rowsEq 8 (show rws Am.row ((s.recipes.take s.recipes.length).flatMap fun r => r.inn ++ r.out) = rws Am.row (amtsT s) by rw [List.take_length]; rfl) ?_
 conv => whnf
 try refine RunsS.retU ?_
 try refine RunsS.finU ?_
 exact UnwS.ret tab Tryz.func18 rfl (EndS.mk (()) (trivial) [(8, 8)] (by repeat (first | exact trivial | refine ⟨by rfl, ?_⟩)) rfl rfl (okRet rfl rfl))
theorem amts_mem {s : SrcV} {a : Am} (h : a ∈ amtsT s) : ∃ r ∈ s.recipes, a ∈ r.inn ∨ a ∈ r.out := by
 obtain ⟨r, hr, ha⟩ := List.mem_flatMap.1 h
 exact ⟨r, hr, List.mem_append.1 ha⟩
theorem amts_wf {s : SrcV} (hw : s.wf) {a : Am} (h : a ∈ amtsT s) : a.wf := by
 obtain ⟨r, hr, ha⟩ := amts_mem h
 exact ha.elim ((hw.R r hr).i a) ((hw.R r hr).o a)

theorem typesScale_fn {h : Array Obj} (s : SrcV) {vU vI vP vM vO vF vR vS : Value} (hs : Top h vU vI vP vM vO vF vR vS s) (hw : s.wf) (hb : (amtsT s).length ≤ 1000000) (i f : Int) (hi : 0 ≤ i ∧ i < 256) (hf64 : i64 f) (hT : TabH h) : FnV Tryz.prog 8 #[srcV vU vI vP vM vO vF vR vS, .int .u8 i, .int .i64 f] h fun r h' => r = .bool true ∧ Keeps h.size h h' := by
 refine Fn.ofG (envL [vU, vI, vP, vM, vO, vF, vR, vS]) 8 [.agg [.buf 0, .buf 1, .buf 2, .buf 3, .buf 4, .buf 5, .buf 6, .buf 7], .v (.int .u8 i), .v (.int .i64 f)] [(0, .ro (8) (rowsU s.units)), (1, .ro (6) (rws It.row s.items)), (2, .ro (1) (rwsB s.plants)), (3, .ro (4) (rws Mc.row s.machines)), (4, .ro (2) (rws OpV.row s.options)), (5, .ro (1) (rws FbV.row s.forbids)), (6, .ro (17) (rws RcV.row s.recipes)), (7, .ro (4) (rws Sw.row s.swaps))] (fun k => k < _) Tryz.func8 (by kernel_rfl) rfl Tryz.ntmps8 rfl (fun _ hk => hk) (Sat.ros (vs := [vU, vI, vP, vM, vO, vF, vR, vS]) (l := [(8, rowsU s.units), (6, rws It.row s.items), (1, rwsB s.plants), (4, rws Mc.row s.machines), (2, rws OpV.row s.options), (1, rws FbV.row s.forbids), (17, rws RcV.row s.recipes), (4, rws Sw.row s.swaps)]) ⟨hs.U, hs.I, hs.P, hs.M, hs.O, hs.F, hs.R, hs.S, trivial⟩) fun w0 cs => ?_
 conv => whnf
 refine gS ?_
 conv => whnf
 refine RunsS.callV (fun Ez Hz Az Sz K => saneT_fn (hT.keeps ⟨K.size, K.same⟩)) ?_
 conv => whnf
 try refine gS ?_
 conv => whnf
 refine RunsS.callT (SrcV.sub.tok _) (hs.below) (amounts_fn s hb) [0, 1, 2, 3, 4, 5, 6, 7] (by repeat (first | exact trivial | refine ⟨by rfl, ?_⟩)) ?CNa1 ?CNr1
 case CNa1 => rfl
 intro _ _
 conv => whnf
 try refine gS ?_
 conv => whnf
 have hl := rws_len Am.row (amtsT s)
 by_cases hf : FewT s
 rotate_left
 ·refine RunsS.callV (fun Ez Hz Az Sz K => yFew_fn s ⟨Sz.ro (b := 0) rfl, Sz.ro (b := 1) rfl, Sz.ro (b := 2) rfl, Sz.ro (b := 3) rfl, Sz.ro (b := 4) rfl, Sz.ro (b := 5) rfl, Sz.ro (b := 6) rfl, Sz.ro (b := 7) rfl, hs.below.up (Up.kp K)⟩) ?_
  conv => whnf
  rw [decide_eq_false hf]
  try dsimp only
  try refine gS ?_
  conv => whnf
  refine RunsS.retU (UnwS.ret tab Tryz.func8 rfl fun Ez Hz Az Sz K => ⟨_, rfl, rfl, K.keeps⟩)
 refine RunsS.callV (fun Ez Hz Az Sz K => yFew_fn s ⟨Sz.ro (b := 0) rfl, Sz.ro (b := 1) rfl, Sz.ro (b := 2) rfl, Sz.ro (b := 3) rfl, Sz.ro (b := 4) rfl, Sz.ro (b := 5) rfl, Sz.ro (b := 6) rfl, Sz.ro (b := 7) rfl, hs.below.up (Up.kp K)⟩) ?_
 conv => whnf
 rw [decide_eq_true hf]
 try dsimp only
 try refine gS ?_
 conv => whnf
 by_cases hc : checkT s = 0
 rotate_left
 ·refine RunsS.callV (fun Ez Hz Az Sz K => tCheck_fn s ⟨Sz.ro (b := 0) rfl, Sz.ro (b := 1) rfl, Sz.ro (b := 2) rfl, Sz.ro (b := 3) rfl, Sz.ro (b := 4) rfl, Sz.ro (b := 5) rfl, Sz.ro (b := 6) rfl, Sz.ro (b := 7) rfl, hs.below.up (Up.kp K)⟩ hw (hT.keeps ⟨K.size, K.same⟩)) ?_
  conv => whnf
  try refine gS ?_
  conv => whnf
  repeat ((first | refine oM ?_ | refine oL ?_ | refine oR ?_); (try intro _); conv => whnf)
  refine RunsS.retU (UnwS.ret tab Tryz.func8 rfl fun Ez Hz Az Sz K => ⟨_, rfl, rfl, K.keeps⟩)
 refine RunsS.callV (fun Ez Hz Az Sz K => tCheck_fn s ⟨Sz.ro (b := 0) rfl, Sz.ro (b := 1) rfl, Sz.ro (b := 2) rfl, Sz.ro (b := 3) rfl, Sz.ro (b := 4) rfl, Sz.ro (b := 5) rfl, Sz.ro (b := 6) rfl, Sz.ro (b := 7) rfl, hs.below.up (Up.kp K)⟩ hw (hT.keeps ⟨K.size, K.same⟩)) ?_
 conv => whnf
 rw [hc]
 try refine gS ?_
 conv => whnf
 repeat ((first | refine oM ?_ | refine oL ?_ | refine oR ?_); (try intro _); conv => whnf)
 refine ⟨fun h0 => ?_, fun h0 => ?_⟩ <;> conv => whnf
 ·conv => whnf
  refine RunsS.retU (UnwS.ret tab Tryz.func8 rfl fun Ez Hz Az Sz K => ⟨_, rfl, rfl, K.keeps⟩)
 conv => whnf
 refine ⟨fun h1 => ?_, fun h1 => ?_⟩ <;> conv => whnf
 ·conv => whnf
  refine RunsS.retU (UnwS.ret tab Tryz.func8 rfl fun Ez Hz Az Sz K => ⟨_, rfl, rfl, K.keeps⟩)
 conv => whnf
 refine ⟨fun h2 => ?_, fun h2 => ?_⟩ <;> conv => whnf
 ·conv => whnf
  refine RunsS.retU (UnwS.ret tab Tryz.func8 rfl fun Ez Hz Az Sz K => ⟨_, rfl, rfl, K.keeps⟩)
 obtain ⟨k, e, hk⟩ := emod_nat (i := i) (n := (rws Am.row (amtsT s)).length) hi.1 (by omega)
 rw [hl] at hk
 have hm := List.getElem_mem hk
 have hok := amts_ok hc (amts_mem hm)
 have hwf := amts_wf hw hm
 obtain ⟨b, hb1⟩ : ∃ b : Am, b = { (amtsT s)[k] with n := (amtsT s)[k].n * f } := ⟨_, rfl⟩
 have hmul : 0 ≤ (amtsT s)[k].n * f ∧ (amtsT s)[k].n * f ≤ 1048576 * 1000 := by
  have h3 := hok.1
  unfold bt at h3
  exact ⟨Int.mul_nonneg (by omega) (by omega), Int.mul_le_mul (by omega) (by omega) (by omega) (by decide)⟩
 obtain ⟨l1, l2, l3, l4, l5, l6, l7⟩ := scale_law hc hok (f := f) ⟨by omega, by omega⟩ (b := b) (by rw [hb1]) (by rw [hb1]) (by rw [hb1]) (by rw [hb1])
 obtain ⟨M, hM⟩ : ∃ M, massT s (amtsT s)[k] = (M, 0) := ⟨_, Prod.ext rfl l2⟩
 obtain ⟨A, hA⟩ : ∃ M, amtT s (amtsT s)[k] = (M, 0) := ⟨_, Prod.ext rfl l3⟩
 obtain ⟨M', hM'⟩ : ∃ M, massT s b = (M, 0) := ⟨_, Prod.ext rfl l6⟩
 obtain ⟨A', hA'⟩ : ∃ M, amtT s b = (M, 0) := ⟨_, Prod.ext rfl l7⟩
 obtain ⟨F, hF⟩ : ∃ M, newR f 1 = (M, 0) := ⟨_, Prod.ext rfl l1⟩
 rw [hF, hM, hM'] at l4
 rw [hF, hA, hA'] at l5
 have hbw : b.wf := by rw [hb1]; exact ⟨⟨by dsimp only; omega, by dsimp only; omega⟩, hwf.2.1, hwf.2.2.1, hwf.2.2.2⟩
 rw [hb1] at hM' hA' hbw
 conv => whnf
 repeat ((first | refine oM ?_ | refine oL ?_ | refine oR ?_); (try intro _); conv => whnf)
 refine ⟨_, (show (rws Am.row (amtsT s))[(i % (rws Am.row (amtsT s)).length).toNat]? = some (amtsT s)[k].row by rw [e, Int.toNat_natCast]; exact rws_get hk), ?_⟩
 conv => whnf
 try (refine oN ?_; conv => whnf)
 repeat ((first | refine oM ?_ | refine oL ?_ | refine oR ?_); (try intro _); conv => whnf)
 refine RunsS.callV (fun Ez Hz Az Sz K => tMass_fn s ⟨Sz.ro (b := 0) rfl, Sz.ro (b := 1) rfl, Sz.ro (b := 2) rfl, Sz.ro (b := 3) rfl, Sz.ro (b := 4) rfl, Sz.ro (b := 5) rfl, Sz.ro (b := 6) rfl, Sz.ro (b := 7) rfl, hs.below.up (Up.kp K)⟩ hw (amtsT s)[k] hwf (hT.keeps ⟨K.size, K.same⟩)) ?_
 conv => whnf
 rw [hM]
 try refine gS ?_
 conv => whnf
 refine RunsS.callV (fun Ez Hz Az Sz K => tMass_fn s ⟨Sz.ro (b := 0) rfl, Sz.ro (b := 1) rfl, Sz.ro (b := 2) rfl, Sz.ro (b := 3) rfl, Sz.ro (b := 4) rfl, Sz.ro (b := 5) rfl, Sz.ro (b := 6) rfl, Sz.ro (b := 7) rfl, hs.below.up (Up.kp K)⟩ hw { (amtsT s)[k] with n := (amtsT s)[k].n * f } hbw (hT.keeps ⟨K.size, K.same⟩)) ?_
 conv => whnf
 rw [hM']
 try dsimp only
 try refine gS ?_
 conv => whnf
 refine RunsS.callV (fun Ez Hz Az Sz K => tAmt_fn s ⟨Sz.ro (b := 0) rfl, Sz.ro (b := 1) rfl, Sz.ro (b := 2) rfl, Sz.ro (b := 3) rfl, Sz.ro (b := 4) rfl, Sz.ro (b := 5) rfl, Sz.ro (b := 6) rfl, Sz.ro (b := 7) rfl, hs.below.up (Up.kp K)⟩ hw (amtsT s)[k] hwf (hT.keeps ⟨K.size, K.same⟩)) ?_
 conv => whnf
 rw [hA]
 try dsimp only
 try refine gS ?_
 conv => whnf
 refine RunsS.callV (fun Ez Hz Az Sz K => tAmt_fn s ⟨Sz.ro (b := 0) rfl, Sz.ro (b := 1) rfl, Sz.ro (b := 2) rfl, Sz.ro (b := 3) rfl, Sz.ro (b := 4) rfl, Sz.ro (b := 5) rfl, Sz.ro (b := 6) rfl, Sz.ro (b := 7) rfl, hs.below.up (Up.kp K)⟩ hw { (amtsT s)[k] with n := (amtsT s)[k].n * f } hbw (hT.keeps ⟨K.size, K.same⟩)) ?_
 conv => whnf
 rw [hA']
 try dsimp only
 try refine gS ?_
 conv => whnf
 refine RunsS.callV (fun Ez Hz Az Sz K => qNew_fn f 1 (by omega) (by omega) (hT.keeps ⟨K.size, K.same⟩)) ?_
 conv => whnf
 rw [hF]
 try dsimp only
 try refine gS ?_
 conv => whnf
 refine RunsS.callV (fun Ez Hz Az Sz K => qMul_fn F M (hT.keeps ⟨K.size, K.same⟩)) ?_
 conv => whnf
 rw [l4]
 try dsimp only
 try refine gS ?_
 conv => whnf
 refine RunsS.callV (fun Ez Hz Az Sz K => qMul_fn F A (hT.keeps ⟨K.size, K.same⟩)) ?_
 conv => whnf
 rw [l5]
 try dsimp only
 try refine gS ?_
 conv => whnf
 refine RunsS.rowsEq 19 (rows' := List.replicate 7 [.int .i64 0]) rfl ?_
 conv => whnf
 refine RunsS.subR [] (RunsS.loop (fun (j : Nat) => [(115, .v (.int .i64 j)), (114, .v (.int .i64 7)), (113, .buf 19), (12, .ptr 13 0), (16, .ptr 15 0), (20, .ptr 17 0), (22, .ptr 18 0)]) (fun (j : Nat) => [(19, .own 34 1 (List.replicate 7 [.int .i64 0])), rtB 13 M', rtB 15 A', rtB 17 M', rtB 18 A']) 20 (fun (j : Nat) => j ≤ 7) (fun (j : Nat) => 7 - j) ?round2 (0) ?J02) ?SS2 ?HH2
 case J02 => first | omega | trivial
 case SS2 => repeat (first | exact trivial | refine ⟨by rfl, ?_⟩)
 case HH2 => repeat (first | exact trivial | refine ⟨by rfl, ?_⟩)
 rintro j hJ back
 conv => whnf
 refine gS ?_
 conv => whnf
 refine ⟨fun hj => ?_, fun hj => ?_⟩ <;> conv => whnf
 ·have hr : (List.length (List.replicate 7 [Value.int .i64 0])) = 7 := rfl
  conv => whnf
  repeat ((first | refine oM ?_ | refine oL ?_ | refine oR ?_); (try intro _); conv => whnf)
  refine ⟨_, (show (List.replicate 7 [Value.int .i64 0])[((j : Nat) : Int).toNat]? = some [.int .i64 0] by rw [Int.toNat_natCast, List.getElem?_replicate, if_pos (by omega)]), ?_⟩
  conv => whnf
  try (refine oN ?_; conv => whnf)
  intro _
  conv => whnf
  repeat ((first | refine oM ?_ | refine oL ?_ | refine oR ?_); (try intro _); conv => whnf)
  refine RunsS.subR [] (back (j + 1) ?BJ3 ?BM3) ?SS3 ?HH3
  case BJ3 => (try dsimp only); first | omega | trivial
  case BM3 => (try dsimp only); omega
  case SS3 => repeat (first | exact trivial | refine ⟨by rfl, ?_⟩)
  case HH3 => repeat (first | exact trivial | refine ⟨by rfl, ?_⟩)
 clear back
 conv => whnf
 refine And.intro (fun _ => ?_) (fun hn => absurd (⟨rfl, rfl, rfl⟩) hn)
 conv => whnf
 conv => whnf
 refine RunsS.retU (UnwS.ret tab Tryz.func8 rfl fun Ez Hz Az Sz K => ⟨_, rfl, ?_, K.keeps⟩)
 exact congrArg Value.bool (dec_t ⟨rfl, rfl, rfl⟩)
end Go.Proofs.YtdcdejhobblbpaaGreatDoor

namespace Go.Fw
open Go Go.RowKit Go.WideShapes Go.ChangeShapes

structure FlatP (P : Program) (t : TypeId) (ks : List Sc) : Prop where
 at' : ∀ {H : Type} (enc : TypeId × Value → H) (w : World) (base : Nat) (sp : Nat → Bool) (held : Bool) (fuel : Nat) (cs : List Value) (x : DataW H × List MemPlace),
 DataW.trod enc P w base sp held fuel t cs = some x → cs.length = ks.length ∧ ∀ (i : Nat) (k : Sc) (v : Value), ks[i]? = some k → cs[i]? = some v → k.ok v
theorem FlatP.sc {P : Program} {t : TypeId} {k : Sc} (ht : P.underlying t = some k.und) : FlatP P t [k] := ⟨fun enc w base sp held fuel cs x h => by
 obtain ⟨v, rfl, hv⟩ := trod_sc ht h
 refine ⟨rfl, fun i k' v' h1 h2 => ?_⟩
 cases i with
 | zero => cases h1; cases h2; exact hv
 | succ i => simp at h1⟩
theorem FlatP.struct {P : Program} {t : TypeId} {fs : Array Field} {ks : List Sc} (ht : P.underlying t = some (.struct fs)) (hc : P.cellsOf t = ks.length)
  (hf : ∀ j, j < ks.length → ∃ (i : Nat) (f : Field) (kf : List Sc), fs[i]? = some f ∧ FlatP P f.type kf ∧ P.cellsOf f.type = kf.length ∧ f.offset ≤ j ∧ j - f.offset < kf.length ∧ kf[j - f.offset]? = ks[j]?) : FlatP P t ks := ⟨fun enc w base sp held fuel cs x h => by
 obtain ⟨xs, n, _, rfl, hl, hlen, hx⟩ := DataW.trod_struct ht h
 rw [hc] at hl
 refine ⟨hl, fun j k v hk hv => ?_⟩
 have hj := (List.getElem?_eq_some_iff.1 hk).1
 obtain ⟨i, f, kf, e1, e2, e3, e4, e5, e6⟩ := hf j hj
 have g := hx i f e1
 have hi : i < xs.length := by
  rw [hlen]
  exact (Array.getElem?_eq_some_iff.1 e1).1
 rw [List.getElem?_eq_getElem hi] at g
 obtain ⟨_, g2⟩ := e2.at' enc w base sp held _ _ _ g
 refine g2 (j - f.offset) k v (by rw [e6]; exact hk) ?_
 rw [List.getElem?_take_of_lt (by rw [e3]; exact e5), List.getElem?_drop, show f.offset + (j - f.offset) = j by omega]
 exact hv⟩
section
variable {H : Type} {enc : TypeId × Value → H} {P : Program} {w : World} {base : Nat} {sp : Nat → Bool} {held : Bool}
end
end Go.Fw

namespace Go.Proofs.YtdcdejhobblbpaaGreatDoor
open Go Go.Fw Go.ChangeShapes Go.WideShapes Go.ChangeAt Go.RowKit

theorem own : ownKnob Tryz.prog.godebug = none := by kernel_rfl
theorem gTab : Tryz.prog.globalNamed "math/bits.deBruijn64tab" = some 2 := by kernel_rfl
theorem gTabType : (Tryz.prog.globals[2]?).map (·.type) = some 180 := by kernel_rfl
theorem cellsTab : Tryz.prog.cellsOf 180 = 64 := by kernel_rfl
theorem cellsByte : Tryz.prog.cellsOf 5 = 1 := by kernel_rfl

theorem table {W : World} (h : laidMetH Tryz.prog [("math/bits.deBruijn64tab", Rows.laid_math_bits_deBruijn64tab)] W) : TabH W.heap := by
 have h1 : Lib.TabIs Tryz.prog W "math/bits.deBruijn64tab" .u8 (Go.Lib.deBruijn64tab.map fun (x : Nat) => (x : Int)) :=
  Lib.tabIs_of_head (rest := []) gTab gTabType Tryz.underlying180 Tryz.underlying5 cellsByte cellsTab h
 intro j hj
 have h2 := cellH_of (h1.cell gTab j (by simpa [Go.Lib.deBruijn64tab] using hj))
 have hl : j < Go.Lib.deBruijn64tab.length := by simpa [Go.Lib.deBruijn64tab] using hj
 have hd : (Go.Lib.deBruijn64tab.map fun (x : Nat) => (x : Int)).getD j 0 = ((Go.Lib.deBruijn64tab.getD j 0 : Nat) : Int) := by
  simp [List.getD_eq_getElem?_getD, List.getElem?_map, List.getElem?_eq_getElem hl]
 rw [hd] at h2
 exact h2

noncomputable def laidWorld (os : Os) : World :=
 { World.holding Tryz.prog os ⟨#[], #[], []⟩ with heap := (World.holding Tryz.prog os ⟨#[], #[], []⟩).heap.modify 2 fun
   | .cells _ t frozen => .cells (Go.Lib.deBruijn64tab.map fun (x : Nat) => Value.int .u8 (x : Int)).toArray t frozen
   | o => o }
end Go.Proofs.YtdcdejhobblbpaaGreatDoor

namespace Go.Fw
open Go Go.ChangeShapes Go.ChangeMaps Go.WideShapes Go.RowKit
section
variable {H : Type} {enc : TypeId × Value → H} {P : Program} {w : World} {base : Nat} {sp : Nat → Bool} {held : Bool} {t : TypeId} {f0 f1 f2 : Field}

end
end Go.Fw

namespace Go.Proofs.YtdcdejhobblbpaaGreatDoor
open Go Go.Fw Go.ChangeShapes Go.WideShapes Go.ChangeAt Go.RowKit

end Go.Proofs.YtdcdejhobblbpaaGreatDoor

namespace Go.Proofs.YtdcdejhobblbpaaGreatDoor
open Go Go.Fw Go.RatM Go.ChangeShapes Go.WideShapes Go.ChangeAt Go.RowKit
set_option maxRecDepth 100000

theorem laidOut : laidOutB Tryz.prog = true := by kernel_rfl
theorem ratioF : FlatP Tryz.prog 39 [.b, .s, .s] :=
 FlatP.struct Tryz.underlying39 (by kernel_rfl) fun j hj => match j, hj with
  | 0, _ => ⟨0, _, [.b], rfl, FlatP.sc Tryz.underlying4, by kernel_rfl, by decide, by decide, rfl⟩
  | 1, _ => ⟨1, _, [.s], rfl, FlatP.sc Tryz.underlying9, by kernel_rfl, by decide, by decide, rfl⟩
  | 2, _ => ⟨2, _, [.s], rfl, FlatP.sc Tryz.underlying9, by kernel_rfl, by decide, by decide, rfl⟩
theorem unitF : FlatP Tryz.prog 63 [.s, .s, .i .i64, .i .i64, .i .i64, .b, .s, .s] :=
 FlatP.struct Tryz.underlying63 (by kernel_rfl) fun j hj => match j, hj with
  | 0, _ => ⟨0, _, [.s], rfl, FlatP.sc Tryz.underlying9, by kernel_rfl, by decide, by decide, rfl⟩
  | 1, _ => ⟨1, _, [.s], rfl, FlatP.sc Tryz.underlying9, by kernel_rfl, by decide, by decide, rfl⟩
  | 2, _ => ⟨2, _, [.i .i64], rfl, FlatP.sc Tryz.underlying3, by kernel_rfl, by decide, by decide, rfl⟩
  | 3, _ => ⟨3, _, [.i .i64], rfl, FlatP.sc Tryz.underlying3, by kernel_rfl, by decide, by decide, rfl⟩
  | 4, _ => ⟨4, _, [.i .i64], rfl, FlatP.sc Tryz.underlying3, by kernel_rfl, by decide, by decide, rfl⟩
  | 5, _ => ⟨5, _, [.b, .s, .s], rfl, ratioF, by kernel_rfl, by decide, by decide, rfl⟩
  | 6, _ => ⟨5, _, [.b, .s, .s], rfl, ratioF, by kernel_rfl, by decide, by decide, rfl⟩
  | 7, _ => ⟨5, _, [.b, .s, .s], rfl, ratioF, by kernel_rfl, by decide, by decide, rfl⟩
theorem int_wf' {n : Int} (h : (Lit.int .i64 n).wf = true) : -9223372036854775808 ≤ n ∧ n ≤ 9223372036854775807 := by
 have h1 : IntKind.i64.min ≤ n ∧ n ≤ 9223372036854775807 := by simpa [Lit.wf] using h
 have e : IntKind.i64.min = -9223372036854775808 := rfl
 omega
def UnOk1 (u : Un) : Prop := (-9223372036854775808 ≤ u.n ∧ u.n ≤ 9223372036854775807) ∧ (-9223372036854775808 ≤ u.d ∧ u.d ≤ 9223372036854775807)
theorem unit_row {cs : List Value} (h1 : cs.length = 8) (h2 : ∀ (i : Nat) (k : Sc) (v : Value), [Sc.s, .s, .i .i64, .i .i64, .i .i64, .b, .s, .s][i]? = some k → cs[i]? = some v → k.ok v) : ∃ u : Un, cs = u.row ∧ UnOk1 u := by
 match cs, h1 with
 | [a, b, c, d, e, f, g, i], _ =>
  obtain ⟨a, rfl, _⟩ := h2 0 _ a rfl rfl
  obtain ⟨b, rfl, _⟩ := h2 1 _ b rfl rfl
  obtain ⟨c, rfl, m1⟩ := h2 2 _ c rfl rfl
  obtain ⟨d, rfl, m2⟩ := h2 3 _ d rfl rfl
  obtain ⟨e, rfl, _⟩ := h2 4 _ e rfl rfl
  obtain ⟨f, rfl⟩ := h2 5 _ f rfl rfl
  obtain ⟨g, rfl, _⟩ := h2 6 _ g rfl rfl
  obtain ⟨i, rfl, _⟩ := h2 7 _ i rfl rfl
  exact ⟨⟨a, b, c, d, e, ⟨f, g, i⟩⟩, rfl, int_wf' m1, int_wf' m2⟩
section
variable {H : Type} {enc : TypeId × Value → H} {W : World} {v : Value} {d : DataW H} {ps : List MemPlace} {rr : Reach} {b0 : Nat}
end
end Go.Proofs.YtdcdejhobblbpaaGreatDoor

namespace Go.Fw
open Go Go.RowKit Go.WideShapes Go.ChangeShapes
section
variable {H : Type} {enc : TypeId × Value → H} {P : Program} {W : World}
def TR (enc : TypeId × Value → H) (P : Program) (W : World) (t : TypeId) (cs : List Value) : Prop := ∃ fuel x, DataW.trod enc P W 0 (fun _ => true) true fuel t cs = some x
theorem TR.slice {α : Type} {f : α → List Value} {Q : α → Prop} {sz : Nat} {t e : TypeId} (ht : P.underlying t = some (.slice e)) (hc : P.cellsOf e = sz) (hz : 0 < sz)
  (hf : ∀ a, (f a).length = sz ∧ (Q a → ∀ u ∈ f a, u.oneCell' = true)) (hx : ∀ cs, TR enc P W e cs → ∃ a, cs = f a ∧ Q a) {cs : List Value} (h : TR enc P W t cs) : ∃ v, ∃ l : List α, cs = [v] ∧ Ro W.heap v sz (l.map f) ∧ ∀ a ∈ l, Q a := by
 obtain ⟨fuel, x, hfu⟩ := h
 rcases Deep.open_slice ht hfu with ⟨h0, _⟩ | ⟨a, len, cap, m, n, D, Pl, h1, hb, hlc, hm, hmm, _, hcell⟩
 ·exact ⟨_, [], h0, Ro.nil, fun a ha => by cases ha⟩
 ·have hlm : len ≤ m := by rw [hmm]; simpa using hlc
  have each : ∀ i, i < len → ∃ b : α, W.cells? 0 (a.add (i * P.cellsOf e)) (P.cellsOf e) = some (f b) ∧ Q b := fun i hi => by
   obtain ⟨cs', e1, e2⟩ := hcell i (by omega)
   obtain ⟨b, rfl, hq⟩ := hx _ ⟨_, _, e2⟩
   exact ⟨b, e1, hq⟩
  obtain ⟨l, hl, hp'⟩ := list_lt each
  have hp : ∀ i (h : i < l.length), W.cells? 0 (a.add (i * P.cellsOf e)) (P.cellsOf e) = some (f l[i]) := fun i hi => (hp' i hi).1
  have hQ : ∀ a ∈ l, Q a := fun a ha => by
   obtain ⟨i, hi, rfl⟩ := List.getElem_of_mem ha
   exact (hp' i hi).2
  have hmax : maxLen ≤ 9223372036854775807 := by decide
  have hlen : (l.map f).length ≤ 9223372036854775807 := by
   rw [List.length_map, hl]; omega
  refine ⟨.slice (some a) len cap, l, h1, ⟨fun r hr => ?_, ⟨hlen, hlc⟩, some a, cap, by rw [List.length_map, hl], ?_⟩, hQ⟩
  ·obtain ⟨b, hb, rfl⟩ := List.mem_map.1 hr
   exact ⟨(hf b).1, (hf b).2 (hQ b hb)⟩
  ·by_cases h0 : l = []
   ·exact .inl (by rw [h0]; rfl)
   ·have hpos : 0 < l.length := List.length_pos_iff.2 h0
    have first := World.cells?_some (hp 0 hpos)
    have c0 := first.2.2 0 (by rw [hc]; exact hz)
    have hspot : a.spot = none ∧ a.block < W.heap.size := by
     rw [Nat.zero_mul] at c0
     have e0 : (a.add 0).add 0 = a := rfl
     rw [e0, List.getElem?_eq_getElem (by rw [(hf _).1]; exact hz)] at c0
     unfold World.cell? at c0
     split at c0
     ·rename_i hh
      refine ⟨?_, (Array.getElem?_eq_some_iff.1 hh).1⟩
      cases hs : a.spot with
      | none => rfl
      | some k => rw [hs] at c0; simp at c0
     ·cases c0
    obtain ⟨g, o, s⟩ := a
    obtain ⟨rfl, hg⟩ := hspot
    refine .inr ⟨g, o, rfl, hg, cellsH_flat (sz := sz) (fun r hr => ?_) (fun i r hr j u hu => ?_)⟩
    ·obtain ⟨b, _, rfl⟩ := List.mem_map.1 hr
     exact (hf b).1
    ·rw [List.getElem?_map] at hr
     obtain ⟨b, hb', rfl⟩ := Option.map_eq_some_iff.1 hr
     obtain ⟨hi, rfl⟩ := List.getElem?_eq_some_iff.1 hb'
     have hj : j < P.cellsOf e := by rw [hc, ← (hf l[i]).1]; exact (List.getElem?_eq_some_iff.1 hu).1
     have := (World.cells?_some (hp i hi)).2.2 j hj
     rw [hu] at this
     refine cellH_of ?_
     rw [← this, Deep.add_add]
     congr 1
     unfold Addr.add
     rw [hc]
     by_cases e0 : i * sz + j = 0
     ·rw [if_pos e0]
      congr 1
      omega
     ·rw [if_neg e0]
      congr 1
      dsimp only
      omega
def onesB (P : Program) (fs : Array Field) : Nat → Bool
 | 0 => true
 | n + 1 => onesB P fs n && (match fs[n]? with
  | some f => f.offset == n && P.cellsOf f.type == 1
  | none => false)
theorem onesB_at {fs : Array Field} : ∀ {n : Nat}, onesB P fs n = true → ∀ i, i < n → ∃ f, fs[i]? = some f ∧ f.offset = i ∧ P.cellsOf f.type = 1
 | 0, _, i, hi => absurd hi (Nat.not_lt_zero _)
 | n + 1, h, i, hi => by
  simp only [onesB, Bool.and_eq_true] at h
  by_cases e : i = n
  ·subst e
   have h2 := h.2
   split at h2
   ·rename_i f hf
    simp only [Bool.and_eq_true, beq_iff_eq] at h2
    exact ⟨f, hf, h2.1, h2.2⟩
   ·cases h2
  ·exact onesB_at h.1 i (by omega)
theorem TR.ones {t : TypeId} {fs : Array Field} {n : Nat} (ht : P.underlying t = some (.struct fs)) (hc : P.cellsOf t = n) (hf : onesB P fs n = true) {cs : List Value} (h : TR enc P W t cs) :
  cs.length = n ∧ ∀ (i : Nat) (f : Field) (v : Value), fs[i]? = some f → cs[i]? = some v → TR enc P W f.type [v] := by
 obtain ⟨fuel, x, hx⟩ := h
 obtain ⟨xs, m, _, rfl, hl, hlen, hg⟩ := DataW.trod_struct ht hx
 rw [hc] at hl
 refine ⟨hl, fun i f v h1 h2 => ?_⟩
 have hi : i < n := by rw [← hl]; exact (List.getElem?_eq_some_iff.1 h2).1
 obtain ⟨f', e1, e2, e3⟩ := onesB_at hf i hi
 rw [h1] at e1
 cases e1
 have g := hg i f h1
 have hix : i < xs.length := by rw [hlen]; exact (Array.getElem?_eq_some_iff.1 h1).1
 rw [List.getElem?_eq_getElem hix, e2, e3] at g
 have e4 : (cs.drop i).take 1 = [v] := by
  rw [List.take_one, List.head?_drop, h2]; rfl
 rw [e4] at g
 exact ⟨_, _, g⟩
theorem TR.of {t : TypeId} {v : Value} {d : DataW H} {ps : List MemPlace} (h : DataW.Trod enc P W 0 (fun _ => true) true t v d ps) : TR enc P W t v.cells.toList := by
 obtain ⟨fuel, hf⟩ := h
 exact ⟨fuel, _, hf⟩
end
end Go.Fw
namespace Go.Proofs.YtdcdejhobblbpaaGreatDoor
open Go Go.Fw Go.RatM Go.SrcM Go.ChangeShapes Go.WideShapes Go.ChangeAt Go.RowKit
set_option maxRecDepth 100000
theorem int_wfS {n : Int} (h : (Lit.int .i64 n).wf = true) : i64 n := by
 have h1 : IntKind.i64.min ≤ n ∧ n ≤ 9223372036854775807 := by simpa [Lit.wf] using h
 have e : IntKind.i64.min = -9223372036854775808 := rfl
 unfold i64
 omega
section
variable {H : Type} {enc : TypeId × Value → H} {W : World} {cs : List Value} {v : Value}
theorem tr_string (h : TR enc Tryz.prog W 9 [v]) : ∃ s, v = .string s := by
 obtain ⟨_, _, h⟩ := h
 obtain ⟨s, e, _, _⟩ := DataW.trod_string Tryz.underlying9 h
 cases e; exact ⟨s, rfl⟩
theorem tr_int (h : TR enc Tryz.prog W 3 [v]) : ∃ n, v = .int .i64 n ∧ i64 n := by
 obtain ⟨_, _, h⟩ := h
 obtain ⟨n, e, _, m⟩ := DataW.trod_int Tryz.underlying3 h
 cases e; exact ⟨n, rfl, int_wfS m⟩
theorem tr_bool (h : TR enc Tryz.prog W 4 [v]) : ∃ b, v = .bool b := by
 obtain ⟨_, _, h⟩ := h
 obtain ⟨b, e, _⟩ := DataW.trod_bool Tryz.underlying4 h
 cases e; exact ⟨b, rfl⟩
theorem tr_cd (h : TR enc Tryz.prog W 55 cs) : ∃ c : Cd, cs = c.row ∧ c.wf := by
 obtain ⟨hl, hc⟩ := h.ones Tryz.underlying55 (n := 4) (by kernel_rfl) (by kernel_rfl)
 match cs, hl with
 | [a, b, c, d], _ =>
  obtain ⟨a, rfl⟩ := tr_string (hc 0 _ _ rfl rfl)
  obtain ⟨b, rfl⟩ := tr_string (hc 1 _ _ rfl rfl)
  obtain ⟨c, rfl, m1⟩ := tr_int (hc 2 _ _ rfl rfl)
  obtain ⟨d, rfl, m2⟩ := tr_int (hc 3 _ _ rfl rfl)
  exact ⟨⟨a, b, c, d⟩, rfl, m1, m2⟩
theorem tr_it (h : TR enc Tryz.prog W 59 cs) : ∃ c : It, cs = c.row ∧ c.wf := by
 obtain ⟨hl, hc⟩ := h.ones Tryz.underlying59 (n := 6) (by kernel_rfl) (by kernel_rfl)
 match cs, hl with
 | [a, b, c, d, e, f], _ =>
  obtain ⟨a, rfl⟩ := tr_string (hc 0 _ _ rfl rfl)
  obtain ⟨b, rfl⟩ := tr_string (hc 1 _ _ rfl rfl)
  obtain ⟨c, rfl, m1⟩ := tr_int (hc 2 _ _ rfl rfl)
  obtain ⟨d, rfl, m2⟩ := tr_int (hc 3 _ _ rfl rfl)
  obtain ⟨e, rfl, m3⟩ := tr_int (hc 4 _ _ rfl rfl)
  obtain ⟨f, rfl, m4⟩ := tr_int (hc 5 _ _ rfl rfl)
  exact ⟨⟨a, b, c, d, e, f⟩, rfl, m1, m2, m3, m4⟩
theorem tr_mc (h : TR enc Tryz.prog W 53 cs) : ∃ c : Mc, cs = c.row ∧ c.wf := by
 obtain ⟨hl, hc⟩ := h.ones Tryz.underlying53 (n := 4) (by kernel_rfl) (by kernel_rfl)
 match cs, hl with
 | [a, b, c, d], _ =>
  obtain ⟨a, rfl⟩ := tr_string (hc 0 _ _ rfl rfl)
  obtain ⟨b, rfl⟩ := tr_string (hc 1 _ _ rfl rfl)
  obtain ⟨c, rfl, m1⟩ := tr_int (hc 2 _ _ rfl rfl)
  obtain ⟨d, rfl, m2⟩ := tr_int (hc 3 _ _ rfl rfl)
  exact ⟨⟨a, b, c, d⟩, rfl, m1, m2⟩
theorem tr_sw (h : TR enc Tryz.prog W 71 cs) : ∃ c : Sw, cs = c.row ∧ c.wf := by
 obtain ⟨hl, hc⟩ := h.ones Tryz.underlying71 (n := 4) (by kernel_rfl) (by kernel_rfl)
 match cs, hl with
 | [a, b, c, d], _ =>
  obtain ⟨a, rfl⟩ := tr_string (hc 0 _ _ rfl rfl)
  obtain ⟨b, rfl⟩ := tr_string (hc 1 _ _ rfl rfl)
  obtain ⟨c, rfl, m1⟩ := tr_int (hc 2 _ _ rfl rfl)
  obtain ⟨d, rfl, m2⟩ := tr_int (hc 3 _ _ rfl rfl)
  exact ⟨⟨a, b, c, d⟩, rfl, m1, m2⟩
theorem tr_rn (h : TR enc Tryz.prog W 51 cs) : ∃ c : Rn, cs = c.row ∧ c.wf := by
 obtain ⟨hl, hc⟩ := h.ones Tryz.underlying51 (n := 3) (by kernel_rfl) (by kernel_rfl)
 match cs, hl with
 | [a, b, c], _ =>
  obtain ⟨a, rfl⟩ := tr_string (hc 0 _ _ rfl rfl)
  obtain ⟨b, rfl, m1⟩ := tr_int (hc 1 _ _ rfl rfl)
  obtain ⟨c, rfl, m2⟩ := tr_int (hc 2 _ _ rfl rfl)
  exact ⟨⟨a, b, c⟩, rfl, m1, m2⟩
theorem tr_am (h : TR enc Tryz.prog W 37 cs) : ∃ c : Am, cs = c.row ∧ c.wf := by
 obtain ⟨hl, hc⟩ := h.ones Tryz.underlying37 (n := 7) (by kernel_rfl) (by kernel_rfl)
 match cs, hl with
 | [a, b, c, d, e, f, g], _ =>
  obtain ⟨a, rfl, m1⟩ := tr_int (hc 0 _ _ rfl rfl)
  obtain ⟨b, rfl, m2⟩ := tr_int (hc 1 _ _ rfl rfl)
  obtain ⟨c, rfl⟩ := tr_string (hc 2 _ _ rfl rfl)
  obtain ⟨d, rfl⟩ := tr_string (hc 3 _ _ rfl rfl)
  obtain ⟨e, rfl⟩ := tr_bool (hc 4 _ _ rfl rfl)
  obtain ⟨f, rfl, m3⟩ := tr_int (hc 5 _ _ rfl rfl)
  obtain ⟨g, rfl, m4⟩ := tr_int (hc 6 _ _ rfl rfl)
  exact ⟨⟨a, b, c, d, e, f, g⟩, rfl, m1, m2, m3, m4⟩
theorem ones_cd (c : Cd) : ∀ u ∈ c.row, u.oneCell' = true := by simp [Cd.row, Value.oneCell']
theorem ones_am (c : Am) : ∀ u ∈ c.row, u.oneCell' = true := by simp [Am.row, Value.oneCell']
theorem ones_rn (c : Rn) : ∀ u ∈ c.row, u.oneCell' = true := by simp [Rn.row, Value.oneCell']
theorem ones_it (c : It) : ∀ u ∈ c.row, u.oneCell' = true := by simp [It.row, Value.oneCell']
theorem ones_mc (c : Mc) : ∀ u ∈ c.row, u.oneCell' = true := by simp [Mc.row, Value.oneCell']
theorem ones_sw (c : Sw) : ∀ u ∈ c.row, u.oneCell' = true := by simp [Sw.row, Value.oneCell']
abbrev below (W : World) : Nat → Prop := fun k => k < W.heap.size
theorem rofHd {G : Nat → Prop} {h : Array Obj} {v : Value} {sz : Nat} {α : Type} {f : α → List Value} {l : List α} (H : RoF G h v sz (rws f l)) : ∃ a c, v = .slice a l.length c := by
 obtain ⟨a, c, e⟩ := RoF.ownB H
 exact ⟨a, c, by rw [e, rws_len]⟩
theorem tr_cds (h : TR enc Tryz.prog W 45 cs) : ∃ v l, cs = [v] ∧ RoF (below W) W.heap v 4 (rws Cd.row l) ∧ ∀ c ∈ l, c.wf :=
 h.slice Tryz.underlying45 (sz := 4) (by kernel_rfl) (by decide) (fun a => ⟨rfl, fun _ => ones_cd a⟩) (fun _ h => tr_cd h)
theorem tr_ams (h : TR enc Tryz.prog W 43 cs) : ∃ v l, cs = [v] ∧ RoF (below W) W.heap v 7 (rws Am.row l) ∧ ∀ c ∈ l, c.wf :=
 h.slice Tryz.underlying43 (sz := 7) (by kernel_rfl) (by decide) (fun a => ⟨rfl, fun _ => ones_am a⟩) (fun _ h => tr_am h)
theorem tr_rns (h : TR enc Tryz.prog W 46 cs) : ∃ v l, cs = [v] ∧ RoF (below W) W.heap v 3 (rws Rn.row l) ∧ ∀ c ∈ l, c.wf :=
 h.slice Tryz.underlying46 (sz := 3) (by kernel_rfl) (by decide) (fun a => ⟨rfl, fun _ => ones_rn a⟩) (fun _ h => tr_rn h)
theorem tr_its (h : TR enc Tryz.prog W 23 cs) : ∃ v l, cs = [v] ∧ RoF (below W) W.heap v 6 (rws It.row l) ∧ ∀ c ∈ l, c.wf :=
 h.slice Tryz.underlying23 (sz := 6) (by kernel_rfl) (by decide) (fun a => ⟨rfl, fun _ => ones_it a⟩) (fun _ h => tr_it h)
theorem tr_mcs (h : TR enc Tryz.prog W 25 cs) : ∃ v l, cs = [v] ∧ RoF (below W) W.heap v 4 (rws Mc.row l) ∧ ∀ c ∈ l, c.wf :=
 h.slice Tryz.underlying25 (sz := 4) (by kernel_rfl) (by decide) (fun a => ⟨rfl, fun _ => ones_mc a⟩) (fun _ h => tr_mc h)
theorem tr_sws (h : TR enc Tryz.prog W 29 cs) : ∃ v l, cs = [v] ∧ RoF (below W) W.heap v 4 (rws Sw.row l) ∧ ∀ c ∈ l, c.wf :=
 h.slice Tryz.underlying29 (sz := 4) (by kernel_rfl) (by decide) (fun a => ⟨rfl, fun _ => ones_sw a⟩) (fun _ h => tr_sw h)
theorem tr_strs (h : TR enc Tryz.prog W 24 cs) : ∃ v l, cs = [v] ∧ RoF (below W) W.heap v 1 (rwsB l) := by
 obtain ⟨v, l, e, h, _⟩ := h.slice (f := fun s : ByteArray => [Value.string s]) (Q := fun _ => True) Tryz.underlying24 (sz := 1) (by kernel_rfl) (by decide) (fun a => ⟨rfl, fun _ u hu => by rw [List.mem_singleton.1 hu]; rfl⟩) (fun cs h => by
  obtain ⟨f, x, h⟩ := h
  obtain ⟨s, e, _, _⟩ := DataW.trod_string Tryz.underlying9 h
  exact ⟨s, e, trivial⟩)
 exact ⟨v, l, e, h⟩
theorem RoF.one {G : Nat → Prop} {h : Array Obj} {v : Value} {sz : Nat} {rows : List (List Value)} (H : RoF G h v sz rows) : v.oneCell' = true := by
 obtain ⟨a, c, rfl⟩ := H.ownB
 rfl
theorem tr_op (h : TR enc Tryz.prog W 57 cs) : ∃ o : OpV, cs = o.row ∧ o.ok (below W) W.heap := by
 obtain ⟨hl, hc⟩ := h.ones Tryz.underlying57 (n := 2) (by kernel_rfl) (by kernel_rfl)
 match cs, hl with
 | [a, b], _ =>
  obtain ⟨a, rfl⟩ := tr_string (hc 0 _ _ rfl rfl)
  obtain ⟨b, l, e, hb⟩ := tr_strs (hc 1 _ _ rfl rfl)
  cases e
  obtain ⟨ad, c, rfl⟩ := rofHd hb
  exact ⟨⟨a, ⟨ad, c⟩, l⟩, rfl, hb⟩
theorem tr_ops (h : TR enc Tryz.prog W 26 cs) : ∃ v l, cs = [v] ∧ RoF (below W) W.heap v 2 (rws OpV.row l) ∧ ∀ c ∈ l, c.ok (below W) W.heap :=
 h.slice Tryz.underlying26 (sz := 2) (by kernel_rfl) (by decide) (fun a => ⟨rfl, fun ha u hu => by
  simp only [OpV.row, List.mem_cons, List.not_mem_nil, or_false] at hu
  rcases hu with rfl | rfl
  ·rfl
  ·exact RoF.one ha⟩) (fun _ h => tr_op h)
theorem tr_fb (h : TR enc Tryz.prog W 45 cs) : ∃ o : FbV, cs = o.row ∧ o.ok (below W) W.heap ∧ ∀ c ∈ o.cs, c.wf := by
 obtain ⟨v, l, e, h1, h2⟩ := tr_cds h
 obtain ⟨ad, c, rfl⟩ := rofHd h1
 exact ⟨⟨⟨ad, c⟩, l⟩, e, h1, h2⟩
theorem tr_fbs (h : TR enc Tryz.prog W 27 cs) : ∃ v l, cs = [v] ∧ RoF (below W) W.heap v 1 (rws FbV.row l) ∧ ∀ c ∈ l, c.ok (below W) W.heap ∧ ∀ d ∈ c.cs, d.wf :=
 h.slice Tryz.underlying27 (sz := 1) (by kernel_rfl) (by decide) (fun a => ⟨rfl, fun ha u hu => by
  rw [List.mem_singleton.1 hu]
  exact RoF.one ha.1⟩) (fun _ h => tr_fb h)
theorem tr_rc (h : TR enc Tryz.prog W 48 cs) : ∃ o : RcV, cs = o.row ∧ o.ok (below W) W.heap ∧ o.wf := by
 obtain ⟨hl, hc⟩ := h.ones Tryz.underlying48 (n := 17) (by kernel_rfl) (by kernel_rfl)
 match cs, hl with
 | [a0, a1, a2, a3, a4, a5, a6, a7, a8, a9, a10, a11, a12, a13, a14, a15, a16], _ =>
  obtain ⟨a0, rfl⟩ := tr_string (hc 0 _ _ rfl rfl)
  obtain ⟨a1, rfl⟩ := tr_string (hc 1 _ _ rfl rfl)
  obtain ⟨a2, rfl, m2⟩ := tr_int (hc 2 _ _ rfl rfl)
  obtain ⟨a3, rfl, m3⟩ := tr_int (hc 3 _ _ rfl rfl)
  obtain ⟨a4, l4, e4, h4, w4⟩ := tr_cds (hc 4 _ _ rfl rfl)
  cases e4
  obtain ⟨d4, c4, rfl⟩ := rofHd h4
  obtain ⟨a5, l5, e5, h5, w5⟩ := tr_ams (hc 5 _ _ rfl rfl)
  cases e5
  obtain ⟨d5, c5, rfl⟩ := rofHd h5
  obtain ⟨a6, l6, e6, h6, w6⟩ := tr_ams (hc 6 _ _ rfl rfl)
  cases e6
  obtain ⟨d6, c6, rfl⟩ := rofHd h6
  obtain ⟨a7, rfl, m7⟩ := tr_int (hc 7 _ _ rfl rfl)
  obtain ⟨a8, rfl, m8⟩ := tr_int (hc 8 _ _ rfl rfl)
  obtain ⟨a9, rfl, m9⟩ := tr_int (hc 9 _ _ rfl rfl)
  obtain ⟨a10, rfl, m10⟩ := tr_int (hc 10 _ _ rfl rfl)
  obtain ⟨a11, rfl, m11⟩ := tr_int (hc 11 _ _ rfl rfl)
  obtain ⟨a12, rfl, m12⟩ := tr_int (hc 12 _ _ rfl rfl)
  obtain ⟨a13, rfl, m13⟩ := tr_int (hc 13 _ _ rfl rfl)
  obtain ⟨a14, l14, e14, h14, w14⟩ := tr_rns (hc 14 _ _ rfl rfl)
  cases e14
  obtain ⟨d14, c14, rfl⟩ := rofHd h14
  obtain ⟨a15, rfl, m15⟩ := tr_int (hc 15 _ _ rfl rfl)
  obtain ⟨a16, rfl, m16⟩ := tr_int (hc 16 _ _ rfl rfl)
  exact ⟨⟨a0, a1, a2, a3, ⟨d4, c4⟩, l4, ⟨d5, c5⟩, l5, ⟨d6, c6⟩, l6, a7, a8, a9, a10, a11, a12, a13, ⟨d14, c14⟩, l14, a15, a16⟩, rfl, ⟨h4, h5, h6, h14⟩, ⟨w4, w5, w6, w14, m2, m3, m7, m8, m9, m10, m11, m12, m13, m15, m16⟩⟩
theorem tr_rcs (h : TR enc Tryz.prog W 28 cs) : ∃ v l, cs = [v] ∧ RoF (below W) W.heap v 17 (rws RcV.row l) ∧ ∀ c ∈ l, c.ok (below W) W.heap ∧ c.wf :=
 h.slice Tryz.underlying28 (sz := 17) (by kernel_rfl) (by decide) (fun a => ⟨rfl, fun ha u hu => by
  simp only [RcV.row, List.mem_cons, List.not_mem_nil, or_false] at hu
  rcases hu with rfl | rfl | rfl | rfl | rfl | rfl | rfl | rfl | rfl | rfl | rfl | rfl | rfl | rfl | rfl | rfl | rfl
  all_goals rfl⟩) (fun _ h => tr_rc h)
theorem tr_un (h : TR enc Tryz.prog W 63 cs) : ∃ u : Un, cs = u.row ∧ i64 u.n ∧ i64 u.d := by
 obtain ⟨f, x, h⟩ := h
 obtain ⟨h1, h2⟩ := unitF.at' _ _ _ _ _ _ _ _ h
 obtain ⟨u, e, hu⟩ := unit_row h1 h2
 exact ⟨u, e, hu⟩
theorem ones_un (u : Un) : ∀ c ∈ u.row, c.oneCell' = true := by simp [Un.row, Value.oneCell']
theorem tr_uns (h : TR enc Tryz.prog W 22 cs) : ∃ v l, cs = [v] ∧ RoF (below W) W.heap v 8 (rowsU l) ∧ ∀ u ∈ l, i64 u.n ∧ i64 u.d :=
 h.slice Tryz.underlying22 (sz := 8) (by kernel_rfl) (by decide) (fun a => ⟨rfl, fun _ => ones_un a⟩) (fun _ h => tr_un h)
theorem tr_src (h : TR enc Tryz.prog W 31 cs) : ∃ vU vI vP vM vO vF vR vS, ∃ s : SrcV, cs = [vU, vI, vP, vM, vO, vF, vR, vS] ∧ Top W.heap vU vI vP vM vO vF vR vS s ∧ s.wf := by
 obtain ⟨hl, hc⟩ := h.ones Tryz.underlying31 (n := 8) (by kernel_rfl) (by kernel_rfl)
 match cs, hl with
 | [a0, a1, a2, a3, a4, a5, a6, a7], _ =>
  obtain ⟨a0, l0, e0, h0, w0⟩ := tr_uns (hc 0 _ _ rfl rfl)
  cases e0
  obtain ⟨a1, l1, e1, h1, w1⟩ := tr_its (hc 1 _ _ rfl rfl)
  cases e1
  obtain ⟨a2, l2, e2, h2⟩ := tr_strs (hc 2 _ _ rfl rfl)
  cases e2
  obtain ⟨a3, l3, e3, h3, w3⟩ := tr_mcs (hc 3 _ _ rfl rfl)
  cases e3
  obtain ⟨a4, l4, e4, h4, w4⟩ := tr_ops (hc 4 _ _ rfl rfl)
  cases e4
  obtain ⟨a5, l5, e5, h5, w5⟩ := tr_fbs (hc 5 _ _ rfl rfl)
  cases e5
  obtain ⟨a6, l6, e6, h6, w6⟩ := tr_rcs (hc 6 _ _ rfl rfl)
  cases e6
  obtain ⟨a7, l7, e7, h7, w7⟩ := tr_sws (hc 7 _ _ rfl rfl)
  cases e7
  exact ⟨a0, a1, a2, a3, a4, a5, a6, a7, ⟨l0, l1, l2, l3, l4, l5, l6, l7⟩, rfl, ⟨h0, h1, h2, h3, h4, h5, h6, h7, ⟨w4, fun o ho => (w5 o ho).1, fun o ho => (w6 o ho).1⟩⟩, ⟨w0, w1, w3, fun o ho => (w5 o ho).2, fun o ho => (w6 o ho).2, w7⟩⟩
variable {b0 : Nat} {rr : Reach} {d : DataW H} {ps : List MemPlace}
theorem open_src (hval : Value.okWide Tryz.prog W rr b0 31 v) (hd : DataW.Trod enc Tryz.prog W 0 (fun _ => true) true 31 v d ps) : ∃ vU vI vP vM vO vF vR vS, ∃ s : SrcV, v = srcV vU vI vP vM vO vF vR vS ∧ Top W.heap vU vI vP vM vO vF vR vS s ∧ s.wf := by
 obtain ⟨cs, rfl, _⟩ := okWide_struct Tryz.underlying31 hval
 obtain ⟨vU, vI, vP, vM, vO, vF, vR, vS, s, e, h1, h2⟩ := tr_src (TR.of hd)
 refine ⟨vU, vI, vP, vM, vO, vF, vR, vS, s, ?_, h1, h2⟩
 unfold srcV
 rw [← e]; simp [Value.cells]
end
end Go.Proofs.YtdcdejhobblbpaaGreatDoor

namespace Go.Proofs.YtdcdejhobblbpaaGreatDoor
open Go Go.Fw Go.RatM Go.SrcM Go.ChangeShapes Go.WideShapes Go.ChangeAt Go.RowKit
set_option maxRecDepth 100000

section
variable {H : Type} {enc : TypeId × Value → H} {W : World} {cs : List Value} {d : DataW H}
def TD (enc : TypeId × Value → H) (W : World) (t : TypeId) (cs : List Value) (d : DataW H) : Prop := ∃ fuel ps, DataW.trod enc Tryz.prog W 0 (fun _ => true) true fuel t cs = some (d, ps)
theorem bulk_app (l r : List (DataW H)) : Rows.uptoBulkAll (l ++ r) = Rows.uptoBulkAll l + Rows.uptoBulkAll r := by
 induction l with
 | nil => simp [Rows.uptoBulkAll]
 | cons x l ih => simp only [List.cons_append, Rows.uptoBulkAll, ih]; omega
theorem bulk_range (D : Nat → DataW H) (f : Nat → Nat) : ∀ n, (∀ i, i < n → f i ≤ Rows.uptoBulk (D i)) → ((List.range n).map f).sum ≤ Rows.uptoBulkAll ((List.range n).map D)
 | 0, _ => by simp [Rows.uptoBulkAll]
 | n + 1, h => by
  have ih := bulk_range D f n fun i hi => h i (by omega)
  have h1 := h n (by omega)
  rw [List.range_succ, List.map_append, List.map_append, bulk_app, List.sum_append]
  simp only [List.map_cons, List.map_nil, List.sum_cons, List.sum_nil, Rows.uptoBulkAll]
  omega
theorem one_bulk (d : DataW H) : 1 ≤ Rows.uptoBulk d := by
 cases d with
 | lit l => cases l <;> simp [Rows.uptoBulk]
 | nil => simp [Rows.uptoBulk]
 | ptr d => simp [Rows.uptoBulk]
 | slice elems spare => simp [Rows.uptoBulk]
 | agg parts => simp [Rows.uptoBulk]
 | iface t d => simp [Rows.uptoBulk]
 | map entries => simp [Rows.uptoBulk]
 | held h => simp [Rows.uptoBulk]
theorem part_bulk {x : DataW H} {l : List (DataW H)} (h : x ∈ l) : Rows.uptoBulk x ≤ Rows.uptoBulkAll l := by
 induction l with
 | nil => cases h
 | cons y r ih =>
  simp only [Rows.uptoBulkAll]
  rcases List.mem_cons.1 h with rfl | h
  ·omega
  ·have := ih h; omega
theorem TD.slice {t e : TypeId} {a : Option Addr} {n c : Nat} (ht : Tryz.prog.underlying t = some (.slice e)) (h : TD enc W t [.slice a n c] d) :
  n = 0 ∨ ∃ (ad : Addr) (D : Nat → DataW H), a = some ad ∧ (∀ i, i < n → ∃ cs', W.cells? 0 (ad.add (i * Tryz.prog.cellsOf e)) (Tryz.prog.cellsOf e) = some cs' ∧ TD enc W e cs' (D i)) ∧ Rows.uptoBulkAll ((List.range n).map D) ≤ Rows.uptoBulk d := by
 obtain ⟨fuel, ps, h⟩ := h
 rcases Deep.open_slice ht h with ⟨h0, _⟩ | ⟨ad, len, cap, m, k, D, Pl, h1, hb, hlc, hm, hmm, hx, hcell⟩
 ·cases h0; exact .inl rfl
 ·cases h1
  have hlm : n ≤ m := by rw [hmm]; simpa using hlc
  cases hx
  refine .inr ⟨ad, D, rfl, fun i hi => ?_, ?_⟩
  ·obtain ⟨cs', e1, e2⟩ := hcell i (by omega)
   exact ⟨cs', e1, _, _, e2⟩
  ·simp only [Rows.uptoBulk]; omega
theorem TD.ones {t : TypeId} {fs : Array Field} {n : Nat} (ht : Tryz.prog.underlying t = some (.struct fs)) (hc : Tryz.prog.cellsOf t = n) (hf : onesB Tryz.prog fs n = true) (h : TD enc W t cs d) :
  cs.length = n ∧ ∃ xs : List (DataW H), d = .agg xs ∧ xs.length = fs.size ∧ ∀ (i : Nat) (f : Field) (v : Value), fs[i]? = some f → cs[i]? = some v → ∃ x, xs[i]? = some x ∧ TD enc W f.type [v] x := by
 obtain ⟨fuel, ps, hx⟩ := h
 obtain ⟨xs, m, _, e, hl, hlen, hg⟩ := DataW.trod_struct ht hx
 rw [hc] at hl
 cases e
 refine ⟨hl, _, rfl, by rw [List.length_map]; exact hlen, fun i f v h1 h2 => ?_⟩
 have hi : i < n := by rw [← hl]; exact (List.getElem?_eq_some_iff.1 h2).1
 obtain ⟨f', e1, e2, e3⟩ := onesB_at hf i hi
 rw [h1] at e1
 cases e1
 have g := hg i f h1
 have hix : i < xs.length := by rw [hlen]; exact (Array.getElem?_eq_some_iff.1 h1).1
 rw [List.getElem?_eq_getElem hix, e2, e3] at g
 have e4 : (cs.drop i).take 1 = [v] := by
  rw [List.take_one, List.head?_drop, h2]; rfl
 rw [e4] at g
 exact ⟨xs[i].1, by rw [List.getElem?_map, List.getElem?_eq_getElem hix]; rfl, m, xs[i].2, g⟩
theorem bulk_am (h : TD enc W 37 cs d) : 8 ≤ Rows.uptoBulk d := by
 obtain ⟨_, xs, rfl, hl, _⟩ := h.ones Tryz.underlying37 (n := 7) (by kernel_rfl) (by kernel_rfl)
 have : xs.length = 7 := hl
 simp only [Rows.uptoBulk]
 match xs, this with
 | [a, b, c, d, e, f, g], _ =>
  have := one_bulk a; have := one_bulk b; have := one_bulk c; have := one_bulk d; have := one_bulk e; have := one_bulk f; have := one_bulk g
  simp only [Rows.uptoBulkAll]; omega
theorem bulk_ams {a : Option Addr} {n c : Nat} (h : TD enc W 43 [.slice a n c] d) : 8 * n ≤ Rows.uptoBulk d := by
 rcases h.slice Tryz.underlying43 with rfl | ⟨ad, D, _, h1, h2⟩
 ·omega
 ·have := bulk_range D (fun _ => 8) n fun i hi => by
   obtain ⟨cs', _, e⟩ := h1 i hi
   exact bulk_am e
  have e : ((List.range n).map fun _ => 8).sum = 8 * n := by
   rw [List.map_const', List.length_range, List.sum_replicate_nat]; omega
  omega
theorem bulk_rc {r : RcV} (h : TD enc W 48 r.row d) : 8 * (r.inn.length + r.out.length) ≤ Rows.uptoBulk d := by
 obtain ⟨_, xs, rfl, hl, hc⟩ := h.ones Tryz.underlying48 (n := 17) (by kernel_rfl) (by kernel_rfl)
 obtain ⟨x5, e5, h5⟩ := hc 5 _ _ rfl rfl
 obtain ⟨x6, e6, h6⟩ := hc 6 _ _ rfl rfl
 have b5 := bulk_ams h5
 have b6 := bulk_ams h6
 have hs : xs = xs.take 6 ++ xs.drop 6 := (List.take_append_drop 6 xs).symm
 have g5 : x5 ∈ xs.take 6 := List.mem_of_getElem? (i := 5) (by rw [List.getElem?_take_of_lt (by decide)]; exact e5)
 have g6 : x6 ∈ xs.drop 6 := List.mem_of_getElem? (i := 0) (by rw [List.getElem?_drop]; exact e6)
 have := part_bulk g5
 have := part_bulk g6
 simp only [Rows.uptoBulk]
 rw [hs, bulk_app]
 omega
theorem bulk_rcs {v : Value} {l : List RcV} (hv : RoF (below W) W.heap v 17 (rws RcV.row l)) (h : TD enc W 28 [v] d) : 8 * (l.flatMap fun r => r.inn ++ r.out).length ≤ Rows.uptoBulk d := by
 obtain ⟨q1, q2, a, cap, rfl, q3⟩ := hv
 rcases h.slice Tryz.underlying28 with h0 | ⟨ad, D, rfl, h1, h2⟩
 ·rw [rws_len] at h0
  rw [List.eq_nil_of_length_eq_zero h0]; simp
 ·rw [rws_len] at h1 h2
  have hsz : Tryz.prog.cellsOf 48 = 17 := by kernel_rfl
  rw [hsz] at h1
  have each : ∀ i (hi : i < l.length), 8 * (l[i].inn.length + l[i].out.length) ≤ Rows.uptoBulk (D i) := fun i hi => by
   obtain ⟨cs', e1, e2⟩ := h1 i hi
   rcases q3 with q3 | ⟨g, o, e3, e4, e5⟩
   ·have := congrArg List.length q3
    rw [rws_len] at this
    rw [List.length_nil] at this
    omega
   ·cases e3
    have c1 := World.cells?_some e1
    have hcs : cs' = l[i].row := by
     refine List.ext_getElem? fun j => ?_
     by_cases hj : j < 17
     ·have hr : (l[i].row)[j]? = some (l[i].row)[j] := List.getElem?_eq_getElem (by exact hj)
      have hfl := e5 (i * 17 + j) _ (flat_get (sz := 17) q1 (rws_get hi) hr)
      have c2 := c1.2.2 j hj
      have hjl : j < cs'.length := by rw [c1.2.1]; exact hj
      rw [List.getElem?_eq_getElem hjl] at c2 ⊢
      rw [hr]
      have c3 : W.cell? ((Addr.add ⟨g, o, none⟩ (i * 17)).add j) = some (l[i].row)[j] := by
       rw [add_none, add_none, Nat.add_assoc]
       exact cell_of hfl
      rw [c3] at c2
      exact c2.symm
     ·rw [List.getElem?_eq_none (by rw [c1.2.1]; omega), List.getElem?_eq_none (by exact Nat.le_of_not_lt hj)]
    rw [hcs] at e2
    exact bulk_rc e2
  have hsum := bulk_range D (fun i => (l[i]?.map fun r => 8 * (r.inn.length + r.out.length)).getD 0) l.length fun i hi => by
   rw [List.getElem?_eq_getElem hi]; exact each i hi
  have e : ∀ l : List RcV, ((List.range l.length).map fun i => (l[i]?.map fun r => 8 * (r.inn.length + r.out.length)).getD 0).sum = 8 * (l.flatMap fun r => r.inn ++ r.out).length := by
   intro l
   induction l with
   | nil => rfl
   | cons r l ih =>
    rw [List.length_cons, List.range_succ_eq_map, List.map_cons, List.sum_cons, List.map_map, List.flatMap_cons, List.length_append, List.length_append, Nat.mul_add, ← ih]
    rfl
  rw [e] at hsum
  omega
theorem bulk_src {b0 : Nat} {rr : Reach} {ps : List MemPlace} {v : Value} (hval : Value.okWide Tryz.prog W rr b0 31 v) (hd : DataW.Trod enc Tryz.prog W 0 (fun _ => true) true 31 v d ps) :
  ∃ vU vI vP vM vO vF vR vS, ∃ s : SrcV, v = srcV vU vI vP vM vO vF vR vS ∧ Top W.heap vU vI vP vM vO vF vR vS s ∧ s.wf ∧ 8 * (amtsT s).length ≤ Rows.uptoBulk d := by
 obtain ⟨vU, vI, vP, vM, vO, vF, vR, vS, s, rfl, h1, h2⟩ := open_src hval hd
 refine ⟨vU, vI, vP, vM, vO, vF, vR, vS, s, rfl, h1, h2, ?_⟩
 obtain ⟨fuel, hf⟩ := hd
 have hd' : TD enc W 31 [vU, vI, vP, vM, vO, vF, vR, vS] d := ⟨fuel, _, hf⟩
 obtain ⟨_, xs, rfl, _, hc⟩ := hd'.ones Tryz.underlying31 (n := 8) (by kernel_rfl) (by kernel_rfl)
 obtain ⟨x6, e6, h6⟩ := hc 6 _ _ rfl rfl
 have b6 := bulk_rcs (Ro.rof h1.R) h6
 have := part_bulk (List.mem_of_getElem? e6)
 simp only [Rows.uptoBulk]
 unfold amtsT
 omega
end
end Go.Proofs.YtdcdejhobblbpaaGreatDoor
