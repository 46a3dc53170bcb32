/- Texts of this seat, joined: Package lex: Same; the reference's Same, Equal, Few. Package lex: Text; the reference's Decimal, Text. The statements about layer 5: sane. Rows whose arguments are only read: the law returns true; slices opened as rows of cells. Rows whose arguments are flat structs, or slices of such. What the rows of layer 5 have in common: the tables at the call's beginning; a world for the witness; tokens. -/
import Derived.Test.YtlminkahdlcikaaDoorJoinC
import Derived.Deep.Slices
import Derived.WideKeyArgs
import Derived.OpenShut
import Derived.WideShapes
import Derived.ChangeArms
import Derived.Test.YtlminkahdlcikaaDoorCards
import Derived.Test.YtlminkahdlcikaaDoorTie
import Derived.WalkKit
import Derived.ProofKit
import Derived.Deep.DeepHandedRow
import Derived.Lib.LaidTab
import Derived.Stop.LaidErr
set_option linter.unusedVariables false
set_option linter.unusedSimpArgs false
namespace Go.Proofs.YtlminkahdlcikaaDoor
open Go Go.Fw
set_option maxRecDepth 100000
set_option maxHeartbeats 16000000

def rowsT (l : List Tok) : List (List Value) := l.map Tok.row
theorem rowsT_len (l : List Tok) : (rowsT l).length = l.length := by simp [rowsT]
theorem rowsT_get {l : List Tok} {k : Nat} (hk : k < l.length) : (rowsT l)[k]? = some l[k].row := by
  simp [rowsT, hk]
def Tok.key (t : Tok) : Int × ByteArray × Int := (t.kind, t.text, t.n)
abbrev SameP (a b : List Tok) : Prop := a.map Tok.key = b.map Tok.key
theorem same_len {a b : List Tok} (h : SameP a b) : a.length = b.length := by
  have := congrArg List.length h
  simpa using this
theorem same_get {a b : List Tok} (h : SameP a b) {k : Nat} (ha : k < a.length) (hb : k < b.length) : a[k].key = b[k].key := by
  have := congrArg (fun l => l[k]?) h
  simpa [ha, hb] using this
theorem same_all {a b : List Tok} (h : a.length = b.length) (H : ∀ j (ha : j < a.length) (hb : j < b.length), a[j].key = b[j].key) : SameP a b := by
  refine List.ext_getElem (by simpa using h) fun j h1 h2 => ?_
  simp only [List.length_map] at h1 h2
  simpa using H j h1 h2

theorem Same_fn {h : Array Obj} (a b : List Tok) {v w : Value} (hv : Ro h v 4 (rowsT a)) (hw : Ro h w 4 (rowsT b)) : FnV Tryd.prog 18 #[v, w] h fun r h' => r = .bool (decide (SameP a b)) ∧ Keeps h.size h h' := by
  have hl := rowsT_len a
  have hm := hv.len
  have hl2 := rowsT_len b
  have hm2 := hw.len
  refine Fn.ofG (envL [v, w]) 2 [.buf 0, .buf 1] [(0, .ro (4) (rowsT a)), (1, .ro (4) (rowsT b))] (fun k => k < _) Tryd.func18 (by kernel_rfl) rfl Tryd.ntmps18 rfl (fun _ hk => hk) (Sat.ros (vs := [v, w]) (l := [(4, rowsT a), (4, rowsT b)]) ⟨hv, hw, trivial⟩) fun w0 cs => ?_
  conv => whnf
  refine goS_run tab 1000 _ _ _ _ ?_
  conv => whnf
  repeat (first | (refine And.intro (by omega) ?_; (try intro _); conv => whnf) | (refine And.intro ?_ (by omega); (try intro _); conv => whnf) | (refine ⟨_, RemV.nonneg (by omega) (by omega), ?_⟩; conv => whnf))
  refine ⟨fun hn => ?_, fun hn => ?_⟩ <;> conv => whnf
  · conv => whnf
    repeat (first | (refine And.intro (by omega) ?_; (try intro _); conv => whnf) | (refine And.intro ?_ (by omega); (try intro _); conv => whnf) | (refine ⟨_, RemV.nonneg (by omega) (by omega), ?_⟩; conv => whnf))
    have hn : a.length = b.length := by omega
    refine RunsS.subR [] (RunsS.loop (fun (k : Nat) => [(14, .v (.int .i64 k)), (13, .v (.int .i64 (rowsT a).length)), (12, .buf 0), (0, .buf 0), (1, .buf 1)]) (fun (k : Nat) => [(0, .ro 4 (rowsT a)), (1, .ro 4 (rowsT b))]) 2 (fun (k : Nat) => k ≤ a.length ∧ ∀ j (_ : j < k) (ha : j < a.length) (hb : j < b.length), a[j].key = b[j].key) (fun (k : Nat) => a.length - k) ?round1 (0) ?J01) ?SS1 ?HH1
    case J01 => exact (⟨by omega, by intro j hj; omega⟩)
    case SS1 => repeat (first | exact trivial | refine ⟨by rfl, ?_⟩)
    case HH1 => repeat (first | exact trivial | refine ⟨by rfl, ?_⟩)
    rintro k hJ back
    try dsimp only at hJ back
    conv => whnf
    try dsimp only
    refine goS_run tab 1000 _ _ _ _ ?_
    conv => whnf
    repeat (first | (refine And.intro (by omega) ?_; (try intro _); conv => whnf) | (refine And.intro ?_ (by omega); (try intro _); conv => whnf) | (refine ⟨_, RemV.nonneg (by omega) (by omega), ?_⟩; conv => whnf))
    refine ⟨fun hk => ?_, fun hk => ?_⟩ <;> conv => whnf
    · have hk : k < a.length := by omega
      have hk2 : k < b.length := by omega
      conv => whnf
      repeat (first | (refine And.intro (by omega) ?_; (try intro _); conv => whnf) | (refine And.intro ?_ (by omega); (try intro _); conv => whnf) | (refine ⟨_, RemV.nonneg (by omega) (by omega), ?_⟩; conv => whnf))
      refine ⟨_, rowsT_get hk, ?_⟩
      conv => whnf
      try (refine And.intro (by first | omega | exact Nat.le_of_ble_eq_true rfl) ?_; conv => whnf)
      repeat (first | (refine And.intro (by omega) ?_; (try intro _); conv => whnf) | (refine And.intro ?_ (by omega); (try intro _); conv => whnf) | (refine ⟨_, RemV.nonneg (by omega) (by omega), ?_⟩; conv => whnf))
      refine RunsS.held tab (.fl 0 (.fl 1 (.fl 2 (.fl 3 (.fl 4 (.fl 5 (.fl 6 (.fl 7 (.fl 8 (.fl 9 (.fl 10 (.fl 11 (.fl 12 (.fl 13 (.fl 14 (.fl 15 (.fl 16 (.fl 17 (.fl 18 (.fl 19 (.fl 20 (.fl 21 (.fl 22 (.fl 23 (.fl 24 (.fl 25 (.fl 26 (.fl 27 .done)))))))))))))))))))))))))))) (by kernel_rfl) ?_
      conv => whnf
      try refine goR_run tab _ _ _ _ _ _ ?_
      conv => whnf
      repeat (first | (refine And.intro (by omega) ?_; (try intro _); conv => whnf) | (refine And.intro ?_ (by omega); (try intro _); conv => whnf) | (refine And.intro (by (conv => whnf); (repeat (refine And.intro (by (conv => whnf); first | rfl | exact trivial) ?_; conv => whnf)); exact trivial) ?_; conv => whnf) | (refine ⟨_, RemV.nonneg (by omega) (by omega), ?_⟩; conv => whnf))
      try refine goS_run tab 1000 _ _ _ _ ?_
      conv => whnf
      repeat (first | (refine And.intro (by omega) ?_; (try intro _); conv => whnf) | (refine And.intro ?_ (by omega); (try intro _); conv => whnf) | (refine ⟨_, RemV.nonneg (by omega) (by omega), ?_⟩; conv => whnf))
      refine ⟨_, rowsT_get hk2, ?_⟩
      conv => whnf
      try (refine And.intro (by first | omega | exact Nat.le_of_ble_eq_true rfl) ?_; conv => whnf)
      try refine goR_run tab _ _ _ _ _ _ ?_
      conv => whnf
      repeat (first | (refine And.intro (by omega) ?_; (try intro _); conv => whnf) | (refine And.intro ?_ (by omega); (try intro _); conv => whnf) | (refine And.intro (by (conv => whnf); (repeat (refine And.intro (by (conv => whnf); first | rfl | exact trivial) ?_; conv => whnf)); exact trivial) ?_; conv => whnf) | (refine ⟨_, RemV.nonneg (by omega) (by omega), ?_⟩; conv => whnf))
      try refine goS_run tab 1000 _ _ _ _ ?_
      conv => whnf
      repeat (first | (refine And.intro (by omega) ?_; (try intro _); conv => whnf) | (refine And.intro ?_ (by omega); (try intro _); conv => whnf) | (refine ⟨_, RemV.nonneg (by omega) (by omega), ?_⟩; conv => whnf))
      refine ⟨fun e1 => ?_, fun e1 => ?_⟩ <;> conv => whnf
      · try refine goR_run tab _ _ _ _ _ _ ?_
        conv => whnf
        repeat (first | (refine And.intro (by omega) ?_; (try intro _); conv => whnf) | (refine And.intro ?_ (by omega); (try intro _); conv => whnf) | (refine And.intro (by (conv => whnf); (repeat (refine And.intro (by (conv => whnf); first | rfl | exact trivial) ?_; conv => whnf)); exact trivial) ?_; conv => whnf) | (refine ⟨_, RemV.nonneg (by omega) (by omega), ?_⟩; conv => whnf))
        try refine goS_run tab 1000 _ _ _ _ ?_
        conv => whnf
        repeat (first | (refine And.intro (by omega) ?_; (try intro _); conv => whnf) | (refine And.intro ?_ (by omega); (try intro _); conv => whnf) | (refine ⟨_, RemV.nonneg (by omega) (by omega), ?_⟩; conv => whnf))
        refine ⟨_, rowsT_get hk2, ?_⟩
        conv => whnf
        try (refine And.intro (by first | omega | exact Nat.le_of_ble_eq_true rfl) ?_; conv => whnf)
        try refine goR_run tab _ _ _ _ _ _ ?_
        conv => whnf
        repeat (first | (refine And.intro (by omega) ?_; (try intro _); conv => whnf) | (refine And.intro ?_ (by omega); (try intro _); conv => whnf) | (refine And.intro (by (conv => whnf); (repeat (refine And.intro (by (conv => whnf); first | rfl | exact trivial) ?_; conv => whnf)); exact trivial) ?_; conv => whnf) | (refine ⟨_, RemV.nonneg (by omega) (by omega), ?_⟩; conv => whnf))
        try refine goS_run tab 1000 _ _ _ _ ?_
        conv => whnf
        repeat (first | (refine And.intro (by omega) ?_; (try intro _); conv => whnf) | (refine And.intro ?_ (by omega); (try intro _); conv => whnf) | (refine ⟨_, RemV.nonneg (by omega) (by omega), ?_⟩; conv => whnf))
        refine ⟨fun e2 => ?_, fun e2 => ?_⟩ <;> conv => whnf
        · try refine goR_run tab _ _ _ _ _ _ ?_
          conv => whnf
          repeat (first | (refine And.intro (by omega) ?_; (try intro _); conv => whnf) | (refine And.intro ?_ (by omega); (try intro _); conv => whnf) | (refine And.intro (by (conv => whnf); (repeat (refine And.intro (by (conv => whnf); first | rfl | exact trivial) ?_; conv => whnf)); exact trivial) ?_; conv => whnf) | (refine ⟨_, RemV.nonneg (by omega) (by omega), ?_⟩; conv => whnf))
          try refine goS_run tab 1000 _ _ _ _ ?_
          conv => whnf
          repeat (first | (refine And.intro (by omega) ?_; (try intro _); conv => whnf) | (refine And.intro ?_ (by omega); (try intro _); conv => whnf) | (refine ⟨_, RemV.nonneg (by omega) (by omega), ?_⟩; conv => whnf))
          refine ⟨_, rowsT_get hk2, ?_⟩
          conv => whnf
          try (refine And.intro (by first | omega | exact Nat.le_of_ble_eq_true rfl) ?_; conv => whnf)
          try refine goR_run tab _ _ _ _ _ _ ?_
          conv => whnf
          repeat (first | (refine And.intro (by omega) ?_; (try intro _); conv => whnf) | (refine And.intro ?_ (by omega); (try intro _); conv => whnf) | (refine And.intro (by (conv => whnf); (repeat (refine And.intro (by (conv => whnf); first | rfl | exact trivial) ?_; conv => whnf)); exact trivial) ?_; conv => whnf) | (refine ⟨_, RemV.nonneg (by omega) (by omega), ?_⟩; conv => whnf))
          try refine goS_run tab 1000 _ _ _ _ ?_
          conv => whnf
          repeat (first | (refine And.intro (by omega) ?_; (try intro _); conv => whnf) | (refine And.intro ?_ (by omega); (try intro _); conv => whnf) | (refine ⟨_, RemV.nonneg (by omega) (by omega), ?_⟩; conv => whnf))
          refine ⟨fun e3 => ?_, fun e3 => ?_⟩ <;> conv => whnf
          · try refine goR_run tab _ _ _ _ _ _ ?_
            conv => whnf
            repeat (first | (refine And.intro (by omega) ?_; (try intro _); conv => whnf) | (refine And.intro ?_ (by omega); (try intro _); conv => whnf) | (refine And.intro (by (conv => whnf); (repeat (refine And.intro (by (conv => whnf); first | rfl | exact trivial) ?_; conv => whnf)); exact trivial) ?_; conv => whnf) | (refine ⟨_, RemV.nonneg (by omega) (by omega), ?_⟩; conv => whnf))
            try refine goS_run tab 1000 _ _ _ _ ?_
            conv => whnf
            repeat (first | (refine And.intro (by omega) ?_; (try intro _); conv => whnf) | (refine And.intro ?_ (by omega); (try intro _); conv => whnf) | (refine ⟨_, RemV.nonneg (by omega) (by omega), ?_⟩; conv => whnf))
            refine RunsS.subR [] (back (k + 1) ?BJ2 ?BM2) ?SS2 ?HH2
            case BJ2 => exact (⟨by omega, fun j hj ha hb => (Nat.lt_succ_iff_lt_or_eq.1 hj).elim (fun hj => hJ.2 j hj ha hb) (fun e => by subst e; simp only [Tok.key, Prod.mk.injEq]; exact ⟨e1, e2, e3⟩)⟩)
            case BM2 => (try dsimp only); omega
            case SS2 => repeat (first | exact trivial | refine ⟨by rfl, ?_⟩)
            case HH2 => repeat (first | exact trivial | refine ⟨by rfl, ?_⟩)
          · try refine goR_run tab _ _ _ _ _ _ ?_
            conv => whnf
            repeat (first | (refine And.intro (by omega) ?_; (try intro _); conv => whnf) | (refine And.intro ?_ (by omega); (try intro _); conv => whnf) | (refine And.intro (by (conv => whnf); (repeat (refine And.intro (by (conv => whnf); first | rfl | exact trivial) ?_; conv => whnf)); exact trivial) ?_; conv => whnf) | (refine ⟨_, RemV.nonneg (by omega) (by omega), ?_⟩; conv => whnf))
            try refine goS_run tab 1000 _ _ _ _ ?_
            conv => whnf
            repeat (first | (refine And.intro (by omega) ?_; (try intro _); conv => whnf) | (refine And.intro ?_ (by omega); (try intro _); conv => whnf) | (refine ⟨_, RemV.nonneg (by omega) (by omega), ?_⟩; conv => whnf))
            refine RunsS.retU (UnwS.ret tab Tryd.func18 rfl fun Ez Hz Az Sz K => ⟨_, rfl, ?_, K.keeps⟩)
            exact congrArg Value.bool (decide_eq_false fun e => e3 (congrArg (fun q : Int × ByteArray × Int => q.2.2) (same_get e hk hk2))).symm
        · try refine goR_run tab _ _ _ _ _ _ ?_
          conv => whnf
          repeat (first | (refine And.intro (by omega) ?_; (try intro _); conv => whnf) | (refine And.intro ?_ (by omega); (try intro _); conv => whnf) | (refine And.intro (by (conv => whnf); (repeat (refine And.intro (by (conv => whnf); first | rfl | exact trivial) ?_; conv => whnf)); exact trivial) ?_; conv => whnf) | (refine ⟨_, RemV.nonneg (by omega) (by omega), ?_⟩; conv => whnf))
          try refine goS_run tab 1000 _ _ _ _ ?_
          conv => whnf
          repeat (first | (refine And.intro (by omega) ?_; (try intro _); conv => whnf) | (refine And.intro ?_ (by omega); (try intro _); conv => whnf) | (refine ⟨_, RemV.nonneg (by omega) (by omega), ?_⟩; conv => whnf))
          refine RunsS.retU (UnwS.ret tab Tryd.func18 rfl fun Ez Hz Az Sz K => ⟨_, rfl, ?_, K.keeps⟩)
          exact congrArg Value.bool (decide_eq_false fun e => e2 (congrArg (fun q : Int × ByteArray × Int => q.2.1) (same_get e hk hk2))).symm
      · try refine goR_run tab _ _ _ _ _ _ ?_
        conv => whnf
        repeat (first | (refine And.intro (by omega) ?_; (try intro _); conv => whnf) | (refine And.intro ?_ (by omega); (try intro _); conv => whnf) | (refine And.intro (by (conv => whnf); (repeat (refine And.intro (by (conv => whnf); first | rfl | exact trivial) ?_; conv => whnf)); exact trivial) ?_; conv => whnf) | (refine ⟨_, RemV.nonneg (by omega) (by omega), ?_⟩; conv => whnf))
        try refine goS_run tab 1000 _ _ _ _ ?_
        conv => whnf
        repeat (first | (refine And.intro (by omega) ?_; (try intro _); conv => whnf) | (refine And.intro ?_ (by omega); (try intro _); conv => whnf) | (refine ⟨_, RemV.nonneg (by omega) (by omega), ?_⟩; conv => whnf))
        refine RunsS.retU (UnwS.ret tab Tryd.func18 rfl fun Ez Hz Az Sz K => ⟨_, rfl, ?_, K.keeps⟩)
        exact congrArg Value.bool (decide_eq_false fun e => e1 (congrArg (fun q : Int × ByteArray × Int => q.1) (same_get e hk hk2))).symm
    · conv => whnf
      repeat (first | (refine And.intro (by omega) ?_; (try intro _); conv => whnf) | (refine And.intro ?_ (by omega); (try intro _); conv => whnf) | (refine ⟨_, RemV.nonneg (by omega) (by omega), ?_⟩; conv => whnf))
      refine RunsS.retU (UnwS.ret tab Tryd.func18 rfl fun Ez Hz Az Sz K => ⟨_, rfl, ?_, K.keeps⟩)
      exact congrArg Value.bool (decide_eq_true (same_all hn fun j ha hb => hJ.2 j (by omega) ha hb)).symm
  · conv => whnf
    repeat (first | (refine And.intro (by omega) ?_; (try intro _); conv => whnf) | (refine And.intro ?_ (by omega); (try intro _); conv => whnf) | (refine ⟨_, RemV.nonneg (by omega) (by omega), ?_⟩; conv => whnf))
    refine RunsS.retU (UnwS.ret tab Tryd.func18 rfl fun Ez Hz Az Sz K => ⟨_, rfl, ?_, K.keeps⟩)
    exact congrArg Value.bool (decide_eq_false fun e => hn (by have := same_len e; omega)).symm
theorem rSame_fn {h : Array Obj} (a b : List Tok) {v w : Value} (hv : Ro h v 4 (rowsT a)) (hw : Ro h w 4 (rowsT b)) : FnV Tryd.prog 19 #[v, w] h fun r h' => r = .bool (decide (SameP a b)) ∧ Keeps h.size h h' := by
  have hl := rowsT_len a
  have hm := hv.len
  have hl2 := rowsT_len b
  have hm2 := hw.len
  refine Fn.ofG (envL [v, w]) 2 [.buf 0, .buf 1] [(0, .ro (4) (rowsT a)), (1, .ro (4) (rowsT b))] (fun k => k < _) Tryd.func19 (by kernel_rfl) rfl Tryd.ntmps19 rfl (fun _ hk => hk) (Sat.ros (vs := [v, w]) (l := [(4, rowsT a), (4, rowsT b)]) ⟨hv, hw, trivial⟩) fun w0 cs => ?_
  conv => whnf
  refine goS_run tab 1000 _ _ _ _ ?_
  conv => whnf
  repeat (first | (refine And.intro (by omega) ?_; (try intro _); conv => whnf) | (refine And.intro ?_ (by omega); (try intro _); conv => whnf) | (refine ⟨_, RemV.nonneg (by omega) (by omega), ?_⟩; conv => whnf))
  refine ⟨fun hn => ?_, fun hn => ?_⟩ <;> conv => whnf
  · conv => whnf
    repeat (first | (refine And.intro (by omega) ?_; (try intro _); conv => whnf) | (refine And.intro ?_ (by omega); (try intro _); conv => whnf) | (refine ⟨_, RemV.nonneg (by omega) (by omega), ?_⟩; conv => whnf))
    have hn : a.length = b.length := by omega
    refine RunsS.subR [] (RunsS.loop (fun (k : Nat) => [(5, .v (.int .i64 k)), (0, .buf 0), (1, .buf 1)]) (fun (k : Nat) => [(0, .ro 4 (rowsT a)), (1, .ro 4 (rowsT b))]) 2 (fun (k : Nat) => k ≤ a.length ∧ ∀ j (_ : j < k) (ha : j < a.length) (hb : j < b.length), a[j].key = b[j].key) (fun (k : Nat) => a.length - k) ?round3 (0) ?J03) ?SS3 ?HH3
    case J03 => exact (⟨by omega, by intro j hj; omega⟩)
    case SS3 => repeat (first | exact trivial | refine ⟨by rfl, ?_⟩)
    case HH3 => repeat (first | exact trivial | refine ⟨by rfl, ?_⟩)
    rintro k hJ back
    try dsimp only at hJ back
    conv => whnf
    try dsimp only
    refine goS_run tab 1000 _ _ _ _ ?_
    conv => whnf
    repeat (first | (refine And.intro (by omega) ?_; (try intro _); conv => whnf) | (refine And.intro ?_ (by omega); (try intro _); conv => whnf) | (refine ⟨_, RemV.nonneg (by omega) (by omega), ?_⟩; conv => whnf))
    refine ⟨fun hk => ?_, fun hk => ?_⟩ <;> conv => whnf
    · have hk : k < a.length := by omega
      have hk2 : k < b.length := by omega
      conv => whnf
      repeat (first | (refine And.intro (by omega) ?_; (try intro _); conv => whnf) | (refine And.intro ?_ (by omega); (try intro _); conv => whnf) | (refine ⟨_, RemV.nonneg (by omega) (by omega), ?_⟩; conv => whnf))
      refine RunsS.held tab (.fl 0 (.fl 1 (.fl 2 (.fl 3 (.fl 4 (.fl 5 (.fl 6 (.fl 7 (.fl 8 (.fl 9 (.fl 10 (.fl 11 (.fl 12 (.fl 13 (.fl 14 (.fl 15 (.fl 16 (.fl 17 (.fl 18 (.fl 19 (.fl 20 (.fl 21 (.fl 22 (.fl 23 (.fl 24 (.fl 25 (.fl 26 (.fl 27 (.fl 28 (.fl 29 (.fl 30 (.fl 31 (.fl 32 (.fl 33 (.fl 34 (.fl 35 (.fl 36 .done))))))))))))))))))))))))))))))))))))) (by kernel_rfl) ?_
      conv => whnf
      try refine goR_run tab _ _ _ _ _ _ ?_
      conv => whnf
      repeat (first | (refine And.intro (by omega) ?_; (try intro _); conv => whnf) | (refine And.intro ?_ (by omega); (try intro _); conv => whnf) | (refine And.intro (by (conv => whnf); (repeat (refine And.intro (by (conv => whnf); first | rfl | exact trivial) ?_; conv => whnf)); exact trivial) ?_; conv => whnf) | (refine ⟨_, RemV.nonneg (by omega) (by omega), ?_⟩; conv => whnf))
      try refine goS_run tab 1000 _ _ _ _ ?_
      conv => whnf
      repeat (first | (refine And.intro (by omega) ?_; (try intro _); conv => whnf) | (refine And.intro ?_ (by omega); (try intro _); conv => whnf) | (refine ⟨_, RemV.nonneg (by omega) (by omega), ?_⟩; conv => whnf))
      refine ⟨_, rowsT_get hk, ?_⟩
      conv => whnf
      try (refine And.intro (by first | omega | exact Nat.le_of_ble_eq_true rfl) ?_; conv => whnf)
      try refine goR_run tab _ _ _ _ _ _ ?_
      conv => whnf
      repeat (first | (refine And.intro (by omega) ?_; (try intro _); conv => whnf) | (refine And.intro ?_ (by omega); (try intro _); conv => whnf) | (refine And.intro (by (conv => whnf); (repeat (refine And.intro (by (conv => whnf); first | rfl | exact trivial) ?_; conv => whnf)); exact trivial) ?_; conv => whnf) | (refine ⟨_, RemV.nonneg (by omega) (by omega), ?_⟩; conv => whnf))
      try refine goS_run tab 1000 _ _ _ _ ?_
      conv => whnf
      repeat (first | (refine And.intro (by omega) ?_; (try intro _); conv => whnf) | (refine And.intro ?_ (by omega); (try intro _); conv => whnf) | (refine ⟨_, RemV.nonneg (by omega) (by omega), ?_⟩; conv => whnf))
      refine ⟨_, rowsT_get hk2, ?_⟩
      conv => whnf
      try (refine And.intro (by first | omega | exact Nat.le_of_ble_eq_true rfl) ?_; conv => whnf)
      try refine goR_run tab _ _ _ _ _ _ ?_
      conv => whnf
      repeat (first | (refine And.intro (by omega) ?_; (try intro _); conv => whnf) | (refine And.intro ?_ (by omega); (try intro _); conv => whnf) | (refine And.intro (by (conv => whnf); (repeat (refine And.intro (by (conv => whnf); first | rfl | exact trivial) ?_; conv => whnf)); exact trivial) ?_; conv => whnf) | (refine ⟨_, RemV.nonneg (by omega) (by omega), ?_⟩; conv => whnf))
      try refine goS_run tab 1000 _ _ _ _ ?_
      conv => whnf
      repeat (first | (refine And.intro (by omega) ?_; (try intro _); conv => whnf) | (refine And.intro ?_ (by omega); (try intro _); conv => whnf) | (refine ⟨_, RemV.nonneg (by omega) (by omega), ?_⟩; conv => whnf))
      refine ⟨fun e1 => ?_, fun e1 => ?_⟩ <;> conv => whnf
      · try refine goR_run tab _ _ _ _ _ _ ?_
        conv => whnf
        repeat (first | (refine And.intro (by omega) ?_; (try intro _); conv => whnf) | (refine And.intro ?_ (by omega); (try intro _); conv => whnf) | (refine And.intro (by (conv => whnf); (repeat (refine And.intro (by (conv => whnf); first | rfl | exact trivial) ?_; conv => whnf)); exact trivial) ?_; conv => whnf) | (refine ⟨_, RemV.nonneg (by omega) (by omega), ?_⟩; conv => whnf))
        try refine goS_run tab 1000 _ _ _ _ ?_
        conv => whnf
        repeat (first | (refine And.intro (by omega) ?_; (try intro _); conv => whnf) | (refine And.intro ?_ (by omega); (try intro _); conv => whnf) | (refine ⟨_, RemV.nonneg (by omega) (by omega), ?_⟩; conv => whnf))
        refine ⟨_, rowsT_get hk, ?_⟩
        conv => whnf
        try (refine And.intro (by first | omega | exact Nat.le_of_ble_eq_true rfl) ?_; conv => whnf)
        try refine goR_run tab _ _ _ _ _ _ ?_
        conv => whnf
        repeat (first | (refine And.intro (by omega) ?_; (try intro _); conv => whnf) | (refine And.intro ?_ (by omega); (try intro _); conv => whnf) | (refine And.intro (by (conv => whnf); (repeat (refine And.intro (by (conv => whnf); first | rfl | exact trivial) ?_; conv => whnf)); exact trivial) ?_; conv => whnf) | (refine ⟨_, RemV.nonneg (by omega) (by omega), ?_⟩; conv => whnf))
        try refine goS_run tab 1000 _ _ _ _ ?_
        conv => whnf
        repeat (first | (refine And.intro (by omega) ?_; (try intro _); conv => whnf) | (refine And.intro ?_ (by omega); (try intro _); conv => whnf) | (refine ⟨_, RemV.nonneg (by omega) (by omega), ?_⟩; conv => whnf))
        refine ⟨_, rowsT_get hk2, ?_⟩
        conv => whnf
        try (refine And.intro (by first | omega | exact Nat.le_of_ble_eq_true rfl) ?_; conv => whnf)
        try refine goR_run tab _ _ _ _ _ _ ?_
        conv => whnf
        repeat (first | (refine And.intro (by omega) ?_; (try intro _); conv => whnf) | (refine And.intro ?_ (by omega); (try intro _); conv => whnf) | (refine And.intro (by (conv => whnf); (repeat (refine And.intro (by (conv => whnf); first | rfl | exact trivial) ?_; conv => whnf)); exact trivial) ?_; conv => whnf) | (refine ⟨_, RemV.nonneg (by omega) (by omega), ?_⟩; conv => whnf))
        try refine goS_run tab 1000 _ _ _ _ ?_
        conv => whnf
        repeat (first | (refine And.intro (by omega) ?_; (try intro _); conv => whnf) | (refine And.intro ?_ (by omega); (try intro _); conv => whnf) | (refine ⟨_, RemV.nonneg (by omega) (by omega), ?_⟩; conv => whnf))
        refine ⟨fun e2 => ?_, fun e2 => ?_⟩ <;> conv => whnf
        · try refine goR_run tab _ _ _ _ _ _ ?_
          conv => whnf
          repeat (first | (refine And.intro (by omega) ?_; (try intro _); conv => whnf) | (refine And.intro ?_ (by omega); (try intro _); conv => whnf) | (refine And.intro (by (conv => whnf); (repeat (refine And.intro (by (conv => whnf); first | rfl | exact trivial) ?_; conv => whnf)); exact trivial) ?_; conv => whnf) | (refine ⟨_, RemV.nonneg (by omega) (by omega), ?_⟩; conv => whnf))
          try refine goS_run tab 1000 _ _ _ _ ?_
          conv => whnf
          repeat (first | (refine And.intro (by omega) ?_; (try intro _); conv => whnf) | (refine And.intro ?_ (by omega); (try intro _); conv => whnf) | (refine ⟨_, RemV.nonneg (by omega) (by omega), ?_⟩; conv => whnf))
          refine ⟨_, rowsT_get hk, ?_⟩
          conv => whnf
          try (refine And.intro (by first | omega | exact Nat.le_of_ble_eq_true rfl) ?_; conv => whnf)
          try refine goR_run tab _ _ _ _ _ _ ?_
          conv => whnf
          repeat (first | (refine And.intro (by omega) ?_; (try intro _); conv => whnf) | (refine And.intro ?_ (by omega); (try intro _); conv => whnf) | (refine And.intro (by (conv => whnf); (repeat (refine And.intro (by (conv => whnf); first | rfl | exact trivial) ?_; conv => whnf)); exact trivial) ?_; conv => whnf) | (refine ⟨_, RemV.nonneg (by omega) (by omega), ?_⟩; conv => whnf))
          try refine goS_run tab 1000 _ _ _ _ ?_
          conv => whnf
          repeat (first | (refine And.intro (by omega) ?_; (try intro _); conv => whnf) | (refine And.intro ?_ (by omega); (try intro _); conv => whnf) | (refine ⟨_, RemV.nonneg (by omega) (by omega), ?_⟩; conv => whnf))
          refine ⟨_, rowsT_get hk2, ?_⟩
          conv => whnf
          try (refine And.intro (by first | omega | exact Nat.le_of_ble_eq_true rfl) ?_; conv => whnf)
          try refine goR_run tab _ _ _ _ _ _ ?_
          conv => whnf
          repeat (first | (refine And.intro (by omega) ?_; (try intro _); conv => whnf) | (refine And.intro ?_ (by omega); (try intro _); conv => whnf) | (refine And.intro (by (conv => whnf); (repeat (refine And.intro (by (conv => whnf); first | rfl | exact trivial) ?_; conv => whnf)); exact trivial) ?_; conv => whnf) | (refine ⟨_, RemV.nonneg (by omega) (by omega), ?_⟩; conv => whnf))
          try refine goS_run tab 1000 _ _ _ _ ?_
          conv => whnf
          repeat (first | (refine And.intro (by omega) ?_; (try intro _); conv => whnf) | (refine And.intro ?_ (by omega); (try intro _); conv => whnf) | (refine ⟨_, RemV.nonneg (by omega) (by omega), ?_⟩; conv => whnf))
          refine ⟨fun e3 => ?_, fun e3 => ?_⟩ <;> conv => whnf
          · try refine goR_run tab _ _ _ _ _ _ ?_
            conv => whnf
            repeat (first | (refine And.intro (by omega) ?_; (try intro _); conv => whnf) | (refine And.intro ?_ (by omega); (try intro _); conv => whnf) | (refine And.intro (by (conv => whnf); (repeat (refine And.intro (by (conv => whnf); first | rfl | exact trivial) ?_; conv => whnf)); exact trivial) ?_; conv => whnf) | (refine ⟨_, RemV.nonneg (by omega) (by omega), ?_⟩; conv => whnf))
            try refine goS_run tab 1000 _ _ _ _ ?_
            conv => whnf
            repeat (first | (refine And.intro (by omega) ?_; (try intro _); conv => whnf) | (refine And.intro ?_ (by omega); (try intro _); conv => whnf) | (refine ⟨_, RemV.nonneg (by omega) (by omega), ?_⟩; conv => whnf))
            refine RunsS.subR [] (back (k + 1) ?BJ4 ?BM4) ?SS4 ?HH4
            case BJ4 => exact (⟨by omega, fun j hj ha hb => (Nat.lt_succ_iff_lt_or_eq.1 hj).elim (fun hj => hJ.2 j hj ha hb) (fun e => by subst e; simp only [Tok.key, Prod.mk.injEq]; exact ⟨e1, e2, e3⟩)⟩)
            case BM4 => (try dsimp only); omega
            case SS4 => repeat (first | exact trivial | refine ⟨by rfl, ?_⟩)
            case HH4 => repeat (first | exact trivial | refine ⟨by rfl, ?_⟩)
          · try refine goR_run tab _ _ _ _ _ _ ?_
            conv => whnf
            repeat (first | (refine And.intro (by omega) ?_; (try intro _); conv => whnf) | (refine And.intro ?_ (by omega); (try intro _); conv => whnf) | (refine And.intro (by (conv => whnf); (repeat (refine And.intro (by (conv => whnf); first | rfl | exact trivial) ?_; conv => whnf)); exact trivial) ?_; conv => whnf) | (refine ⟨_, RemV.nonneg (by omega) (by omega), ?_⟩; conv => whnf))
            try refine goS_run tab 1000 _ _ _ _ ?_
            conv => whnf
            repeat (first | (refine And.intro (by omega) ?_; (try intro _); conv => whnf) | (refine And.intro ?_ (by omega); (try intro _); conv => whnf) | (refine ⟨_, RemV.nonneg (by omega) (by omega), ?_⟩; conv => whnf))
            refine RunsS.retU (UnwS.ret tab Tryd.func19 rfl fun Ez Hz Az Sz K => ⟨_, rfl, ?_, K.keeps⟩)
            exact congrArg Value.bool (decide_eq_false fun e => e3 (congrArg (fun q : Int × ByteArray × Int => q.2.2) (same_get e hk hk2))).symm
        · try refine goR_run tab _ _ _ _ _ _ ?_
          conv => whnf
          repeat (first | (refine And.intro (by omega) ?_; (try intro _); conv => whnf) | (refine And.intro ?_ (by omega); (try intro _); conv => whnf) | (refine And.intro (by (conv => whnf); (repeat (refine And.intro (by (conv => whnf); first | rfl | exact trivial) ?_; conv => whnf)); exact trivial) ?_; conv => whnf) | (refine ⟨_, RemV.nonneg (by omega) (by omega), ?_⟩; conv => whnf))
          try refine goS_run tab 1000 _ _ _ _ ?_
          conv => whnf
          repeat (first | (refine And.intro (by omega) ?_; (try intro _); conv => whnf) | (refine And.intro ?_ (by omega); (try intro _); conv => whnf) | (refine ⟨_, RemV.nonneg (by omega) (by omega), ?_⟩; conv => whnf))
          refine RunsS.retU (UnwS.ret tab Tryd.func19 rfl fun Ez Hz Az Sz K => ⟨_, rfl, ?_, K.keeps⟩)
          exact congrArg Value.bool (decide_eq_false fun e => e2 (congrArg (fun q : Int × ByteArray × Int => q.2.1) (same_get e hk hk2))).symm
      · try refine goR_run tab _ _ _ _ _ _ ?_
        conv => whnf
        repeat (first | (refine And.intro (by omega) ?_; (try intro _); conv => whnf) | (refine And.intro ?_ (by omega); (try intro _); conv => whnf) | (refine And.intro (by (conv => whnf); (repeat (refine And.intro (by (conv => whnf); first | rfl | exact trivial) ?_; conv => whnf)); exact trivial) ?_; conv => whnf) | (refine ⟨_, RemV.nonneg (by omega) (by omega), ?_⟩; conv => whnf))
        try refine goS_run tab 1000 _ _ _ _ ?_
        conv => whnf
        repeat (first | (refine And.intro (by omega) ?_; (try intro _); conv => whnf) | (refine And.intro ?_ (by omega); (try intro _); conv => whnf) | (refine ⟨_, RemV.nonneg (by omega) (by omega), ?_⟩; conv => whnf))
        refine RunsS.retU (UnwS.ret tab Tryd.func19 rfl fun Ez Hz Az Sz K => ⟨_, rfl, ?_, K.keeps⟩)
        exact congrArg Value.bool (decide_eq_false fun e => e1 (congrArg (fun q : Int × ByteArray × Int => q.1) (same_get e hk hk2))).symm
    · conv => whnf
      repeat (first | (refine And.intro (by omega) ?_; (try intro _); conv => whnf) | (refine And.intro ?_ (by omega); (try intro _); conv => whnf) | (refine ⟨_, RemV.nonneg (by omega) (by omega), ?_⟩; conv => whnf))
      refine RunsS.retU (UnwS.ret tab Tryd.func19 rfl fun Ez Hz Az Sz K => ⟨_, rfl, ?_, K.keeps⟩)
      exact congrArg Value.bool (decide_eq_true (same_all hn fun j ha hb => hJ.2 j (by omega) ha hb)).symm
  · conv => whnf
    repeat (first | (refine And.intro (by omega) ?_; (try intro _); conv => whnf) | (refine And.intro ?_ (by omega); (try intro _); conv => whnf) | (refine ⟨_, RemV.nonneg (by omega) (by omega), ?_⟩; conv => whnf))
    refine RunsS.retU (UnwS.ret tab Tryd.func19 rfl fun Ez Hz Az Sz K => ⟨_, rfl, ?_, K.keeps⟩)
    exact congrArg Value.bool (decide_eq_false fun e => hn (by have := same_len e; omega)).symm
abbrev EqualP (a b : List Tok) : Prop := SameP a b ∧ a.map Tok.pos = b.map Tok.pos
theorem rEqual_fn {h : Array Obj} (a b : List Tok) {v w : Value} (hv : Ro h v 4 (rowsT a)) (hw : Ro h w 4 (rowsT b)) : FnV Tryd.prog 14 #[v, w] h fun r h' => r = .bool (decide (EqualP a b)) ∧ Keeps h.size h h' := by
  have hl := rowsT_len a
  have hm := hv.len
  have hl2 := rowsT_len b
  have hm2 := hw.len
  refine Fn.ofG (envL [v, w]) 2 [.buf 0, .buf 1] [(0, .ro (4) (rowsT a)), (1, .ro (4) (rowsT b))] (fun k => k < _) Tryd.func14 (by kernel_rfl) rfl Tryd.ntmps14 rfl (fun _ hk => hk) (Sat.ros (vs := [v, w]) (l := [(4, rowsT a), (4, rowsT b)]) ⟨hv, hw, trivial⟩) fun w0 cs => ?_
  conv => whnf
  refine goS_run tab 1000 _ _ _ _ ?_
  conv => whnf
  repeat (first | (refine And.intro (by omega) ?_; (try intro _); conv => whnf) | (refine And.intro ?_ (by omega); (try intro _); conv => whnf) | (refine ⟨_, RemV.nonneg (by omega) (by omega), ?_⟩; conv => whnf))
  by_cases hs : SameP a b
  · refine RunsS.callV (fun Ez Hz Az Sz K => rSame_fn a b (Sz.ro (b := 0) rfl) (Sz.ro (b := 1) rfl)) ?_
    conv => whnf
    rw [decide_eq_true hs]
    try dsimp only
    try refine goS_run tab 1000 _ _ _ _ ?_
    conv => whnf
    repeat (first | (refine And.intro (by omega) ?_; (try intro _); conv => whnf) | (refine And.intro ?_ (by omega); (try intro _); conv => whnf) | (refine ⟨_, RemV.nonneg (by omega) (by omega), ?_⟩; conv => whnf))
    have hn := same_len hs
    refine RunsS.subR [] (RunsS.loop (fun (k : Nat) => [(5, .v (.int .i64 k)), (0, .buf 0), (1, .buf 1)]) (fun (k : Nat) => [(0, .ro 4 (rowsT a)), (1, .ro 4 (rowsT b))]) 2 (fun (k : Nat) => k ≤ a.length ∧ ∀ j (_ : j < k) (ha : j < a.length) (hb : j < b.length), a[j].pos = b[j].pos) (fun (k : Nat) => a.length - k) ?round5 (0) ?J05) ?SS5 ?HH5
    case J05 => exact (⟨by omega, by intro j hj; omega⟩)
    case SS5 => repeat (first | exact trivial | refine ⟨by rfl, ?_⟩)
    case HH5 => repeat (first | exact trivial | refine ⟨by rfl, ?_⟩)
    rintro k hJ back
    try dsimp only at hJ back
    conv => whnf
    try dsimp only
    refine goS_run tab 1000 _ _ _ _ ?_
    conv => whnf
    repeat (first | (refine And.intro (by omega) ?_; (try intro _); conv => whnf) | (refine And.intro ?_ (by omega); (try intro _); conv => whnf) | (refine ⟨_, RemV.nonneg (by omega) (by omega), ?_⟩; conv => whnf))
    refine ⟨fun hk => ?_, fun hk => ?_⟩ <;> conv => whnf
    · have hk : k < a.length := by omega
      have hk2 : k < b.length := by omega
      conv => whnf
      repeat (first | (refine And.intro (by omega) ?_; (try intro _); conv => whnf) | (refine And.intro ?_ (by omega); (try intro _); conv => whnf) | (refine ⟨_, RemV.nonneg (by omega) (by omega), ?_⟩; conv => whnf))
      refine RunsS.held tab (.fl 0 (.fl 1 (.fl 2 (.fl 3 (.fl 4 (.fl 5 (.fl 6 (.fl 7 (.fl 8 (.fl 9 (.fl 10 .done))))))))))) (by kernel_rfl) ?_
      conv => whnf
      try refine goR_run tab _ _ _ _ _ _ ?_
      conv => whnf
      repeat (first | (refine And.intro (by omega) ?_; (try intro _); conv => whnf) | (refine And.intro ?_ (by omega); (try intro _); conv => whnf) | (refine And.intro (by (conv => whnf); (repeat (refine And.intro (by (conv => whnf); first | rfl | exact trivial) ?_; conv => whnf)); exact trivial) ?_; conv => whnf) | (refine ⟨_, RemV.nonneg (by omega) (by omega), ?_⟩; conv => whnf))
      try refine goS_run tab 1000 _ _ _ _ ?_
      conv => whnf
      repeat (first | (refine And.intro (by omega) ?_; (try intro _); conv => whnf) | (refine And.intro ?_ (by omega); (try intro _); conv => whnf) | (refine ⟨_, RemV.nonneg (by omega) (by omega), ?_⟩; conv => whnf))
      refine ⟨_, rowsT_get hk, ?_⟩
      conv => whnf
      try (refine And.intro (by first | omega | exact Nat.le_of_ble_eq_true rfl) ?_; conv => whnf)
      try refine goR_run tab _ _ _ _ _ _ ?_
      conv => whnf
      repeat (first | (refine And.intro (by omega) ?_; (try intro _); conv => whnf) | (refine And.intro ?_ (by omega); (try intro _); conv => whnf) | (refine And.intro (by (conv => whnf); (repeat (refine And.intro (by (conv => whnf); first | rfl | exact trivial) ?_; conv => whnf)); exact trivial) ?_; conv => whnf) | (refine ⟨_, RemV.nonneg (by omega) (by omega), ?_⟩; conv => whnf))
      try refine goS_run tab 1000 _ _ _ _ ?_
      conv => whnf
      repeat (first | (refine And.intro (by omega) ?_; (try intro _); conv => whnf) | (refine And.intro ?_ (by omega); (try intro _); conv => whnf) | (refine ⟨_, RemV.nonneg (by omega) (by omega), ?_⟩; conv => whnf))
      refine ⟨_, rowsT_get hk2, ?_⟩
      conv => whnf
      try (refine And.intro (by first | omega | exact Nat.le_of_ble_eq_true rfl) ?_; conv => whnf)
      try refine goR_run tab _ _ _ _ _ _ ?_
      conv => whnf
      repeat (first | (refine And.intro (by omega) ?_; (try intro _); conv => whnf) | (refine And.intro ?_ (by omega); (try intro _); conv => whnf) | (refine And.intro (by (conv => whnf); (repeat (refine And.intro (by (conv => whnf); first | rfl | exact trivial) ?_; conv => whnf)); exact trivial) ?_; conv => whnf) | (refine ⟨_, RemV.nonneg (by omega) (by omega), ?_⟩; conv => whnf))
      try refine goS_run tab 1000 _ _ _ _ ?_
      conv => whnf
      repeat (first | (refine And.intro (by omega) ?_; (try intro _); conv => whnf) | (refine And.intro ?_ (by omega); (try intro _); conv => whnf) | (refine ⟨_, RemV.nonneg (by omega) (by omega), ?_⟩; conv => whnf))
      refine ⟨fun e1 => ?_, fun e1 => ?_⟩ <;> conv => whnf
      · try refine goR_run tab _ _ _ _ _ _ ?_
        conv => whnf
        repeat (first | (refine And.intro (by omega) ?_; (try intro _); conv => whnf) | (refine And.intro ?_ (by omega); (try intro _); conv => whnf) | (refine And.intro (by (conv => whnf); (repeat (refine And.intro (by (conv => whnf); first | rfl | exact trivial) ?_; conv => whnf)); exact trivial) ?_; conv => whnf) | (refine ⟨_, RemV.nonneg (by omega) (by omega), ?_⟩; conv => whnf))
        try refine goS_run tab 1000 _ _ _ _ ?_
        conv => whnf
        repeat (first | (refine And.intro (by omega) ?_; (try intro _); conv => whnf) | (refine And.intro ?_ (by omega); (try intro _); conv => whnf) | (refine ⟨_, RemV.nonneg (by omega) (by omega), ?_⟩; conv => whnf))
        refine RunsS.subR [] (back (k + 1) ?BJ6 ?BM6) ?SS6 ?HH6
        case BJ6 => exact (⟨by omega, fun j hj ha hb => (Nat.lt_succ_iff_lt_or_eq.1 hj).elim (fun hj => hJ.2 j hj ha hb) (fun e => by subst e; exact e1)⟩)
        case BM6 => (try dsimp only); omega
        case SS6 => repeat (first | exact trivial | refine ⟨by rfl, ?_⟩)
        case HH6 => repeat (first | exact trivial | refine ⟨by rfl, ?_⟩)
      · try refine goR_run tab _ _ _ _ _ _ ?_
        conv => whnf
        repeat (first | (refine And.intro (by omega) ?_; (try intro _); conv => whnf) | (refine And.intro ?_ (by omega); (try intro _); conv => whnf) | (refine And.intro (by (conv => whnf); (repeat (refine And.intro (by (conv => whnf); first | rfl | exact trivial) ?_; conv => whnf)); exact trivial) ?_; conv => whnf) | (refine ⟨_, RemV.nonneg (by omega) (by omega), ?_⟩; conv => whnf))
        try refine goS_run tab 1000 _ _ _ _ ?_
        conv => whnf
        repeat (first | (refine And.intro (by omega) ?_; (try intro _); conv => whnf) | (refine And.intro ?_ (by omega); (try intro _); conv => whnf) | (refine ⟨_, RemV.nonneg (by omega) (by omega), ?_⟩; conv => whnf))
        refine RunsS.retU (UnwS.ret tab Tryd.func14 rfl fun Ez Hz Az Sz K => ⟨_, rfl, ?_, K.keeps⟩)
        refine congrArg Value.bool (decide_eq_false fun e => e1 ?_).symm
        have := congrArg (fun l => l[k]?) e.2
        simpa [hk, hk2] using this
    · conv => whnf
      repeat (first | (refine And.intro (by omega) ?_; (try intro _); conv => whnf) | (refine And.intro ?_ (by omega); (try intro _); conv => whnf) | (refine ⟨_, RemV.nonneg (by omega) (by omega), ?_⟩; conv => whnf))
      refine RunsS.retU (UnwS.ret tab Tryd.func14 rfl fun Ez Hz Az Sz K => ⟨_, rfl, ?_, K.keeps⟩)
      refine congrArg Value.bool (decide_eq_true (⟨hs, List.ext_getElem (by simpa using hn) fun j h1 h2 => ?_⟩ : EqualP a b)).symm
      simp only [List.length_map] at h1 h2
      simpa using hJ.2 j (by omega) h1 h2
  · refine RunsS.callV (fun Ez Hz Az Sz K => rSame_fn a b (Sz.ro (b := 0) rfl) (Sz.ro (b := 1) rfl)) ?_
    conv => whnf
    rw [decide_eq_false hs]
    try dsimp only
    try refine goS_run tab 1000 _ _ _ _ ?_
    conv => whnf
    repeat (first | (refine And.intro (by omega) ?_; (try intro _); conv => whnf) | (refine And.intro ?_ (by omega); (try intro _); conv => whnf) | (refine ⟨_, RemV.nonneg (by omega) (by omega), ?_⟩; conv => whnf))
    refine RunsS.retU (UnwS.ret tab Tryd.func14 rfl fun Ez Hz Az Sz K => ⟨_, rfl, ?_, K.keeps⟩)
    exact congrArg Value.bool (decide_eq_false fun e => hs e.1).symm
/-- how many bytes, as the program counts them -/
def fewN (l : List Tok) : Int := l.foldl (fun n t => IntKind.i64.wrap (n + (t.text.size : Int))) 0
def fewB (l : List Tok) : Bool := decide (l.length ≤ 200 ∧ fewN l ≤ 2000)
theorem fewB_len {l : List Tok} (h : fewB l = true) : l.length ≤ 200 := (of_decide_eq_true h).1
theorem few_step {l : List Tok} {k : Nat} (hk : k < l.length) : fewN (l.take (k + 1)) = IntKind.i64.wrap (fewN (l.take k) + (l[k].text.size : Int)) := by
  unfold fewN
  rw [List.take_succ_eq_append_getElem hk, List.foldl_append]
  rfl
theorem rFew_fn {h : Array Obj} (l : List Tok) {v : Value} (hv : Ro h v 4 (rowsT l)) : FnV Tryd.prog 15 #[v] h fun r h' => r = .bool (fewB l) ∧ Keeps h.size h h' := by
  have hl := rowsT_len l
  have hm := hv.len
  refine Fn.ofG (envL [v]) 1 [.buf 0] [(0, .ro (4) (rowsT l))] (fun k => k < _) Tryd.func15 (by kernel_rfl) rfl Tryd.ntmps15 rfl (fun _ hk => hk) (Sat.ros (vs := [v]) (l := [(4, rowsT l)]) ⟨hv, trivial⟩) fun w0 cs => ?_
  conv => whnf
  refine goS_run tab 1000 _ _ _ _ ?_
  conv => whnf
  repeat (first | (refine And.intro (by omega) ?_; (try intro _); conv => whnf) | (refine And.intro ?_ (by omega); (try intro _); conv => whnf) | (refine ⟨_, RemV.nonneg (by omega) (by omega), ?_⟩; conv => whnf))
  refine RunsS.subR [] (RunsS.loop (fun (k : Nat) => [(4, .v (.int .i64 k)), (3, .v (.int .i64 (fewN (l.take k)))), (0, .buf 0)]) (fun (k : Nat) => [(0, .ro 4 (rowsT l))]) 1 (fun (k : Nat) => k ≤ l.length) (fun (k : Nat) => l.length - k) ?round7 (0) ?J07) ?SS7 ?HH7
  case J07 => exact (Nat.zero_le _)
  case SS7 => repeat (first | exact trivial | refine ⟨by rfl, ?_⟩)
  case HH7 => repeat (first | exact trivial | refine ⟨by rfl, ?_⟩)
  rintro k hJ back
  try dsimp only at hJ back
  conv => whnf
  try dsimp only
  refine goS_run tab 20 _ _ _ _ ?_
  conv => whnf
  repeat (first | (refine And.intro (by omega) ?_; (try intro _); conv => whnf) | (refine And.intro ?_ (by omega); (try intro _); conv => whnf) | (refine ⟨_, RemV.nonneg (by omega) (by omega), ?_⟩; conv => whnf))
  refine ⟨fun hk => ?_, fun hk => ?_⟩ <;> conv => whnf
  · have hk : k < l.length := by omega
    conv => whnf
    repeat (first | (refine And.intro (by omega) ?_; (try intro _); conv => whnf) | (refine And.intro ?_ (by omega); (try intro _); conv => whnf) | (refine ⟨_, RemV.nonneg (by omega) (by omega), ?_⟩; conv => whnf))
    refine ⟨_, rowsT_get hk, ?_⟩
    conv => whnf
    try (refine And.intro (by first | omega | exact Nat.le_of_ble_eq_true rfl) ?_; conv => whnf)
    repeat (first | (refine And.intro (by omega) ?_; (try intro _); conv => whnf) | (refine And.intro ?_ (by omega); (try intro _); conv => whnf) | (refine ⟨_, RemV.nonneg (by omega) (by omega), ?_⟩; conv => whnf))
    refine RunsS.effV (fun E h => eff_addW) ?_
    try refine goS_run tab 1000 _ _ _ _ ?_
    conv => whnf
    repeat (first | (refine And.intro (by omega) ?_; (try intro _); conv => whnf) | (refine And.intro ?_ (by omega); (try intro _); conv => whnf) | (refine ⟨_, RemV.nonneg (by omega) (by omega), ?_⟩; conv => whnf))
    rw [← few_step hk]
    refine RunsS.subR [] (back (k + 1) ?BJ8 ?BM8) ?SS8 ?HH8
    case BJ8 => exact (hk)
    case BM8 => (try dsimp only); omega
    case SS8 => repeat (first | exact trivial | refine ⟨by rfl, ?_⟩)
    case HH8 => repeat (first | exact trivial | refine ⟨by rfl, ?_⟩)
  · conv => whnf
    repeat (first | (refine And.intro (by omega) ?_; (try intro _); conv => whnf) | (refine And.intro ?_ (by omega); (try intro _); conv => whnf) | (refine ⟨_, RemV.nonneg (by omega) (by omega), ?_⟩; conv => whnf))
    have hk : k = l.length := by omega
    try refine goS_run tab 1000 _ _ _ _ ?_
    conv => whnf
    repeat (first | (refine And.intro (by omega) ?_; (try intro _); conv => whnf) | (refine And.intro ?_ (by omega); (try intro _); conv => whnf) | (refine ⟨_, RemV.nonneg (by omega) (by omega), ?_⟩; conv => whnf))
    refine ⟨fun h2 => ?_, fun h2 => ?_⟩ <;> conv => whnf
    · conv => whnf
      repeat (first | (refine And.intro (by omega) ?_; (try intro _); conv => whnf) | (refine And.intro ?_ (by omega); (try intro _); conv => whnf) | (refine ⟨_, RemV.nonneg (by omega) (by omega), ?_⟩; conv => whnf))
      try refine goS_run tab 1000 _ _ _ _ ?_
      conv => whnf
      repeat (first | (refine And.intro (by omega) ?_; (try intro _); conv => whnf) | (refine And.intro ?_ (by omega); (try intro _); conv => whnf) | (refine ⟨_, RemV.nonneg (by omega) (by omega), ?_⟩; conv => whnf))
      refine RunsS.retU (UnwS.ret tab Tryd.func15 rfl fun Ez Hz Az Sz K => ⟨_, rfl, ?_, K.keeps⟩)
      rw [hk, List.take_length]
      exact congrArg Value.bool (decide_eq_decide.2 ⟨fun e => ⟨by omega, e⟩, fun e => e.2⟩)
    · conv => whnf
      repeat (first | (refine And.intro (by omega) ?_; (try intro _); conv => whnf) | (refine And.intro ?_ (by omega); (try intro _); conv => whnf) | (refine ⟨_, RemV.nonneg (by omega) (by omega), ?_⟩; conv => whnf))
      try refine goS_run tab 1000 _ _ _ _ ?_
      conv => whnf
      repeat (first | (refine And.intro (by omega) ?_; (try intro _); conv => whnf) | (refine And.intro ?_ (by omega); (try intro _); conv => whnf) | (refine ⟨_, RemV.nonneg (by omega) (by omega), ?_⟩; conv => whnf))
      refine RunsS.retU (UnwS.ret tab Tryd.func15 rfl fun Ez Hz Az Sz K => ⟨_, rfl, ?_, K.keeps⟩)
      exact congrArg Value.bool (decide_eq_false fun e => h2 (by have := e.1; omega)).symm
end Go.Proofs.YtlminkahdlcikaaDoor

namespace Go.Proofs.YtlminkahdlcikaaDoor
open Go Go.Fw
set_option maxRecDepth 100000
set_option maxHeartbeats 16000000

/-- the text of a token -/
def txT (t : Tok) : ByteArray := if t.kind = 2 then ⟨(Lib.itoa t.n).toArray⟩ else t.text
def joinB (l : List Tok) : ByteArray := ⟨(Lib.join (l.map fun t => bs (txT t)) [32]).toArray⟩
abbrev AllV (l : List Tok) : Prop := ∀ t ∈ l, ValidP t
def textV (l : List Tok) : Value := if AllV l then .tuple #[.string (joinB l), .int .i64 0] else .tuple #[.string ⟨#[]⟩, .int .i64 50]

theorem nDigits_le : ∀ (k u : Nat), u < 10 ^ (k + 1) → Lib.nDigits u ≤ k + 1
  | 0, u, h => by rw [Lib.nDigits_small (by simpa using h)]; exact Nat.le_refl _
  | k + 1, u, h => by
    by_cases hu : u < 10
    · rw [Lib.nDigits_small hu]; omega
    · rw [Lib.nDigits_big hu]
      rw [Nat.pow_succ] at h
      have := nDigits_le k (u / 10) (by omega)
      omega
theorem itoa_nat {n : Int} (h : 0 ≤ n) : Lib.itoa n = Lib.decDigits n.toNat := by
  unfold Lib.itoa
  rw [if_neg (by omega)]
theorem txT_size {t : Tok} (h : ValidP t) : (txT t).size ≤ 32 := by
  unfold txT
  rcases h with ⟨h1, h2, _⟩ | ⟨h1, _, h3, h4⟩ | ⟨h1, h2, _⟩
  · rw [if_neg (by omega)]
    have := h2.1
    omega
  · rw [if_pos h1, itoa_nat h3]
    show (Lib.decDigits t.n.toNat).toArray.size ≤ 32
    rw [List.size_toArray, Lib.decDigits_length]
    have := nDigits_le 12 t.n.toNat (by omega)
    omega
  · rw [if_neg (by omega)]
    omega
theorem join_snoc (xs : List Bs) (y : Bs) : Lib.join (xs ++ [y]) [32] = if xs = [] then y else Lib.join xs [32] ++ [32] ++ y := by
  cases xs with
  | nil => rw [if_pos rfl]; exact Lib.join_one _ _
  | cons x r =>
    rw [if_neg (by simp), List.cons_append, Lib.join_cons, Lib.join_cons]
    simp [Lib.joinTail]
theorem joinB_snoc (l : List Tok) (t : Tok) : joinB (l ++ [t]) = if l = [] then txT t else joinB l ++ ⟨#[32]⟩ ++ txT t := by
  unfold joinB
  rw [List.map_append, List.map_cons, List.map_nil, join_snoc]
  by_cases hl : l = []
  · subst hl
    simp only [List.map_nil, if_true]
  · rw [if_neg (by simpa using hl), if_neg hl]
    refine ByteArray.ext ?_
    simp [bs]
theorem joinB_size {l : List Tok} (h : AllV l) : (joinB l).size ≤ 33 * l.length := by
  show (Lib.join (l.map fun t => bs (txT t)) [32]).toArray.size ≤ _
  rw [List.size_toArray]
  cases l with
  | nil => simp [Lib.join_nil]
  | cons t l =>
    have key : ∀ l : List Tok, AllV l → Lib.lens (l.map fun t => bs (txT t)) ≤ 32 * l.length := by
      intro l
      induction l with
      | nil => intro _; simp [Lib.lens]
      | cons t l ih =>
        intro h
        have h1 := txT_size (h t (List.mem_cons_self ..))
        have h2 := ih fun t ht => h t (List.mem_cons_of_mem _ ht)
        simp only [Lib.lens, List.map_cons, List.sum_cons, List.length_cons, bs_len] at h2 ⊢
        omega
    rw [List.map_cons, Lib.join_length]
    have := key (t :: l) h
    simp only [List.map_cons, List.length_cons, List.length_map, List.length_nil] at this ⊢
    omega
theorem allV_take {l : List Tok} {k : Nat} (hk : k < l.length) (h : AllV (l.take k)) (hv : ValidP l[k]) : AllV (l.take (k + 1)) := by
  rw [List.take_succ_eq_append_getElem hk]
  intro t ht
  rcases List.mem_append.1 ht with ht | ht
  · exact h t ht
  · rw [List.mem_singleton.1 ht]; exact hv

def rowsX (l : List Tok) : List (List Value) := (l.map txT).map fun x => [Value.string x]
theorem rowsX_app {l : List Tok} {k : Nat} (hk : k < l.length) {x : ByteArray} (hx : x = txT l[k]) : rowsX (l.take k) ++ chunk 1 1 [Value.string x] = rowsX (l.take (k + 1)) := by
  unfold rowsX
  rw [List.take_succ_eq_append_getElem hk, List.map_append, List.map_append, hx]; rfl
theorem rowsX_len (l : List Tok) : (rowsX l).length = l.length := by simp [rowsX]

theorem Text_fn {h : Array Obj} (l : List Tok) (h200 : l.length ≤ 65536) {v : Value} (hv : Ro h v 4 (rowsT l)) (hT : PowH h) : FnV Tryd.prog 16 #[v] h fun r h' => r = textV l ∧ Keeps h.size h h' := by
  have hl := rowsT_len l
  have hm := hv.len
  refine Fn.ofG (envL [v]) 1 [.buf 0] [(0, .ro (4) (rowsT l))] (fun k => k < _) Tryd.func16 (by kernel_rfl) rfl Tryd.ntmps16 rfl (fun _ hk => hk) (Sat.ros (vs := [v]) (l := [(4, rowsT l)]) ⟨hv, trivial⟩) fun w0 cs => ?_
  conv => whnf
  refine goS_run tab 1000 _ _ _ _ ?_
  conv => whnf
  repeat (first | (refine And.intro (by omega) ?_; (try intro _); conv => whnf) | (refine And.intro ?_ (by omega); (try intro _); conv => whnf) | (refine ⟨_, RemV.nonneg (by omega) (by omega), ?_⟩; conv => whnf))
  refine RunsS.subR (nx' := 1) (l' := [(9, .v (.int .i64 0)), (8, .v (.int .i64 (rowsT l).length)), (7, .buf 0), (4, .v (.slice none 0 0))]) (H' := [(0, .ro 4 (rowsT l))]) [] ?_ (by repeat (first | exact trivial | refine ⟨by rfl, ?_⟩)) (by repeat (first | exact trivial | refine ⟨by rfl, ?_⟩))
  refine RunsS.nilOwn (l' := [(9, .v (.int .i64 0)), (8, .v (.int .i64 (rowsT l).length)), (7, .buf 0), (4, .buf 1)]) (H' := [(0, .ro 4 (rowsT l))]) 9 1 ?_ (by rfl) (by rfl) (by rfl)
  refine RunsS.subR [] (RunsS.loop (fun (k : Nat) => [(9, .v (.int .i64 k)), (8, .v (.int .i64 (rowsT l).length)), (7, .buf 0), (4, .buf 1)]) (fun (k : Nat) => [(0, .ro 4 (rowsT l)), (1, .own 9 1 (rowsX (l.take k)))]) 2 (fun (k : Nat) => k ≤ l.length ∧ AllV (l.take k)) (fun (k : Nat) => l.length - k) ?round1 (0) ?J01) ?SS1 ?HH1
  case J01 => exact (⟨Nat.zero_le _, fun _ h => (by cases h)⟩)
  case SS1 => repeat (first | exact trivial | refine ⟨by rfl, ?_⟩)
  case HH1 => repeat (first | exact trivial | refine ⟨by rfl, ?_⟩)
  rintro k hJ back
  try dsimp only at hJ back
  conv => whnf
  try dsimp only
  refine goS_run tab 1000 _ _ _ _ ?_
  conv => whnf
  repeat (first | (refine And.intro (by omega) ?_; (try intro _); conv => whnf) | (refine And.intro ?_ (by omega); (try intro _); conv => whnf) | (refine ⟨_, RemV.nonneg (by omega) (by omega), ?_⟩; conv => whnf))
  refine ⟨fun hk => ?_, fun hk => ?_⟩ <;> conv => whnf
  · have hk : k < l.length := by omega
    conv => whnf
    repeat (first | (refine And.intro (by omega) ?_; (try intro _); conv => whnf) | (refine And.intro ?_ (by omega); (try intro _); conv => whnf) | (refine ⟨_, RemV.nonneg (by omega) (by omega), ?_⟩; conv => whnf))
    refine ⟨_, rowsT_get hk, ?_⟩
    conv => whnf
    try (refine And.intro (by first | omega | exact Nat.le_of_ble_eq_true rfl) ?_; conv => whnf)
    repeat (first | (refine And.intro (by omega) ?_; (try intro _); conv => whnf) | (refine And.intro ?_ (by omega); (try intro _); conv => whnf) | (refine ⟨_, RemV.nonneg (by omega) (by omega), ?_⟩; conv => whnf))
    by_cases hv : ValidP l[k]
    · refine RunsS.callV (fun Ez Hz Az Sz K => valid_fn l[k]) ?_
      conv => whnf
      rw [decide_eq_true hv]
      try dsimp only
      try refine goS_run tab 1000 _ _ _ _ ?_
      conv => whnf
      repeat (first | (refine And.intro (by omega) ?_; (try intro _); conv => whnf) | (refine And.intro ?_ (by omega); (try intro _); conv => whnf) | (refine ⟨_, RemV.nonneg (by omega) (by omega), ?_⟩; conv => whnf))
      refine ⟨fun h2 => ?_, fun h2 => ?_⟩ <;> conv => whnf
      · have hx : txT l[k] = ⟨(Lib.itoa l[k].n).toArray⟩ := if_pos h2
        have hn : 0 ≤ l[k].n ∧ l[k].n ≤ 1099511627776 := by
          rcases hv with e | e | e
          · have := e.1; omega
          · exact e.2.2
          · have := e.1; omega
        conv => whnf
        repeat (first | (refine And.intro (by omega) ?_; (try intro _); conv => whnf) | (refine And.intro ?_ (by omega); (try intro _); conv => whnf) | (refine ⟨_, RemV.nonneg (by omega) (by omega), ?_⟩; conv => whnf))
        refine RunsS.callV (fun Ez Hz Az Sz K => Itoa_fn l[k].n hn.1 (by omega) (hT.keeps ⟨K.size, K.same⟩)) ?_
        conv => whnf
        try refine goS_run tab 1000 _ _ _ _ ?_
        conv => whnf
        repeat (first | (refine And.intro (by omega) ?_; (try intro _); conv => whnf) | (refine And.intro ?_ (by omega); (try intro _); conv => whnf) | (refine ⟨_, RemV.nonneg (by omega) (by omega), ?_⟩; conv => whnf))
        refine And.intro (appOb (by rw [rowsX_len, List.length_take]; omega)) ?_
        conv => whnf
        try refine goS_run tab 1000 _ _ _ _ ?_
        conv => whnf
        repeat (first | (refine And.intro (by omega) ?_; (try intro _); conv => whnf) | (refine And.intro ?_ (by omega); (try intro _); conv => whnf) | (refine ⟨_, RemV.nonneg (by omega) (by omega), ?_⟩; conv => whnf))
        refine RunsS.rowsEq (4) (rowsX_app hk hx.symm) ?_
        conv => whnf
        refine RunsS.subR [(1, 4)] (back (k + 1) ?BJ2 ?BM2) ?SS2 ?HH2
        case BJ2 => exact (⟨hk, allV_take hk hJ.2 hv⟩)
        case BM2 => (try dsimp only); omega
        case SS2 => repeat (first | exact trivial | refine ⟨by rfl, ?_⟩)
        case HH2 => repeat (first | exact trivial | refine ⟨by rfl, ?_⟩)
      · have hx : txT l[k] = l[k].text := if_neg h2
        conv => whnf
        repeat (first | (refine And.intro (by omega) ?_; (try intro _); conv => whnf) | (refine And.intro ?_ (by omega); (try intro _); conv => whnf) | (refine ⟨_, RemV.nonneg (by omega) (by omega), ?_⟩; conv => whnf))
        refine And.intro (appOb (by rw [rowsX_len, List.length_take]; omega)) ?_
        conv => whnf
        try refine goS_run tab 1000 _ _ _ _ ?_
        conv => whnf
        repeat (first | (refine And.intro (by omega) ?_; (try intro _); conv => whnf) | (refine And.intro ?_ (by omega); (try intro _); conv => whnf) | (refine ⟨_, RemV.nonneg (by omega) (by omega), ?_⟩; conv => whnf))
        refine RunsS.rowsEq (4) (rowsX_app hk hx.symm) ?_
        conv => whnf
        refine RunsS.subR [(1, 4)] (back (k + 1) ?BJ3 ?BM3) ?SS3 ?HH3
        case BJ3 => exact (⟨hk, allV_take hk hJ.2 hv⟩)
        case BM3 => (try dsimp only); omega
        case SS3 => repeat (first | exact trivial | refine ⟨by rfl, ?_⟩)
        case HH3 => repeat (first | exact trivial | refine ⟨by rfl, ?_⟩)
    · refine RunsS.callV (fun Ez Hz Az Sz K => valid_fn l[k]) ?_
      conv => whnf
      rw [decide_eq_false hv]
      try dsimp only
      try refine goS_run tab 1000 _ _ _ _ ?_
      conv => whnf
      repeat (first | (refine And.intro (by omega) ?_; (try intro _); conv => whnf) | (refine And.intro ?_ (by omega); (try intro _); conv => whnf) | (refine ⟨_, RemV.nonneg (by omega) (by omega), ?_⟩; conv => whnf))
      refine RunsS.retU (UnwS.ret tab Tryd.func16 rfl fun Ez Hz Az Sz K => ⟨_, rfl, ?_, K.keeps⟩)
      unfold textV
      rw [if_neg fun e => hv (e _ (List.getElem_mem hk))]; rfl
  · have hk : k = l.length := by omega
    have hall := hJ.2
    rw [hk, List.take_length] at hall
    conv => whnf
    repeat (first | (refine And.intro (by omega) ?_; (try intro _); conv => whnf) | (refine And.intro ?_ (by omega); (try intro _); conv => whnf) | (refine ⟨_, RemV.nonneg (by omega) (by omega), ?_⟩; conv => whnf))
    rw [hk, List.take_length]
    have hj : (Lib.join ((l.map txT).map (·.data.toList)) (⟨#[32]⟩ : ByteArray).data.toList) = Lib.join (l.map fun t => bs (txT t)) [32] := by rw [List.map_map]; rfl
    have hsz := joinB_size hall
    have hsz' : (Lib.join (l.map fun t => bs (txT t)) [32]).length ≤ 33 * l.length := by
      rw [← List.size_toArray]; exact hsz
    refine RunsS.callV (fun Ez Hz Az Sz K => Join_fn (l.map txT) ⟨#[32]⟩ (Sz.ok (1, _) (lookH_mem rfl)).2.1 (by rw [List.length_map]; omega) (by rw [hj]; omega)) ?_
    conv => whnf
    try refine goS_run tab 1000 _ _ _ _ ?_
    conv => whnf
    repeat (first | (refine And.intro (by omega) ?_; (try intro _); conv => whnf) | (refine And.intro ?_ (by omega); (try intro _); conv => whnf) | (refine ⟨_, RemV.nonneg (by omega) (by omega), ?_⟩; conv => whnf))
    refine RunsS.retU (UnwS.ret tab Tryd.func16 rfl fun Ez Hz Az Sz K => ⟨_, rfl, ?_, K.keeps⟩)
    unfold textV
    rw [if_pos hall, hj]; rfl

theorem dec_split (u : Nat) : Lib.decDigits u = (if u < 10 then [] else Lib.decDigits (u / 10)) ++ [UInt8.ofNat (48 + u % 10)] := by
  rw [Lib.decDigits]
  split
  · rw [Nat.mod_eq_of_lt (by assumption)]; rfl
  · rfl
theorem strI_dig (m : Nat) : strI [(48 + (m : Int) % 10) % 256] = ⟨#[UInt8.ofNat (48 + m % 10)]⟩ := by
  unfold strI
  rw [show (48 + (m : Int) % 10) % 256 = ((48 + m % 10 : Nat) : Int) by omega]
  rfl
theorem rDecimal_fn {h : Array Obj} (n : Nat) (hn : n ≤ 1099511627776) : FnV Tryd.prog 40 #[.int .i64 n] h fun r h' => r = .string ⟨(Lib.decDigits n).toArray⟩ ∧ Keeps h.size h h' := by
  have h13 : (Lib.decDigits n).length ≤ 13 := by
    rw [Lib.decDigits_length]
    exact nDigits_le 12 n (by omega)
  refine Fn.ofS (args := [.int .i64 n]) Tryd.func40 (by kernel_rfl) rfl Tryd.ntmps40 rfl fun w0 cs => ?_
  conv => whnf
  refine goS_run tab 1000 _ _ _ _ ?_
  conv => whnf
  repeat (first | (refine And.intro (by omega) ?_; (try intro _); conv => whnf) | (refine And.intro ?_ (by omega); (try intro _); conv => whnf) | (refine ⟨_, RemV.nonneg (by omega) (by omega), ?_⟩; conv => whnf))
  refine ⟨[(48 + (n : Int) % 10) % 256], by rfl, ?_⟩
  conv => whnf
  repeat (first | (refine And.intro (by omega) ?_; (try intro _); conv => whnf) | (refine And.intro ?_ (by omega); (try intro _); conv => whnf) | (refine ⟨_, RemV.nonneg (by omega) (by omega), ?_⟩; conv => whnf))
  rw [strI_dig]
  refine RunsS.subR [] (RunsS.loop (fun (⟨m, s⟩ : Nat × ByteArray) => [(3, .v (.string s)), (0, .v (.int .i64 m))]) (fun (⟨m, s⟩ : Nat × ByteArray) => []) 0 (fun (⟨m, s⟩ : Nat × ByteArray) => m ≤ n ∧ Lib.decDigits n = (if m < 10 then [] else Lib.decDigits (m / 10)) ++ bs s) (fun (⟨m, s⟩ : Nat × ByteArray) => m) ?round4 ((n, ⟨#[UInt8.ofNat (48 + n % 10)]⟩)) ?J04) ?SS4 ?HH4
  case J04 => exact (⟨Nat.le_refl _, dec_split n⟩)
  case SS4 => repeat (first | exact trivial | refine ⟨by rfl, ?_⟩)
  case HH4 => repeat (first | exact trivial | refine ⟨by rfl, ?_⟩)
  rintro ⟨m, s⟩ hJ back
  try dsimp only at hJ back
  conv => whnf
  try dsimp only
  refine goS_run tab 1000 _ _ _ _ ?_
  conv => whnf
  repeat (first | (refine And.intro (by omega) ?_; (try intro _); conv => whnf) | (refine And.intro ?_ (by omega); (try intro _); conv => whnf) | (refine ⟨_, RemV.nonneg (by omega) (by omega), ?_⟩; conv => whnf))
  refine ⟨fun hk => ?_, fun hk => ?_⟩ <;> conv => whnf
  · have hm : ¬ m < 10 := by omega
    have hs := hJ.2
    rw [if_neg hm] at hs
    have hsz : s.size ≤ 13 := by
      have := congrArg List.length hs
      rw [List.length_append, bs_len] at this
      omega
    conv => whnf
    repeat (first | (refine And.intro (by omega) ?_; (try intro _); conv => whnf) | (refine And.intro ?_ (by omega); (try intro _); conv => whnf) | (refine ⟨_, RemV.nonneg (by omega) (by omega), ?_⟩; conv => whnf))
    rw [show (m : Int) / 10 = ((m / 10 : Nat) : Int) by omega]
    have h1 : (strI [(48 + ((m / 10 : Nat) : Int) % 10) % 256]).size = 1 := rfl
    refine ⟨[(48 + ((m / 10 : Nat) : Int) % 10) % 256], by rfl, ?_⟩
    conv => whnf
    repeat (first | (refine And.intro (by omega) ?_; (try intro _); conv => whnf) | (refine And.intro ?_ (by omega); (try intro _); conv => whnf) | (refine ⟨_, RemV.nonneg (by omega) (by omega), ?_⟩; conv => whnf))
    rw [strI_dig]
    refine RunsS.subR [] (back ((m / 10, ⟨#[UInt8.ofNat (48 + m / 10 % 10)]⟩ ++ s)) ?BJ5 ?BM5) ?SS5 ?HH5
    case BJ5 => exact (⟨by dsimp only; omega, by dsimp only; rw [hs, dec_split (m / 10), List.append_assoc]; simp [bs]⟩)
    case BM5 => exact (by dsimp only; omega)
    case SS5 => repeat (first | exact trivial | refine ⟨by rfl, ?_⟩)
    case HH5 => repeat (first | exact trivial | refine ⟨by rfl, ?_⟩)
  · conv => whnf
    repeat (first | (refine And.intro (by omega) ?_; (try intro _); conv => whnf) | (refine And.intro ?_ (by omega); (try intro _); conv => whnf) | (refine ⟨_, RemV.nonneg (by omega) (by omega), ?_⟩; conv => whnf))
    refine RunsS.retU (UnwS.ret tab Tryd.func40 rfl fun Ez Hz Az Sz K => ⟨_, rfl, ?_, K.keeps⟩)
    have hs := hJ.2
    rw [if_pos (by omega)] at hs
    rw [hs]
    exact congrArg Value.string (toArray_ext s).symm
theorem joinB_next {l : List Tok} {k : Nat} (hk : k < l.length) (h0 : 0 < k) : joinB (l.take (k + 1)) = joinB (l.take k) ++ ⟨#[32]⟩ ++ txT l[k] := by
  rw [List.take_succ_eq_append_getElem hk, joinB_snoc, if_neg (by
    intro e
    have := congrArg List.length e
    rw [List.length_take] at this
    simp only [List.length_nil] at this
    omega)]
theorem joinB_first {l : List Tok} (hk : 0 < l.length) : joinB (l.take 1) = txT l[0] := by
  rw [List.take_succ_eq_append_getElem hk, joinB_snoc, List.take_zero, if_pos rfl]
theorem rText_fn {h : Array Obj} (l : List Tok) (h200 : l.length ≤ 65536) {v : Value} (hv : Ro h v 4 (rowsT l)) : FnV Tryd.prog 17 #[v] h fun r h' => r = textV l ∧ Keeps h.size h h' := by
  have hl := rowsT_len l
  have hm := hv.len
  refine Fn.ofG (envL [v]) 1 [.buf 0] [(0, .ro (4) (rowsT l))] (fun k => k < _) Tryd.func17 (by kernel_rfl) rfl Tryd.ntmps17 rfl (fun _ hk => hk) (Sat.ros (vs := [v]) (l := [(4, rowsT l)]) ⟨hv, trivial⟩) fun w0 cs => ?_
  conv => whnf
  refine goS_run tab 1000 _ _ _ _ ?_
  conv => whnf
  repeat (first | (refine And.intro (by omega) ?_; (try intro _); conv => whnf) | (refine And.intro ?_ (by omega); (try intro _); conv => whnf) | (refine ⟨_, RemV.nonneg (by omega) (by omega), ?_⟩; conv => whnf))
  refine RunsS.subR [] (RunsS.loop (fun (k : Nat) => [(5, .v (.int .i64 k)), (4, .v (.string (joinB (l.take k)))), (0, .buf 0)]) (fun (k : Nat) => [(0, .ro 4 (rowsT l))]) 1 (fun (k : Nat) => k ≤ l.length ∧ AllV (l.take k)) (fun (k : Nat) => l.length - k) ?round6 (0) ?J06) ?SS6 ?HH6
  case J06 => exact (⟨Nat.zero_le _, fun _ h => (by cases h)⟩)
  case SS6 => repeat (first | exact trivial | refine ⟨by rfl, ?_⟩)
  case HH6 => repeat (first | exact trivial | refine ⟨by rfl, ?_⟩)
  rintro k hJ back
  try dsimp only at hJ back
  conv => whnf
  try dsimp only
  refine goS_run tab 1000 _ _ _ _ ?_
  conv => whnf
  repeat (first | (refine And.intro (by omega) ?_; (try intro _); conv => whnf) | (refine And.intro ?_ (by omega); (try intro _); conv => whnf) | (refine ⟨_, RemV.nonneg (by omega) (by omega), ?_⟩; conv => whnf))
  have hsz := joinB_size hJ.2
  rw [List.length_take] at hsz
  refine ⟨fun hk => ?_, fun hk => ?_⟩ <;> conv => whnf
  · have hk : k < l.length := by omega
    conv => whnf
    repeat (first | (refine And.intro (by omega) ?_; (try intro _); conv => whnf) | (refine And.intro ?_ (by omega); (try intro _); conv => whnf) | (refine ⟨_, RemV.nonneg (by omega) (by omega), ?_⟩; conv => whnf))
    refine ⟨_, rowsT_get hk, ?_⟩
    conv => whnf
    try (refine And.intro (by first | omega | exact Nat.le_of_ble_eq_true rfl) ?_; conv => whnf)
    repeat (first | (refine And.intro (by omega) ?_; (try intro _); conv => whnf) | (refine And.intro ?_ (by omega); (try intro _); conv => whnf) | (refine ⟨_, RemV.nonneg (by omega) (by omega), ?_⟩; conv => whnf))
    by_cases hv : ValidP l[k]
    · refine RunsS.callV (fun Ez Hz Az Sz K => rValid_fn l[k]) ?_
      conv => whnf
      rw [decide_eq_true hv]
      try dsimp only
      try refine goS_run tab 1000 _ _ _ _ ?_
      conv => whnf
      repeat (first | (refine And.intro (by omega) ?_; (try intro _); conv => whnf) | (refine And.intro ?_ (by omega); (try intro _); conv => whnf) | (refine ⟨_, RemV.nonneg (by omega) (by omega), ?_⟩; conv => whnf))
      have hall := allV_take hk hJ.2 hv
      have htx := txT_size hv
      have s1 : (⟨#[32]⟩ : ByteArray).size = 1 := rfl
      refine ⟨fun h0 => ?_, fun h0 => ?_⟩ <;> conv => whnf
      · have h0 : 0 < k := by omega
        have hn := joinB_next hk h0
        have hs2 : (joinB (l.take k) ++ ⟨#[32]⟩).size = (joinB (l.take k)).size + 1 := ByteArray.size_append
        conv => whnf
        repeat (first | (refine And.intro (by omega) ?_; (try intro _); conv => whnf) | (refine And.intro ?_ (by omega); (try intro _); conv => whnf) | (refine ⟨_, RemV.nonneg (by omega) (by omega), ?_⟩; conv => whnf))
        refine ⟨_, rowsT_get hk, ?_⟩
        conv => whnf
        try (refine And.intro (by first | omega | exact Nat.le_of_ble_eq_true rfl) ?_; conv => whnf)
        repeat (first | (refine And.intro (by omega) ?_; (try intro _); conv => whnf) | (refine And.intro ?_ (by omega); (try intro _); conv => whnf) | (refine ⟨_, RemV.nonneg (by omega) (by omega), ?_⟩; conv => whnf))
        refine ⟨fun h2 => ?_, fun h2 => ?_⟩ <;> conv => whnf
        · have hx : txT l[k] = ⟨(Lib.itoa l[k].n).toArray⟩ := if_pos h2
          have hn2 : 0 ≤ l[k].n ∧ l[k].n ≤ 1099511627776 := by
            rcases hv with e | e | e
            · have := e.1; omega
            · exact e.2.2
            · have := e.1; omega
          obtain ⟨m, hmn⟩ : ∃ m : Nat, l[k].n = m := ⟨l[k].n.toNat, by omega⟩
          have hd : (⟨(Lib.decDigits m).toArray⟩ : ByteArray) = txT l[k] := by
            rw [hx, hmn, itoa_nat (by omega)]; rfl
          conv => whnf
          repeat (first | (refine And.intro (by omega) ?_; (try intro _); conv => whnf) | (refine And.intro ?_ (by omega); (try intro _); conv => whnf) | (refine ⟨_, RemV.nonneg (by omega) (by omega), ?_⟩; conv => whnf))
          refine ⟨_, rowsT_get hk, ?_⟩
          conv => whnf
          try (refine And.intro (by first | omega | exact Nat.le_of_ble_eq_true rfl) ?_; conv => whnf)
          repeat (first | (refine And.intro (by omega) ?_; (try intro _); conv => whnf) | (refine And.intro ?_ (by omega); (try intro _); conv => whnf) | (refine ⟨_, RemV.nonneg (by omega) (by omega), ?_⟩; conv => whnf))
          rw [hmn]
          refine RunsS.callV (fun Ez Hz Az Sz K => rDecimal_fn m (by omega)) ?_
          conv => whnf
          rw [hd]
          try dsimp only
          try refine goS_run tab 1000 _ _ _ _ ?_
          conv => whnf
          repeat (first | (refine And.intro (by omega) ?_; (try intro _); conv => whnf) | (refine And.intro ?_ (by omega); (try intro _); conv => whnf) | (refine ⟨_, RemV.nonneg (by omega) (by omega), ?_⟩; conv => whnf))
          rw [← hn]
          refine RunsS.subR [] (back (k + 1) ?BJ7 ?BM7) ?SS7 ?HH7
          case BJ7 => exact (⟨hk, hall⟩)
          case BM7 => (try dsimp only); omega
          case SS7 => repeat (first | exact trivial | refine ⟨by rfl, ?_⟩)
          case HH7 => repeat (first | exact trivial | refine ⟨by rfl, ?_⟩)
        · have hx : txT l[k] = l[k].text := if_neg h2
          rw [hx] at htx hn
          conv => whnf
          repeat (first | (refine And.intro (by omega) ?_; (try intro _); conv => whnf) | (refine And.intro ?_ (by omega); (try intro _); conv => whnf) | (refine ⟨_, RemV.nonneg (by omega) (by omega), ?_⟩; conv => whnf))
          refine ⟨_, rowsT_get hk, ?_⟩
          conv => whnf
          try (refine And.intro (by first | omega | exact Nat.le_of_ble_eq_true rfl) ?_; conv => whnf)
          repeat (first | (refine And.intro (by omega) ?_; (try intro _); conv => whnf) | (refine And.intro ?_ (by omega); (try intro _); conv => whnf) | (refine ⟨_, RemV.nonneg (by omega) (by omega), ?_⟩; conv => whnf))
          rw [← hn]
          refine RunsS.subR [] (back (k + 1) ?BJ8 ?BM8) ?SS8 ?HH8
          case BJ8 => exact (⟨hk, hall⟩)
          case BM8 => (try dsimp only); omega
          case SS8 => repeat (first | exact trivial | refine ⟨by rfl, ?_⟩)
          case HH8 => repeat (first | exact trivial | refine ⟨by rfl, ?_⟩)
      · have hn : joinB (l.take k) ++ txT l[k] = joinB (l.take (k + 1)) := by
          have h0 : k = 0 := by omega
          subst h0
          rw [joinB_first hk]
          exact ByteArray.ext (by simp [joinB, Lib.join_nil])
        conv => whnf
        repeat (first | (refine And.intro (by omega) ?_; (try intro _); conv => whnf) | (refine And.intro ?_ (by omega); (try intro _); conv => whnf) | (refine ⟨_, RemV.nonneg (by omega) (by omega), ?_⟩; conv => whnf))
        refine ⟨_, rowsT_get hk, ?_⟩
        conv => whnf
        try (refine And.intro (by first | omega | exact Nat.le_of_ble_eq_true rfl) ?_; conv => whnf)
        repeat (first | (refine And.intro (by omega) ?_; (try intro _); conv => whnf) | (refine And.intro ?_ (by omega); (try intro _); conv => whnf) | (refine ⟨_, RemV.nonneg (by omega) (by omega), ?_⟩; conv => whnf))
        refine ⟨fun h2 => ?_, fun h2 => ?_⟩ <;> conv => whnf
        · have hx : txT l[k] = ⟨(Lib.itoa l[k].n).toArray⟩ := if_pos h2
          have hn2 : 0 ≤ l[k].n ∧ l[k].n ≤ 1099511627776 := by
            rcases hv with e | e | e
            · have := e.1; omega
            · exact e.2.2
            · have := e.1; omega
          obtain ⟨m, hmn⟩ : ∃ m : Nat, l[k].n = m := ⟨l[k].n.toNat, by omega⟩
          have hd : (⟨(Lib.decDigits m).toArray⟩ : ByteArray) = txT l[k] := by
            rw [hx, hmn, itoa_nat (by omega)]; rfl
          conv => whnf
          repeat (first | (refine And.intro (by omega) ?_; (try intro _); conv => whnf) | (refine And.intro ?_ (by omega); (try intro _); conv => whnf) | (refine ⟨_, RemV.nonneg (by omega) (by omega), ?_⟩; conv => whnf))
          refine ⟨_, rowsT_get hk, ?_⟩
          conv => whnf
          try (refine And.intro (by first | omega | exact Nat.le_of_ble_eq_true rfl) ?_; conv => whnf)
          repeat (first | (refine And.intro (by omega) ?_; (try intro _); conv => whnf) | (refine And.intro ?_ (by omega); (try intro _); conv => whnf) | (refine ⟨_, RemV.nonneg (by omega) (by omega), ?_⟩; conv => whnf))
          rw [hmn]
          refine RunsS.callV (fun Ez Hz Az Sz K => rDecimal_fn m (by omega)) ?_
          conv => whnf
          rw [hd]
          try dsimp only
          try refine goS_run tab 1000 _ _ _ _ ?_
          conv => whnf
          repeat (first | (refine And.intro (by omega) ?_; (try intro _); conv => whnf) | (refine And.intro ?_ (by omega); (try intro _); conv => whnf) | (refine ⟨_, RemV.nonneg (by omega) (by omega), ?_⟩; conv => whnf))
          rw [hn]
          refine RunsS.subR [] (back (k + 1) ?BJ9 ?BM9) ?SS9 ?HH9
          case BJ9 => exact (⟨hk, hall⟩)
          case BM9 => (try dsimp only); omega
          case SS9 => repeat (first | exact trivial | refine ⟨by rfl, ?_⟩)
          case HH9 => repeat (first | exact trivial | refine ⟨by rfl, ?_⟩)
        · have hx : txT l[k] = l[k].text := if_neg h2
          rw [hx] at htx hn
          conv => whnf
          repeat (first | (refine And.intro (by omega) ?_; (try intro _); conv => whnf) | (refine And.intro ?_ (by omega); (try intro _); conv => whnf) | (refine ⟨_, RemV.nonneg (by omega) (by omega), ?_⟩; conv => whnf))
          refine ⟨_, rowsT_get hk, ?_⟩
          conv => whnf
          try (refine And.intro (by first | omega | exact Nat.le_of_ble_eq_true rfl) ?_; conv => whnf)
          repeat (first | (refine And.intro (by omega) ?_; (try intro _); conv => whnf) | (refine And.intro ?_ (by omega); (try intro _); conv => whnf) | (refine ⟨_, RemV.nonneg (by omega) (by omega), ?_⟩; conv => whnf))
          rw [hn]
          refine RunsS.subR [] (back (k + 1) ?BJ10 ?BM10) ?SS10 ?HH10
          case BJ10 => exact (⟨hk, hall⟩)
          case BM10 => (try dsimp only); omega
          case SS10 => repeat (first | exact trivial | refine ⟨by rfl, ?_⟩)
          case HH10 => repeat (first | exact trivial | refine ⟨by rfl, ?_⟩)
    · refine RunsS.callV (fun Ez Hz Az Sz K => rValid_fn l[k]) ?_
      conv => whnf
      rw [decide_eq_false hv]
      try dsimp only
      try refine goS_run tab 1000 _ _ _ _ ?_
      conv => whnf
      repeat (first | (refine And.intro (by omega) ?_; (try intro _); conv => whnf) | (refine And.intro ?_ (by omega); (try intro _); conv => whnf) | (refine ⟨_, RemV.nonneg (by omega) (by omega), ?_⟩; conv => whnf))
      refine RunsS.retU (UnwS.ret tab Tryd.func17 rfl fun Ez Hz Az Sz K => ⟨_, rfl, ?_, K.keeps⟩)
      unfold textV
      rw [if_neg fun e => hv (e _ (List.getElem_mem hk))]; rfl
  · have hk : k = l.length := by omega
    have hall := hJ.2
    rw [hk, List.take_length] at hall
    conv => whnf
    repeat (first | (refine And.intro (by omega) ?_; (try intro _); conv => whnf) | (refine And.intro ?_ (by omega); (try intro _); conv => whnf) | (refine ⟨_, RemV.nonneg (by omega) (by omega), ?_⟩; conv => whnf))
    refine RunsS.retU (UnwS.ret tab Tryd.func17 rfl fun Ez Hz Az Sz K => ⟨_, rfl, ?_, K.keeps⟩)
    rw [hk, List.take_length]
    unfold textV
    rw [if_pos hall]; rfl
end Go.Proofs.YtlminkahdlcikaaDoor

namespace Go.Proofs.YtlminkahdlcikaaDoor
open Go Go.Fw
set_option maxRecDepth 100000
set_option maxHeartbeats 64000000

theorem lexA_eq (src : ByteArray) : lexA src = match lexS (bs src) 0 with
    | .inl l => .inl (toksP l)
    | .inr q => .inr q := by
  unfold lexA
  rw [lexG_eq src 0 (Nat.zero_le _), List.drop_zero]
  cases lexS (bs src) 0 <;> simp
theorem lexO_ok {src : ByteArray} {l : List (Nat × Tk)} (h : lexS (bs src) 0 = .inl l) : lexO src = .ret (.tup [.buf 0, .v (.int .i64 0), .v (.int .i64 0)]) 1 [toksB (toksP l) 0] := by
  unfold lexO
  rw [lexA_eq, h]
theorem lexO_err {src : ByteArray} {q : Nat} (h : lexS (bs src) 0 = .inr q) : lexO src = .ret (.tup [.v (.slice none 0 0), .v (.int .i64 q), .v (.int .i64 50)]) 0 [] := by
  unfold lexO
  rw [lexA_eq, h]
theorem lexOk_fn {src : ByteArray} (hs : src.size ≤ 65536) {l : List (Nat × Tk)} (h : lexS (bs src) 0 = .inl l) : FnS Tryd.prog 12 0 [.v (.string src)] [] (fun _ : Unit => True) (fun _ => .ret (.tup [.buf 0, .v (.int .i64 0), .v (.int .i64 0)]) 1 [toksB (toksP l) 0]) := by
  have := lex_fn src hs
  rwa [lexO_ok h] at this
theorem lexErr_fn {src : ByteArray} (hs : src.size ≤ 65536) {q : Nat} (h : lexS (bs src) 0 = .inr q) : FnS Tryd.prog 12 0 [.v (.string src)] [] (fun _ : Unit => True) (fun _ => .ret (.tup [.v (.slice none 0 0), .v (.int .i64 q), .v (.int .i64 50)]) 0 []) := by
  have := lex_fn src hs
  rwa [lexO_err h] at this
theorem rlexOk_fn {src : ByteArray} (hs : src.size ≤ 65536) {l : List (Nat × Tk)} (h : lexS (bs src) 0 = .inl l) : FnS Tryd.prog 13 0 [.v (.string src)] [] (fun _ : Unit => True) (fun _ => .ret (.tup [.buf 0, .v (.int .i64 0), .v (.int .i64 0)]) 1 [toksB (toksP l) 0]) := by
  have := rlex_fn src hs
  rwa [lexO_ok h] at this
theorem rlexErr_fn {src : ByteArray} (hs : src.size ≤ 65536) {q : Nat} (h : lexS (bs src) 0 = .inr q) : FnS Tryd.prog 13 0 [.v (.string src)] [] (fun _ : Unit => True) (fun _ => .ret (.tup [.v (.slice none 0 0), .v (.int .i64 q), .v (.int .i64 50)]) 0 []) := by
  have := rlex_fn src hs
  rwa [lexO_err h] at this

theorem sane_fn {h : Array Obj} (hT : PowH h) : FnV Tryd.prog 11 #[] h fun r h' => r = .bool true ∧ Keeps h.size h h' := by
  have x1 : lexS (bs ⟨#[101, 97, 114, 110, 32, 51, 48, 59]⟩) 0 = .inl [(0, .name [101, 97, 114, 110]), (5, .num 30), (7, .sign 59)] := by kernel_rfl
  have x2 : lexS (bs ⟨#[48, 48, 55]⟩) 0 = .inr 0 := by kernel_rfl
  have x3 : lexS (bs ⟨#[49, 48, 57, 57, 53, 49, 49, 54, 50, 55, 55, 55, 54]⟩) 0 = .inl [(0, .num 1099511627776)] := by kernel_rfl
  have x4 : lexS (bs ⟨#[97, 32, 47, 47, 32, 98]⟩) 0 = .inl [(0, .name [97])] := by kernel_rfl
  have x5 : lexS (bs ⟨#[97, 32, 36]⟩) 0 = .inr 2 := by kernel_rfl
  have x6 : lexS (bs ⟨#[97, 61, 49]⟩) 0 = .inl [(0, .name [97]), (1, .sign 61), (2, .num 1)] := by kernel_rfl
  have x7 : lexS (bs ⟨#[]⟩) 0 = .inl [] := rfl
  refine Fn.ofS (args := []) Tryd.func11 (by kernel_rfl) rfl Tryd.ntmps11 rfl fun w0 cs => ?_
  conv => whnf
  refine goS_run tab 1000 _ _ _ _ ?_
  conv => whnf
  repeat (first | (refine And.intro (by omega) ?_; (try intro _); conv => whnf) | (refine And.intro ?_ (by omega); (try intro _); conv => whnf) | (refine ⟨_, RemV.nonneg (by omega) (by omega), ?_⟩; conv => whnf))
  refine RunsS.callN (lexOk_fn (by decide) x1) [] ?CNr1 (by repeat (first | exact trivial | refine ⟨by rfl, ?_⟩)) ?CNa1
  case CNa1 => rfl
  intro _ _
  conv => whnf
  try refine goS_run tab 1000 _ _ _ _ ?_
  conv => whnf
  repeat (first | (refine And.intro (by omega) ?_; (try intro _); conv => whnf) | (refine And.intro ?_ (by omega); (try intro _); conv => whnf) | (refine ⟨_, RemV.nonneg (by omega) (by omega), ?_⟩; conv => whnf))
  refine RunsS.callN (lexErr_fn (by decide) x2) [] ?CNr2 (by repeat (first | exact trivial | refine ⟨by rfl, ?_⟩)) ?CNa2
  case CNa2 => rfl
  intro _ _
  conv => whnf
  try refine goS_run tab 1000 _ _ _ _ ?_
  conv => whnf
  repeat (first | (refine And.intro (by omega) ?_; (try intro _); conv => whnf) | (refine And.intro ?_ (by omega); (try intro _); conv => whnf) | (refine ⟨_, RemV.nonneg (by omega) (by omega), ?_⟩; conv => whnf))
  refine RunsS.callN (lexOk_fn (by decide) x3) [] ?CNr3 (by repeat (first | exact trivial | refine ⟨by rfl, ?_⟩)) ?CNa3
  case CNa3 => rfl
  intro _ _
  conv => whnf
  try refine goS_run tab 1000 _ _ _ _ ?_
  conv => whnf
  repeat (first | (refine And.intro (by omega) ?_; (try intro _); conv => whnf) | (refine And.intro ?_ (by omega); (try intro _); conv => whnf) | (refine ⟨_, RemV.nonneg (by omega) (by omega), ?_⟩; conv => whnf))
  refine RunsS.callN (lexOk_fn (by decide) x4) [] ?CNr4 (by repeat (first | exact trivial | refine ⟨by rfl, ?_⟩)) ?CNa4
  case CNa4 => rfl
  intro _ _
  conv => whnf
  try refine goS_run tab 1000 _ _ _ _ ?_
  conv => whnf
  repeat (first | (refine And.intro (by omega) ?_; (try intro _); conv => whnf) | (refine And.intro ?_ (by omega); (try intro _); conv => whnf) | (refine ⟨_, RemV.nonneg (by omega) (by omega), ?_⟩; conv => whnf))
  refine RunsS.callN (lexErr_fn (by decide) x5) [] ?CNr5 (by repeat (first | exact trivial | refine ⟨by rfl, ?_⟩)) ?CNa5
  case CNa5 => rfl
  intro _ _
  conv => whnf
  try refine goS_run tab 1000 _ _ _ _ ?_
  conv => whnf
  repeat (first | (refine And.intro (by omega) ?_; (try intro _); conv => whnf) | (refine And.intro ?_ (by omega); (try intro _); conv => whnf) | (refine ⟨_, RemV.nonneg (by omega) (by omega), ?_⟩; conv => whnf))
  refine RunsS.callN (lexOk_fn (by decide) x6) [] ?CNr6 (by repeat (first | exact trivial | refine ⟨by rfl, ?_⟩)) ?CNa6
  case CNa6 => rfl
  intro _ _
  conv => whnf
  try refine goS_run tab 1000 _ _ _ _ ?_
  conv => whnf
  repeat (first | (refine And.intro (by omega) ?_; (try intro _); conv => whnf) | (refine And.intro ?_ (by omega); (try intro _); conv => whnf) | (refine ⟨_, RemV.nonneg (by omega) (by omega), ?_⟩; conv => whnf))
  have hw : textV (toksP [(0, .name [97]), (1, .sign 61), (2, .num 1)]) = .tuple #[.string ⟨#[97, 32, 61, 32, 49]⟩, .int .i64 0] := by
    have h1 : Lib.itoa 1 = [49] := by rw [itoa_nat (by decide)]; exact Lib.decDigits_one (by decide)
    unfold textV
    rw [if_pos (by decide)]
    simp [toksP, Tk.tok, joinB, txT, h1, Lib.join, List.intercalate, List.intersperse, bs]
  have hn : textV [⟨0, 0, ⟨#[]⟩, 0⟩] = .tuple #[.string ⟨#[]⟩, .int .i64 50] := by
    unfold textV
    rw [if_neg (by decide)]
  refine RunsS.subR (nx' := 5) (l' := [(62, .buf 4), (1, .buf 0), (2, .v (.int .i64 0)), (3, .v (.int .i64 0)), (4, .buf 1), (6, .v (.int .i64 0)), (7, .v (.int .i64 50)), (8, .buf 2), (10, .v (.int .i64 0)), (11, .buf 3), (13, .v (.int .i64 0)), (15, .v (.int .i64 2)), (16, .v (.int .i64 50)), (17, .buf 4), (19, .v (.int .i64 0))])
    (H' := [toksB (toksP [(0, .name [101, 97, 114, 110]), (5, .num 30), (7, .sign 59)]) 0, toksB (toksP [(0, .name [101, 97, 114, 110]), (5, .num 30), (7, .sign 59)]) 1, toksB (toksP [(0, .num 1099511627776)]) 2, toksB (toksP [(0, .name [97])]) 3, toksB (toksP [(0, .name [97]), (1, .sign 61), (2, .num 1)]) 4]) [] ?_ (by repeat (first | exact trivial | refine ⟨by rfl, ?_⟩)) (by repeat (first | exact trivial | refine ⟨by rfl, ?_⟩))
  refine RunsS.callV (fun Ez Hz Az Sz K => Text_fn (toksP [(0, .name [97]), (1, .sign 61), (2, .num 1)]) (by decide) (Sz.ro (b := 4) rfl) (hT.keeps ⟨K.size, K.same⟩)) ?_
  conv => whnf
  rw [hw]
  try dsimp only
  try refine goS_run tab 1000 _ _ _ _ ?_
  conv => whnf
  repeat (first | (refine And.intro (by omega) ?_; (try intro _); conv => whnf) | (refine And.intro ?_ (by omega); (try intro _); conv => whnf) | (refine ⟨_, RemV.nonneg (by omega) (by omega), ?_⟩; conv => whnf))
  refine RunsS.callN (lexOk_fn (by decide) x7) [] ?CNr7 (by repeat (first | exact trivial | refine ⟨by rfl, ?_⟩)) ?CNa7
  case CNa7 => rfl
  intro _ _
  conv => whnf
  try refine goS_run tab 1000 _ _ _ _ ?_
  conv => whnf
  repeat (first | (refine And.intro (by omega) ?_; (try intro _); conv => whnf) | (refine And.intro ?_ (by omega); (try intro _); conv => whnf) | (refine ⟨_, RemV.nonneg (by omega) (by omega), ?_⟩; conv => whnf))
  refine RunsS.callV (fun Ez Hz Az Sz K => Text_fn [⟨0, 0, ⟨#[]⟩, 0⟩] (by decide) (Sz.ro (b := 6) rfl) (hT.keeps ⟨K.size, K.same⟩)) ?_
  conv => whnf
  rw [hn]
  try dsimp only
  try refine goS_run tab 1000 _ _ _ _ ?_
  conv => whnf
  repeat (first | (refine And.intro (by omega) ?_; (try intro _); conv => whnf) | (refine And.intro ?_ (by omega); (try intro _); conv => whnf) | (refine ⟨_, RemV.nonneg (by omega) (by omega), ?_⟩; conv => whnf))
  refine And.intro (fun _ => ?_) (fun hn => absurd (rfl) hn)
  conv => whnf
  refine RunsS.callV (fun Ez Hz Az Sz K => rEqual_fn (toksP [(0, .name [101, 97, 114, 110]), (5, .num 30), (7, .sign 59)]) (toksP [(0, .name [101, 97, 114, 110]), (5, .num 30), (7, .sign 59)]) (Sz.ro (b := 0) rfl) (Sz.ro (b := 1) rfl)) ?_
  conv => whnf
  rw [decide_eq_true (⟨rfl, rfl⟩ : EqualP (toksP [(0, .name [101, 97, 114, 110]), (5, .num 30), (7, .sign 59)]) (toksP [(0, .name [101, 97, 114, 110]), (5, .num 30), (7, .sign 59)]))]
  try dsimp only
  try refine goS_run tab 1000 _ _ _ _ ?_
  conv => whnf
  repeat (first | (refine And.intro (by omega) ?_; (try intro _); conv => whnf) | (refine And.intro ?_ (by omega); (try intro _); conv => whnf) | (refine ⟨_, RemV.nonneg (by omega) (by omega), ?_⟩; conv => whnf))
  refine And.intro (fun _ => ?_) (fun hn => absurd (rfl) hn)
  conv => whnf
  refine And.intro (⟨by decide, by decide⟩) ?_
  conv => whnf
  refine ⟨_, rfl, ?_⟩
  conv => whnf
  try (refine And.intro (by first | omega | exact Nat.le_of_ble_eq_true rfl) ?_; conv => whnf)
  repeat (first | (refine And.intro (by omega) ?_; (try intro _); conv => whnf) | (refine And.intro ?_ (by omega); (try intro _); conv => whnf) | (refine ⟨_, RemV.nonneg (by omega) (by omega), ?_⟩; conv => whnf))
  refine And.intro (fun _ => ?_) (fun hn => absurd (rfl) hn)
  conv => whnf
  refine And.intro (fun _ => ?_) (fun hn => absurd (rfl) hn)
  conv => whnf
  refine And.intro (⟨by decide, by decide⟩) ?_
  conv => whnf
  refine ⟨_, rfl, ?_⟩
  conv => whnf
  try (refine And.intro (by first | omega | exact Nat.le_of_ble_eq_true rfl) ?_; conv => whnf)
  repeat (first | (refine And.intro (by omega) ?_; (try intro _); conv => whnf) | (refine And.intro ?_ (by omega); (try intro _); conv => whnf) | (refine ⟨_, RemV.nonneg (by omega) (by omega), ?_⟩; conv => whnf))
  refine And.intro (fun _ => ?_) (fun hn => absurd (rfl) hn)
  conv => whnf
  have n1 : NameP ⟨#[66, 95, 49, 50]⟩ := by decide
  have n2 : ¬ NameP ⟨#[95, 49, 50]⟩ := by decide
  have s1 : ¬ SameP (toksP [(0, .name [97])]) (toksP [(0, .name [97]), (1, .sign 61), (2, .num 1)]) := fun e => by have := same_len e; cases this
  have s2 : SameP (toksP [(0, .name [97])]) [⟨1, 9, ⟨#[97]⟩, 0⟩] := rfl
  refine And.intro (fun _ => ?_) (fun hn => absurd (rfl) hn)
  conv => whnf
  refine RunsS.callV (fun Ez Hz Az Sz K => Name_fn ⟨#[66, 95, 49, 50]⟩) ?_
  conv => whnf
  rw [decide_eq_true n1]
  try dsimp only
  try refine goS_run tab 1000 _ _ _ _ ?_
  conv => whnf
  repeat (first | (refine And.intro (by omega) ?_; (try intro _); conv => whnf) | (refine And.intro ?_ (by omega); (try intro _); conv => whnf) | (refine ⟨_, RemV.nonneg (by omega) (by omega), ?_⟩; conv => whnf))
  refine RunsS.callV (fun Ez Hz Az Sz K => Name_fn ⟨#[95, 49, 50]⟩) ?_
  conv => whnf
  rw [decide_eq_false n2]
  try dsimp only
  try refine goS_run tab 1000 _ _ _ _ ?_
  conv => whnf
  repeat (first | (refine And.intro (by omega) ?_; (try intro _); conv => whnf) | (refine And.intro ?_ (by omega); (try intro _); conv => whnf) | (refine ⟨_, RemV.nonneg (by omega) (by omega), ?_⟩; conv => whnf))
  refine RunsS.callV (fun Ez Hz Az Sz K => Same_fn (toksP [(0, .name [97])]) (toksP [(0, .name [97]), (1, .sign 61), (2, .num 1)]) (Sz.ro (b := 3) rfl) (Sz.ro (b := 4) rfl)) ?_
  conv => whnf
  rw [decide_eq_false s1]
  try dsimp only
  try refine goS_run tab 1000 _ _ _ _ ?_
  conv => whnf
  repeat (first | (refine And.intro (by omega) ?_; (try intro _); conv => whnf) | (refine And.intro ?_ (by omega); (try intro _); conv => whnf) | (refine ⟨_, RemV.nonneg (by omega) (by omega), ?_⟩; conv => whnf))
  refine RunsS.callV (fun Ez Hz Az Sz K => Same_fn (toksP [(0, .name [97])]) [⟨1, 9, ⟨#[97]⟩, 0⟩] (Sz.ro (b := 3) rfl) (Sz.ro (b := 7) rfl)) ?_
  conv => whnf
  rw [decide_eq_true s2]
  try dsimp only
  try refine goS_run tab 1000 _ _ _ _ ?_
  conv => whnf
  repeat (first | (refine And.intro (by omega) ?_; (try intro _); conv => whnf) | (refine And.intro ?_ (by omega); (try intro _); conv => whnf) | (refine ⟨_, RemV.nonneg (by omega) (by omega), ?_⟩; conv => whnf))
  refine RunsS.retU (UnwS.ret tab Tryd.func11 rfl fun Ez Hz Az Sz K => ⟨_, rfl, rfl, K.keeps⟩)
end Go.Proofs.YtlminkahdlcikaaDoor

namespace Go.Fw
open Go Go.RowKit Go.WideShapes Go.ChangeShapes
section
variable {H : Type} {enc : TypeId × Value → H} {P : Program}

theorem trodAll_stays (hl : laidOutB P = true) {W W' : World} {sp : Nat → Bool} : ∀ {ts : List TypeId} {vs : List Value} {ds : List (DataW H)} {ps : List MemPlace},
    (∀ t ∈ ts, P.readableRec t = true ∧ t < P.types.size) → DataW.TrodAll enc P W 0 (fun _ => true) true ts vs ds ps → (∀ p ∈ ps, W.sameAt W' p) → (∀ p ∈ ps, sp p.block = true) → DataW.TrodAll enc P W' 0 sp true ts vs ds ps
  | [], vs, ds, ps, _, h, _, _ => by
    obtain ⟨rfl, rfl, rfl⟩ := trodAll_nil h
    exact trodAll_mk0
  | t :: ts, vs, ds, ps, hr, h, hs, hsp => by
    obtain ⟨v, vs', d, ds', p, q, rfl, rfl, rfl, h1, h2⟩ := trodAll_cons h
    have h0 := hr t (List.mem_cons_self ..)
    exact trodAll_cons_mk (WideElems.Trod_stays hl h0.1 h0.2 h1 (fun x hx => hs x (List.mem_append_left _ hx)) (fun x hx => hsp x (List.mem_append_left _ hx)))
      (trodAll_stays hl (fun x hx => hr x (List.mem_cons_of_mem _ hx)) h2 (fun x hx => hs x (List.mem_append_right _ hx)) (fun x hx => hsp x (List.mem_append_right _ hx)))

/-- the types may be read -/
def readTs (P : Program) (ts : List TypeId) : Bool := ts.all fun t => P.readableRec t && decide (t < P.types.size)
theorem readTs_ok {ts : List TypeId} (h : readTs P ts = true) : ∀ t ∈ ts, P.readableRec t = true ∧ t < P.types.size := fun t ht => by
  have := List.all_eq_true.1 h t ht
  simpa using this

/-- a law that answers true and turns nothing below the old end -/
theorem post_true {f : Func} {s : ChangeSpec} {apart fresh handsOn again : Bool} {W W' : World} {args : Array Value} {ds gs : List (DataW H)} {before : List MemPlace} {tb : TypeId}
    (hl : laidOutB P = true) (hr : readTs P f.params.toList = true) (ht : P.underlying tb = some .bool) (hres : f.resultTypes = #[tb])
    (hW : DataW.Whole enc P f.params.toList s.vars apart W args.toList ds gs before) (hv : s.vars = [])
    (hs : ∀ n, ds.length = n → (s.fn H (ds ++ [])).results = [.lit (.bool true)] ∧ (s.fn H (ds ++ [])).args = ds ∧ (s.fn H (ds ++ [])).vars = []) (hb : Below W.heap.size W W') :
    s.post enc P f apart fresh handsOn again W args (.bool true) W' := by
  have hW' := hW
  obtain ⟨p, q, hA, hV, rfl, _, _⟩ := hW
  rw [hv] at hV
  obtain ⟨rfl, rfl⟩ := trodVars_none hV
  obtain ⟨h1, h2, h3⟩ := hs _ rfl
  have hlt : ∀ x ∈ p, x.block < W.heap.size := fun x hx => hW'.lt x (List.mem_append_left _ hx)
  refine post_of_below (pa := p) (pv := []) hW' (fun _ _ _ => ?_) (fun sp hsp => ?_) (fun _ _ => ?_) rfl hb ?_
  · rw [h1, hres]
    exact trodAll_cons_mk (shut_bool ht _) trodAll_mk0
  · rw [h2]
    exact trodAll_stays hl (readTs_ok hr) hA (fun x hx => hb.same (hlt x hx)) (fun x hx => hsp x (by simpa using hx))
  · rw [h3, hv]; rfl
  · exact ok_one hres rfl (okWide_bool_mk ht _)

theorem cellsH_flat {h : Array Obj} {g sz : Nat} : ∀ {rows : List (List Value)} {o : Nat}, (∀ r ∈ rows, r.length = sz) → (∀ i r, rows[i]? = some r → CellsH h g (o + i * sz) r) → CellsH h g o rows.flatten
  | [], o, _, _ => fun j v hv => by simp at hv
  | r :: rs, o, hl, H => fun j v hv => by
    rw [List.flatten_cons] at hv
    have hr := hl r (List.mem_cons_self ..)
    by_cases hj : j < r.length
    · rw [List.getElem?_append_left hj] at hv
      have := H 0 r rfl
      rw [Nat.zero_mul] at this
      exact this j v hv
    · rw [List.getElem?_append_right (by omega)] at hv
      have := cellsH_flat (rows := rs) (o := o + sz) (fun x hx => hl x (List.mem_cons_of_mem _ hx)) (fun i x hx => by
        have := H (i + 1) x hx
        rw [Nat.add_mul, Nat.one_mul] at this
        rw [show o + sz + i * sz = o + (i * sz + sz) by omega]
        exact this) (j - r.length) v hv
      rw [show o + j = o + sz + (j - r.length) by omega]
      exact this

theorem list_lt {α : Type} {p : Nat → α → Prop} : ∀ {n : Nat}, (∀ i, i < n → ∃ a, p i a) → ∃ l : List α, l.length = n ∧ ∀ i (h : i < l.length), p i l[i]
  | 0, _ => ⟨[], rfl, fun _ h => absurd h (Nat.not_lt_zero _)⟩
  | n + 1, H => by
    obtain ⟨l, hl, hp⟩ := list_lt (n := n) (fun i hi => H i (by omega))
    obtain ⟨a, ha⟩ := H n (by omega)
    refine ⟨l ++ [a], by simp [hl], fun i hi => ?_⟩
    by_cases h : i < l.length
    · rw [List.getElem_append_left h]; exact hp i h
    · have : i = n := by simp at hi; omega
      subst this
      rw [List.getElem_append_right (by omega)]
      simpa [hl] using ha

/-- an argument that is a slice, as rows of cells -/
theorem open_rows {α : Type} (f : α → List Value) {sz : Nat} {t e : TypeId} {W : World} {v : Value} {d : DataW H} {ps : List MemPlace} (ht : P.underlying t = some (.slice e)) (hc : P.cellsOf e = sz) (hz : 0 < sz)
    (hf : ∀ a, (f a).length = sz ∧ ∀ u ∈ f a, u.oneCell' = true) {rr : Reach} {b0 : Nat} (hval : Value.okWide P W rr b0 t v)
    (hx : ∀ fuel cs x, DataW.trod enc P W 0 (fun _ => true) true fuel e cs = some x → ∃ a, cs = f a)
    (hd : DataW.Trod enc P W 0 (fun _ => true) true t v d ps) : ∃ l : List α, Ro W.heap v sz (l.map f) := by
  obtain ⟨a, len, cap, rfl⟩ := okWide_slice ht hval
  obtain ⟨fuel, hfu⟩ := hd
  have hcs : (Value.slice a len cap).cells.toList = [.slice a len cap] := rfl
  rw [hcs] at hfu
  rcases Deep.open_slice ht hfu with ⟨h0, _⟩ | ⟨a, len, cap, m, n, D, Pl, h1, hb, hlc, hm, hmm, _, hcell⟩
  · simp at h0
    obtain ⟨rfl, rfl, rfl⟩ := h0
    exact ⟨[], Ro.nil⟩
  · simp at h1
    obtain ⟨rfl, rfl, rfl⟩ := h1
    have hlm : len ≤ m := by rw [hmm]; simpa using hlc
    have each : ∀ i, i < len → ∃ b : α, W.cells? 0 (a.add (i * P.cellsOf e)) (P.cellsOf e) = some (f b) := fun i hi => by
      obtain ⟨cs', e1, e2⟩ := hcell i (by omega)
      obtain ⟨b, rfl⟩ := hx _ _ _ e2
      exact ⟨b, e1⟩
    obtain ⟨l, hl, hp⟩ := list_lt each
    refine ⟨l, fun r hr => ?_, by rw [List.length_map, hl]; have : maxLen ≤ 9223372036854775807 := by decide
                                  omega, some a, cap, by rw [List.length_map, hl], ?_⟩
    · obtain ⟨b, _, rfl⟩ := List.mem_map.1 hr
      exact hf b
    · by_cases h0 : l = []
      · exact .inl (by rw [h0]; rfl)
      · have hpos : 0 < l.length := List.length_pos_iff.2 h0
        have first := World.cells?_some (hp 0 hpos)
        have c0 := first.2.2 0 (by rw [hc]; exact hz)
        have hspot : a.spot = none ∧ a.block < W.heap.size := by
          rw [Nat.zero_mul] at c0
          have e0 : (a.add 0).add 0 = a := rfl
          rw [e0, List.getElem?_eq_getElem (by rw [(hf _).1]; exact hz)] at c0
          unfold World.cell? at c0
          split at c0
          · rename_i hh
            refine ⟨?_, (Array.getElem?_eq_some_iff.1 hh).1⟩
            cases hs : a.spot with
            | none => rfl
            | some k => rw [hs] at c0; simp at c0
          · cases c0
        obtain ⟨g, o, s⟩ := a
        obtain ⟨rfl, hg⟩ := hspot
        refine .inr ⟨g, o, rfl, hg, cellsH_flat (sz := sz) (fun r hr => ?_) (fun i r hr j u hu => ?_)⟩
        · obtain ⟨b, _, rfl⟩ := List.mem_map.1 hr
          exact (hf b).1
        · rw [List.getElem?_map] at hr
          obtain ⟨b, hb', rfl⟩ := Option.map_eq_some_iff.1 hr
          obtain ⟨hi, rfl⟩ := List.getElem?_eq_some_iff.1 hb'
          have hj : j < P.cellsOf e := by rw [hc, ← (hf l[i]).1]; exact (List.getElem?_eq_some_iff.1 hu).1
          have := (World.cells?_some (hp i hi)).2.2 j hj
          rw [hu] at this
          refine cellH_of ?_
          rw [← this, Deep.add_add]
          congr 1
          unfold Addr.add
          rw [hc]
          split
          · rename_i hh; rw [Nat.add_assoc, hh, Nat.add_zero]
          · rw [Nat.add_assoc]
end
end Go.Fw

namespace Go.Fw
open Go Go.RowKit Go.WideShapes Go.ChangeShapes
section
variable {H : Type} {enc : TypeId × Value → H} {P : Program} {w : World} {base : Nat} {sp : Nat → Bool} {held : Bool}

/-- kinds of single cells -/
inductive Sc where
  | b
  | s
  | i (k : IntKind)
def Sc.ok : Sc → Value → Prop
  | .b, v => ∃ x, v = .bool x
  | .s, v => ∃ x : ByteArray, v = .string x ∧ x.size ≤ maxLen
  | .i k, v => ∃ n, v = .int k n ∧ (Lit.int k n).wf = true
def Sc.und : Sc → TypeDesc
  | .b => .bool
  | .s => .string
  | .i k => .int k
/-- a struct whose fields are single cells of these kinds -/
structure Flat (P : Program) (t : TypeId) (fs : Array Field) (ks : List Sc) : Prop where
  ht : P.underlying t = some (.struct fs)
  hn : fs.size = ks.length
  hc : P.cellsOf t = ks.length
  hf : ∀ i, i < ks.length → ∃ f k, fs[i]? = some f ∧ ks[i]? = some k ∧ P.underlying f.type = some k.und ∧ P.cellsOf f.type = 1 ∧ f.offset = i

theorem trod_sc {t : TypeId} {k : Sc} (ht : P.underlying t = some k.und) {fuel : Nat} {cs : List Value} {x : DataW H × List MemPlace} (h : DataW.trod enc P w base sp held fuel t cs = some x) : ∃ v, cs = [v] ∧ k.ok v := by
  cases k with
  | b => obtain ⟨b, e, _⟩ := DataW.trod_bool ht h; exact ⟨_, e, b, rfl⟩
  | s => obtain ⟨s, e, _, m⟩ := DataW.trod_string ht h; exact ⟨_, e, s, rfl, m⟩
  | i k => obtain ⟨n, e, _, m⟩ := DataW.trod_int ht h; exact ⟨_, e, n, rfl, m⟩
theorem trod_flat {t : TypeId} {fs : Array Field} {ks : List Sc} (B : Flat P t fs ks) {fuel : Nat} {cs : List Value} {x : DataW H × List MemPlace} (h : DataW.trod enc P w base sp held fuel t cs = some x) :
    cs.length = ks.length ∧ ∀ (i : Nat) (k : Sc) (v : Value), ks[i]? = some k → cs[i]? = some v → k.ok v := by
  obtain ⟨xs, n, _, rfl, hl, hlen, hf⟩ := DataW.trod_struct B.ht h
  rw [B.hc] at hl
  refine ⟨hl, fun i k v hk hv => ?_⟩
  have hi := (List.getElem?_eq_some_iff.1 hk).1
  obtain ⟨f, k', e1, e2, e3, e4, e5⟩ := B.hf i hi
  rw [hk] at e2
  cases e2
  have g := hf i f e1
  have hx : i < xs.length := by rw [hlen, B.hn]; exact hi
  rw [List.getElem?_eq_getElem hx] at g
  obtain ⟨u, g1, g2⟩ := trod_sc e3 g
  rw [e4, e5] at g1
  have : v = u := by
    have h1 := congrArg (fun l => l[0]?) g1
    simp only [List.getElem?_take, List.getElem?_drop, Nat.add_zero, List.getElem?_cons_zero, Nat.zero_lt_one, if_true, hv] at h1
    exact Option.some.inj h1
  rw [this]; exact g2
end
theorem sc_int {k : IntKind} {v : Value} (h : (Sc.i k).ok v) : ∃ n, v = .int k n ∧ (Lit.int k n).wf = true := h
end Go.Fw

namespace Go.Proofs.YtlminkahdlcikaaDoor
open Go Go.Fw Go.ChangeShapes Go.WideShapes Go.ChangeAt Go.RowKit
set_option maxRecDepth 100000

theorem own : ownKnob Tryd.prog.godebug = none := by kernel_rfl
theorem gPowType : (Tryd.prog.globals[(1 : Nat)]?).map (·.type) = some 84 := by kernel_rfl
theorem cellsPow : Tryd.prog.cellsOf 84 = 20 := by kernel_rfl
theorem cellsU64 : Tryd.prog.cellsOf 72 = 1 := by kernel_rfl
theorem powData : (Rows.laid_internal_strconv_uint64pow10 : DataW Unit) = Lib.tabData .u64 Lib.pow10Tab := by kernel_rfl

theorem table {W : World} (h : laidMetH Tryd.prog [("math/bits.deBruijn32tab", Rows.laid_math_bits_deBruijn32tab), ("math/bits.deBruijn64tab", Rows.laid_math_bits_deBruijn64tab), ("internal/strconv.uint64pow10", Rows.laid_internal_strconv_uint64pow10)] W) : PowH W.heap := by
  have h0 : laidMet Tryd.prog [("math/bits.deBruijn32tab", Rows.laid_math_bits_deBruijn32tab), ("math/bits.deBruijn64tab", Rows.laid_math_bits_deBruijn64tab), ("internal/strconv.uint64pow10", Rows.laid_internal_strconv_uint64pow10)] W := h
  rw [powData] at h0
  have h1 : Lib.TabIs Tryd.prog W "internal/strconv.uint64pow10" .u64 Lib.pow10Tab :=
    Lib.tabIs_of_head (rest := []) gPow gPowType Tryd.underlying84 Tryd.underlying72 cellsU64 cellsPow (laidMet.tail (laidMet.tail h0))
  unfold Lib.TabIs World.var? at h1
  rw [gPow] at h1
  exact h1

/-- The settled world, the tables holding what their initialisers lay. -/
noncomputable def laidWorld (os : Os) : World :=
  let lay (zs : List Value) : Obj → Obj := fun
      | .cells _ t frozen => .cells zs.toArray t frozen
      | o => o
  { World.holding Tryd.prog os ⟨#[], #[], []⟩ with heap := (((World.holding Tryd.prog os ⟨#[], #[], []⟩).heap.modify 3 (lay tab64)).modify 2 (lay tab32)).modify 1 (lay (Lib.pow10Tab.map fun z => Value.int .u64 z)) }
where
  tab32 : List Value := ([0, 1, 28, 2, 29, 14, 24, 3, 30, 22, 20, 15, 25, 17, 4, 8, 31, 27, 13, 23, 21, 19, 16, 7, 26, 12, 18, 6, 11, 5, 10, 9] : List Int).map fun z => Value.int .u8 z
  tab64 : List Value := ([0, 1, 56, 2, 57, 49, 28, 3, 61, 58, 42, 50, 38, 29, 17, 4, 62, 47, 59, 36, 45, 43, 51, 22, 53, 39, 33, 30, 24, 18, 12, 5, 63, 55, 48, 27, 60, 41, 37, 16, 46, 35, 44, 21, 52, 32, 23, 11, 54, 26, 40, 15, 34, 20, 31, 10, 25, 14, 19, 9, 13, 8, 7, 6] : List Int).map fun z => Value.int .u8 z

theorem laidOut : laidOutB Tryd.prog = true := by kernel_rfl
theorem tokF : ∃ fs, Flat Tryd.prog 35 fs [.i .i64, .i .i64, .s, .i .i64] :=
  ⟨_, { ht := Tryd.underlying35, hn := rfl, hc := by kernel_rfl, hf := fun i hi => match i, hi with
    | 0, _ => ⟨_, _, rfl, rfl, Tryd.underlying3, by kernel_rfl, rfl⟩
    | 1, _ => ⟨_, _, rfl, rfl, Tryd.underlying3, by kernel_rfl, rfl⟩
    | 2, _ => ⟨_, _, rfl, rfl, Tryd.underlying9, by kernel_rfl, rfl⟩
    | 3, _ => ⟨_, _, rfl, rfl, Tryd.underlying3, by kernel_rfl, rfl⟩ }⟩
theorem open_toks {H : Type} {enc : TypeId × Value → H} {W : World} {v : Value} {d : DataW H} {ps : List MemPlace} {rr : Reach} {b0 : Nat} (hval : Value.okWide Tryd.prog W rr b0 23 v)
    (hd : DataW.Trod enc Tryd.prog W 0 (fun _ => true) true 23 v d ps) : ∃ l : List Tok, Ro W.heap v 4 (rowsT l) := by
  obtain ⟨fs, B⟩ := tokF
  refine open_rows (t := 23) (e := 35) Tok.row Tryd.underlying23 B.hc (by decide) (fun a => ⟨rfl, ?_⟩) hval (fun fuel cs x hx => ?_) hd
  · intro u hu
    simp only [Tok.row, List.mem_cons, List.not_mem_nil, or_false] at hu
    rcases hu with rfl | rfl | rfl | rfl <;> rfl
  · obtain ⟨h1, h2⟩ := trod_flat B hx
    match cs, h1 with
    | [a, b, c, d], _ =>
      obtain ⟨k, rfl, _⟩ := h2 0 _ a rfl rfl
      obtain ⟨p, rfl, _⟩ := h2 1 _ b rfl rfl
      obtain ⟨s, rfl, _⟩ := h2 2 _ c rfl rfl
      obtain ⟨n, rfl, _⟩ := h2 3 _ d rfl rfl
      exact ⟨⟨k, p, s, n⟩, rfl⟩
end Go.Proofs.YtlminkahdlcikaaDoor
