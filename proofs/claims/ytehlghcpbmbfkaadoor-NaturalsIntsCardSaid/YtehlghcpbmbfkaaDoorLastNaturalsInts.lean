/- NaturalsInts: for every input the law returns true, and each argument reads behind the call as it read before; the table math/bits.deBruijn64tab holds, when the call begins, what the program's text lays (the card ties it). NaturalsInts: the walk. NaturalsRest: the walk. -/
import Derived.Test.YtehlghcpbmbfkaaDoorJoinC
namespace Go.Proofs.YtehlghcpbmbfkaaDoor
open Go Go.Fw Go.NatM
set_option maxRecDepth 100000
set_option maxHeartbeats 8000000

theorem rest_fn {h : Array Obj} (a b : ByteArray) (hT : TabH h) :
    FnV Tryd.prog 6 #[.string a, .string b] h fun r h' => r = .bool true ∧ Keeps h.size h h' := by
  by_cases hc : chk [a, b] = 0
  · obtain ⟨A, rfl, hA⟩ := of_chk hc (s := a) (by simp)
    obtain ⟨C, rfl, hC⟩ := of_chk hc (s := b) (by simp)
    by_cases hz : C = 0
    · subst hz
      have e0 : divS (enc A) (enc 0) = (NatM.mt, NatM.mt, 71) := by rw [div_e hA hC, if_pos rfl]
      rw [enc_zero] at *
      refine Fn.of (args := [.string (enc A), .string NatM.mt]) Tryd.func6 (by kernel_rfl) rfl Tryd.ntmps6 rfl fun w0 cs => ?_
      refine go_run tab 1000 _ _ ?_
      conv => whnf
      refine Runs.callV (sane_fn hT) ?_
      rintro _ h1 ⟨rfl, k1⟩
      try refine go_run tab 1000 _ _ ?_
      conv => whnf
      refine Runs.callV (Div_fn (enc A) NatM.mt) ?_
      rintro _ h2 ⟨rfl, k2⟩
      have s1 := k1.size
      rw [e0]
      try refine go_run tab 1000 _ _ ?_
      conv => whnf
      refine And.intro (fun hp => absurd hp (by decide)) (fun _ => ?_)
      conv => whnf
      repeat (refine And.intro (fun _ => ?_) (fun hn => absurd rfl hn); conv => whnf)
      refine Runs.ret Tryd.func6 rfl rfl ⟨_, rfl, ?_⟩
      exact ⟨by simp [tup], k1.trans (k2.mono s1)⟩
    · have hp : 0 < C := by omega
      have hQ : nb (A / C) ≤ 256 := Nat.le_trans (nb_mono (Nat.div_le_self A C)) hA
      have hR : nb (A % C) ≤ 256 := Nat.le_trans (nb_mono (Nat.mod_le A C)) hA
      have hP : nb (A / C * C) ≤ 256 := Nat.le_trans (nb_mono (Nat.div_mul_le_self A C)) hA
      have hAC : A / C * C + A % C = A := by rw [Nat.mul_comm]; exact Nat.div_add_mod A C
      have e0 : divS (enc A) (enc C) = (enc (A / C), enc (A % C), 0) := by rw [div_e hA hC, if_neg hz]
      have e1 : mulS (enc (A / C)) (enc C) = (enc (A / C * C), 0) := by rw [mul_e hQ hC, short_e hP]
      have e2 : addS (enc (A / C * C)) (enc (A % C)) = (enc A, 0) := by rw [add_e hP hR, hAC, short_e hA]
      have e3 : cmpS (enc (A % C)) (enc C) = (-1, 0) := by rw [cmp_e hR hC, cmpN_lt (Nat.mod_lt A hp)]
      have e4 : divS (enc (A / C * C)) (enc C) = (enc (A / C), NatM.mt, 0) := by
        rw [div_e hP hC, if_neg hz, Nat.mul_div_cancel _ hp, Nat.mul_mod_left, enc_zero]
      refine Fn.of (args := [.string (enc A), .string (enc C)]) Tryd.func6 (by kernel_rfl) rfl Tryd.ntmps6 rfl fun w0 cs => ?_
      refine go_run tab 1000 _ _ ?_
      conv => whnf
      refine Runs.callV (sane_fn hT) ?_
      rintro _ h1 ⟨rfl, k1⟩
      have kk := k1
      try refine go_run tab 1000 _ _ ?_
      conv => whnf
      refine Runs.callV (Div_fn (enc A) (enc C)) ?_
      rintro _ h2 ⟨rfl, k2⟩
      have s2 := kk.size
      have kk := kk.trans (k2.mono s2)
      rw [e0]
      try refine go_run tab 1000 _ _ ?_
      conv => whnf
      refine And.intro (fun _ => ?_) (fun hn => absurd (rfl) hn)
      conv => whnf
      refine Runs.callV (Mul_fn (enc (A / C)) (enc C)) ?_
      rintro _ h3 ⟨rfl, k3⟩
      have s3 := kk.size
      have kk := kk.trans (k3.mono s3)
      rw [e1]
      try refine go_run tab 1000 _ _ ?_
      conv => whnf
      refine Runs.callV (Add_fn (enc (A / C * C)) (enc (A % C))) ?_
      rintro _ h4 ⟨rfl, k4⟩
      have s4 := kk.size
      have kk := kk.trans (k4.mono s4)
      rw [e2]
      try refine go_run tab 1000 _ _ ?_
      conv => whnf
      refine Runs.callV (Compare_fn (enc (A % C)) (enc C)) ?_
      rintro _ h5 ⟨rfl, k5⟩
      have s5 := kk.size
      have kk := kk.trans (k5.mono s5)
      rw [e3]
      try refine go_run tab 1000 _ _ ?_
      conv => whnf
      refine Runs.callV (Div_fn (enc (A / C * C)) (enc C)) ?_
      rintro _ h6 ⟨rfl, k6⟩
      have s6 := kk.size
      have kk := kk.trans (k6.mono s6)
      rw [e4]
      try refine go_run tab 1000 _ _ ?_
      conv => whnf
      repeat (refine And.intro (fun _ => ?_) (fun hn => absurd rfl hn); conv => whnf)
      refine Runs.ret Tryd.func6 rfl rfl ⟨_, rfl, ?_⟩
      exact ⟨by simp [tup], kk⟩
  · have e0 : divS a b = (NatM.mt, NatM.mt, chk [a, b]) := by unfold divS; rw [if_neg hc]
    refine Fn.of (args := [.string a, .string b]) Tryd.func6 (by kernel_rfl) rfl Tryd.ntmps6 rfl fun w0 cs => ?_
    refine go_run tab 1000 _ _ ?_
    conv => whnf
    refine Runs.callV (sane_fn hT) ?_
    rintro _ h1 ⟨rfl, k1⟩
    try refine go_run tab 1000 _ _ ?_
    conv => whnf
    refine Runs.callV (Div_fn a b) ?_
    rintro _ h2 ⟨rfl, k2⟩
    have s1 := k1.size
    have kk := k1.trans (k2.mono s1)
    rw [e0]
    try refine go_run tab 1000 _ _ ?_
    conv => whnf
    refine And.intro (fun hp => absurd hp (hc)) (fun _ => ?_)
    conv => whnf
    refine And.intro (fun _ => ?_) (fun hn => absurd (rfl) hn)
    conv => whnf
    refine And.intro (fun _ => ?_) (fun hn => absurd (rfl) hn)
    conv => whnf
    refine ⟨fun hb => ?_, fun hb => ?_⟩ <;> conv => whnf
    · refine Runs.ret Tryd.func6 rfl rfl ⟨_, rfl, ?_⟩
      exact ⟨by simp [tup], kk⟩
    · refine Runs.callV (Check_fn a) ?_
      rintro _ h3 ⟨rfl, k3⟩
      have s3 := kk.size
      have kk := kk.trans (k3.mono s3)
      try refine go_run tab 1000 _ _ ?_
      conv => whnf
      refine ⟨fun ha => ?_, fun ha => ?_⟩ <;> conv => whnf
      · refine Runs.callV (Check_fn b) ?_
        rintro _ h4 ⟨rfl, k4⟩
        have s4 := kk.size
        have kk := kk.trans (k4.mono s4)
        have hb' : chk [b] ≠ 0 := by
          rcases chk_two hc with h | h
          · exact absurd ha h
          · exact h
        try refine go_run tab 1000 _ _ ?_
        conv => whnf
        refine Runs.ret Tryd.func6 rfl rfl ⟨_, rfl, ?_⟩
        exact ⟨by simp [tup, hb'], kk⟩
      · refine Runs.ret Tryd.func6 rfl rfl ⟨_, rfl, ?_⟩
        exact ⟨by simp [tup], kk⟩
end Go.Proofs.YtehlghcpbmbfkaaDoor

namespace Go.Proofs.YtehlghcpbmbfkaaDoor
open Go Go.Fw Go.NatM
set_option maxRecDepth 100000
set_option maxHeartbeats 8000000

theorem intS_e {V : Nat} (h : V ≤ 9223372036854775807) : intS (enc V) = ((V : Int), true) := by
  unfold intS
  rw [natv_enc, if_pos ⟨canonB_iff.2 (canon_enc V), h⟩]

theorem nb_int {V : Nat} (h : V ≤ 9223372036854775807) : nb V ≤ 256 := by
  refine Nat.le_trans (nb_le (m := 8) ?_) (by decide)
  have : (256 : Nat) ^ 8 = 18446744073709551616 := by decide
  omega

/-- is -/
theorem is_fn {h : Array Obj} {V : Nat} (hV : V ≤ 9223372036854775807) :
    FnV Tryd.prog 33 #[.string (enc V), .int .i64 0, .int .i64 V] h fun r h' => r = .bool true ∧ Keeps h.size h h' := by
  refine Fn.of (args := [.string (enc V), .int .i64 0, .int .i64 V]) Tryd.func33 (by kernel_rfl) rfl Tryd.ntmps33 rfl fun w0 cs => ?_
  refine go_run tab 1000 _ _ ?_
  conv => whnf
  refine Runs.callV (Int_fn (enc V)) ?_
  rintro _ h1 ⟨rfl, k1⟩
  rw [intS_e hV]
  try refine go_run tab 1000 _ _ ?_
  conv => whnf
  repeat (refine And.intro (fun _ => ?_) (fun hn => absurd rfl hn); conv => whnf)
  refine Runs.ret Tryd.func33 rfl rfl ⟨_, rfl, ?_⟩
  exact ⟨by simp [tup], k1⟩

theorem ints_fn {h : Array Obj} (n m : Int) (hn : -9223372036854775808 ≤ n ∧ n ≤ 9223372036854775807) (hm : -9223372036854775808 ≤ m ∧ m ≤ 9223372036854775807) (hT : TabH h) :
    FnV Tryd.prog 10 #[.int .i64 n, .int .i64 m] h fun r h' => r = .bool true ∧ Keeps h.size h h' := by
  by_cases hneg : n < 0
  · have e0 : ofS n = (NatM.mt, 1) := by unfold ofS; rw [if_pos hneg]
    refine Fn.of (args := [.int .i64 n, .int .i64 m]) Tryd.func10 (by kernel_rfl) rfl Tryd.ntmps10 rfl fun w0 cs => ?_
    refine go_run tab 1000 _ _ ?_
    conv => whnf
    refine Runs.callV (sane_fn hT) ?_
    rintro _ h1 ⟨rfl, kk⟩
    try refine go_run tab 1000 _ _ ?_
    conv => whnf
    refine Runs.callV (Of_fn n hn.2) ?_
    rintro _ h2 ⟨rfl, k2⟩
    have s2 := kk.size
    have kk := kk.trans (k2.mono s2)
    rw [e0]
    try refine go_run tab 1000 _ _ ?_
    conv => whnf
    refine Runs.callV (Of_fn m hm.2) ?_
    rintro _ h3 ⟨rfl, k3⟩
    have s3 := kk.size
    have kk := kk.trans (k3.mono s3)
    try refine go_run tab 1000 _ _ ?_
    conv => whnf
    refine And.intro (fun hp => absurd hp (by decide)) (fun _ => ?_)
    conv => whnf
    refine And.intro (fun hp => absurd hp (by omega)) (fun _ => ?_)
    conv => whnf
    repeat (refine And.intro (fun _ => ?_) (fun hn => absurd rfl hn); conv => whnf)
    refine ⟨fun hm0 => ?_, fun hm0 => ?_⟩ <;> conv => whnf
    · refine And.intro (fun _ => ?_) (fun hn => absurd (hneg) hn)
      conv => whnf
      refine Runs.ret Tryd.func10 rfl rfl ⟨_, rfl, ?_⟩
      exact ⟨by simp [tup], kk⟩
    · have e1 : ofS m = (NatM.mt, 1) := by unfold ofS; rw [if_pos (by omega)]
      rw [e1]
      repeat (refine And.intro (fun _ => ?_) (fun hn => absurd rfl hn); conv => whnf)
      refine And.intro (fun _ => ?_) (fun hn => absurd (hneg) hn)
      conv => whnf
      refine Runs.ret Tryd.func10 rfl rfl ⟨_, rfl, ?_⟩
      exact ⟨by simp [tup], kk⟩
  · obtain ⟨N, rfl⟩ := Int.eq_ofNat_of_zero_le (show 0 ≤ n by omega)
    have hN : N ≤ 9223372036854775807 := by omega
    have e0 : ofS (N : Int) = (enc N, 0) := by unfold ofS; rw [if_neg (by omega), Int.toNat_natCast]
    by_cases hmneg : m < 0
    · have e1 : ofS m = (NatM.mt, 1) := by unfold ofS; rw [if_pos hmneg]
      refine Fn.of (args := [.int .i64 (N : Int), .int .i64 m]) Tryd.func10 (by kernel_rfl) rfl Tryd.ntmps10 rfl fun w0 cs => ?_
      refine go_run tab 1000 _ _ ?_
      conv => whnf
      refine Runs.callV (sane_fn hT) ?_
      rintro _ h1 ⟨rfl, kk⟩
      try refine go_run tab 1000 _ _ ?_
      conv => whnf
      refine Runs.callV (Of_fn (N : Int) hn.2) ?_
      rintro _ h2 ⟨rfl, k2⟩
      have s2 := kk.size
      have kk := kk.trans (k2.mono s2)
      rw [e0]
      try refine go_run tab 1000 _ _ ?_
      conv => whnf
      refine Runs.callV (Of_fn m hm.2) ?_
      rintro _ h3 ⟨rfl, k3⟩
      have s3 := kk.size
      have kk := kk.trans (k3.mono s3)
      rw [e1]
      try refine go_run tab 1000 _ _ ?_
      conv => whnf
      refine And.intro (fun _ => ?_) (fun hn => absurd (rfl) hn)
      conv => whnf
      refine And.intro (fun hp => absurd hp (by decide)) (fun _ => ?_)
      conv => whnf
      refine And.intro (fun _ => ?_) (fun hn => absurd (by omega) hn)
      conv => whnf
      refine And.intro (fun hp => absurd hp (by omega)) (fun _ => ?_)
      conv => whnf
      repeat (refine And.intro (fun _ => ?_) (fun hn => absurd rfl hn); conv => whnf)
      refine And.intro (fun hp => absurd hp (by omega)) (fun _ => ?_)
      conv => whnf
      refine Runs.ret Tryd.func10 rfl rfl ⟨_, rfl, ?_⟩
      exact ⟨by simp [tup, hmneg], kk⟩
    · obtain ⟨M, rfl⟩ := Int.eq_ofNat_of_zero_le (show 0 ≤ m by omega)
      have hM : M ≤ 9223372036854775807 := by omega
      have e1 : ofS (M : Int) = (enc M, 0) := by unfold ofS; rw [if_neg (by omega), Int.toNat_natCast]
      have nN := nb_int hN
      have nM := nb_int hM
      refine Fn.of (args := [.int .i64 (N : Int), .int .i64 (M : Int)]) Tryd.func10 (by kernel_rfl) rfl Tryd.ntmps10 rfl fun w0 cs => ?_
      refine go_run tab 1000 _ _ ?_
      conv => whnf
      refine Runs.callV (sane_fn hT) ?_
      rintro _ h1 ⟨rfl, kk⟩
      try refine go_run tab 1000 _ _ ?_
      conv => whnf
      refine Runs.callV (Of_fn (N : Int) hn.2) ?_
      rintro _ h2 ⟨rfl, k2⟩
      have s2 := kk.size
      have kk := kk.trans (k2.mono s2)
      rw [e0]
      try refine go_run tab 1000 _ _ ?_
      conv => whnf
      refine Runs.callV (Of_fn (M : Int) hm.2) ?_
      rintro _ h3 ⟨rfl, k3⟩
      have s3 := kk.size
      have kk := kk.trans (k3.mono s3)
      rw [e1]
      try refine go_run tab 1000 _ _ ?_
      conv => whnf
      repeat (refine And.intro (fun _ => ?_) (fun hn => absurd rfl hn); conv => whnf)
      refine Runs.callV (Int_fn (enc N)) ?_
      rintro _ h4 ⟨rfl, k4⟩
      have s4 := kk.size
      have kk := kk.trans (k4.mono s4)
      rw [intS_e hN]
      try refine go_run tab 1000 _ _ ?_
      conv => whnf
      refine And.intro (fun hp => absurd hp (by omega)) (fun _ => ?_)
      conv => whnf
      refine And.intro (fun hp => absurd hp (by omega)) (fun _ => ?_)
      conv => whnf
      repeat (refine And.intro (fun _ => ?_) (fun hn => absurd rfl hn); conv => whnf)
      refine Runs.callV (Check_fn (enc N)) ?_
      rintro _ h5 ⟨rfl, k5⟩
      have s5 := kk.size
      have kk := kk.trans (k5.mono s5)
      rw [chk_e1 nN]
      try refine go_run tab 1000 _ _ ?_
      conv => whnf
      repeat (refine And.intro (fun _ => ?_) (fun hn => absurd rfl hn); conv => whnf)
      refine ⟨fun q1 => ?_, fun q1 => ?_⟩ <;> conv => whnf
      · refine Runs.ret Tryd.func10 rfl rfl ⟨_, rfl, ?_⟩
        exact ⟨by simp [tup], kk⟩
      refine ⟨fun q2 => ?_, fun q2 => ?_⟩ <;> conv => whnf
      · refine Runs.ret Tryd.func10 rfl rfl ⟨_, rfl, ?_⟩
        exact ⟨by simp [tup], kk⟩
      have b1 : N + M ≤ 9223372036854775807 := by omega
      have b2 : N * M ≤ 4611686014132420609 := Nat.mul_le_mul (show N ≤ 2147483647 by omega) (show M ≤ 2147483647 by omega)
      have b3 : (N : Int) * M = ((N * M : Nat) : Int) := by simp
      refine Runs.callV (Add_fn (enc N) (enc M)) ?_
      rintro _ h6 ⟨rfl, k6⟩
      have s6 := kk.size
      have kk := kk.trans (k6.mono s6)
      rw [add_e nN nM, short_e (nb_int b1)]
      try refine go_run tab 1000 _ _ ?_
      conv => whnf
      refine Runs.callV (Mul_fn (enc N) (enc M)) ?_
      rintro _ h7 ⟨rfl, k7⟩
      have s7 := kk.size
      have kk := kk.trans (k7.mono s7)
      rw [mul_e nN nM, short_e (nb_int (by omega))]
      try refine go_run tab 1000 _ _ ?_
      conv => whnf
      refine Runs.callV (Compare_fn (enc N) (enc M)) ?_
      rintro _ h8 ⟨rfl, k8⟩
      have s8 := kk.size
      have kk := kk.trans (k8.mono s8)
      rw [cmp_e nN nM]
      try refine go_run tab 1000 _ _ ?_
      conv => whnf
      repeat (refine And.intro (by omega) ?_; conv => whnf)
      rw [show (N : Int) + M = ((N + M : Nat) : Int) by omega]
      refine Runs.callV (is_fn b1) ?_
      rintro _ h9 ⟨rfl, k9⟩
      have s9 := kk.size
      have kk := kk.trans (k9.mono s9)
      try refine go_run tab 1000 _ _ ?_
      conv => whnf
      rw [b3]
      repeat (refine And.intro (by omega) ?_; conv => whnf)
      refine Runs.callV (is_fn (V := N * M) (by omega)) ?_
      rintro _ h10 ⟨rfl, k10⟩
      have s10 := kk.size
      have kk := kk.trans (k10.mono s10)
      try refine go_run tab 1000 _ _ ?_
      conv => whnf
      repeat (refine And.intro (fun _ => ?_) (fun hn => absurd rfl hn); conv => whnf)
      rw [show decide ((cmpN N M, (0 : Int)).fst < 0) = decide ((N : Int) < M) from decide_eq_decide.2 (by rw [cmpN_neg]; omega), beq_self_eq_true]
      conv => whnf
      rw [show decide (0 < (cmpN N M, (0 : Int)).fst) = decide ((M : Int) < N) from decide_eq_decide.2 (by rw [cmpN_pos]; omega), beq_self_eq_true]
      try refine go_run tab 1000 _ _ ?_
      conv => whnf
      refine ⟨fun hz => ?_, fun hz => ?_⟩ <;> conv => whnf
      · refine Runs.ret Tryd.func10 rfl rfl ⟨_, rfl, ?_⟩
        exact ⟨by simp [tup], kk⟩
      · have hz' : M ≠ 0 := by omega
        refine Runs.callV (Div_fn (enc N) (enc M)) ?_
        rintro _ h11 ⟨rfl, k11⟩
        have s11 := kk.size
        have kk := kk.trans (k11.mono s11)
        rw [div_e nN nM, if_neg hz']
        try refine go_run tab 1000 _ _ ?_
        conv => whnf
        repeat (refine And.intro (by omega) ?_; conv => whnf)
        have d1 := Nat.div_le_self N M
        have d2 := Nat.mod_le N M
        rw [show (N : Int) / M = ((N / M : Nat) : Int) by simp]
        refine Runs.callV (is_fn (V := N / M) (by omega)) ?_
        rintro _ h12 ⟨rfl, k12⟩
        have s12 := kk.size
        have kk := kk.trans (k12.mono s12)
        try refine go_run tab 1000 _ _ ?_
        conv => whnf
        repeat (refine And.intro (by omega) ?_; conv => whnf)
        rw [show (N : Int) % M = ((N % M : Nat) : Int) by simp]
        refine Runs.callV (is_fn (V := N % M) (by omega)) ?_
        rintro _ h13 ⟨rfl, k13⟩
        have s13 := kk.size
        have kk := kk.trans (k13.mono s13)
        try refine go_run tab 1000 _ _ ?_
        conv => whnf
        refine Runs.ret Tryd.func10 rfl rfl ⟨_, rfl, ?_⟩
        exact ⟨by simp [tup], kk⟩
end Go.Proofs.YtehlghcpbmbfkaaDoor

namespace Go.Proofs.YtehlghcpbmbfkaaDoor.naturalsInts
open Go Go.Fw Go.ChangeShapes Go.ChangeMaps Go.WideShapes Go.ChangeAt Go.RowKit
set_option maxRecDepth 100000

theorem int_wf {n : Int} (h : (Lit.int .i64 n).wf = true) : -9223372036854775808 ≤ n ∧ n ≤ 9223372036854775807 := by
  have h1 : IntKind.i64.min ≤ n ∧ n ≤ 9223372036854775807 := by simpa [Lit.wf] using h
  have e : IntKind.i64.min = -9223372036854775808 := rfl
  omega

/-- WHAT THE WALK GIVES, FOR EVERY ARGUMENT AND EVERY WORLD THAT HOLDS THE TABLE. -/
theorem contract (H : Type) (enc : TypeId × Value → H) (W : World) (base : Nat) (args : Array Value) (ds gs : List (DataW H)) (before : List MemPlace)
    (hval : ∀ (j : Nat) t v, Tryd.f10.params[j]? = some t → args[j]? = some v → Value.okWide Tryd.prog W .any base t v)
    (hW : DataW.Whole enc Tryd.prog Tryd.f10.params.toList Rows.naturalsIntsSpec.vars false W args.toList ds gs before) (hL : laidMetH Tryd.prog Rows.naturalsIntsRow.laid W) :
    Calls Tryd.prog 10 args W fun e W' => ∃ v, e = .returned v ∧ Rows.naturalsIntsSpec.post enc Tryd.prog Tryd.f10 false true false false W args v W' := by
  have hW' := hW
  obtain ⟨p, q, hA0, hV, rfl, hfz, hnd⟩ := hW
  have hA : DataW.TrodAll enc Tryd.prog W 0 (fun _ => true) true Tryd.f10.params.toList args.toList ds p := hA0
  rw [Tryd.params10] at hA hval
  obtain ⟨v0, vs0, d0, ds0, p0, q0, hargs, rfl, rfl, h0, r0⟩ := trodAll_cons hA
  obtain ⟨v1, vs1, d1, ds1, p1, q1, rfl, rfl, rfl, h1, r1⟩ := trodAll_cons r0
  obtain ⟨rfl, rfl, rfl⟩ := trodAll_nil r1
  obtain rfl : args = #[v0, v1] := by cases args; simp_all
  obtain ⟨rfl, rfl⟩ := trodVars_none hV
  obtain ⟨x0, rfl, rfl, rfl, m0⟩ := open_int Tryd.underlying3 (hval 0 3 v0 rfl rfl) h0
  obtain ⟨x1, rfl, rfl, rfl, m1⟩ := open_int Tryd.underlying3 (hval 1 3 v1 rfl rfl) h1
  clear hA0
  simp only [List.append_nil, List.nil_append] at hW'
  have walk := FnV.below (W := W) (R := fun r => r = .bool true) (ints_fn x0 x1 (int_wf m0) (int_wf m1) (table hL))
  refine walk.mono fun e W' ⟨v, he, hv, hg⟩ => ?_
  subst he hv
  exact ⟨_, rfl, post_of_below (pa := []) (pv := []) hW' (fun _ _ _ => trodAll_cons_mk (shut_bool Tryd.underlying4 _) trodAll_mk0) (fun _ _ => trodAll_cons_mk (shut_int Tryd.underlying3 m0) (trodAll_cons_mk (shut_int Tryd.underlying3 m1) trodAll_mk0)) (fun _ _ => rfl) rfl
    hg (ok_one (by kernel_rfl) rfl (okWide_bool_mk Tryd.underlying4 _))⟩

theorem laid_met (os : Os) : laidMet Tryd.prog Rows.naturalsIntsRow.laid ((laidWorld os).forCall (fun _ _ => 0) ⟨#[], #[.int .i64 0, .int .i64 0], []⟩).memory :=
  laidMet_of_run' 8 (by kernel_rfl) (by kernel_rfl)
theorem reads (os : Os) {H : Type} (enc : TypeId × Value → H) : ∃ places, DataW.whole enc Tryd.prog ((laidWorld os).forCall (fun _ _ => 0) ⟨#[], #[.int .i64 0, .int .i64 0], []⟩).memory Tryd.f10.params.toList Rows.naturalsIntsSpec.vars false (#[.int .i64 0, .int .i64 0] : Array Value).toList 8 = some ([.lit (.int .i64 0), .lit (.int .i64 0)], [], places) :=
  ⟨[], by kernel_rfl⟩

theorem lifted (os : Os) (started : os.Started) (H : Type) (enc : TypeId × Value → H) (F : Stop.Interp) :
    ReturnsInHanded {} Tryd.checked os 10 .any ((OpenSpec.ofChange Rows.naturalsIntsSpec).preRow enc Tryd.prog Tryd.f10 Rows.naturalsIntsRow.domain false Rows.naturalsIntsRow.laid) (((OpenSpec.ofChange Rows.naturalsIntsSpec).at F).post enc Tryd.prog Tryd.f10 false true false false) := by
  obtain ⟨places, hx⟩ := reads os enc
  refine returnsInHanded_of_row (C := Tryd.checked) (s := OpenSpec.ofChange Rows.naturalsIntsSpec) own started (by kernel_rfl) Tryd.func10
    (witness_row_at (enc := enc) (C := Tryd.checked) false (laidWorld os) #[.int .i64 0, .int .i64 0] rfl (by kernel_rfl) (by kernel_rfl) (by kernel_rfl)
      (OpenSpec.preRow_of_cond 8 hx (by kernel_rfl) (fun k hk => by cases hk) (by kernel_rfl) (laid_met os))) ?_
  intro W base args ds gs before hval hW _ _ _ hL _ _
  exact contract H enc W base args ds gs before hval hW hL

theorem said : Rows.NaturalsIntsSaid :=
  OpenClaim.holds_of_cond 10 Tryd.f10 rfl rfl rfl rfl rfl rfl rfl ⟨rfl, rfl, rfl, rfl, rfl⟩ rfl rfl rfl rfl rfl (by kernel_rfl) Tryd.func10 (by kernel_rfl)
    (of_decide_eq_true (by kernel_rfl)) (by unfold Func.isWrapper; first | (rw [if_pos (by decide +kernel)]; kernel_rfl) | (rw [if_neg (by decide +kernel)]; exact ⟨rfl, rfl⟩))
    (fun os started H enc _ F => by rw [OpenClaim.pre_eq_preRow]; exact lifted os started H enc F)

/-- No parameter wants a stand-in; the program's own looks are off. -/
theorem plain (f : FuncId) (fn : Func) (hf : Tryd.pinned.checked.prog.funcNamed "backflush/backflushlaw06.NaturalsInts" = some f) (hfn : Tryd.pinned.checked.prog.funcs[f]? = some fn) :
    false = Tryd.pinned.checked.prog.looks [] ∧ ∀ (j : Nat) t, fn.params[j]? = some t → Tryd.pinned.checked.prog.wantsStandIn t = false := by
  obtain rfl : f = 10 := Option.some.inj ((show Tryd.prog.funcNamed "backflush/backflushlaw06.NaturalsInts" = some 10 by kernel_rfl).symm.trans hf) |>.symm
  obtain rfl : fn = Tryd.f10 := (Option.some.inj (Tryd.func10.symm.trans hfn)).symm
  refine ⟨by kernel_rfl, fun j t ht => ?_⟩
  rw [Tryd.params10] at ht
  have hm := Array.mem_of_getElem? ht
  simp only [List.mem_toArray, List.mem_cons, List.not_mem_nil, or_false] at hm
  rcases hm with rfl | rfl
  · exact (show Tryd.prog.wantsStandIn 3 = false by kernel_rfl)
  · exact (show Tryd.prog.wantsStandIn 3 = false by kernel_rfl)

/-- THE CARD -/
theorem card : Rows.NaturalsIntsCardSaid :=
  Claim7.holds_tied_plain_at .later [] _ _ _ _ said (fun _ h => by cases h) (by kernel_rfl) (fun _ h => by cases h) naturalsInts_row_tie rfl ⟨rfl, rfl⟩ (by kernel_rfl) rfl plain (by kernel_rfl)
end Go.Proofs.YtehlghcpbmbfkaaDoor.naturalsInts
