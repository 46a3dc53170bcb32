/- NaturalsGcd: for every input the law returns true, and each argument reads behind the call as it read before; the table math/bits.deBruijn64tab holds, when the call begins, what the program's text lays (the card ties it). NaturalsGcd: the walk. NaturalsRest: the walk. -/
import Derived.Test.YtehlghcpbmbfkaaDoorJoinC
namespace Go.Proofs.YtehlghcpbmbfkaaDoor
open Go Go.Fw Go.NatM
set_option maxRecDepth 100000
set_option maxHeartbeats 8000000

theorem rest_fn {h : Array Obj} (a b : ByteArray) (hT : TabH h) :
    FnV Tryd.prog 6 #[.string a, .string b] h fun r h' => r = .bool true ∧ Keeps h.size h h' := by
  by_cases hc : chk [a, b] = 0
  · obtain ⟨A, rfl, hA⟩ := of_chk hc (s := a) (by simp)
    obtain ⟨C, rfl, hC⟩ := of_chk hc (s := b) (by simp)
    by_cases hz : C = 0
    · subst hz
      have e0 : divS (enc A) (enc 0) = (NatM.mt, NatM.mt, 71) := by rw [div_e hA hC, if_pos rfl]
      rw [enc_zero] at *
      refine Fn.of (args := [.string (enc A), .string NatM.mt]) Tryd.func6 (by kernel_rfl) rfl Tryd.ntmps6 rfl fun w0 cs => ?_
      refine go_run tab 1000 _ _ ?_
      conv => whnf
      refine Runs.callV (sane_fn hT) ?_
      rintro _ h1 ⟨rfl, k1⟩
      try refine go_run tab 1000 _ _ ?_
      conv => whnf
      refine Runs.callV (Div_fn (enc A) NatM.mt) ?_
      rintro _ h2 ⟨rfl, k2⟩
      have s1 := k1.size
      rw [e0]
      try refine go_run tab 1000 _ _ ?_
      conv => whnf
      refine And.intro (fun hp => absurd hp (by decide)) (fun _ => ?_)
      conv => whnf
      repeat (refine And.intro (fun _ => ?_) (fun hn => absurd rfl hn); conv => whnf)
      refine Runs.ret Tryd.func6 rfl rfl ⟨_, rfl, ?_⟩
      exact ⟨by simp [tup], k1.trans (k2.mono s1)⟩
    · have hp : 0 < C := by omega
      have hQ : nb (A / C) ≤ 256 := Nat.le_trans (nb_mono (Nat.div_le_self A C)) hA
      have hR : nb (A % C) ≤ 256 := Nat.le_trans (nb_mono (Nat.mod_le A C)) hA
      have hP : nb (A / C * C) ≤ 256 := Nat.le_trans (nb_mono (Nat.div_mul_le_self A C)) hA
      have hAC : A / C * C + A % C = A := by rw [Nat.mul_comm]; exact Nat.div_add_mod A C
      have e0 : divS (enc A) (enc C) = (enc (A / C), enc (A % C), 0) := by rw [div_e hA hC, if_neg hz]
      have e1 : mulS (enc (A / C)) (enc C) = (enc (A / C * C), 0) := by rw [mul_e hQ hC, short_e hP]
      have e2 : addS (enc (A / C * C)) (enc (A % C)) = (enc A, 0) := by rw [add_e hP hR, hAC, short_e hA]
      have e3 : cmpS (enc (A % C)) (enc C) = (-1, 0) := by rw [cmp_e hR hC, cmpN_lt (Nat.mod_lt A hp)]
      have e4 : divS (enc (A / C * C)) (enc C) = (enc (A / C), NatM.mt, 0) := by
        rw [div_e hP hC, if_neg hz, Nat.mul_div_cancel _ hp, Nat.mul_mod_left, enc_zero]
      refine Fn.of (args := [.string (enc A), .string (enc C)]) Tryd.func6 (by kernel_rfl) rfl Tryd.ntmps6 rfl fun w0 cs => ?_
      refine go_run tab 1000 _ _ ?_
      conv => whnf
      refine Runs.callV (sane_fn hT) ?_
      rintro _ h1 ⟨rfl, k1⟩
      have kk := k1
      try refine go_run tab 1000 _ _ ?_
      conv => whnf
      refine Runs.callV (Div_fn (enc A) (enc C)) ?_
      rintro _ h2 ⟨rfl, k2⟩
      have s2 := kk.size
      have kk := kk.trans (k2.mono s2)
      rw [e0]
      try refine go_run tab 1000 _ _ ?_
      conv => whnf
      refine And.intro (fun _ => ?_) (fun hn => absurd (rfl) hn)
      conv => whnf
      refine Runs.callV (Mul_fn (enc (A / C)) (enc C)) ?_
      rintro _ h3 ⟨rfl, k3⟩
      have s3 := kk.size
      have kk := kk.trans (k3.mono s3)
      rw [e1]
      try refine go_run tab 1000 _ _ ?_
      conv => whnf
      refine Runs.callV (Add_fn (enc (A / C * C)) (enc (A % C))) ?_
      rintro _ h4 ⟨rfl, k4⟩
      have s4 := kk.size
      have kk := kk.trans (k4.mono s4)
      rw [e2]
      try refine go_run tab 1000 _ _ ?_
      conv => whnf
      refine Runs.callV (Compare_fn (enc (A % C)) (enc C)) ?_
      rintro _ h5 ⟨rfl, k5⟩
      have s5 := kk.size
      have kk := kk.trans (k5.mono s5)
      rw [e3]
      try refine go_run tab 1000 _ _ ?_
      conv => whnf
      refine Runs.callV (Div_fn (enc (A / C * C)) (enc C)) ?_
      rintro _ h6 ⟨rfl, k6⟩
      have s6 := kk.size
      have kk := kk.trans (k6.mono s6)
      rw [e4]
      try refine go_run tab 1000 _ _ ?_
      conv => whnf
      repeat (refine And.intro (fun _ => ?_) (fun hn => absurd rfl hn); conv => whnf)
      refine Runs.ret Tryd.func6 rfl rfl ⟨_, rfl, ?_⟩
      exact ⟨by simp [tup], kk⟩
  · have e0 : divS a b = (NatM.mt, NatM.mt, chk [a, b]) := by unfold divS; rw [if_neg hc]
    refine Fn.of (args := [.string a, .string b]) Tryd.func6 (by kernel_rfl) rfl Tryd.ntmps6 rfl fun w0 cs => ?_
    refine go_run tab 1000 _ _ ?_
    conv => whnf
    refine Runs.callV (sane_fn hT) ?_
    rintro _ h1 ⟨rfl, k1⟩
    try refine go_run tab 1000 _ _ ?_
    conv => whnf
    refine Runs.callV (Div_fn a b) ?_
    rintro _ h2 ⟨rfl, k2⟩
    have s1 := k1.size
    have kk := k1.trans (k2.mono s1)
    rw [e0]
    try refine go_run tab 1000 _ _ ?_
    conv => whnf
    refine And.intro (fun hp => absurd hp (hc)) (fun _ => ?_)
    conv => whnf
    refine And.intro (fun _ => ?_) (fun hn => absurd (rfl) hn)
    conv => whnf
    refine And.intro (fun _ => ?_) (fun hn => absurd (rfl) hn)
    conv => whnf
    refine ⟨fun hb => ?_, fun hb => ?_⟩ <;> conv => whnf
    · refine Runs.ret Tryd.func6 rfl rfl ⟨_, rfl, ?_⟩
      exact ⟨by simp [tup], kk⟩
    · refine Runs.callV (Check_fn a) ?_
      rintro _ h3 ⟨rfl, k3⟩
      have s3 := kk.size
      have kk := kk.trans (k3.mono s3)
      try refine go_run tab 1000 _ _ ?_
      conv => whnf
      refine ⟨fun ha => ?_, fun ha => ?_⟩ <;> conv => whnf
      · refine Runs.callV (Check_fn b) ?_
        rintro _ h4 ⟨rfl, k4⟩
        have s4 := kk.size
        have kk := kk.trans (k4.mono s4)
        have hb' : chk [b] ≠ 0 := by
          rcases chk_two hc with h | h
          · exact absurd ha h
          · exact h
        try refine go_run tab 1000 _ _ ?_
        conv => whnf
        refine Runs.ret Tryd.func6 rfl rfl ⟨_, rfl, ?_⟩
        exact ⟨by simp [tup, hb'], kk⟩
      · refine Runs.ret Tryd.func6 rfl rfl ⟨_, rfl, ?_⟩
        exact ⟨by simp [tup], kk⟩
end Go.Proofs.YtehlghcpbmbfkaaDoor

namespace Go.Proofs.YtehlghcpbmbfkaaDoor
open Go Go.Fw Go.NatM
set_option maxRecDepth 100000
set_option maxHeartbeats 8000000

theorem div_yes {h : Array Obj} {D N : Nat} (hD : nb D ≤ 256) (hN : nb N ≤ 256) (h0 : D ≠ 0) (hd : N % D = 0) :
    FnV Tryd.prog 32 #[.string (enc D), .string (enc N)] h fun r h' => r = .bool true ∧ Keeps h.size h h' := by
  refine Fn.of (args := [.string (enc D), .string (enc N)]) Tryd.func32 (by kernel_rfl) rfl Tryd.ntmps32 rfl fun w0 cs => ?_
  refine go_run tab 1000 _ _ ?_
  conv => whnf
  refine Runs.callV (Div_fn (enc N) (enc D)) ?_
  rintro _ h1 ⟨rfl, k1⟩
  rw [div_e hN hD, if_neg h0, hd]
  try refine go_run tab 1000 _ _ ?_
  conv => whnf
  repeat (refine And.intro (fun _ => ?_) (fun hn => absurd rfl hn); conv => whnf)
  refine Runs.ret Tryd.func32 rfl rfl ⟨_, rfl, ?_⟩
  have e0 : enc 0 = (⟨#[]⟩ : ByteArray) := rfl
  exact ⟨by simp [tup, e0], k1⟩

theorem div_no {h : Array Obj} {D N : Nat} (hD : nb D ≤ 256) (hN : nb N ≤ 256) (h0 : D ≠ 0) (hd : N % D ≠ 0) :
    FnV Tryd.prog 32 #[.string (enc D), .string (enc N)] h fun r h' => r = .bool false ∧ Keeps h.size h h' := by
  refine Fn.of (args := [.string (enc D), .string (enc N)]) Tryd.func32 (by kernel_rfl) rfl Tryd.ntmps32 rfl fun w0 cs => ?_
  refine go_run tab 1000 _ _ ?_
  conv => whnf
  refine Runs.callV (Div_fn (enc N) (enc D)) ?_
  rintro _ h1 ⟨rfl, k1⟩
  rw [div_e hN hD, if_neg h0]
  try refine go_run tab 1000 _ _ ?_
  conv => whnf
  repeat (refine And.intro (fun _ => ?_) (fun hn => absurd rfl hn); conv => whnf)
  refine Runs.ret Tryd.func32 rfl rfl ⟨_, rfl, ?_⟩
  have e0 : ¬ enc (N % D) = (⟨#[]⟩ : ByteArray) := fun e => hd (enc_mt.1 e)
  exact ⟨by simp [tup, e0], k1⟩

theorem gcdlaw_fn {h : Array Obj} (a b c : ByteArray) (hT : TabH h) :
    FnV Tryd.prog 9 #[.string a, .string b, .string c] h fun r h' => r = .bool true ∧ Keeps h.size h h' := by
  refine Fn.of (args := [.string a, .string b, .string c]) Tryd.func9 (by kernel_rfl) rfl Tryd.ntmps9 rfl fun w0 cs => ?_
  refine go_run tab 1000 _ _ ?_
  conv => whnf
  refine Runs.callV (sane_fn hT) ?_
  rintro _ h1 ⟨rfl, kk⟩
  try refine go_run tab 1000 _ _ ?_
  conv => whnf
  refine ⟨fun q1 => ?_, fun q1 => ?_⟩ <;> conv => whnf
  · refine Runs.ret Tryd.func9 rfl rfl ⟨_, rfl, ?_⟩
    exact ⟨rfl, kk⟩
  refine ⟨fun q2 => ?_, fun q2 => ?_⟩ <;> conv => whnf
  · refine Runs.ret Tryd.func9 rfl rfl ⟨_, rfl, ?_⟩
    exact ⟨rfl, kk⟩
  refine ⟨fun q3 => ?_, fun q3 => ?_⟩ <;> conv => whnf
  · refine Runs.ret Tryd.func9 rfl rfl ⟨_, rfl, ?_⟩
    exact ⟨rfl, kk⟩
  refine Runs.callV (Check_fn a) ?_
  rintro _ hx ⟨rfl, kx⟩
  have sx := kk.size
  have kk := kk.trans (kx.mono sx)
  try refine go_run tab 1000 _ _ ?_
  conv => whnf
  refine ⟨fun c1 => ?_, fun c1 => ?_⟩ <;> conv => whnf
  case refine_2 =>
    refine Runs.ret Tryd.func9 rfl rfl ⟨_, rfl, ?_⟩
    exact ⟨rfl, kk⟩
  refine Runs.callV (Check_fn b) ?_
  rintro _ hx ⟨rfl, kx⟩
  have sx := kk.size
  have kk := kk.trans (kx.mono sx)
  try refine go_run tab 1000 _ _ ?_
  conv => whnf
  refine ⟨fun c2 => ?_, fun c2 => ?_⟩ <;> conv => whnf
  case refine_2 =>
    refine Runs.ret Tryd.func9 rfl rfl ⟨_, rfl, ?_⟩
    exact ⟨rfl, kk⟩
  refine Runs.callV (Check_fn c) ?_
  rintro _ hx ⟨rfl, kx⟩
  have sx := kk.size
  have kk := kk.trans (kx.mono sx)
  try refine go_run tab 1000 _ _ ?_
  conv => whnf
  refine ⟨fun c3 => ?_, fun c3 => ?_⟩ <;> conv => whnf
  case refine_2 =>
    refine Runs.ret Tryd.func9 rfl rfl ⟨_, rfl, ?_⟩
    exact ⟨rfl, kk⟩
  obtain ⟨A, rfl, hA⟩ := of_chk c1 (List.mem_cons_self ..)
  obtain ⟨C, rfl, hC⟩ := of_chk c2 (List.mem_cons_self ..)
  obtain ⟨D, rfl, hD⟩ := of_chk c3 (List.mem_cons_self ..)
  rw [enc_size] at q1 q2 q3
  obtain ⟨G, hG⟩ : ∃ G, G = Nat.gcd A C := ⟨_, rfl⟩
  refine Runs.callV (Gcd_fn (enc A) (enc C) (hT.keeps kk)) ?_
  rintro _ hx ⟨rfl, kx⟩
  have sx := kk.size
  have kk := kk.trans (kx.mono sx)
  rw [gcd_e hA hC, ← hG]
  try refine go_run tab 1000 _ _ ?_
  conv => whnf
  refine Runs.callV (Gcd_fn (enc C) (enc A) (hT.keeps kk)) ?_
  rintro _ hx ⟨rfl, kx⟩
  have sx := kk.size
  have kk := kk.trans (kx.mono sx)
  rw [gcd_e hC hA, Nat.gcd_comm, ← hG]
  try refine go_run tab 1000 _ _ ?_
  conv => whnf
  repeat (refine And.intro (fun _ => ?_) (fun hn => absurd rfl hn); conv => whnf)
  refine ⟨fun hg0 => ?_, fun hg0 => ?_⟩ <;> conv => whnf
  · have hz := enc_mt.1 hg0
    obtain ⟨hA0, hC0⟩ := Nat.gcd_eq_zero_iff.1 (hG.symm.trans hz)
    subst hA0 hC0
    refine And.intro (fun _ => ?_) (fun hn => absurd (enc_mt.2 rfl) hn)
    conv => whnf
    refine Runs.ret Tryd.func9 rfl rfl ⟨_, rfl, ?_⟩
    have e0 : enc 0 = (⟨#[]⟩ : ByteArray) := rfl
    exact ⟨by simp [tup, e0], kk⟩
  have hgn : G ≠ 0 := fun e => hg0 (enc_mt.2 e)
  have dA : A % G = 0 := Nat.mod_eq_zero_of_dvd (hG ▸ Nat.gcd_dvd_left A C)
  have dC : C % G = 0 := Nat.mod_eq_zero_of_dvd (hG ▸ Nat.gcd_dvd_right A C)
  have bG : nb G ≤ 60 := by
    by_cases hA0 : A = 0
    · rw [hG, hA0, Nat.gcd_zero_left]; omega
    · exact Nat.le_trans (nb_mono (hG ▸ Nat.le_of_dvd (Nat.pos_of_ne_zero hA0) (Nat.gcd_dvd_left A C))) (by omega)
  refine Runs.callV (div_yes (D := G) (N := A) (by omega) hA hgn dA) ?_
  rintro _ hx ⟨rfl, kx⟩
  have sx := kk.size
  have kk := kk.trans (kx.mono sx)
  try refine go_run tab 1000 _ _ ?_
  conv => whnf
  refine Runs.callV (div_yes (D := G) (N := C) (by omega) hC hgn dC) ?_
  rintro _ hx ⟨rfl, kx⟩
  have sx := kk.size
  have kk := kk.trans (kx.mono sx)
  try refine go_run tab 1000 _ _ ?_
  conv => whnf
  refine ⟨fun hd0 => ?_, fun hd0 => ?_⟩ <;> conv => whnf
  · refine Runs.ret Tryd.func9 rfl rfl ⟨_, rfl, ?_⟩
    exact ⟨by simp [tup], kk⟩
  have hdn : D ≠ 0 := fun e => hd0 (enc_mt.2 e)
  by_cases x1 : A % D = 0
  · refine Runs.callV (div_yes (D := D) (N := A) hD hA hdn x1) ?_
    rintro _ hx ⟨rfl, kx⟩
    have sx := kk.size
    have kk := kk.trans (kx.mono sx)
    try refine go_run tab 1000 _ _ ?_
    conv => whnf
    by_cases x2 : C % D = 0
    · have x3 : G % D = 0 := Nat.mod_eq_zero_of_dvd (hG ▸ Nat.dvd_gcd (Nat.dvd_of_mod_eq_zero x1) (Nat.dvd_of_mod_eq_zero x2))
      refine Runs.callV (div_yes (D := D) (N := C) hD hC hdn x2) ?_
      rintro _ hx ⟨rfl, kx⟩
      have sx := kk.size
      have kk := kk.trans (kx.mono sx)
      try refine go_run tab 1000 _ _ ?_
      conv => whnf
      refine Runs.callV (div_yes (D := D) (N := G) hD (by omega) hdn x3) ?_
      rintro _ hx ⟨rfl, kx⟩
      have sx := kk.size
      have kk := kk.trans (kx.mono sx)
      try refine go_run tab 1000 _ _ ?_
      conv => whnf
      have m1 := nb_mul A D
      have m2 := nb_mul C D
      have m3 := nb_mul G D
      refine Runs.callV (Mul_fn (enc A) (enc D)) ?_
      rintro _ hx ⟨rfl, kx⟩
      have sx := kk.size
      have kk := kk.trans (kx.mono sx)
      rw [mul_e hA hD, short_e (by omega)]
      try refine go_run tab 1000 _ _ ?_
      conv => whnf
      refine Runs.callV (Mul_fn (enc C) (enc D)) ?_
      rintro _ hx ⟨rfl, kx⟩
      have sx := kk.size
      have kk := kk.trans (kx.mono sx)
      rw [mul_e hC hD, short_e (by omega)]
      try refine go_run tab 1000 _ _ ?_
      conv => whnf
      refine Runs.callV (Mul_fn (enc G) (enc D)) ?_
      rintro _ hx ⟨rfl, kx⟩
      have sx := kk.size
      have kk := kk.trans (kx.mono sx)
      rw [mul_e (by omega) hD, short_e (by omega)]
      try refine go_run tab 1000 _ _ ?_
      conv => whnf
      refine Runs.callV (Gcd_fn (enc (A * D)) (enc (C * D)) (hT.keeps kk)) ?_
      rintro _ hx ⟨rfl, kx⟩
      have sx := kk.size
      have kk := kk.trans (kx.mono sx)
      rw [gcd_e (by omega) (by omega), Nat.gcd_mul_right, ← hG]
      try refine go_run tab 1000 _ _ ?_
      conv => whnf
      repeat (refine And.intro (fun _ => ?_) (fun hn => absurd rfl hn); conv => whnf)
      refine Runs.ret Tryd.func9 rfl rfl ⟨_, rfl, ?_⟩
      exact ⟨by simp [tup], kk⟩
    · refine Runs.callV (div_no (D := D) (N := C) hD hC hdn x2) ?_
      rintro _ hx ⟨rfl, kx⟩
      have sx := kk.size
      have kk := kk.trans (kx.mono sx)
      try refine go_run tab 1000 _ _ ?_
      conv => whnf
      have m1 := nb_mul A D
      have m2 := nb_mul C D
      have m3 := nb_mul G D
      refine Runs.callV (Mul_fn (enc A) (enc D)) ?_
      rintro _ hx ⟨rfl, kx⟩
      have sx := kk.size
      have kk := kk.trans (kx.mono sx)
      rw [mul_e hA hD, short_e (by omega)]
      try refine go_run tab 1000 _ _ ?_
      conv => whnf
      refine Runs.callV (Mul_fn (enc C) (enc D)) ?_
      rintro _ hx ⟨rfl, kx⟩
      have sx := kk.size
      have kk := kk.trans (kx.mono sx)
      rw [mul_e hC hD, short_e (by omega)]
      try refine go_run tab 1000 _ _ ?_
      conv => whnf
      refine Runs.callV (Mul_fn (enc G) (enc D)) ?_
      rintro _ hx ⟨rfl, kx⟩
      have sx := kk.size
      have kk := kk.trans (kx.mono sx)
      rw [mul_e (by omega) hD, short_e (by omega)]
      try refine go_run tab 1000 _ _ ?_
      conv => whnf
      refine Runs.callV (Gcd_fn (enc (A * D)) (enc (C * D)) (hT.keeps kk)) ?_
      rintro _ hx ⟨rfl, kx⟩
      have sx := kk.size
      have kk := kk.trans (kx.mono sx)
      rw [gcd_e (by omega) (by omega), Nat.gcd_mul_right, ← hG]
      try refine go_run tab 1000 _ _ ?_
      conv => whnf
      repeat (refine And.intro (fun _ => ?_) (fun hn => absurd rfl hn); conv => whnf)
      refine Runs.ret Tryd.func9 rfl rfl ⟨_, rfl, ?_⟩
      exact ⟨by simp [tup], kk⟩
  · refine Runs.callV (div_no (D := D) (N := A) hD hA hdn x1) ?_
    rintro _ hx ⟨rfl, kx⟩
    have sx := kk.size
    have kk := kk.trans (kx.mono sx)
    try refine go_run tab 1000 _ _ ?_
    conv => whnf
    have m1 := nb_mul A D
    have m2 := nb_mul C D
    have m3 := nb_mul G D
    refine Runs.callV (Mul_fn (enc A) (enc D)) ?_
    rintro _ hx ⟨rfl, kx⟩
    have sx := kk.size
    have kk := kk.trans (kx.mono sx)
    rw [mul_e hA hD, short_e (by omega)]
    try refine go_run tab 1000 _ _ ?_
    conv => whnf
    refine Runs.callV (Mul_fn (enc C) (enc D)) ?_
    rintro _ hx ⟨rfl, kx⟩
    have sx := kk.size
    have kk := kk.trans (kx.mono sx)
    rw [mul_e hC hD, short_e (by omega)]
    try refine go_run tab 1000 _ _ ?_
    conv => whnf
    refine Runs.callV (Mul_fn (enc G) (enc D)) ?_
    rintro _ hx ⟨rfl, kx⟩
    have sx := kk.size
    have kk := kk.trans (kx.mono sx)
    rw [mul_e (by omega) hD, short_e (by omega)]
    try refine go_run tab 1000 _ _ ?_
    conv => whnf
    refine Runs.callV (Gcd_fn (enc (A * D)) (enc (C * D)) (hT.keeps kk)) ?_
    rintro _ hx ⟨rfl, kx⟩
    have sx := kk.size
    have kk := kk.trans (kx.mono sx)
    rw [gcd_e (by omega) (by omega), Nat.gcd_mul_right, ← hG]
    try refine go_run tab 1000 _ _ ?_
    conv => whnf
    repeat (refine And.intro (fun _ => ?_) (fun hn => absurd rfl hn); conv => whnf)
    refine Runs.ret Tryd.func9 rfl rfl ⟨_, rfl, ?_⟩
    exact ⟨by simp [tup], kk⟩
end Go.Proofs.YtehlghcpbmbfkaaDoor

namespace Go.Proofs.YtehlghcpbmbfkaaDoor.naturalsGcd
open Go Go.Fw Go.ChangeShapes Go.ChangeMaps Go.WideShapes Go.ChangeAt Go.RowKit
set_option maxRecDepth 100000

theorem int_wf {n : Int} (h : (Lit.int .i64 n).wf = true) : -9223372036854775808 ≤ n ∧ n ≤ 9223372036854775807 := by
  have h1 : IntKind.i64.min ≤ n ∧ n ≤ 9223372036854775807 := by simpa [Lit.wf] using h
  have e : IntKind.i64.min = -9223372036854775808 := rfl
  omega

/-- WHAT THE WALK GIVES, FOR EVERY ARGUMENT AND EVERY WORLD THAT HOLDS THE TABLE. -/
theorem contract (H : Type) (enc : TypeId × Value → H) (W : World) (base : Nat) (args : Array Value) (ds gs : List (DataW H)) (before : List MemPlace)
    (hval : ∀ (j : Nat) t v, Tryd.f9.params[j]? = some t → args[j]? = some v → Value.okWide Tryd.prog W .any base t v)
    (hW : DataW.Whole enc Tryd.prog Tryd.f9.params.toList Rows.naturalsGcdSpec.vars false W args.toList ds gs before) (hL : laidMetH Tryd.prog Rows.naturalsGcdRow.laid W) :
    Calls Tryd.prog 9 args W fun e W' => ∃ v, e = .returned v ∧ Rows.naturalsGcdSpec.post enc Tryd.prog Tryd.f9 false true false false W args v W' := by
  have hW' := hW
  obtain ⟨p, q, hA0, hV, rfl, hfz, hnd⟩ := hW
  have hA : DataW.TrodAll enc Tryd.prog W 0 (fun _ => true) true Tryd.f9.params.toList args.toList ds p := hA0
  rw [Tryd.params9] at hA hval
  obtain ⟨v0, vs0, d0, ds0, p0, q0, hargs, rfl, rfl, h0, r0⟩ := trodAll_cons hA
  obtain ⟨v1, vs1, d1, ds1, p1, q1, rfl, rfl, rfl, h1, r1⟩ := trodAll_cons r0
  obtain ⟨v2, vs2, d2, ds2, p2, q2, rfl, rfl, rfl, h2, r2⟩ := trodAll_cons r1
  obtain ⟨rfl, rfl, rfl⟩ := trodAll_nil r2
  obtain rfl : args = #[v0, v1, v2] := by cases args; simp_all
  obtain ⟨rfl, rfl⟩ := trodVars_none hV
  obtain ⟨x0, rfl, rfl, rfl, m0⟩ := open_string Tryd.underlying9 (hval 0 9 v0 rfl rfl) h0
  obtain ⟨x1, rfl, rfl, rfl, m1⟩ := open_string Tryd.underlying9 (hval 1 9 v1 rfl rfl) h1
  obtain ⟨x2, rfl, rfl, rfl, m2⟩ := open_string Tryd.underlying9 (hval 2 9 v2 rfl rfl) h2
  clear hA0
  simp only [List.append_nil, List.nil_append] at hW'
  have walk := FnV.below (W := W) (R := fun r => r = .bool true) (gcdlaw_fn x0 x1 x2 (table hL))
  refine walk.mono fun e W' ⟨v, he, hv, hg⟩ => ?_
  subst he hv
  exact ⟨_, rfl, post_of_below (pa := []) (pv := []) hW' (fun _ _ _ => trodAll_cons_mk (shut_bool Tryd.underlying4 _) trodAll_mk0) (fun _ _ => trodAll_cons_mk (shut_string Tryd.underlying9 m0) (trodAll_cons_mk (shut_string Tryd.underlying9 m1) (trodAll_cons_mk (shut_string Tryd.underlying9 m2) trodAll_mk0))) (fun _ _ => rfl) rfl
    hg (ok_one (by kernel_rfl) rfl (okWide_bool_mk Tryd.underlying4 _))⟩

theorem laid_met (os : Os) : laidMet Tryd.prog Rows.naturalsGcdRow.laid ((laidWorld os).forCall (fun _ _ => 0) ⟨#[], #[.string ⟨#[]⟩, .string ⟨#[]⟩, .string ⟨#[]⟩], []⟩).memory :=
  laidMet_of_run' 8 (by kernel_rfl) (by kernel_rfl)
theorem reads (os : Os) {H : Type} (enc : TypeId × Value → H) : ∃ places, DataW.whole enc Tryd.prog ((laidWorld os).forCall (fun _ _ => 0) ⟨#[], #[.string ⟨#[]⟩, .string ⟨#[]⟩, .string ⟨#[]⟩], []⟩).memory Tryd.f9.params.toList Rows.naturalsGcdSpec.vars false (#[.string ⟨#[]⟩, .string ⟨#[]⟩, .string ⟨#[]⟩] : Array Value).toList 8 = some ([.lit (.string []), .lit (.string []), .lit (.string [])], [], places) :=
  ⟨[], by kernel_rfl⟩

theorem lifted (os : Os) (started : os.Started) (H : Type) (enc : TypeId × Value → H) (F : Stop.Interp) :
    ReturnsInHanded {} Tryd.checked os 9 .any ((OpenSpec.ofChange Rows.naturalsGcdSpec).preRow enc Tryd.prog Tryd.f9 Rows.naturalsGcdRow.domain false Rows.naturalsGcdRow.laid) (((OpenSpec.ofChange Rows.naturalsGcdSpec).at F).post enc Tryd.prog Tryd.f9 false true false false) := by
  obtain ⟨places, hx⟩ := reads os enc
  refine returnsInHanded_of_row (C := Tryd.checked) (s := OpenSpec.ofChange Rows.naturalsGcdSpec) own started (by kernel_rfl) Tryd.func9
    (witness_row_at (enc := enc) (C := Tryd.checked) false (laidWorld os) #[.string ⟨#[]⟩, .string ⟨#[]⟩, .string ⟨#[]⟩] rfl (by kernel_rfl) (by kernel_rfl) (by kernel_rfl)
      (OpenSpec.preRow_of_cond 8 hx (by kernel_rfl) (fun k hk => by cases hk) (by kernel_rfl) (laid_met os))) ?_
  intro W base args ds gs before hval hW _ _ _ hL _ _
  exact contract H enc W base args ds gs before hval hW hL

theorem said : Rows.NaturalsGcdSaid :=
  OpenClaim.holds_of_cond 9 Tryd.f9 rfl rfl rfl rfl rfl rfl rfl ⟨rfl, rfl, rfl, rfl, rfl⟩ rfl rfl rfl rfl rfl (by kernel_rfl) Tryd.func9 (by kernel_rfl)
    (of_decide_eq_true (by kernel_rfl)) (by unfold Func.isWrapper; first | (rw [if_pos (by decide +kernel)]; kernel_rfl) | (rw [if_neg (by decide +kernel)]; exact ⟨rfl, rfl⟩))
    (fun os started H enc _ F => by rw [OpenClaim.pre_eq_preRow]; exact lifted os started H enc F)

/-- No parameter wants a stand-in; the program's own looks are off. -/
theorem plain (f : FuncId) (fn : Func) (hf : Tryd.pinned.checked.prog.funcNamed "backflush/backflushlaw06.NaturalsGcd" = some f) (hfn : Tryd.pinned.checked.prog.funcs[f]? = some fn) :
    false = Tryd.pinned.checked.prog.looks [] ∧ ∀ (j : Nat) t, fn.params[j]? = some t → Tryd.pinned.checked.prog.wantsStandIn t = false := by
  obtain rfl : f = 9 := Option.some.inj ((show Tryd.prog.funcNamed "backflush/backflushlaw06.NaturalsGcd" = some 9 by kernel_rfl).symm.trans hf) |>.symm
  obtain rfl : fn = Tryd.f9 := (Option.some.inj (Tryd.func9.symm.trans hfn)).symm
  refine ⟨by kernel_rfl, fun j t ht => ?_⟩
  rw [Tryd.params9] at ht
  have hm := Array.mem_of_getElem? ht
  simp only [List.mem_toArray, List.mem_cons, List.not_mem_nil, or_false] at hm
  rcases hm with rfl | rfl | rfl
  · exact (show Tryd.prog.wantsStandIn 9 = false by kernel_rfl)
  · exact (show Tryd.prog.wantsStandIn 9 = false by kernel_rfl)
  · exact (show Tryd.prog.wantsStandIn 9 = false by kernel_rfl)

/-- THE CARD -/
theorem card : Rows.NaturalsGcdCardSaid :=
  Claim7.holds_tied_plain_at .later [] _ _ _ _ said (fun _ h => by cases h) (by kernel_rfl) (fun _ h => by cases h) naturalsGcd_row_tie rfl ⟨rfl, rfl⟩ (by kernel_rfl) rfl plain (by kernel_rfl)
end Go.Proofs.YtehlghcpbmbfkaaDoor.naturalsGcd
