/- NaturalsRules: for every input the law returns true, and each argument reads behind the call as it read before; the table math/bits.deBruijn64tab holds, when the call begins, what the program's text lays (the card ties it). NaturalsRules: the walk. NaturalsRest: the walk. -/
import Derived.Test.YtehlghcpbmbfkaaDoorJoinC
namespace Go.Proofs.YtehlghcpbmbfkaaDoor
open Go Go.Fw Go.NatM
set_option maxRecDepth 100000
set_option maxHeartbeats 8000000

theorem rest_fn {h : Array Obj} (a b : ByteArray) (hT : TabH h) :
    FnV Tryd.prog 6 #[.string a, .string b] h fun r h' => r = .bool true ∧ Keeps h.size h h' := by
  by_cases hc : chk [a, b] = 0
  · obtain ⟨A, rfl, hA⟩ := of_chk hc (s := a) (by simp)
    obtain ⟨C, rfl, hC⟩ := of_chk hc (s := b) (by simp)
    by_cases hz : C = 0
    · subst hz
      have e0 : divS (enc A) (enc 0) = (NatM.mt, NatM.mt, 71) := by rw [div_e hA hC, if_pos rfl]
      rw [enc_zero] at *
      refine Fn.of (args := [.string (enc A), .string NatM.mt]) Tryd.func6 (by kernel_rfl) rfl Tryd.ntmps6 rfl fun w0 cs => ?_
      refine go_run tab 1000 _ _ ?_
      conv => whnf
      refine Runs.callV (sane_fn hT) ?_
      rintro _ h1 ⟨rfl, k1⟩
      try refine go_run tab 1000 _ _ ?_
      conv => whnf
      refine Runs.callV (Div_fn (enc A) NatM.mt) ?_
      rintro _ h2 ⟨rfl, k2⟩
      have s1 := k1.size
      rw [e0]
      try refine go_run tab 1000 _ _ ?_
      conv => whnf
      refine And.intro (fun hp => absurd hp (by decide)) (fun _ => ?_)
      conv => whnf
      repeat (refine And.intro (fun _ => ?_) (fun hn => absurd rfl hn); conv => whnf)
      refine Runs.ret Tryd.func6 rfl rfl ⟨_, rfl, ?_⟩
      exact ⟨by simp [tup], k1.trans (k2.mono s1)⟩
    · have hp : 0 < C := by omega
      have hQ : nb (A / C) ≤ 256 := Nat.le_trans (nb_mono (Nat.div_le_self A C)) hA
      have hR : nb (A % C) ≤ 256 := Nat.le_trans (nb_mono (Nat.mod_le A C)) hA
      have hP : nb (A / C * C) ≤ 256 := Nat.le_trans (nb_mono (Nat.div_mul_le_self A C)) hA
      have hAC : A / C * C + A % C = A := by rw [Nat.mul_comm]; exact Nat.div_add_mod A C
      have e0 : divS (enc A) (enc C) = (enc (A / C), enc (A % C), 0) := by rw [div_e hA hC, if_neg hz]
      have e1 : mulS (enc (A / C)) (enc C) = (enc (A / C * C), 0) := by rw [mul_e hQ hC, short_e hP]
      have e2 : addS (enc (A / C * C)) (enc (A % C)) = (enc A, 0) := by rw [add_e hP hR, hAC, short_e hA]
      have e3 : cmpS (enc (A % C)) (enc C) = (-1, 0) := by rw [cmp_e hR hC, cmpN_lt (Nat.mod_lt A hp)]
      have e4 : divS (enc (A / C * C)) (enc C) = (enc (A / C), NatM.mt, 0) := by
        rw [div_e hP hC, if_neg hz, Nat.mul_div_cancel _ hp, Nat.mul_mod_left, enc_zero]
      refine Fn.of (args := [.string (enc A), .string (enc C)]) Tryd.func6 (by kernel_rfl) rfl Tryd.ntmps6 rfl fun w0 cs => ?_
      refine go_run tab 1000 _ _ ?_
      conv => whnf
      refine Runs.callV (sane_fn hT) ?_
      rintro _ h1 ⟨rfl, k1⟩
      have kk := k1
      try refine go_run tab 1000 _ _ ?_
      conv => whnf
      refine Runs.callV (Div_fn (enc A) (enc C)) ?_
      rintro _ h2 ⟨rfl, k2⟩
      have s2 := kk.size
      have kk := kk.trans (k2.mono s2)
      rw [e0]
      try refine go_run tab 1000 _ _ ?_
      conv => whnf
      refine And.intro (fun _ => ?_) (fun hn => absurd (rfl) hn)
      conv => whnf
      refine Runs.callV (Mul_fn (enc (A / C)) (enc C)) ?_
      rintro _ h3 ⟨rfl, k3⟩
      have s3 := kk.size
      have kk := kk.trans (k3.mono s3)
      rw [e1]
      try refine go_run tab 1000 _ _ ?_
      conv => whnf
      refine Runs.callV (Add_fn (enc (A / C * C)) (enc (A % C))) ?_
      rintro _ h4 ⟨rfl, k4⟩
      have s4 := kk.size
      have kk := kk.trans (k4.mono s4)
      rw [e2]
      try refine go_run tab 1000 _ _ ?_
      conv => whnf
      refine Runs.callV (Compare_fn (enc (A % C)) (enc C)) ?_
      rintro _ h5 ⟨rfl, k5⟩
      have s5 := kk.size
      have kk := kk.trans (k5.mono s5)
      rw [e3]
      try refine go_run tab 1000 _ _ ?_
      conv => whnf
      refine Runs.callV (Div_fn (enc (A / C * C)) (enc C)) ?_
      rintro _ h6 ⟨rfl, k6⟩
      have s6 := kk.size
      have kk := kk.trans (k6.mono s6)
      rw [e4]
      try refine go_run tab 1000 _ _ ?_
      conv => whnf
      repeat (refine And.intro (fun _ => ?_) (fun hn => absurd rfl hn); conv => whnf)
      refine Runs.ret Tryd.func6 rfl rfl ⟨_, rfl, ?_⟩
      exact ⟨by simp [tup], kk⟩
  · have e0 : divS a b = (NatM.mt, NatM.mt, chk [a, b]) := by unfold divS; rw [if_neg hc]
    refine Fn.of (args := [.string a, .string b]) Tryd.func6 (by kernel_rfl) rfl Tryd.ntmps6 rfl fun w0 cs => ?_
    refine go_run tab 1000 _ _ ?_
    conv => whnf
    refine Runs.callV (sane_fn hT) ?_
    rintro _ h1 ⟨rfl, k1⟩
    try refine go_run tab 1000 _ _ ?_
    conv => whnf
    refine Runs.callV (Div_fn a b) ?_
    rintro _ h2 ⟨rfl, k2⟩
    have s1 := k1.size
    have kk := k1.trans (k2.mono s1)
    rw [e0]
    try refine go_run tab 1000 _ _ ?_
    conv => whnf
    refine And.intro (fun hp => absurd hp (hc)) (fun _ => ?_)
    conv => whnf
    refine And.intro (fun _ => ?_) (fun hn => absurd (rfl) hn)
    conv => whnf
    refine And.intro (fun _ => ?_) (fun hn => absurd (rfl) hn)
    conv => whnf
    refine ⟨fun hb => ?_, fun hb => ?_⟩ <;> conv => whnf
    · refine Runs.ret Tryd.func6 rfl rfl ⟨_, rfl, ?_⟩
      exact ⟨by simp [tup], kk⟩
    · refine Runs.callV (Check_fn a) ?_
      rintro _ h3 ⟨rfl, k3⟩
      have s3 := kk.size
      have kk := kk.trans (k3.mono s3)
      try refine go_run tab 1000 _ _ ?_
      conv => whnf
      refine ⟨fun ha => ?_, fun ha => ?_⟩ <;> conv => whnf
      · refine Runs.callV (Check_fn b) ?_
        rintro _ h4 ⟨rfl, k4⟩
        have s4 := kk.size
        have kk := kk.trans (k4.mono s4)
        have hb' : chk [b] ≠ 0 := by
          rcases chk_two hc with h | h
          · exact absurd ha h
          · exact h
        try refine go_run tab 1000 _ _ ?_
        conv => whnf
        refine Runs.ret Tryd.func6 rfl rfl ⟨_, rfl, ?_⟩
        exact ⟨by simp [tup, hb'], kk⟩
      · refine Runs.ret Tryd.func6 rfl rfl ⟨_, rfl, ?_⟩
        exact ⟨by simp [tup], kk⟩
end Go.Proofs.YtehlghcpbmbfkaaDoor

namespace Go.Proofs.YtehlghcpbmbfkaaDoor
open Go Go.Fw Go.NatM
set_option maxRecDepth 100000
set_option maxHeartbeats 8000000

/-- calc, at a function that answers -/
theorem calc_fn {h : Array Obj} {g ob : Nat} {a b s : ByteArray} (H : FnV Tryd.prog g #[.string a, .string b] h fun r h' => r = sev (s, 0) ∧ Keeps h.size h h') (hat : At h ob #[.bool true] 4) :
    FnV Tryd.prog 31 #[.func (.func g) #[] #[], .string a, .string b, .pointer (some ⟨ob, 0, none⟩)] h fun r h' => r = .string s ∧ At h' ob #[.bool true] 4 ∧ Keeps ob h h' := by
  refine Fn.of (args := [.func (.func g) #[] #[], .string a, .string b, .pointer (some ⟨ob, 0, none⟩)]) Tryd.func31 (by kernel_rfl) rfl Tryd.ntmps31 rfl fun w0 cs => ?_
  refine go_run tab 1000 _ _ ?_
  conv => whnf
  refine Runs.callV (H) ?_
  rintro _ h1 ⟨rfl, k1⟩
  have hlt := hat.lt
  have hat1 := k1.at hat hlt
  try refine go_run tab 1000 _ _ ?_
  conv => whnf
  refine ⟨_, hat1.one, ?_⟩
  conv => whnf
  repeat (refine And.intro (fun _ => ?_) (fun hn => absurd rfl hn); conv => whnf)
  refine Runs.eff (eff_storeB tab hat1) ?_
  rintro _ h2 P2
  try refine go_run tab 1000 _ _ ?_
  conv => whnf
  refine Runs.ret Tryd.func31 rfl rfl ⟨_, rfl, ?_⟩
  exact ⟨rfl, P2.blk, (k1.mono (by omega)).trans P2.keeps⟩

theorem calc_add {h : Array Obj} {ob A C : Nat} (hA : nb A ≤ 256) (hC : nb C ≤ 256) (hS : nb (A + C) ≤ 256) (hat : At h ob #[.bool true] 4) :
    FnV Tryd.prog 31 #[.func (.func 20) #[] #[], .string (enc A), .string (enc C), .pointer (some ⟨ob, 0, none⟩)] h fun r h' => r = .string (enc (A + C)) ∧ At h' ob #[.bool true] 4 ∧ Keeps ob h h' :=
  calc_fn ((Add_fn (enc A) (enc C)).mono fun r h' ⟨h1, h2⟩ => ⟨by rw [h1, add_e hA hC, short_e hS], h2⟩) hat

theorem calc_mul {h : Array Obj} {ob A C : Nat} (hA : nb A ≤ 256) (hC : nb C ≤ 256) (hS : nb (A * C) ≤ 256) (hat : At h ob #[.bool true] 4) :
    FnV Tryd.prog 31 #[.func (.func 24) #[] #[], .string (enc A), .string (enc C), .pointer (some ⟨ob, 0, none⟩)] h fun r h' => r = .string (enc (A * C)) ∧ At h' ob #[.bool true] 4 ∧ Keeps ob h h' :=
  calc_fn ((Mul_fn (enc A) (enc C)).mono fun r h' ⟨h1, h2⟩ => ⟨by rw [h1, mul_e hA hC, short_e hS], h2⟩) hat

theorem enc_one : (⟨#[1]⟩ : ByteArray) = enc 1 := by decide +kernel

theorem rules_fn {h : Array Obj} (a b c : ByteArray) (hT : TabH h) :
    FnV Tryd.prog 7 #[.string a, .string b, .string c] h fun r h' => r = .bool true ∧ Keeps h.size h h' := by
  refine Fn.of (args := [.string a, .string b, .string c]) Tryd.func7 (by kernel_rfl) rfl Tryd.ntmps7 rfl fun w0 cs => ?_
  refine go_run tab 1000 _ _ ?_
  conv => whnf
  refine Runs.callV (sane_fn hT) ?_
  rintro _ h1 ⟨rfl, kk⟩
  try refine go_run tab 1000 _ _ ?_
  conv => whnf
  refine ⟨fun q1 => ?_, fun q1 => ?_⟩ <;> conv => whnf
  · refine Runs.ret Tryd.func7 rfl rfl ⟨_, rfl, ?_⟩
    exact ⟨rfl, kk⟩
  refine ⟨fun q2 => ?_, fun q2 => ?_⟩ <;> conv => whnf
  · refine Runs.ret Tryd.func7 rfl rfl ⟨_, rfl, ?_⟩
    exact ⟨rfl, kk⟩
  refine ⟨fun q3 => ?_, fun q3 => ?_⟩ <;> conv => whnf
  · refine Runs.ret Tryd.func7 rfl rfl ⟨_, rfl, ?_⟩
    exact ⟨rfl, kk⟩
  refine Runs.callV (Check_fn a) ?_
  rintro _ h2 ⟨rfl, k2⟩
  have s2 := kk.size
  have kk := kk.trans (k2.mono s2)
  try refine go_run tab 1000 _ _ ?_
  conv => whnf
  refine ⟨fun c1 => ?_, fun c1 => ?_⟩ <;> conv => whnf
  case refine_2 =>
    refine Runs.ret Tryd.func7 rfl rfl ⟨_, rfl, ?_⟩
    exact ⟨rfl, kk⟩
  refine Runs.callV (Check_fn b) ?_
  rintro _ h3 ⟨rfl, k3⟩
  have s3 := kk.size
  have kk := kk.trans (k3.mono s3)
  try refine go_run tab 1000 _ _ ?_
  conv => whnf
  refine ⟨fun c2 => ?_, fun c2 => ?_⟩ <;> conv => whnf
  case refine_2 =>
    refine Runs.ret Tryd.func7 rfl rfl ⟨_, rfl, ?_⟩
    exact ⟨rfl, kk⟩
  refine Runs.callV (Check_fn c) ?_
  rintro _ h4 ⟨rfl, k4⟩
  have s4 := kk.size
  have kk := kk.trans (k4.mono s4)
  try refine go_run tab 1000 _ _ ?_
  conv => whnf
  refine ⟨fun c3 => ?_, fun c3 => ?_⟩ <;> conv => whnf
  case refine_2 =>
    refine Runs.ret Tryd.func7 rfl rfl ⟨_, rfl, ?_⟩
    exact ⟨rfl, kk⟩
  obtain ⟨A, rfl, hA⟩ := of_chk c1 (List.mem_cons_self ..)
  obtain ⟨C, rfl, hC⟩ := of_chk c2 (List.mem_cons_self ..)
  obtain ⟨D, rfl, hD⟩ := of_chk c3 (List.mem_cons_self ..)
  rw [enc_size] at q1 q2 q3
  have n1 := nb_add A C
  have n2 := nb_add C A
  have n3 := nb_mul A C
  have n4 := nb_mul C A
  have n5 := nb_add (A + C) D
  have n6 := nb_add C D
  have n7 := nb_add A (C + D)
  have n8 := nb_mul (A * C) D
  have n9 := nb_mul C D
  have n10 := nb_mul A (C * D)
  have n11 := nb_mul A (C + D)
  have n12 := nb_mul A D
  have n13 := nb_add (A * C) (A * D)
  refine Runs.eff (eff_allocN (cs := #[.bool false]) tab) ?_
  rintro _ h5 ⟨rfl, N5⟩
  try refine go_run tab 1000 _ _ ?_
  conv => whnf
  refine Runs.eff (eff_storeB tab N5.blk) ?_
  rintro _ h6 P6
  have sk := kk.size
  have kk := (kk.trans (N5.keeps.mono sk)).trans (P6.keeps.mono sk)
  obtain ⟨ob, hob⟩ : ∃ ob, ob = h4.size := ⟨_, rfl⟩
  rw [← hob] at P6 sk ⊢
  have hat := P6.blk
  try refine go_run tab 1000 _ _ ?_
  conv => whnf
  refine Runs.callV (calc_add (A := A) (C := C) hA hC (by omega) hat) ?_
  rintro _ _ ⟨rfl, hat, kc⟩
  have kk := kk.trans (kc.mono sk)
  try refine go_run tab 1000 _ _ ?_
  conv => whnf
  refine Runs.callV (calc_add (A := C) (C := A) hC hA (by omega) hat) ?_
  rintro _ _ ⟨rfl, hat, kc⟩
  have kk := kk.trans (kc.mono sk)
  try refine go_run tab 1000 _ _ ?_
  conv => whnf
  refine And.intro (fun _ => ?_) (fun hn => absurd (by rw [Nat.add_comm]) hn)
  conv => whnf
  refine Runs.callV (calc_mul (A := A) (C := C) hA hC (by omega) hat) ?_
  rintro _ _ ⟨rfl, hat, kc⟩
  have kk := kk.trans (kc.mono sk)
  try refine go_run tab 1000 _ _ ?_
  conv => whnf
  refine Runs.callV (calc_mul (A := C) (C := A) hC hA (by omega) hat) ?_
  rintro _ _ ⟨rfl, hat, kc⟩
  have kk := kk.trans (kc.mono sk)
  try refine go_run tab 1000 _ _ ?_
  conv => whnf
  refine And.intro (fun _ => ?_) (fun hn => absurd (by rw [Nat.mul_comm]) hn)
  conv => whnf
  refine Runs.callV (calc_add (A := A) (C := C) hA hC (by omega) hat) ?_
  rintro _ _ ⟨rfl, hat, kc⟩
  have kk := kk.trans (kc.mono sk)
  try refine go_run tab 1000 _ _ ?_
  conv => whnf
  refine Runs.callV (calc_add (A := A + C) (C := D) (by omega) hD (by omega) hat) ?_
  rintro _ _ ⟨rfl, hat, kc⟩
  have kk := kk.trans (kc.mono sk)
  try refine go_run tab 1000 _ _ ?_
  conv => whnf
  refine Runs.callV (calc_add (A := C) (C := D) hC hD (by omega) hat) ?_
  rintro _ _ ⟨rfl, hat, kc⟩
  have kk := kk.trans (kc.mono sk)
  try refine go_run tab 1000 _ _ ?_
  conv => whnf
  refine Runs.callV (calc_add (A := A) (C := C + D) hA (by omega) (by omega) hat) ?_
  rintro _ _ ⟨rfl, hat, kc⟩
  have kk := kk.trans (kc.mono sk)
  try refine go_run tab 1000 _ _ ?_
  conv => whnf
  refine And.intro (fun _ => ?_) (fun hn => absurd (by rw [Nat.add_assoc]) hn)
  conv => whnf
  refine Runs.callV (calc_mul (A := A) (C := C) hA hC (by omega) hat) ?_
  rintro _ _ ⟨rfl, hat, kc⟩
  have kk := kk.trans (kc.mono sk)
  try refine go_run tab 1000 _ _ ?_
  conv => whnf
  refine Runs.callV (calc_mul (A := A * C) (C := D) (by omega) hD (by omega) hat) ?_
  rintro _ _ ⟨rfl, hat, kc⟩
  have kk := kk.trans (kc.mono sk)
  try refine go_run tab 1000 _ _ ?_
  conv => whnf
  refine Runs.callV (calc_mul (A := C) (C := D) hC hD (by omega) hat) ?_
  rintro _ _ ⟨rfl, hat, kc⟩
  have kk := kk.trans (kc.mono sk)
  try refine go_run tab 1000 _ _ ?_
  conv => whnf
  refine Runs.callV (calc_mul (A := A) (C := C * D) hA (by omega) (by omega) hat) ?_
  rintro _ _ ⟨rfl, hat, kc⟩
  have kk := kk.trans (kc.mono sk)
  try refine go_run tab 1000 _ _ ?_
  conv => whnf
  refine And.intro (fun _ => ?_) (fun hn => absurd (by rw [Nat.mul_assoc]) hn)
  conv => whnf
  refine Runs.callV (calc_add (A := C) (C := D) hC hD (by omega) hat) ?_
  rintro _ _ ⟨rfl, hat, kc⟩
  have kk := kk.trans (kc.mono sk)
  try refine go_run tab 1000 _ _ ?_
  conv => whnf
  refine Runs.callV (calc_mul (A := A) (C := C + D) hA (by omega) (by omega) hat) ?_
  rintro _ _ ⟨rfl, hat, kc⟩
  have kk := kk.trans (kc.mono sk)
  try refine go_run tab 1000 _ _ ?_
  conv => whnf
  refine Runs.callV (calc_mul (A := A) (C := C) hA hC (by omega) hat) ?_
  rintro _ _ ⟨rfl, hat, kc⟩
  have kk := kk.trans (kc.mono sk)
  try refine go_run tab 1000 _ _ ?_
  conv => whnf
  refine Runs.callV (calc_mul (A := A) (C := D) hA hD (by omega) hat) ?_
  rintro _ _ ⟨rfl, hat, kc⟩
  have kk := kk.trans (kc.mono sk)
  try refine go_run tab 1000 _ _ ?_
  conv => whnf
  refine Runs.callV (calc_add (A := A * C) (C := A * D) (by omega) (by omega) (by omega) hat) ?_
  rintro _ _ ⟨rfl, hat, kc⟩
  have kk := kk.trans (kc.mono sk)
  try refine go_run tab 1000 _ _ ?_
  conv => whnf
  refine And.intro (fun _ => ?_) (fun hn => absurd (by rw [Nat.mul_add]) hn)
  conv => whnf
  have z0 : nb 0 ≤ 256 := by decide
  have z1 : nb 1 ≤ 256 := by decide
  have w0 : nb (A + 0) ≤ 256 := by rw [Nat.add_zero]; exact hA
  have w1 : nb (A * 1) ≤ 256 := by rw [Nat.mul_one]; exact hA
  have w2 : nb (A * 0) ≤ 256 := by rw [Nat.mul_zero]; exact z0
  refine Runs.callV (calc_add (A := A) (C := 0) hA z0 w0 hat) ?_
  rintro _ _ ⟨rfl, hat, kc⟩
  have kk := kk.trans (kc.mono sk)
  try refine go_run tab 1000 _ _ ?_
  conv => whnf
  refine And.intro (fun _ => ?_) (fun hn => absurd (by rw [Nat.add_zero]) hn)
  conv => whnf
  rw [enc_one]
  refine Runs.callV (calc_mul (A := A) (C := 1) hA z1 w1 hat) ?_
  rintro _ _ ⟨rfl, hat, kc⟩
  have kk := kk.trans (kc.mono sk)
  try refine go_run tab 1000 _ _ ?_
  conv => whnf
  refine And.intro (fun _ => ?_) (fun hn => absurd (by rw [Nat.mul_one]) hn)
  conv => whnf
  refine Runs.callV (calc_mul (A := A) (C := 0) hA z0 w2 hat) ?_
  rintro _ _ ⟨rfl, hat, kc⟩
  have kk := kk.trans (kc.mono sk)
  try refine go_run tab 1000 _ _ ?_
  conv => whnf
  refine ⟨_, hat.one, ?_⟩
  conv => whnf
  refine Runs.ret Tryd.func7 rfl rfl ⟨_, rfl, ?_⟩
  have e0 : enc 0 = (⟨#[]⟩ : ByteArray) := rfl
  exact ⟨by simp [tup, e0], kk⟩
end Go.Proofs.YtehlghcpbmbfkaaDoor

namespace Go.Proofs.YtehlghcpbmbfkaaDoor.naturalsRules
open Go Go.Fw Go.ChangeShapes Go.ChangeMaps Go.WideShapes Go.ChangeAt Go.RowKit
set_option maxRecDepth 100000

theorem int_wf {n : Int} (h : (Lit.int .i64 n).wf = true) : -9223372036854775808 ≤ n ∧ n ≤ 9223372036854775807 := by
  have h1 : IntKind.i64.min ≤ n ∧ n ≤ 9223372036854775807 := by simpa [Lit.wf] using h
  have e : IntKind.i64.min = -9223372036854775808 := rfl
  omega

/-- WHAT THE WALK GIVES, FOR EVERY ARGUMENT AND EVERY WORLD THAT HOLDS THE TABLE. -/
theorem contract (H : Type) (enc : TypeId × Value → H) (W : World) (base : Nat) (args : Array Value) (ds gs : List (DataW H)) (before : List MemPlace)
    (hval : ∀ (j : Nat) t v, Tryd.f7.params[j]? = some t → args[j]? = some v → Value.okWide Tryd.prog W .any base t v)
    (hW : DataW.Whole enc Tryd.prog Tryd.f7.params.toList Rows.naturalsRulesSpec.vars false W args.toList ds gs before) (hL : laidMetH Tryd.prog Rows.naturalsRulesRow.laid W) :
    Calls Tryd.prog 7 args W fun e W' => ∃ v, e = .returned v ∧ Rows.naturalsRulesSpec.post enc Tryd.prog Tryd.f7 false true false false W args v W' := by
  have hW' := hW
  obtain ⟨p, q, hA0, hV, rfl, hfz, hnd⟩ := hW
  have hA : DataW.TrodAll enc Tryd.prog W 0 (fun _ => true) true Tryd.f7.params.toList args.toList ds p := hA0
  rw [Tryd.params7] at hA hval
  obtain ⟨v0, vs0, d0, ds0, p0, q0, hargs, rfl, rfl, h0, r0⟩ := trodAll_cons hA
  obtain ⟨v1, vs1, d1, ds1, p1, q1, rfl, rfl, rfl, h1, r1⟩ := trodAll_cons r0
  obtain ⟨v2, vs2, d2, ds2, p2, q2, rfl, rfl, rfl, h2, r2⟩ := trodAll_cons r1
  obtain ⟨rfl, rfl, rfl⟩ := trodAll_nil r2
  obtain rfl : args = #[v0, v1, v2] := by cases args; simp_all
  obtain ⟨rfl, rfl⟩ := trodVars_none hV
  obtain ⟨x0, rfl, rfl, rfl, m0⟩ := open_string Tryd.underlying9 (hval 0 9 v0 rfl rfl) h0
  obtain ⟨x1, rfl, rfl, rfl, m1⟩ := open_string Tryd.underlying9 (hval 1 9 v1 rfl rfl) h1
  obtain ⟨x2, rfl, rfl, rfl, m2⟩ := open_string Tryd.underlying9 (hval 2 9 v2 rfl rfl) h2
  clear hA0
  simp only [List.append_nil, List.nil_append] at hW'
  have walk := FnV.below (W := W) (R := fun r => r = .bool true) (rules_fn x0 x1 x2 (table hL))
  refine walk.mono fun e W' ⟨v, he, hv, hg⟩ => ?_
  subst he hv
  exact ⟨_, rfl, post_of_below (pa := []) (pv := []) hW' (fun _ _ _ => trodAll_cons_mk (shut_bool Tryd.underlying4 _) trodAll_mk0) (fun _ _ => trodAll_cons_mk (shut_string Tryd.underlying9 m0) (trodAll_cons_mk (shut_string Tryd.underlying9 m1) (trodAll_cons_mk (shut_string Tryd.underlying9 m2) trodAll_mk0))) (fun _ _ => rfl) rfl
    hg (ok_one (by kernel_rfl) rfl (okWide_bool_mk Tryd.underlying4 _))⟩

theorem laid_met (os : Os) : laidMet Tryd.prog Rows.naturalsRulesRow.laid ((laidWorld os).forCall (fun _ _ => 0) ⟨#[], #[.string ⟨#[]⟩, .string ⟨#[]⟩, .string ⟨#[]⟩], []⟩).memory :=
  laidMet_of_run' 8 (by kernel_rfl) (by kernel_rfl)
theorem reads (os : Os) {H : Type} (enc : TypeId × Value → H) : ∃ places, DataW.whole enc Tryd.prog ((laidWorld os).forCall (fun _ _ => 0) ⟨#[], #[.string ⟨#[]⟩, .string ⟨#[]⟩, .string ⟨#[]⟩], []⟩).memory Tryd.f7.params.toList Rows.naturalsRulesSpec.vars false (#[.string ⟨#[]⟩, .string ⟨#[]⟩, .string ⟨#[]⟩] : Array Value).toList 8 = some ([.lit (.string []), .lit (.string []), .lit (.string [])], [], places) :=
  ⟨[], by kernel_rfl⟩

theorem lifted (os : Os) (started : os.Started) (H : Type) (enc : TypeId × Value → H) (F : Stop.Interp) :
    ReturnsInHanded {} Tryd.checked os 7 .any ((OpenSpec.ofChange Rows.naturalsRulesSpec).preRow enc Tryd.prog Tryd.f7 Rows.naturalsRulesRow.domain false Rows.naturalsRulesRow.laid) (((OpenSpec.ofChange Rows.naturalsRulesSpec).at F).post enc Tryd.prog Tryd.f7 false true false false) := by
  obtain ⟨places, hx⟩ := reads os enc
  refine returnsInHanded_of_row (C := Tryd.checked) (s := OpenSpec.ofChange Rows.naturalsRulesSpec) own started (by kernel_rfl) Tryd.func7
    (witness_row_at (enc := enc) (C := Tryd.checked) false (laidWorld os) #[.string ⟨#[]⟩, .string ⟨#[]⟩, .string ⟨#[]⟩] rfl (by kernel_rfl) (by kernel_rfl) (by kernel_rfl)
      (OpenSpec.preRow_of_cond 8 hx (by kernel_rfl) (fun k hk => by cases hk) (by kernel_rfl) (laid_met os))) ?_
  intro W base args ds gs before hval hW _ _ _ hL _ _
  exact contract H enc W base args ds gs before hval hW hL

theorem said : Rows.NaturalsRulesSaid :=
  OpenClaim.holds_of_cond 7 Tryd.f7 rfl rfl rfl rfl rfl rfl rfl ⟨rfl, rfl, rfl, rfl, rfl⟩ rfl rfl rfl rfl rfl (by kernel_rfl) Tryd.func7 (by kernel_rfl)
    (of_decide_eq_true (by kernel_rfl)) (by unfold Func.isWrapper; first | (rw [if_pos (by decide +kernel)]; kernel_rfl) | (rw [if_neg (by decide +kernel)]; exact ⟨rfl, rfl⟩))
    (fun os started H enc _ F => by rw [OpenClaim.pre_eq_preRow]; exact lifted os started H enc F)

/-- No parameter wants a stand-in; the program's own looks are off. -/
theorem plain (f : FuncId) (fn : Func) (hf : Tryd.pinned.checked.prog.funcNamed "backflush/backflushlaw06.NaturalsRules" = some f) (hfn : Tryd.pinned.checked.prog.funcs[f]? = some fn) :
    false = Tryd.pinned.checked.prog.looks [] ∧ ∀ (j : Nat) t, fn.params[j]? = some t → Tryd.pinned.checked.prog.wantsStandIn t = false := by
  obtain rfl : f = 7 := Option.some.inj ((show Tryd.prog.funcNamed "backflush/backflushlaw06.NaturalsRules" = some 7 by kernel_rfl).symm.trans hf) |>.symm
  obtain rfl : fn = Tryd.f7 := (Option.some.inj (Tryd.func7.symm.trans hfn)).symm
  refine ⟨by kernel_rfl, fun j t ht => ?_⟩
  rw [Tryd.params7] at ht
  have hm := Array.mem_of_getElem? ht
  simp only [List.mem_toArray, List.mem_cons, List.not_mem_nil, or_false] at hm
  rcases hm with rfl | rfl | rfl
  · exact (show Tryd.prog.wantsStandIn 9 = false by kernel_rfl)
  · exact (show Tryd.prog.wantsStandIn 9 = false by kernel_rfl)
  · exact (show Tryd.prog.wantsStandIn 9 = false by kernel_rfl)

/-- THE CARD -/
theorem card : Rows.NaturalsRulesCardSaid :=
  Claim7.holds_tied_plain_at .later [] _ _ _ _ said (fun _ h => by cases h) (by kernel_rfl) (fun _ h => by cases h) naturalsRules_row_tie rfl ⟨rfl, rfl⟩ (by kernel_rfl) rfl plain (by kernel_rfl)
end Go.Proofs.YtehlghcpbmbfkaaDoor.naturalsRules
