/- NaturalsDivSpec: for every input the law returns true, and each argument reads behind the call as it read before; the table math/bits.deBruijn64tab holds, when the call begins, what the program's text lays (the card ties it). NaturalsDivSpec: the walk. The reference: divide, Div, Gcd, Few. The reference's division: strings that grow by one byte; plain. -/
import Derived.Test.YtehlghcpbmbfkaaDoorJoinC
namespace Go.NatM
open Go Go.Fw

theorem byteAt_app (a b : ByteArray) (i : Nat) : byteAt (a ++ b) i = if i < a.size then byteAt a i else byteAt b (i - a.size) := by
  obtain ⟨⟨a⟩⟩ := a
  obtain ⟨⟨b⟩⟩ := b
  have e : (ByteArray.mk ⟨a⟩ ++ ByteArray.mk ⟨b⟩).data.toList = a ++ b := by rw [ByteArray.data_append]; simp
  unfold byteAt
  have e2 : (ByteArray.mk ⟨a⟩).size = a.length := rfl
  rw [e, e2, List.getD_eq_getElem?_getD, List.getElem?_append]
  by_cases h : i < a.length
  · rw [if_pos h, if_pos h, List.getD_eq_getElem?_getD]
  · rw [if_neg h, if_neg h, List.getD_eq_getElem?_getD]

theorem byteAt_ext (s : ByteArray) {lo hi i : Nat} (hh : hi ≤ s.size) (h : lo + i < hi) : byteAt (s.extract lo hi) i = byteAt s (lo + i) := by
  obtain ⟨⟨a⟩⟩ := s
  have hh : hi ≤ a.length := hh
  unfold byteAt
  rw [List.getD_eq_getElem?_getD, List.getD_eq_getElem?_getD]
  have e : ((ByteArray.mk ⟨a⟩).extract lo hi).data.toList = (a.drop lo).take (hi - lo) := by
    rw [ByteArray.data_extract]
    simp
  rw [e, List.getElem?_take_of_lt (by omega), List.getElem?_drop]

theorem byc_push0 (R : Nat) {c : Nat} (hc : c < 256) : byc (256 * R + c) 0 = c := by
  unfold byc; rw [Nat.pow_zero, Nat.div_one]; omega
theorem byc_pushS (R : Nat) {c : Nat} (hc : c < 256) (k : Nat) : byc (256 * R + c) (k + 1) = byc R k := by
  unfold byc
  rw [Nat.pow_succ', ← Nat.div_div_eq_div_mul, show (256 * R + c) / 256 = R by omega]
theorem nb_push {R c : Nat} (hR : R ≠ 0) (hc : c < 256) : nb (256 * R + c) = nb R + 1 := by
  refine (nb_eq ?_ fun _ => ?_).symm
  · have := nb_lt R
    rw [Nat.pow_succ]
    omega
  · have := nb_pos hR
    rw [show nb R + 1 - 1 = (nb R - 1) + 1 by omega, byc_pushS R hc]
    exact nb_topb hR
theorem nb_one {c : Nat} (h0 : c ≠ 0) (hc : c < 256) : nb c = 1 := by
  refine (nb_eq (by omega) fun _ => ?_).symm
  have := byc_push0 0 hc
  rw [Nat.mul_zero, Nat.zero_add] at this
  rw [this]; exact h0

theorem push_enc {R i : Nat} {s : ByteArray} (hi : i < s.size) (h : R ≠ 0 ∨ byteAt s i ≠ 0) : enc R ++ s.extract i (i + 1) = enc (256 * R + byteAt s i) := by
  have hc := byteAt_lt s i
  have e1 : (s.extract i (i + 1)).size = 1 := by rw [ByteArray.size_extract]; omega
  have hn : nb (256 * R + byteAt s i) = nb R + 1 := by
    by_cases hR : R = 0
    · subst hR
      rw [Nat.mul_zero, Nat.zero_add, nb_zero]
      exact nb_one (h.resolve_left (fun f => f rfl)) hc
    · exact nb_push hR hc
  refine bytes_ext (by rw [ByteArray.size_append, enc_size, enc_size, e1, hn]) fun k hk => ?_
  rw [ByteArray.size_append, enc_size, e1] at hk
  rw [byteAt_enc (by omega), byteAt_app, enc_size, hn]
  split
  · next hk2 => rw [byteAt_enc hk2, show nb R + 1 - 1 - k = (nb R - 1 - k) + 1 by omega, byc_pushS R hc]
  · rw [show nb R + 1 - 1 - k = 0 by omega, byc_push0 R hc, byteAt_ext s (by omega) (by omega)]
    congr 1
    omega
theorem push_first {R i : Nat} {s : ByteArray} (hi : i < s.size) : byteAt (enc R ++ s.extract i (i + 1)) 0 = 0 ↔ R = 0 ∧ byteAt s i = 0 := by
  rw [byteAt_app, enc_size]
  by_cases hR : R = 0
  · subst hR
    rw [nb_zero, if_neg (by omega), byteAt_ext s (by omega) (by omega)]
    simp
  · have h1 := nb_pos hR
    have h2 := nb_topb hR
    rw [if_pos h1, byteAt_enc h1]
    simp [hR]
    exact h2
theorem push_zero {i : Nat} {s : ByteArray} (hi : i < s.size) : (enc 0 ++ s.extract i (i + 1)).extract 1 ((enc 0 ++ s.extract i (i + 1)).size) = enc 0 := by
  refine bytes_ext ?_ fun k hk => ?_
  · rw [ByteArray.size_extract, ByteArray.size_append, enc_size, nb_zero, ByteArray.size_extract]; omega
  · rw [ByteArray.size_extract, ByteArray.size_append, enc_size, nb_zero, ByteArray.size_extract] at hk; omega

theorem dn_push (Q : Nat) {d : Nat} (hd : d < 256) (n : Nat) : ∀ j, j ≤ n → dn (256 * Q + d) (n + 1) j = dn Q n j
  | 0, _ => rfl
  | j + 1, h => by
    have ih := dn_push Q hd n j (by omega)
    rw [dn, dn, ih, show n + 1 - 1 - j = (n - 1 - j) + 1 by omega, byc_pushS Q hd]
/-- a number's bytes -/
def bts (V : Nat) : List Nat := dn V (nb V) (nb V)
theorem bts_len (V : Nat) : (bts V).length = nb V := dn_length _ _ _
theorem bts_zero : bts 0 = [] := rfl
theorem bts_push {Q d : Nat} (hd : d < 256) (h : Q ≠ 0 ∨ d ≠ 0) : bts (256 * Q + d) = bts Q ++ [d] := by
  have hn : nb (256 * Q + d) = nb Q + 1 := by
    by_cases hQ : Q = 0
    · subst hQ
      rw [Nat.mul_zero, Nat.zero_add, nb_zero]
      exact nb_one (h.resolve_left (fun f => f rfl)) hd
    · exact nb_push hQ hd
  unfold bts
  rw [hn, dn, dn_push Q hd _ _ (Nat.le_refl _), show nb Q + 1 - 1 - nb Q = 0 by omega, byc_push0 Q hd]

/-- one more digit of the dividend -/
theorem pre_step {s : ByteArray} {i : Nat} (hi : i < s.size) : natv s / 256 ^ (s.size - (i + 1)) = 256 * (natv s / 256 ^ (s.size - i)) + byteAt s i := by
  have h1 := bdiv_step (natv s) (s.size - 1 - i)
  rw [byc_natv s (by omega), show s.size - 1 - (s.size - 1 - i) = i by omega, show s.size - 1 - i + 1 = s.size - i by omega] at h1
  rw [show s.size - (i + 1) = s.size - 1 - i by omega]
  omega
theorem div_digit {P B c : Nat} (hB : 0 < B) : (256 * P + c) / B = 256 * (P / B) + (256 * (P % B) + c) / B ∧ (256 * P + c) % B = (256 * (P % B) + c) % B := by
  have h := Nat.div_add_mod P B
  have e : 256 * P + c = B * (256 * (P / B)) + (256 * (P % B) + c) := by
    have : B * (256 * (P / B)) = 256 * (B * (P / B)) := by rw [Nat.mul_left_comm]
    omega
  rw [e, Nat.mul_add_div hB, Nat.mul_add_mod]
  exact ⟨rfl, rfl⟩
theorem digit_lt {P B c : Nat} (hB : 0 < B) (hc : c < 256) : (256 * (P % B) + c) / B < 256 := by
  have := Nat.mod_lt P hB
  refine (Nat.div_lt_iff_lt_mul hB).2 ?_
  omega
end Go.NatM

namespace Go.Proofs.YtehlghcpbmbfkaaDoor
open Go Go.Fw Go.NatM
set_option maxRecDepth 100000
set_option maxHeartbeats 8000000

theorem own_keeps {base B' : Nat} {h h' : Array Obj} {e : TypeId} {sz : Nat} {v : Value} {m : Nat} {xs : List Value} (H : Own base h e sz v m xs) (hk : Keeps B' h h') (hB : h.size ≤ B') : Own base h' e sz v m xs := by
  obtain ⟨hl, H⟩ := H
  refine ⟨hl, ?_⟩
  rcases H with H | ⟨g, cap, cur, h1, h2, h3, h4⟩
  · exact .inl H
  · exact .inr ⟨g, cap, cur, h1, h2, hk.at h3 (Nat.lt_of_lt_of_le h3.lt hB), h4⟩

theorem rdivide_fn {h : Array Obj} {a b : ByteArray} (hb : Canon b) (hsa : a.size ≤ 1000) (hsb : b.size ≤ 1000) (hB : natv b ≠ 0) :
    FnV Tryd.prog 52 #[.string a, .string b] h fun r h' => r = .tuple #[.string (enc (natv a / natv b)), .string (enc (natv a % natv b))] ∧ Keeps h.size h h' := by
  obtain ⟨B, hBe⟩ : ∃ B, B = natv b := ⟨_, rfl⟩
  rw [← hBe] at hB ⊢
  obtain ⟨P, hP⟩ : ∃ P : Nat → Nat, P = fun i => natv a / 256 ^ (a.size - i) := ⟨_, rfl⟩
  have p0 : P 0 = 0 := by rw [hP]; exact Nat.div_eq_of_lt (natv_lt a)
  have pn : P a.size = natv a := by rw [hP]; simp
  have ps : ∀ i, i < a.size → P (i + 1) = 256 * P i + byteAt a i := fun i hi => by rw [hP]; exact pre_step hi
  have pb : ∀ i, nb (P i / B) ≤ a.size := fun i => by
    refine nb_le (Nat.lt_of_le_of_lt ?_ (natv_lt a))
    rw [hP]
    exact Nat.le_trans (Nat.div_le_self _ _) (Nat.div_le_self _ _)
  have hBp : 0 < B := by omega
  have hBn : nb B = b.size := by rw [hBe]; exact nb_natv hb
  have rb : ∀ i, nb (P i % B) ≤ b.size := fun i => by
    rw [← hBn]; exact nb_mono (Nat.le_of_lt (Nat.mod_lt _ hBp))
  rw [← pn]
  refine Fn.of (args := [.string a, .string b]) Tryd.func52 (by kernel_rfl) rfl Tryd.ntmps52 rfl fun w0 cs => ?_
  refine go_run tab 1000 _ _ ?_
  conv => whnf
  refine Runs.eff (eff_build tab [] (h1 := by simp)) ?_
  rintro _ _ ⟨rfl, rfl⟩
  try refine go_run tab 1000 _ _ ?_
  conv => whnf
  repeat (refine And.intro (by omega) ?_; conv => whnf)
  refine Runs.loop (X := Nat × Value) (fun q => [(0, .string a), (1, .string b), (6, q.2), (7, .string (enc (P q.1 % B))), (8, .int .i64 (q.1 : Nat))])
    (fun q h' => q.1 ≤ a.size ∧ Buf h.size h' q.2 (bts (P q.1 / B)) ∧ Keeps h.size h h') (fun q => a.size - q.1) (0, .slice (some ⟨h.size, 0, none⟩) 0 0)
    ⟨Nat.zero_le _, ?_, (Keeps.refl _ _).push (Nat.le_refl _) _⟩ ⟨rfl, rfl, rfl, by rw [p0, Nat.zero_mod]; rfl, rfl, trivial⟩ ?_
  · show Buf _ _ _ (bts (P 0 / B))
    rw [p0, Nat.zero_div]
    exact ⟨rfl, .inr ⟨h.size, 0, _, rfl, Nat.le_refl _, push_new _ _ _, Nat.zero_le _, by unfold maxLen; omega, by simp, by simp [bts_zero]⟩⟩
  rintro ⟨i, buf⟩ h' ⟨hi, hbuf, hkp⟩ ih
  dsimp only at hi hbuf ⊢
  try refine go_run tab 1000 _ _ ?_
  conv => whnf
  refine ⟨fun h1 => ?_, fun h1 => ?_⟩ <;> conv => whnf
  · have hi' : i < a.size := by omega
    have s1 : (enc (P i % B)).size ≤ 1000 := by rw [enc_size]; have := rb i; omega
    have s2 : (a.extract i (i + 1)).size = 1 := by rw [ByteArray.size_extract]; omega
    repeat (refine And.intro (by omega) ?_; conv => whnf)
    have hc := byteAt_lt a i
    have hpi := ps i hi'
    have hdd := div_digit (P := P i) (c := byteAt a i) hBp
    have hdl := digit_lt (P := P i) hBp hc
    rw [← hpi] at hdd
    obtain ⟨X, hX⟩ : ∃ X, X = 256 * (P i % B) + byteAt a i := ⟨_, rfl⟩
    rw [← hX] at hdd hdl
    have hpf := push_first (R := P i % B) hi'
    have hpz := push_zero hi'
    have hpe := push_enc (R := P i % B) hi'
    rw [← hX] at hpe
    have sX : nb X ≤ b.size + 1 := by
      have h1 := rb i
      have h2 := nb_lt (P i % B)
      refine nb_le (Nat.lt_of_lt_of_le (?_ : X < 256 ^ (nb (P i % B) + 1)) (Nat.pow_le_pow_right (by decide) (by omega)))
      rw [Nat.pow_succ]
      omega
    try refine go_run tab 1000 _ _ ?_
    conv => whnf
    rw [show (i : Int).toNat = i from rfl, show ((i : Int) + 1).toNat = i + 1 from rfl]
    repeat (refine And.intro (by omega) ?_; conv => whnf)
    try refine go_run tab 1000 _ _ ?_
    conv => whnf
    obtain ⟨s, hs⟩ : ∃ s, s = enc (P i % B) ++ a.extract i (i + 1) := ⟨_, rfl⟩
    have hs1 : s.size = (enc (P i % B)).size + 1 := by rw [hs, ByteArray.size_append, s2]
    rw [← hs] at hpf hpe ⊢
    have hps : P i % B = 0 ∧ byteAt a i = 0 → s.extract 1 s.size = enc X := fun hh => by
      rw [hs, hh.1, hpz, hX, hh.1, hh.2]
    repeat (refine And.intro (by omega) ?_; conv => whnf)
    conv => whnf
    refine ⟨fun h2 => ?_, fun h2 => ?_⟩ <;> conv => whnf
    all_goals first
      | (have h3 := hps (hpf.1 (by have : ((byteAt s (Int.toNat 0) : Nat) : Int) = 0 := h2
                                   exact Int.ofNat.inj this))
         refine And.intro (by omega) ?_; conv => whnf
         rw [show (1 : Int).toNat = 1 from rfl, h3])
      | (have h3 := hpe (by by_cases h4 : P i % B = 0
                            · refine .inr fun h5 => h2 ?_
                              have := hpf.2 ⟨h4, h5⟩
                              show ((byteAt s (Int.toNat 0) : Nat) : Int) = 0
                              rw [show Int.toNat 0 = 0 from rfl, this]; rfl
                            · exact .inl h4)
         rw [h3])
    all_goals try refine go_run tab 1000 _ _ ?_
    all_goals conv => whnf
    all_goals clear hpf hpe hpz hps h2 h3
    all_goals
      obtain ⟨ab, capb, rfl⟩ := Own.shape hbuf
      refine Runs.loop (X := Nat) (fun d => [(0, .string a), (1, .string b), (6, .slice ab (bts (P i / B)).length capb), (7, .string (enc (X - d * B))), (8, .int .i64 (i : Nat)), (9, .int .i64 (d : Nat))])
        (fun d h2 => d * B ≤ X ∧ Keeps h'.size h' h2) (fun d => X - d * B) 0 ⟨by omega, Keeps.refl _ _⟩ ⟨rfl, rfl, rfl, by rw [Nat.zero_mul]; rfl, rfl, rfl, trivial⟩ ?_
      rintro d h2 ⟨hd, hk2⟩ ih2
      have sY : nb (X - d * B) ≤ b.size + 1 := Nat.le_trans (nb_mono (Nat.sub_le _ _)) sX
      have hdB : d ≤ X / B := (Nat.le_div_iff_mul_le hBp).2 hd
      have e1 : (d + 1) * B = d * B + B := Nat.succ_mul d B
      try refine go_run tab 1000 _ _ ?_
      conv => whnf
      refine Runs.callV (rless_fn (canon_enc (X - d * B)) hb (by rw [enc_size]; omega) (by omega)) ?_
      rintro _ h2 ⟨rfl, rfl⟩
      rw [natv_enc, ← hBe]
      by_cases h4 : X - d * B < B
      · rw [decide_eq_true h4]
        try refine go_run tab 1000 _ _ ?_
        conv => whnf
        have hdX : X / B = d := (Nat.div_eq_of_lt_le (by omega) (by omega))
        have hmX : X % B = X - d * B := by
          have := Nat.div_add_mod X B
          rw [hdX, Nat.mul_comm] at this
          omega
        have hd256 : (d : Int) % 256 = d := by omega
        have sQ := pb i
        rw [← bts_len] at sQ
        have hB2 := own_keeps hbuf hk2 (Nat.le_refl _)
        have sz2 := hk2.size
        have szh := hkp.size
        have hnew : 0 < d ∨ ¬ bts (P i / B) = [] → bts (P (i + 1) / B) = bts (P i / B) ++ [d] := fun hh => by
          rw [hdd.1, hdX]
          refine bts_push (by omega) ?_
          rcases hh with hh | hh
          · exact .inr (by omega)
          · exact .inl fun e => hh (by rw [e]; rfl)
        refine ⟨fun h5 => ?_, fun h5 => ?_⟩ <;> conv => whnf
        rotate_left
        · conv => whnf
          refine ⟨fun h6 => ?_, fun h6 => ?_⟩ <;> conv => whnf
          rotate_left
          · have hq : bts (P i / B) = [] := List.eq_nil_of_length_eq_zero (by omega)
            have hd0 : d = 0 := by omega
            have hq0 : bts (P (i + 1) / B) = [] := by
              have : P i / B = 0 := by
                by_cases h7 : P i / B = 0
                · exact h7
                · have := nb_pos h7
                  rw [← bts_len, hq] at this
                  exact absurd this (by decide)
              rw [hdd.1, this, hdX, hd0]; rfl
            try refine go_run tab 1000 _ _ ?_
            conv => whnf
            repeat (refine And.intro (by omega) ?_; conv => whnf)
            refine ih (i + 1, _) _ _ ⟨by dsimp only; omega, ?_, hkp.trans (hk2.mono szh)⟩ (by dsimp only; omega) ⟨rfl, rfl, rfl, ?_, rfl, trivial⟩
            · show Buf _ _ _ (bts (P (i + 1) / B))
              rw [hq0, ← hq]
              exact hB2
            · show some (Value.string (enc (X - d * B))) = some (Value.string (enc (P (i + 1) % B)))
              rw [hdd.2, hmX]
          all_goals try refine go_run tab 1000 _ _ ?_
          all_goals conv => whnf
          all_goals replace hnew := hnew (.inr fun e => by rw [e] at h6; simp at h6)
          rw [hd256]
          refine Runs.eff (eff_build tab [.int .u8 (d : Nat)] (h1 := by simp [Value.cells])) ?_
          rintro _ _ ⟨rfl, rfl⟩
          try refine go_run tab 1000 _ _ ?_
          conv => whnf
          repeat (refine And.intro (by omega) ?_; conv => whnf)
          have hnews : ∀ j u, [Value.int .u8 (d : Nat)][j]? = some u → cellH (h2.push (.cells #[Value.int .u8 (d : Nat)] 5 (0, 0))) h2.size (0 + j) = some u := fun j u hu => by
            rw [(push_new _ _ _).cell, Nat.zero_add]
            cases j with
            | zero => simpa using hu
            | succ j => simp at hu
          refine Runs.eff (eff_append tab (base := h.size) (m := (bts (P i / B)).length) (m2 := 1) (news := [Value.int .u8 (d : Nat)]) (Own.push hB2 _) rfl hnews (by simp [Value.oneCell']) (h63 := by unfold maxLen; omega) (hbytes := by dsimp only; omega) (hbase := by simp; omega)) ?_
          rintro v' h4 ⟨H1, H2, H3, _⟩
          try refine go_run tab 1000 _ _ ?_
          conv => whnf
          repeat (refine And.intro (by omega) ?_; conv => whnf)
          refine ih (i + 1, v') _ _ ⟨by dsimp only; omega, ?_, ((hkp.trans (hk2.mono szh)).push (by omega) _).trans ((Own.push hB2 _).keeps (by simp; omega) H2 H3)⟩ (by dsimp only; omega) ⟨rfl, rfl, rfl, ?_, rfl, trivial⟩
          · show Buf _ _ _ (bts (P (i + 1) / B))
            rw [hnew]
            unfold Buf
            rw [List.length_append, List.map_append]
            exact H1
          · show some (Value.string (enc (X - d * B))) = some (Value.string (enc (P (i + 1) % B)))
            rw [hdd.2, hmX]
        · try refine go_run tab 1000 _ _ ?_
          conv => whnf
          replace hnew := hnew (.inl (by omega))
          rw [hd256]
          refine Runs.eff (eff_build tab [.int .u8 (d : Nat)] (h1 := by simp [Value.cells])) ?_
          rintro _ _ ⟨rfl, rfl⟩
          try refine go_run tab 1000 _ _ ?_
          conv => whnf
          repeat (refine And.intro (by omega) ?_; conv => whnf)
          have hnews : ∀ j u, [Value.int .u8 (d : Nat)][j]? = some u → cellH (h2.push (.cells #[Value.int .u8 (d : Nat)] 5 (0, 0))) h2.size (0 + j) = some u := fun j u hu => by
            rw [(push_new _ _ _).cell, Nat.zero_add]
            cases j with
            | zero => simpa using hu
            | succ j => simp at hu
          refine Runs.eff (eff_append tab (base := h.size) (m := (bts (P i / B)).length) (m2 := 1) (news := [Value.int .u8 (d : Nat)]) (Own.push hB2 _) rfl hnews (by simp [Value.oneCell']) (h63 := by unfold maxLen; omega) (hbytes := by dsimp only; omega) (hbase := by simp; omega)) ?_
          rintro v' h4 ⟨H1, H2, H3, _⟩
          try refine go_run tab 1000 _ _ ?_
          conv => whnf
          repeat (refine And.intro (by omega) ?_; conv => whnf)
          refine ih (i + 1, v') _ _ ⟨by dsimp only; omega, ?_, ((hkp.trans (hk2.mono szh)).push (by omega) _).trans ((Own.push hB2 _).keeps (by simp; omega) H2 H3)⟩ (by dsimp only; omega) ⟨rfl, rfl, rfl, ?_, rfl, trivial⟩
          · show Buf _ _ _ (bts (P (i + 1) / B))
            rw [hnew]
            unfold Buf
            rw [List.length_append, List.map_append]
            exact H1
          · show some (Value.string (enc (X - d * B))) = some (Value.string (enc (P (i + 1) % B)))
            rw [hdd.2, hmX]
      · rw [decide_eq_false h4]
        try refine go_run tab 1000 _ _ ?_
        conv => whnf
        refine Runs.callV (rminus_fn (canon_enc (X - d * B)) hb (by rw [enc_size]; omega) (by omega) (by rw [natv_enc, ← hBe]; omega)) ?_
        rintro _ h3 ⟨rfl, k3⟩
        rw [natv_enc, ← hBe]
        try refine go_run tab 1000 _ _ ?_
        conv => whnf
        repeat (refine And.intro (by omega) ?_; conv => whnf)
        refine ih2 (d + 1) _ _ ⟨by omega, hk2.trans (k3.mono hk2.size)⟩ (by omega) ⟨rfl, rfl, rfl, ?_, rfl, rfl, trivial⟩
        rw [e1, Nat.sub_add_eq]; rfl
  · have hin : i = a.size := by omega
    subst hin
    obtain ⟨ab, capb, rfl⟩ := Own.shape hbuf
    refine Runs.eff (eff_bufString tab (base := h.size) (ns := bts (P a.size / B)) hbuf) ?_
    rintro _ _ ⟨rfl, rfl⟩
    try refine go_run tab 1000 _ _ ?_
    conv => whnf
    refine Runs.ret Tryd.func52 rfl rfl ⟨_, rfl, ?_⟩
    exact ⟨rfl, hkp⟩

theorem rDiv_fn {h : Array Obj} (s t : ByteArray) : FnV Tryd.prog 28 #[.string s, .string t] h fun r h' => r = .tuple #[.string (divS s t).1, .string (divS s t).2.1, .int .i64 (divS s t).2.2] ∧ Keeps h.size h h' := by
  unfold divS
  refine Fn.of (args := [.string s, .string t]) Tryd.func28 (by kernel_rfl) rfl Tryd.ntmps28 rfl fun w0 cs => ?_
  refine go_run tab 1000 _ _ ?_
  conv => whnf
  refine Runs.callV (rboth_fn s t) ?_
  rintro _ h ⟨rfl, rfl⟩
  try refine go_run tab 1000 _ _ ?_
  conv => whnf
  refine ⟨fun hc => ?_, fun hc => ?_⟩ <;> conv => whnf
  · have c1 := chk_zero hc (s := s) (by simp)
    have c2 := chk_zero hc (s := t) (by simp)
    rw [if_pos hc]
    refine ⟨fun hz => ?_, fun hz => ?_⟩ <;> conv => whnf
    · refine Runs.ret Tryd.func28 rfl rfl ⟨_, rfl, ?_⟩
      rw [if_pos (size_mt.1 hz)]
      exact ⟨rfl, Keeps.refl _ _⟩
    · have hz' : t.size ≠ 0 := fun e => hz (size_mt.2 e)
      rw [if_neg hz']
      refine Runs.callV (rdivide_fn (a := s) c2.1 (by omega) (by omega) (natv_ne c2.1 hz')) ?_
      rintro _ h2 ⟨rfl, k2⟩
      try refine go_run tab 1000 _ _ ?_
      conv => whnf
      refine Runs.ret Tryd.func28 rfl rfl ⟨_, rfl, ?_⟩
      exact ⟨rfl, k2⟩
  · refine Runs.ret Tryd.func28 rfl rfl ⟨_, rfl, ?_⟩
    rw [if_neg hc]
    exact ⟨rfl, Keeps.refl _ _⟩

theorem rGcd_fn {h : Array Obj} (s t : ByteArray) : FnV Tryd.prog 30 #[.string s, .string t] h fun r h' => r = sev (gcdS s t) ∧ Keeps h.size h h' := by
  unfold gcdS
  refine Fn.of (args := [.string s, .string t]) Tryd.func30 (by kernel_rfl) rfl Tryd.ntmps30 rfl fun w0 cs => ?_
  refine go_run tab 1000 _ _ ?_
  conv => whnf
  refine Runs.callV (rboth_fn s t) ?_
  rintro _ h ⟨rfl, rfl⟩
  try refine go_run tab 1000 _ _ ?_
  conv => whnf
  refine ⟨fun hc => ?_, fun hc => ?_⟩ <;> conv => whnf
  · have c1 := chk_zero hc (s := s) (by simp)
    have c2 := chk_zero hc (s := t) (by simp)
    rw [if_pos hc]
    refine Runs.loop (X := ByteArray × ByteArray) (fun q => [(0, .string q.1), (1, .string q.2)])
      (fun q h' => Canon q.1 ∧ q.1.size ≤ 256 ∧ Canon q.2 ∧ q.2.size ≤ 256 ∧ Nat.gcd (natv q.1) (natv q.2) = Nat.gcd (natv s) (natv t) ∧ Keeps h.size h h') (fun q => natv q.2) (s, t)
      ⟨c1.1, c1.2, c2.1, c2.2, rfl, Keeps.refl _ _⟩ ⟨rfl, rfl, trivial⟩ ?_
    rintro ⟨a, b⟩ h' ⟨ha, hsa, hb, hsb, hg, hk⟩ ih
    dsimp only at ha hsa hb hsb hg ⊢
    try refine go_run tab 1000 _ _ ?_
    conv => whnf
    refine ⟨fun hz => ?_, fun hz => ?_⟩ <;> conv => whnf
    · try refine go_run tab 1000 _ _ ?_
      conv => whnf
      refine Runs.ret Tryd.func30 rfl rfl ⟨_, rfl, ?_⟩
      rw [hz, show natv NatM.mt = 0 from rfl, Nat.gcd_zero_right] at hg
      refine ⟨?_, hk⟩
      unfold sev
      rw [← hg, enc_natv ha]
      rfl
    · have hz' : b.size ≠ 0 := fun e => hz (size_mt.2 e)
      have hnz := natv_ne hb hz'
      refine Runs.callV (rdivide_fn (a := a) hb (by omega) (by omega) hnz) ?_
      rintro _ h2 ⟨rfl, k2⟩
      try refine go_run tab 1000 _ _ ?_
      conv => whnf
      have hlt := Nat.mod_lt (natv a) (Nat.pos_of_ne_zero hnz)
      refine ih (b, enc (natv a % natv b)) _ _ ⟨hb, hsb, canon_enc _, ?_, ?_, hk.trans (k2.mono hk.size)⟩ ?_ ⟨rfl, rfl, trivial⟩
      · dsimp only
        rw [enc_size]
        have := nb_mono (Nat.le_of_lt hlt)
        rw [nb_natv hb] at this
        omega
      · dsimp only
        rw [natv_enc, ← hg, Nat.gcd_comm (natv a) (natv b), Nat.gcd_rec (natv b) (natv a), Nat.gcd_comm]
      · dsimp only
        rw [natv_enc]; exact hlt
  · refine Runs.ret Tryd.func30 rfl rfl ⟨_, rfl, ?_⟩
    rw [if_neg hc]
    exact ⟨rfl, Keeps.refl _ _⟩

/-- short enough for the reference -/
def fewB (n : Nat) : Prop := ¬ ((16 < n ∧ n < 250) ∨ 260 < n)
instance (n : Nat) : Decidable (fewB n) := by unfold fewB; infer_instance

theorem rFew_fn {h : Array Obj} {b : Nat} (x y : ByteArray) (hs : Strs h b 0 [x, y]) :
    FnV Tryd.prog 26 #[.slice (some ⟨b, 0, none⟩) 2 2] h fun r h' => r = .bool (decide (fewB x.size ∧ fewB y.size)) ∧ h' = h := by
  refine Fn.of (args := [.slice (some ⟨b, 0, none⟩) 2 2]) Tryd.func26 (by kernel_rfl) rfl Tryd.ntmps26 rfl fun w0 cs => ?_
  refine go_run tab 1000 _ _ ?_
  conv => whnf
  refine Runs.loop (X := Nat) (fun i => [(0, .slice (some ⟨b, 0, none⟩) 2 2), (3, .int .i64 (i : Nat))])
    (fun i h' => h' = h ∧ i ≤ 2 ∧ (1 ≤ i → fewB x.size) ∧ (2 ≤ i → fewB y.size)) (fun i => 2 - i) 0 ⟨rfl, by omega, fun h => absurd h (by decide), fun h => absurd h (by decide)⟩ ⟨rfl, rfl, trivial⟩ ?_
  rintro i h ⟨rfl, hi, hx, hy⟩ ih
  by_cases hi2 : i = 2
  · subst hi2
    try refine go_run tab 1000 _ _ ?_
    conv => whnf
    refine And.intro (fun hp => absurd hp (by decide)) (fun _ => ?_)
    conv => whnf
    refine Runs.ret Tryd.func26 rfl rfl ⟨_, rfl, ?_⟩
    rw [decide_eq_true ⟨hx (by omega), hy (by omega)⟩]
    exact ⟨rfl, rfl⟩
  · obtain ⟨z, hz, hzc⟩ : ∃ z, (([x, y] : List ByteArray)[i]? = some z) ∧ (fewB z.size → (1 ≤ i + 1 → fewB x.size) ∧ (2 ≤ i + 1 → fewB y.size)) ∧ (¬ fewB z.size → ¬ (fewB x.size ∧ fewB y.size)) := by
      have : i = 0 ∨ i = 1 := by omega
      rcases this with rfl | rfl
      · exact ⟨x, rfl, fun h => ⟨fun _ => h, fun h => absurd h (by decide)⟩, fun h h2 => h h2.1⟩
      · exact ⟨y, rfl, fun h => ⟨fun _ => hx (by omega), fun _ => h⟩, fun h h2 => h h2.2⟩
    have hcell := hs i z hz
    try refine go_run tab 1000 _ _ ?_
    conv => whnf
    refine ⟨fun h1 => ?_, fun h1 => ?_⟩ <;> conv => whnf
    rotate_left
    · omega
    have hcell : cellH h b (0 + (i : Int).toNat) = some (.string z) := hcell
    have hstep : fewB z.size → (fun i h' => h' = h ∧ i ≤ 2 ∧ (1 ≤ i → fewB x.size) ∧ (2 ≤ i → fewB y.size)) (i + 1) h := fun hf => ⟨rfl, by omega, (hzc.1 hf).1, (hzc.1 hf).2⟩
    repeat (refine And.intro (by omega) ?_; conv => whnf)
    refine ⟨_, hcell, ?_⟩
    conv => whnf
    refine ⟨fun h2 => ?_, fun h2 => ?_⟩ <;> conv => whnf
    · repeat (refine And.intro (by omega) ?_; conv => whnf)
      refine ⟨_, hcell, ?_⟩
      conv => whnf
      refine ⟨fun h3 => ?_, fun h3 => ?_⟩ <;> conv => whnf
      · refine Runs.ret Tryd.func26 rfl rfl ⟨_, rfl, ?_⟩
        rw [decide_eq_false (hzc.2 fun hf => hf (.inl (by omega)))]
        exact ⟨rfl, rfl⟩
      · repeat (refine And.intro (by omega) ?_; conv => whnf)
        refine ⟨_, hcell, ?_⟩
        conv => whnf
        refine ⟨fun h4 => ?_, fun h4 => ?_⟩ <;> conv => whnf
        · refine Runs.ret Tryd.func26 rfl rfl ⟨_, rfl, ?_⟩
          rw [decide_eq_false (hzc.2 fun hf => hf (.inr (by omega)))]
          exact ⟨rfl, rfl⟩
        · try refine go_run tab 1000 _ _ ?_
          conv => whnf
          repeat (refine And.intro (by omega) ?_; conv => whnf)
          exact ih (i + 1) _ _ (hstep (by unfold fewB; omega)) (by omega) ⟨rfl, rfl, trivial⟩
    · repeat (refine And.intro (by omega) ?_; conv => whnf)
      refine ⟨_, hcell, ?_⟩
      conv => whnf
      refine ⟨fun h4 => ?_, fun h4 => ?_⟩ <;> conv => whnf
      · refine Runs.ret Tryd.func26 rfl rfl ⟨_, rfl, ?_⟩
        rw [decide_eq_false (hzc.2 fun hf => hf (.inr (by omega)))]
        exact ⟨rfl, rfl⟩
      · try refine go_run tab 1000 _ _ ?_
        conv => whnf
        repeat (refine And.intro (by omega) ?_; conv => whnf)
        exact ih (i + 1) _ _ (hstep (by unfold fewB; omega)) (by omega) ⟨rfl, rfl, trivial⟩
end Go.Proofs.YtehlghcpbmbfkaaDoor

namespace Go.Proofs.YtehlghcpbmbfkaaDoor
open Go Go.Fw Go.NatM
set_option maxRecDepth 100000
set_option maxHeartbeats 8000000

theorem divspec_fn {h : Array Obj} (a b : ByteArray) (hT : TabH h) :
    FnV Tryd.prog 5 #[.string a, .string b] h fun r h' => r = .bool true ∧ Keeps h.size h h' := by
  refine Fn.of (args := [.string a, .string b]) Tryd.func5 (by kernel_rfl) rfl Tryd.ntmps5 rfl fun w0 cs => ?_
  refine go_run tab 1000 _ _ ?_
  conv => whnf
  refine Runs.callV (sane_fn hT) ?_
  rintro _ h1 ⟨rfl, k1⟩
  try refine go_run tab 1000 _ _ ?_
  conv => whnf
  refine Runs.eff (eff_buildN tab [.string a, .string b] (h1 := by simp [Value.cells])) ?_
  rintro _ h0 ⟨rfl, N0⟩
  try refine go_run tab 1000 _ _ ?_
  conv => whnf
  repeat (refine And.intro (by omega) ?_; conv => whnf)
  refine Runs.callV (rFew_fn a b (strs_at (ss := [a, b]) N0.blk)) ?_
  rintro _ h0 ⟨rfl, rfl⟩
  have s1 := k1.size
  have kk := k1.trans (N0.keeps.mono s1)
  by_cases hf : fewB a.size ∧ fewB b.size
  rotate_left
  · rw [decide_eq_false hf]
    try refine go_run tab 1000 _ _ ?_
    conv => whnf
    refine Runs.ret Tryd.func5 rfl rfl ⟨_, rfl, ?_⟩
    exact ⟨rfl, kk⟩
  rw [decide_eq_true hf]
  try refine go_run tab 1000 _ _ ?_
  conv => whnf
  refine Runs.callV (Div_fn a b) ?_
  rintro _ h2 ⟨rfl, k2⟩
  have s2 := kk.size
  have kk := kk.trans (k2.mono s2)
  try refine go_run tab 1000 _ _ ?_
  conv => whnf
  refine Runs.callV (rDiv_fn a b) ?_
  rintro _ h3 ⟨rfl, k3⟩
  have s3 := kk.size
  have kk := kk.trans (k3.mono s3)
  try refine go_run tab 1000 _ _ ?_
  conv => whnf
  repeat (refine And.intro (fun _ => ?_) (fun hn => absurd rfl hn); conv => whnf)
  refine ⟨fun q1 => ?_, fun q1 => ?_⟩ <;> conv => whnf
  · conv => whnf
    repeat (refine And.intro (fun _ => ?_) (fun hn => absurd rfl hn); conv => whnf)
    refine Runs.ret Tryd.func5 rfl rfl ⟨_, rfl, ?_⟩
    exact ⟨by simp [tup], kk⟩
  · refine ⟨fun q2 => ?_, fun q2 => ?_⟩ <;> conv => whnf
    · conv => whnf
      repeat (refine And.intro (fun _ => ?_) (fun hn => absurd rfl hn); conv => whnf)
      refine Runs.ret Tryd.func5 rfl rfl ⟨_, rfl, ?_⟩
      exact ⟨by simp [tup], kk⟩
    · conv => whnf
      refine Runs.callV (Gcd_fn a b (hT.keeps kk)) ?_
      rintro _ h4 ⟨rfl, k4⟩
      have s4 := kk.size
      have kk := kk.trans (k4.mono s4)
      try refine go_run tab 1000 _ _ ?_
      conv => whnf
      refine Runs.callV (rGcd_fn a b) ?_
      rintro _ h5 ⟨rfl, k5⟩
      have s5 := kk.size
      have kk := kk.trans (k5.mono s5)
      try refine go_run tab 1000 _ _ ?_
      conv => whnf
      repeat (refine And.intro (fun _ => ?_) (fun hn => absurd rfl hn); conv => whnf)
      refine Runs.ret Tryd.func5 rfl rfl ⟨_, rfl, ?_⟩
      exact ⟨by simp [tup], kk⟩
end Go.Proofs.YtehlghcpbmbfkaaDoor

namespace Go.Proofs.YtehlghcpbmbfkaaDoor.naturalsDivSpec
open Go Go.Fw Go.ChangeShapes Go.ChangeMaps Go.WideShapes Go.ChangeAt Go.RowKit
set_option maxRecDepth 100000

theorem int_wf {n : Int} (h : (Lit.int .i64 n).wf = true) : -9223372036854775808 ≤ n ∧ n ≤ 9223372036854775807 := by
  have h1 : IntKind.i64.min ≤ n ∧ n ≤ 9223372036854775807 := by simpa [Lit.wf] using h
  have e : IntKind.i64.min = -9223372036854775808 := rfl
  omega

/-- WHAT THE WALK GIVES, FOR EVERY ARGUMENT AND EVERY WORLD THAT HOLDS THE TABLE. -/
theorem contract (H : Type) (enc : TypeId × Value → H) (W : World) (base : Nat) (args : Array Value) (ds gs : List (DataW H)) (before : List MemPlace)
    (hval : ∀ (j : Nat) t v, Tryd.f5.params[j]? = some t → args[j]? = some v → Value.okWide Tryd.prog W .any base t v)
    (hW : DataW.Whole enc Tryd.prog Tryd.f5.params.toList Rows.naturalsDivSpecSpec.vars false W args.toList ds gs before) (hL : laidMetH Tryd.prog Rows.naturalsDivSpecRow.laid W) :
    Calls Tryd.prog 5 args W fun e W' => ∃ v, e = .returned v ∧ Rows.naturalsDivSpecSpec.post enc Tryd.prog Tryd.f5 false true false false W args v W' := by
  have hW' := hW
  obtain ⟨p, q, hA0, hV, rfl, hfz, hnd⟩ := hW
  have hA : DataW.TrodAll enc Tryd.prog W 0 (fun _ => true) true Tryd.f5.params.toList args.toList ds p := hA0
  rw [Tryd.params5] at hA hval
  obtain ⟨v0, vs0, d0, ds0, p0, q0, hargs, rfl, rfl, h0, r0⟩ := trodAll_cons hA
  obtain ⟨v1, vs1, d1, ds1, p1, q1, rfl, rfl, rfl, h1, r1⟩ := trodAll_cons r0
  obtain ⟨rfl, rfl, rfl⟩ := trodAll_nil r1
  obtain rfl : args = #[v0, v1] := by cases args; simp_all
  obtain ⟨rfl, rfl⟩ := trodVars_none hV
  obtain ⟨x0, rfl, rfl, rfl, m0⟩ := open_string Tryd.underlying9 (hval 0 9 v0 rfl rfl) h0
  obtain ⟨x1, rfl, rfl, rfl, m1⟩ := open_string Tryd.underlying9 (hval 1 9 v1 rfl rfl) h1
  clear hA0
  simp only [List.append_nil, List.nil_append] at hW'
  have walk := FnV.below (W := W) (R := fun r => r = .bool true) (divspec_fn x0 x1 (table hL))
  refine walk.mono fun e W' ⟨v, he, hv, hg⟩ => ?_
  subst he hv
  exact ⟨_, rfl, post_of_below (pa := []) (pv := []) hW' (fun _ _ _ => trodAll_cons_mk (shut_bool Tryd.underlying4 _) trodAll_mk0) (fun _ _ => trodAll_cons_mk (shut_string Tryd.underlying9 m0) (trodAll_cons_mk (shut_string Tryd.underlying9 m1) trodAll_mk0)) (fun _ _ => rfl) rfl
    hg (ok_one (by kernel_rfl) rfl (okWide_bool_mk Tryd.underlying4 _))⟩

theorem laid_met (os : Os) : laidMet Tryd.prog Rows.naturalsDivSpecRow.laid ((laidWorld os).forCall (fun _ _ => 0) ⟨#[], #[.string ⟨#[]⟩, .string ⟨#[]⟩], []⟩).memory :=
  laidMet_of_run' 8 (by kernel_rfl) (by kernel_rfl)
theorem reads (os : Os) {H : Type} (enc : TypeId × Value → H) : ∃ places, DataW.whole enc Tryd.prog ((laidWorld os).forCall (fun _ _ => 0) ⟨#[], #[.string ⟨#[]⟩, .string ⟨#[]⟩], []⟩).memory Tryd.f5.params.toList Rows.naturalsDivSpecSpec.vars false (#[.string ⟨#[]⟩, .string ⟨#[]⟩] : Array Value).toList 8 = some ([.lit (.string []), .lit (.string [])], [], places) :=
  ⟨[], by kernel_rfl⟩

theorem lifted (os : Os) (started : os.Started) (H : Type) (enc : TypeId × Value → H) (F : Stop.Interp) :
    ReturnsInHanded {} Tryd.checked os 5 .any ((OpenSpec.ofChange Rows.naturalsDivSpecSpec).preRow enc Tryd.prog Tryd.f5 Rows.naturalsDivSpecRow.domain false Rows.naturalsDivSpecRow.laid) (((OpenSpec.ofChange Rows.naturalsDivSpecSpec).at F).post enc Tryd.prog Tryd.f5 false true false false) := by
  obtain ⟨places, hx⟩ := reads os enc
  refine returnsInHanded_of_row (C := Tryd.checked) (s := OpenSpec.ofChange Rows.naturalsDivSpecSpec) own started (by kernel_rfl) Tryd.func5
    (witness_row_at (enc := enc) (C := Tryd.checked) false (laidWorld os) #[.string ⟨#[]⟩, .string ⟨#[]⟩] rfl (by kernel_rfl) (by kernel_rfl) (by kernel_rfl)
      (OpenSpec.preRow_of_cond 8 hx (by kernel_rfl) (fun k hk => by cases hk) (by kernel_rfl) (laid_met os))) ?_
  intro W base args ds gs before hval hW _ _ _ hL _ _
  exact contract H enc W base args ds gs before hval hW hL

theorem said : Rows.NaturalsDivSpecSaid :=
  OpenClaim.holds_of_cond 5 Tryd.f5 rfl rfl rfl rfl rfl rfl rfl ⟨rfl, rfl, rfl, rfl, rfl⟩ rfl rfl rfl rfl rfl (by kernel_rfl) Tryd.func5 (by kernel_rfl)
    (of_decide_eq_true (by kernel_rfl)) (by unfold Func.isWrapper; first | (rw [if_pos (by decide +kernel)]; kernel_rfl) | (rw [if_neg (by decide +kernel)]; exact ⟨rfl, rfl⟩))
    (fun os started H enc _ F => by rw [OpenClaim.pre_eq_preRow]; exact lifted os started H enc F)

/-- No parameter wants a stand-in; the program's own looks are off. -/
theorem plain (f : FuncId) (fn : Func) (hf : Tryd.pinned.checked.prog.funcNamed "backflush/backflushlaw06.NaturalsDivSpec" = some f) (hfn : Tryd.pinned.checked.prog.funcs[f]? = some fn) :
    false = Tryd.pinned.checked.prog.looks [] ∧ ∀ (j : Nat) t, fn.params[j]? = some t → Tryd.pinned.checked.prog.wantsStandIn t = false := by
  obtain rfl : f = 5 := Option.some.inj ((show Tryd.prog.funcNamed "backflush/backflushlaw06.NaturalsDivSpec" = some 5 by kernel_rfl).symm.trans hf) |>.symm
  obtain rfl : fn = Tryd.f5 := (Option.some.inj (Tryd.func5.symm.trans hfn)).symm
  refine ⟨by kernel_rfl, fun j t ht => ?_⟩
  rw [Tryd.params5] at ht
  have hm := Array.mem_of_getElem? ht
  simp only [List.mem_toArray, List.mem_cons, List.not_mem_nil, or_false] at hm
  rcases hm with rfl | rfl
  · exact (show Tryd.prog.wantsStandIn 9 = false by kernel_rfl)
  · exact (show Tryd.prog.wantsStandIn 9 = false by kernel_rfl)

/-- THE CARD -/
theorem card : Rows.NaturalsDivSpecCardSaid :=
  Claim7.holds_tied_plain_at .later [] _ _ _ _ said (fun _ h => by cases h) (by kernel_rfl) (fun _ h => by cases h) naturalsDivSpec_row_tie rfl ⟨rfl, rfl⟩ (by kernel_rfl) rfl plain (by kernel_rfl)
end Go.Proofs.YtehlghcpbmbfkaaDoor.naturalsDivSpec
