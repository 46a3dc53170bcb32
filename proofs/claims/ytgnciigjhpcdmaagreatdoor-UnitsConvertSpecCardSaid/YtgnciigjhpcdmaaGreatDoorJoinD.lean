/- Texts of this seat, joined: The reference: Mul. The reference: Int. One digit of a long division; plain. LeadingZeros64, Div64. The long division by words, and by bits; plain. low, Clone. divide. Trailing zeros; the binary way to the greatest common divisor; plain. TrailingZeros64, zeros. divisor. Div, Gcd. The functions of package naturals at numbers' strings; plain. The reference's division: strings that grow by one byte; plain. The reference: divide, Div, Gcd, Few. Ratios; plain. Ratios as the program holds them; what its functions answer; plain. The functions of package ratios at valid ratios of few bytes; plain. Floor and Ceil; plain. Ratios before they stand in lowest terms; plain. Package ratios: the helpers. Package ratios: crossed, times, plus. Package ratios: plus. Package ratios: the operations. Package ratios: the deferred function of calculate. Package ratios: Check. Package ratios: calculate. Package ratios: Add, Sub, Mul, Div. Package ratios: amount. -/
import Derived.Test.YtgnciigjhpcdmaaGreatDoorJoinC
import Derived.Lib.TrailingZeros
set_option linter.unusedVariables false
set_option linter.unusedSimpArgs false
namespace Go.Proofs.YtgnciigjhpcdmaaGreatDoor
open Go Go.Fw Go.NatM
set_option maxRecDepth 100000
set_option maxHeartbeats 8000000

/-- a block of ints -/
def IBlk (h0 h : Array Obj) (g : Nat) (L : List Int) : Prop := At h g (L.map fun (x : Int) => Value.int .i64 x).toArray 3 ∧ Keeps g h0 h

theorem IBlk.set {h0 h : Array Obj} {g : Nat} {L : List Int} (H : IBlk h0 h g L) (j : Nat) (z : Int) : IBlk h0 (setB h g ((L.map fun (x : Int) => Value.int .i64 x).toArray.setIfInBounds j (.int .i64 z)) 3) g (L.set j z) := by
  have e : (L.map fun (x : Int) => Value.int .i64 x).toArray.setIfInBounds j (.int .i64 z) = ((L.set j z).map fun (x : Int) => Value.int .i64 x).toArray := by
    rw [List.setIfInBounds_toArray, List.map_set]
  rw [e]
  exact ⟨setB_same H.1.lt _ _, H.2.setB (Nat.le_refl _) _ _⟩

theorem IBlk.cell {h0 h : Array Obj} {g : Nat} {L : List Int} (H : IBlk h0 h g L) {j : Nat} (hj : j < L.length) : cellH h g j = some (.int .i64 (dAt L j)) := by
  rw [H.1.cell]
  unfold dAt
  rw [List.getD_eq_getElem?_getD]
  simp [hj]

theorem rMul_fn {h : Array Obj} (a b : ByteArray) : FnV Tryz.prog 41 #[.string a, .string b] h fun r h' => r = sev (mulS a b) ∧ Keeps h.size h h' := by
  unfold mulS
  refine Fn.of (args := [.string a, .string b]) Tryz.func41 (by kernel_rfl) rfl Tryz.ntmps41 rfl fun w0 cs => ?_
  refine go_run tab 1000 _ _ ?_
  conv => whnf
  refine Runs.callV (rboth_fn a b) ?_
  rintro _ h ⟨rfl, rfl⟩
  try refine go_run tab 1000 _ _ ?_
  conv => whnf
  refine ⟨fun hc => ?_, fun hc => ?_⟩ <;> conv => whnf
  · have c1 := chk_zero hc (s := a) (by simp)
    have c2 := chk_zero hc (s := b) (by simp)
    rw [if_pos hc]
    refine Runs.callV (rdigits_fn a (by omega)) ?_
    rintro vx h1 ⟨ox, k1⟩
    try refine go_run tab 1000 _ _ ?_
    conv => whnf
    refine Runs.callV (rdigits_fn b (by omega)) ?_
    rintro vy h2 ⟨oy, k2⟩
    try refine go_run tab 1000 _ _ ?_
    conv => whnf
    have ox2 := (ox.at_keeps k2 (Nat.le_refl _)).ir
    have oy2 := oy.ir
    obtain ⟨ax, cx, rfl⟩ := ox.shape (dgs_length a a.size)
    obtain ⟨ay, cy, rfl⟩ := oy.shape (dgs_length b b.size)
    rw [dgs_length] at ox2 oy2
    have kk2 : Keeps h.size h h2 := k1.trans (k2.mono k1.size)
    try refine go_run tab 1000 _ _ ?_
    conv => whnf
    repeat (refine And.intro (by omega) ?_; conv => whnf)
    refine Runs.eff (eff_make1 tab (a.size + b.size) (a.size + b.size) (hn := ⟨by omega, by omega, by omega, by dsimp only; omega, by omega⟩)) ?_
    rintro _ _ ⟨rfl, rfl⟩
    try refine go_run tab 1000 _ _ ?_
    conv => whnf
    repeat (refine And.intro (by omega) ?_; conv => whnf)
    have hab : a.size * b.size ≤ 65536 := Nat.mul_le_mul c1.2 c2.2
    refine Runs.loop (X := Nat) (fun i => [(7, .slice ax a.size cx), (8, .slice ay b.size cy), (9, .slice (some ⟨h2.size, 0, none⟩) (a.size + b.size) (a.size + b.size)), (10, .int .i64 (i : Nat))])
      (fun i h' => i ≤ a.size ∧ ∃ L, IBlk h2 h' h2.size L ∧ L.length = a.size + b.size ∧ lv L = lv ((dgs a a.size).take i) * natv b ∧ ∀ j, 0 ≤ dAt L j ∧ dAt L j ≤ 65025 * (i * b.size : Nat)) (fun i => a.size - i) 0
      ⟨Nat.zero_le _, List.replicate (a.size + b.size) 0, ⟨?_, (Keeps.refl _ _).push (Nat.le_refl _) _⟩, by simp, by rw [lv_zeros]; simp [lv], fun j => ?_⟩ ⟨rfl, rfl, rfl, rfl, trivial⟩ ?_
    · rw [List.map_replicate, List.toArray_replicate]
      exact push_new _ _ _
    · have : dAt (List.replicate (a.size + b.size) 0) j = 0 := by
        unfold dAt
        rw [List.getD_eq_getElem?_getD, List.getElem?_replicate]
        split <;> rfl
      rw [this]; omega
    rintro i h' ⟨hi, L0, hB0, hL0, hv0, hb0⟩ ih
    try refine go_run tab 1000 _ _ ?_
    conv => whnf
    refine ⟨fun h3 => ?_, fun h3 => ?_⟩ <;> conv => whnf
    · have hX := ox2.keeps hB0.2
      obtain ⟨_, _, _, e1, hx1⟩ := hX
      cases e1
      obtain ⟨b1, off1, rfl, hrd1⟩ := hx1 (by omega)
      have hxi : (dgs a a.size)[i]? = some (dAt (dgs a a.size) i) := by
        unfold dAt
        rw [List.getD_eq_getElem?_getD, List.getElem?_eq_getElem (by rw [dgs_length]; omega)]; rfl
      have hdx := dAt_dig (dgs_dig a a.size) i
      have htk := lv_take (dgs a a.size) i
      generalize dAt (dgs a a.size) i = x at hxi hdx htk
      have him : (i + 1) * b.size ≤ a.size * b.size := Nat.mul_le_mul_right _ (by omega)
      rw [Nat.succ_mul] at him
      try refine go_run tab 1000 _ _ ?_
      conv => whnf
      repeat (refine And.intro (by omega) ?_; conv => whnf)
      refine Runs.loop (X := Nat) (fun k => [(7, .slice (some ⟨b1, off1, none⟩) a.size cx), (8, .slice ay b.size cy), (9, .slice (some ⟨h2.size, 0, none⟩) (a.size + b.size) (a.size + b.size)), (10, .int .i64 (i : Nat)), (11, .int .i64 (k : Nat))])
        (fun k h' => k ≤ b.size ∧ ∃ L, IBlk h2 h' h2.size L ∧ L.length = a.size + b.size ∧ lv L = lv ((dgs a a.size).take i) * natv b + (256 ^ i : Nat) * (x * lv ((dgs b b.size).take k)) ∧ ∀ j, 0 ≤ dAt L j ∧ dAt L j ≤ 65025 * (i * b.size + k : Nat)) (fun k => b.size - k) 0
        ⟨Nat.zero_le _, L0, hB0, hL0, by rw [hv0]; simp [lv], by simpa using hb0⟩ ⟨rfl, rfl, rfl, rfl, rfl, trivial⟩ ?_
      clear hB0 hL0 hv0 hb0
      rintro k h' ⟨hk, L, hB, hL, hv, hb⟩ ih2
      try refine go_run tab 1000 _ _ ?_
      conv => whnf
      refine ⟨fun h4 => ?_, fun h4 => ?_⟩ <;> conv => whnf
      · have hY := oy2.keeps hB.2
        obtain ⟨_, _, _, e2, hy1⟩ := hY
        cases e2
        obtain ⟨b2, off2, rfl, hrd2⟩ := hy1 (by omega)
        obtain ⟨_, _, _, e3, hx3⟩ := ox2.keeps hB.2
        cases e3
        obtain ⟨_, _, e4, hrd3⟩ := hx3 (by omega)
        cases e4
        have hyk : (dgs b b.size)[k]? = some (dAt (dgs b b.size) k) := by
          unfold dAt
          rw [List.getD_eq_getElem?_getD, List.getElem?_eq_getElem (by rw [dgs_length]; omega)]; rfl
        have hdy := dAt_dig (dgs_dig b b.size) k
        have hty := lv_take (dgs b b.size) k
        generalize dAt (dgs b b.size) k = y at hyk hdy hty
        have hcell : cellH h' h2.size (0 + (i + k)) = some (.int .i64 (dAt L (i + k))) := by
          rw [Nat.zero_add]; exact hB.cell (by omega)
        have hxy : 0 ≤ x * y ∧ x * y ≤ 65025 := ⟨Int.mul_nonneg hdx.1 hdy.1, (Int.mul_le_mul (a := x) (b := y) (c := 255) (d := 255) (by omega) (by omega) hdy.1 (by omega) : x * y ≤ 255 * 255)⟩
        have hbik := hb (i + k)
        have hset := lv_set (xs := L) (j := i + k) (by omega) (dAt L (i + k) + x * y)
        refine Runs.drawn tab [0, 1, 2, 3, 4, 5, 6, 7, 8, 9, 10, 11, 12, 13, 14, 15, 16, 17, 18, 19, 20] [21] (by kernel_rfl) ?_
        conv => whnf
        repeat (refine And.intro (by omega) ?_; conv => whnf)
        refine ⟨_, hcell, ?_⟩
        conv => whnf
        repeat (refine And.intro (by omega) ?_; conv => whnf)
        refine ⟨_, hrd3 i x hxi, ?_⟩
        conv => whnf
        repeat (refine And.intro (by omega) ?_; conv => whnf)
        refine ⟨_, hrd2 k y hyk, ?_⟩
        conv => whnf
        repeat (refine And.intro (by omega) ?_; conv => whnf)
        obtain ⟨P, hP⟩ : ∃ P, P = x * y := ⟨_, rfl⟩
        rw [← hP] at hset hxy ⊢
        repeat (refine And.intro (by omega) ?_; conv => whnf)
        refine ⟨rfl, _, eff_store1 tab hB.1 (hlt := by simp; omega), ?_⟩
        rintro _ _ rfl
        conv => whnf
        try refine go_run tab 1000 _ _ ?_
        conv => whnf
        repeat (refine And.intro (by omega) ?_; conv => whnf)
        rw [show 0 + ((i : Int) + (k : Int)).toNat = i + k by omega]
        refine ih2 (k + 1) _ _ ⟨by omega, _, hB.set (i + k) _, by simpa using hL, ?_, fun j => ?_⟩ (by omega) ⟨rfl, rfl, rfl, rfl, rfl, trivial⟩
        · rw [hset, hv, hty, Nat.pow_add, Int.natCast_mul]
          grind
        · rw [dAt_set (by omega)]
          have := hb j
          split <;> omega
      · have hkb : k = b.size := by omega
        subst hkb
        rw [lv_take_all (xs := dgs b b.size) (by rw [dgs_length]; omega), dgs_lv b] at hv
        try refine go_run tab 1000 _ _ ?_
        conv => whnf
        repeat (refine And.intro (by omega) ?_; conv => whnf)
        refine ih (i + 1) _ _ ⟨by omega, L, hB, hL, ?_, fun j => ?_⟩ (by omega) ⟨rfl, rfl, rfl, rfl, trivial⟩
        · rw [hv, htk]
          show _ + _ * (x * (natv b : Int)) = _
          grind
        · have := hb j
          rw [Nat.succ_mul]; exact this
    · have hia : i = a.size := by omega
      subst hia
      rw [lv_take_all (by rw [dgs_length]; omega), dgs_lv] at hv0
      change lv L0 = (natv a : Int) * (natv b : Int) at hv0
      have hir : Ir h' (.slice (some ⟨h2.size, 0, none⟩) (a.size + b.size) (a.size + b.size)) (a.size + b.size) L0 :=
        ⟨hL0, _, _, rfl, fun _ => ⟨h2.size, 0, rfl, fun j x hx => by
          have hj : j < L0.length := (List.getElem?_eq_some_iff.1 hx).1
          rw [Nat.zero_add, hB0.cell hj]
          unfold dAt
          rw [List.getD_eq_getElem?_getD, hx]; rfl⟩⟩
      refine Runs.callV (rcarry_fn hir (by omega) (fun x hx => by obtain ⟨j, hj⟩ := List.mem_iff_getElem?.1 hx; have := hb0 j; unfold dAt at this; rw [List.getD_eq_getElem?_getD, hj] at this; simp only [Option.getD_some] at this; omega) (by rw [hv0, ← Int.natCast_mul]; omega)) ?_
      rintro vc h4 ⟨ys, oc, hd, hys, hyl, k4⟩
      try refine go_run tab 1000 _ _ ?_
      conv => whnf
      refine Runs.callV (rnumber_fn oc.ir hd hyl) ?_
      rintro _ h5 ⟨rfl, k5⟩
      rw [hys, hv0, ← Int.natCast_mul, Int.toNat_natCast]
      try refine go_run tab 1000 _ _ ?_
      conv => whnf
      refine Runs.callV (rshort_fn (natv a * natv b)) ?_
      rintro _ h5 ⟨rfl, rfl⟩
      try refine go_run tab 1000 _ _ ?_
      conv => whnf
      refine Runs.ret Tryz.func41 rfl rfl ⟨_, rfl, ?_⟩
      have s1 := k1.size
      have s2 := k2.size
      have s3 := hB0.2.size
      have s4 := k4.size
      exact ⟨rfl, ((kk2.trans (hB0.2.mono (by omega))).trans (k4.mono (by omega))).trans (k5.mono (by omega))⟩
  · refine Runs.ret Tryz.func41 rfl rfl ⟨_, rfl, ?_⟩
    rw [if_neg hc]
    exact ⟨rfl, Keeps.refl _ _⟩

end Go.Proofs.YtgnciigjhpcdmaaGreatDoor

namespace Go.Proofs.YtgnciigjhpcdmaaGreatDoor
open Go Go.Fw Go.NatM
set_option maxRecDepth 100000
set_option maxHeartbeats 8000000

theorem natv_small {s : ByteArray} (hc : Canon s) : natv s ≤ 9223372036854775807 ↔ (s.size < 8 ∨ (s.size = 8 ∧ byteAt s 0 < 128)) := by
  constructor
  · intro h
    rcases Nat.lt_or_ge s.size 8 with h1 | h1
    · exact .inl h1
    · rcases Nat.lt_or_ge 8 s.size with h2 | h2
      · have := natv_ge hc h2; omega
      · refine .inr ⟨by omega, ?_⟩
        have h3 := byc_natv s (i := 7) (by omega)
        rw [show s.size - 1 - 7 = 0 by omega] at h3
        rw [← h3]
        unfold byc
        have : (256 : Nat) ^ 7 = 72057594037927936 := by decide
        rw [this]
        omega
  · intro h
    have h0 := natv_lt s
    rcases h with h | ⟨h, hb⟩
    · have h1 := Nat.pow_le_pow_right (show 0 < 256 by decide) (show s.size ≤ 7 by omega)
      have : (256 : Nat) ^ 7 = 72057594037927936 := by decide
      omega
    · have h3 := byc_natv s (i := 7) (by omega)
      rw [show s.size - 1 - 7 = 0 by omega] at h3
      rw [h] at h0
      have e7 : (256 : Nat) ^ 7 = 72057594037927936 := by decide
      have e8 : (256 : Nat) ^ 8 = 18446744073709551616 := by decide
      unfold byc at h3
      rw [e7] at h3
      rw [e8] at h0
      omega

end Go.Proofs.YtgnciigjhpcdmaaGreatDoor

namespace Go.NatM
open Go Go.Fw


/-- a guess q of the digit (u 4294967296 + d) / (y1 4294967296 + y0), its rest r -/
structure DI (u d y1 y0 q r : Nat) : Prop where
  eq : q * y1 + r = u
  ge : (u * 4294967296 + d) / (y1 * 4294967296 + y0) ≤ q
  le : q ≤ 4294967296 + 1
  rt : r < 4294967296

/-- the divisor is normal, the number fits -/
structure DN (u d y1 y0 : Nat) : Prop where
  y1l : 2147483648 ≤ y1
  y1h : y1 < 4294967296
  y0h : y0 < 4294967296
  uh : u < y1 * 4294967296 + y0
  dh : d < 4294967296

theorem DI.init {u d y1 y0 : Nat} (n : DN u d y1 y0) : DI u d y1 y0 (u / y1) (u % y1) := by
  have hp : 0 < y1 := by have := n.y1l; omega
  have hr := Nat.mod_lt u hp
  have he : u / y1 * y1 + u % y1 = u := by rw [Nat.mul_comm]; exact Nat.div_add_mod u y1
  refine ⟨he, ?_, ?_, by have := n.y1h; omega⟩
  · rw [Nat.le_div_iff_mul_le hp]
    have h1 := Nat.div_mul_le_self (u * 4294967296 + d) (y1 * 4294967296 + y0)
    generalize (u * 4294967296 + d) / (y1 * 4294967296 + y0) = Q at *
    rw [Nat.mul_add, ← Nat.mul_assoc] at h1
    have := n.dh
    generalize Q * y1 = P at *
    generalize Q * y0 = P2 at *
    omega
  · have h1 := n.uh
    have h2 := n.y1l
    have h3 := n.y0h
    rw [← Nat.lt_succ_iff, Nat.div_lt_iff_lt_mul hp]
    omega

theorem DN.q_lt {u d y1 y0 : Nat} (n : DN u d y1 y0) : (u * 4294967296 + d) / (y1 * 4294967296 + y0) < 4294967296 := by
  have h1 := n.uh
  have h2 := n.dh
  have hp : 0 < y1 * 4294967296 + y0 := by omega
  rw [Nat.div_lt_iff_lt_mul hp]
  omega

theorem DI.mul {u d y1 y0 q r : Nat} (i : DI u d y1 y0 q r) : q * (y1 * 4294967296 + y0) + r * 4294967296 = u * 4294967296 + q * y0 := by
  have h := i.eq
  rw [Nat.mul_add, ← Nat.mul_assoc, ← h, Nat.add_mul]
  omega

theorem DI.exit {u d y1 y0 q r : Nat} (n : DN u d y1 y0) (i : DI u d y1 y0 q r) (h : q * y0 ≤ 4294967296 * r + d) : q = (u * 4294967296 + d) / (y1 * 4294967296 + y0) := by
  have h1 := n.uh
  have hp : 0 < y1 * 4294967296 + y0 := by omega
  refine Nat.le_antisymm ?_ i.ge
  rw [Nat.le_div_iff_mul_le hp]
  have := i.mul
  have : 4294967296 * r = r * 4294967296 := Nat.mul_comm _ _
  omega

theorem DI.dec {u d y1 y0 q r : Nat} (n : DN u d y1 y0) (i : DI u d y1 y0 q r) (h : 4294967296 ≤ q ∨ 4294967296 * r + d < q * y0) :
    0 < q ∧ (q - 1) * y1 + (r + y1) = u ∧ (u * 4294967296 + d) / (y1 * 4294967296 + y0) ≤ q - 1 ∧ q - 1 ≤ 4294967296 := by
  have h1 := n.uh
  have hp : 0 < y1 * 4294967296 + y0 := by omega
  have hQ := n.q_lt
  have hq0 : 0 < q := by
    rcases h with h | h
    · have hW : 4294967296 = 4294967296 := rfl
      omega
    · rcases Nat.eq_zero_or_pos q with e | e
      · subst e; simp at h
      · exact e
  have heq := i.eq
  have hsucc : q * y1 = (q - 1) * y1 + y1 := by
    have := Nat.succ_mul (q - 1) y1
    rw [show (q - 1).succ = q by omega] at this
    exact this
  refine ⟨hq0, by omega, ?_, by have := i.le; omega⟩
  rcases h with h | h
  · omega
  · have hlt : (u * 4294967296 + d) / (y1 * 4294967296 + y0) < q := by
      rw [Nat.div_lt_iff_lt_mul hp]
      have := i.mul
      have : 4294967296 * r = r * 4294967296 := Nat.mul_comm _ _
      omega
    omega

/-- the rest is too great for another round: the guess is right -/
theorem DI.out {u d y1 y0 q r : Nat} (n : DN u d y1 y0) (he : q * y1 + r = u) (hge : (u * 4294967296 + d) / (y1 * 4294967296 + y0) ≤ q) (hq : q ≤ 4294967296) (hr : 4294967296 ≤ r) : q = (u * 4294967296 + d) / (y1 * 4294967296 + y0) := by
  have h1 := n.uh
  have hp : 0 < y1 * 4294967296 + y0 := by omega
  refine Nat.le_antisymm ?_ hge
  rw [Nat.le_div_iff_mul_le hp, Nat.mul_add, ← Nat.mul_assoc, ← he]
  have h2 : q * y0 ≤ 4294967296 * y0 := Nat.mul_le_mul_right _ hq
  have h3 : 4294967296 * 4294967296 ≤ r * 4294967296 := Nat.mul_le_mul_right _ hr
  have h4 := n.y0h
  rw [Nat.add_mul]
  omega

theorem div_two (u d1 d0 y : Nat) (hy : 0 < y) : (u * 18446744073709551616 + (d1 * 4294967296 + d0)) / y = (u * 4294967296 + d1) / y * 4294967296 + ((u * 4294967296 + d1) % y * 4294967296 + d0) / y ∧
    (u * 18446744073709551616 + (d1 * 4294967296 + d0)) % y = ((u * 4294967296 + d1) % y * 4294967296 + d0) % y := by
  obtain ⟨M, hM⟩ : ∃ M, M = u * 4294967296 + d1 := ⟨_, rfl⟩
  rw [← hM]
  have h := Nat.div_add_mod M y
  obtain ⟨Q, hQ⟩ : ∃ Q, Q = M / y := ⟨_, rfl⟩
  obtain ⟨R, hR⟩ : ∃ R, R = M % y := ⟨_, rfl⟩
  rw [← hQ, ← hR] at h ⊢
  obtain ⟨T, hT⟩ : ∃ T, T = Q * 4294967296 := ⟨_, rfl⟩
  obtain ⟨S, hS⟩ : ∃ S, S = R * 4294967296 + d0 := ⟨_, rfl⟩
  rw [← hT, ← hS]
  have e : u * 18446744073709551616 + (d1 * 4294967296 + d0) = y * T + S := by
    rw [hT, ← Nat.mul_assoc]
    generalize y * Q = Z at *
    omega
  rw [e, Nat.mul_add_div hy, Nat.mul_add_mod]
  exact ⟨rfl, rfl⟩

/-- what is left behind a digit -/
theorem digit_rest {u d y Q : Nat} (hQ : Q = (u * 4294967296 + d) / y) (hy : 0 < y) (hyb : y < 18446744073709551616) :
    (((u : Int) * 4294967296 % 18446744073709551616 + d) % 18446744073709551616 - (Q : Int) * y % 18446744073709551616) % 18446744073709551616 = ((u * 4294967296 + d) % y : Nat) := by
  obtain ⟨M, hM⟩ : ∃ M, M = u * 4294967296 + d := ⟨_, rfl⟩
  rw [← hM] at hQ ⊢
  have h := Nat.div_add_mod M y
  have hm := Nat.mod_lt M hy
  obtain ⟨R, hR⟩ : ∃ R, R = M % y := ⟨_, rfl⟩
  rw [← hQ, ← hR] at h
  rw [← hR] at hm ⊢
  have e : (Q : Int) * y = ((y * Q : Nat) : Int) := by rw [Nat.mul_comm]; simp
  rw [e]
  obtain ⟨Z, hZ⟩ : ∃ Z, Z = y * Q := ⟨_, rfl⟩
  rw [← hZ] at h ⊢
  omega

end Go.NatM

namespace Go.Proofs.YtgnciigjhpcdmaaGreatDoor
open Go Go.Fw Go.NatM
set_option maxRecDepth 100000
set_option maxHeartbeats 8000000

theorem bl_le64 {x : Nat} (hx : x < B) : bl x ≤ 64 := by
  by_cases h : x = 0
  · subst h; decide
  · have h1 := bl_le h
    rcases Nat.lt_or_ge 64 (bl x) with h2 | h2
    · have := Nat.pow_le_pow_right (show 0 < 2 by decide) (show 64 ≤ bl x - 1 by omega)
      have e : (2 : Nat) ^ 64 = B := rfl
      omega
    · exact h2

theorem lz64_fn (x : Nat) (hx : x < B) (h : Array Obj) : FnV Tryz.prog 102 #[.int .u64 x] h fun v h' => v = .int .i64 (64 - bl x : Nat) ∧ h' = h := by
  have hb := bl_le64 hx
  refine Fn.of (args := [.int .u64 x]) Tryz.func102 (by kernel_rfl) rfl Tryz.ntmps102 rfl fun w0 cs => ?_
  refine go_run tab 1000 _ _ ?_
  conv => whnf
  refine Runs.callV (len64_fn x hx h) ?_
  rintro _ h ⟨rfl, rfl⟩
  try refine go_run tab 1000 _ _ ?_
  conv => whnf
  repeat (refine And.intro (by omega) ?_; conv => whnf)
  refine Runs.ret Tryz.func102 rfl rfl ⟨_, rfl, ?_⟩
  refine ⟨?_, rfl⟩
  show Value.int .i64 _ = Value.int .i64 _
  congr 1
  omega

theorem norm_high (hi lo s : Nat) (hs : s ≤ 64) : (hi * B + lo) * 2 ^ s / B = hi * 2 ^ s + lo / 2 ^ (64 - s) := by
  have e : B = 2 ^ (64 - s) * 2 ^ s := by rw [← Nat.pow_add, show 64 - s + s = 64 by omega]; rfl
  rw [Nat.add_mul, show hi * B * 2 ^ s = B * (hi * 2 ^ s) by rw [Nat.mul_comm hi B, Nat.mul_assoc], Nat.mul_add_div B_pos]
  congr 1
  rw [e, Nat.mul_div_mul_right _ _ (Nat.two_pow_pos s)]

theorem norm_low (hi lo s : Nat) : (hi * B + lo) * 2 ^ s % B = lo * 2 ^ s % B := by
  rw [Nat.add_mul, show hi * B * 2 ^ s = B * (hi * 2 ^ s) by rw [Nat.mul_comm hi B, Nat.mul_assoc], Nat.mul_add_mod]

theorem norm_or (hi lo s : Nat) (hs : s ≤ 64) (hlo : lo < B) : (hi * 2 ^ s) ||| (lo / 2 ^ (64 - s)) = hi * 2 ^ s + lo / 2 ^ (64 - s) := by
  have e : B = 2 ^ (64 - s) * 2 ^ s := by rw [← Nat.pow_add, show 64 - s + s = 64 by omega]; rfl
  have hx : lo / 2 ^ (64 - s) < 2 ^ s := Nat.div_lt_of_lt_mul (by rw [← e]; exact hlo)
  rw [Nat.mul_comm hi, Nat.two_pow_add_eq_or_of_lt hx]

theorem rest_cast {u y : Nat} (h1 : 2147483648 ≤ y) (h2 : y < 4294967296) (_h3 : u < 18446744073709551616) : (((u : Int) - u / y * y % 18446744073709551616) % 18446744073709551616) = (u % y : Nat) := by
  have h := Nat.div_add_mod u y
  have hm := Nat.mod_lt u (show 0 < y by omega)
  have e : (u : Int) / y * y = ((y * (u / y) : Nat) : Int) := by rw [Nat.mul_comm]; simp
  rw [e]
  obtain ⟨Z, hZ⟩ : ∃ Z, Z = y * (u / y) := ⟨_, rfl⟩
  obtain ⟨R, hR⟩ : ∃ R, R = u % y := ⟨_, rfl⟩
  rw [← hZ, ← hR] at h ⊢
  omega

theorem div64_fn {h : Array Obj} (hi lo y : Nat) (hlo : lo < B) (hy : y < B) (hhi : hi < y) :
    FnV Tryz.prog 87 #[.int .u64 hi, .int .u64 lo, .int .u64 y] h fun r h' => (∃ q r' : Nat, r = .tuple #[.int .u64 q, .int .u64 r'] ∧ q = (hi * B + lo) / y ∧ r' = (hi * B + lo) % y) ∧ h' = h := by
  refine Fn.of (args := [.int .u64 hi, .int .u64 lo, .int .u64 y]) Tryz.func87 (by kernel_rfl) rfl Tryz.ntmps87 rfl fun w0 cs => ?_
  refine go_run tab 1000 _ _ ?_
  conv => whnf
  refine ⟨fun h1 => ?_, fun h1 => ?_⟩ <;> conv => whnf
  · omega
  · refine ⟨fun h2 => ?_, fun h2 => ?_⟩ <;> conv => whnf
    · omega
    · refine ⟨fun h3 => ?_, fun h3 => ?_⟩ <;> conv => whnf
      · refine Runs.quiet tab (by kernel_rfl) ?_
        conv => whnf
        rw [B_eq] at *
        repeat (refine And.intro (by omega) ?_; conv => whnf)
        try refine go_run tab 1000 _ _ ?_
        conv => whnf
        refine Runs.ret Tryz.func87 rfl rfl ⟨_, rfl, ?_⟩
        have h0 : hi = 0 := by omega
        subst h0
        exact ⟨⟨lo / y, lo % y, rfl, by rw [Nat.zero_mul, Nat.zero_add], by rw [Nat.zero_mul, Nat.zero_add]⟩, rfl⟩
      · refine Runs.callV (lz64_fn y hy h) ?_
        rintro _ h ⟨rfl, rfl⟩
        have hb64 := bl_le64 hy
        have hy0 : y ≠ 0 := by omega
        have hbp := bl_pos hy0
        obtain ⟨s, hs⟩ : ∃ s, s = 64 - bl y := ⟨_, rfl⟩
        rw [← hs]
        have hsb : s + bl y = 64 := by omega
        have hyl := bl_le hy0
        have hyh := bl_lt y
        obtain ⟨yn, hyn⟩ : ∃ yn, yn = y * 2 ^ s := ⟨_, rfl⟩
        have hynl : 9223372036854775808 ≤ yn := by
          have := Nat.mul_le_mul_right (2 ^ s) hyl
          rw [← Nat.pow_add, show bl y - 1 + s = 63 by omega] at this
          rw [hyn]; exact this
        have hynh : yn < 18446744073709551616 := by
          have := Nat.mul_lt_mul_of_pos_right hyh (Nat.two_pow_pos s)
          rw [← Nat.pow_add, show bl y + s = 64 by omega] at this
          rw [hyn]; exact this
        try refine go_run tab 1000 _ _ ?_
        conv => whnf
        rw [show ((s : Nat) : Int) % 18446744073709551616 = (s : Nat) by omega]
        have c1 : (y : Int) * 2 ^ ((s : Nat) : Int).toNat % 18446744073709551616 = (yn : Nat) := by
          rw [Int.toNat_natCast, hyn]
          rw [hyn] at hynh
          have : (y : Int) * 2 ^ s = ((y * 2 ^ s : Nat) : Int) := by simp
          rw [this]; omega
        rw [c1]
        repeat (refine And.intro (by omega) ?_; conv => whnf)
        have hN := Nat.mul_lt_mul_of_pos_right hhi (Nat.two_pow_pos s)
        rw [← hyn] at hN
        have c2 : (hi : Int) * 2 ^ ((s : Nat) : Int).toNat % 18446744073709551616 = (hi * 2 ^ s : Nat) := by
          rw [Int.toNat_natCast]
          have : (hi : Int) * 2 ^ s = ((hi * 2 ^ s : Nat) : Int) := by simp
          rw [this]; omega
        have c3 : (lo : Int) / 2 ^ ((64 - ((s : Nat) : Int)) % 18446744073709551616).toNat = (lo / 2 ^ (64 - s) : Nat) := by
          rw [show ((64 - ((s : Nat) : Int)) % 18446744073709551616).toNat = 64 - s by omega]; simp
        rw [c2, c3]
        have q1 := norm_high hi lo s (by omega)
        have q2 := norm_low hi lo s
        have q3 := norm_or hi lo s (by omega) hlo
        have q4 := Nat.div_le_self lo (2 ^ (64 - s))
        obtain ⟨A, hA⟩ : ∃ A, A = hi * 2 ^ s := ⟨_, rfl⟩
        obtain ⟨L, hL⟩ : ∃ L, L = lo / 2 ^ (64 - s) := ⟨_, rfl⟩
        rw [← hA] at hN q1 q3 ⊢
        rw [← hL] at q1 q3 q4 ⊢
        rw [B_eq] at hlo hy
        repeat (refine And.intro (by omega) ?_; conv => whnf)
        have hor : (((fun a b => a ||| b) (A : Int).toNat (L : Int).toNat : Nat) : Int) = (A + L : Nat) := by
          rw [Int.toNat_natCast, Int.toNat_natCast]
          exact congrArg _ q3
        rw [hor]
        have hu : A + L < yn := by
          have e : B = 2 ^ (64 - s) * 2 ^ s := by rw [← Nat.pow_add, show 64 - s + s = 64 by omega]; rfl
          have hx : L < 2 ^ s := by rw [hL]; exact Nat.div_lt_of_lt_mul (by rw [← e, B_eq]; exact hlo)
          have := Nat.mul_le_mul_right (2 ^ s) (show hi + 1 ≤ y by omega)
          rw [Nat.succ_mul, ← hA, ← hyn] at this
          omega
        obtain ⟨u, hu0⟩ : ∃ u, u = A + L := ⟨_, rfl⟩
        rw [← hu0] at hu q1 ⊢
        obtain ⟨w, hw⟩ : ∃ w, w = lo * 2 ^ s % B := ⟨_, rfl⟩
        rw [← hw] at q2
        have hwB : w < 18446744073709551616 := by rw [hw, ← B_eq]; exact Nat.mod_lt _ B_pos
        have c4 : (lo : Int) * 2 ^ ((s : Nat) : Int).toNat % 18446744073709551616 = (w : Nat) := by
          rw [Int.toNat_natCast, hw, B_eq]; simp
        rw [c4, and_mask (z := (yn : Int)) (by omega), and_mask (z := (w : Int)) (by omega)]
        obtain ⟨y1, hy1⟩ : ∃ y1, y1 = yn / 4294967296 := ⟨_, rfl⟩
        obtain ⟨y0, hy0'⟩ : ∃ y0, y0 = yn % 4294967296 := ⟨_, rfl⟩
        obtain ⟨d1, hd1⟩ : ∃ d1, d1 = w / 4294967296 := ⟨_, rfl⟩
        obtain ⟨d0, hd0⟩ : ∃ d0, d0 = w % 4294967296 := ⟨_, rfl⟩
        rw [show (yn : Int) / 4294967296 = (y1 : Nat) by omega, show (yn : Int) % 4294967296 = (y0 : Nat) by omega, show (w : Int) / 4294967296 = (d1 : Nat) by omega, show (w : Int) % 4294967296 = (d0 : Nat) by omega]
        have hy10 : yn = y1 * 4294967296 + y0 := by omega
        have hw10 : w = d1 * 4294967296 + d0 := by omega
        have N1 : DN u d1 y1 y0 := ⟨by omega, by omega, by omega, by omega, by omega⟩
        repeat (refine And.intro (by omega) ?_; conv => whnf)
        have hu32 : u < y1 * 4294967296 + y0 := by omega
        refine Runs.loopJ (X := Nat × Nat) (Y := Unit) (fun q => [(2, .int .u64 yn), (8, .int .u64 s), (9, .int .u64 y1), (10, .int .u64 y0), (11, .int .u64 u), (13, .int .u64 d1), (14, .int .u64 d0), (15, .int .u64 (q.1 : Nat)), (16, .int .u64 (q.2 : Nat))])
          (fun q h' => h' = h ∧ DI u d1 y1 y0 q.1 q.2) (fun q => q.1) (u / y1, u % y1)
          (fun _ => [(2, .int .u64 yn), (8, .int .u64 s), (9, .int .u64 y1), (10, .int .u64 y0), (11, .int .u64 u), (13, .int .u64 d1), (14, .int .u64 d0), (15, .int .u64 ((u * 4294967296 + d1) / yn : Nat))]) (fun _ h' => h' = h)
          ⟨rfl, DI.init N1⟩ ⟨rfl, rfl, rfl, rfl, rfl, rfl, rfl, rfl, ?_, trivial⟩ ?_ ?_
        · rw [rest_cast N1.y1l N1.y1h (by omega)]; rfl
        · rintro ⟨q, r⟩ h ⟨rfl, I⟩ ih hx
          dsimp only at I ih ⊢
          have I3 := I.le
          have I4 := I.rt
          try refine go_run tab 1000 _ _ ?_
          conv => whnf
          refine ⟨fun h4 => ?_, fun h4 => ?_⟩ <;> conv => whnf
          · obtain ⟨D1, D2, D3, D4⟩ := I.dec N1 (.inl (by omega))
            try refine go_run tab 1000 _ _ ?_
            conv => whnf
            repeat (refine And.intro (by omega) ?_; conv => whnf)
            rw [show ((q : Int) - 1) % 18446744073709551616 = (q - 1 : Nat) by omega, show ((r : Int) + y1) % 18446744073709551616 = (r + y1 : Nat) by omega]
            refine ⟨fun h6 => ?_, fun h6 => ?_⟩ <;> conv => whnf
            · have hq := DI.out N1 D2 D3 D4 (by omega)
              exact hx () _ _ rfl ⟨rfl, rfl, rfl, rfl, rfl, rfl, rfl, by rw [hy10, ← hq]; rfl, trivial⟩
            · exact ih (q - 1, r + y1) _ _ ⟨rfl, D2, D3, by dsimp only; omega, by dsimp only; omega⟩ (by dsimp only; omega) ⟨rfl, rfl, rfl, rfl, rfl, rfl, rfl, rfl, rfl, trivial⟩
          · have hb := mul_bound (a := q) (b := y0) (by omega) (by omega) (by omega) (by omega)
            have hqy : (q : Int) * y0 = ((q * y0 : Nat) : Int) := by simp
            rw [hqy] at hb ⊢
            refine ⟨fun h5 => ?_, fun h5 => ?_⟩ <;> conv => whnf
            · have h5' : 4294967296 * r + d1 < q * y0 := by omega
              obtain ⟨D1, D2, D3, D4⟩ := I.dec N1 (.inr h5')
              rw [show ((q : Int) - 1) % 18446744073709551616 = (q - 1 : Nat) by omega, show ((r : Int) + y1) % 18446744073709551616 = (r + y1 : Nat) by omega]
              refine ⟨fun h6 => ?_, fun h6 => ?_⟩ <;> conv => whnf
              · have hq := DI.out N1 D2 D3 D4 (by omega)
                exact hx () _ _ rfl ⟨rfl, rfl, rfl, rfl, rfl, rfl, rfl, by rw [hy10, ← hq]; rfl, trivial⟩
              · exact ih (q - 1, r + y1) _ _ ⟨rfl, D2, D3, by dsimp only; omega, by dsimp only; omega⟩ (by dsimp only; omega) ⟨rfl, rfl, rfl, rfl, rfl, rfl, rfl, rfl, rfl, trivial⟩
            · have hq := DI.exit N1 I (by omega)
              exact hx () _ _ rfl ⟨rfl, rfl, rfl, rfl, rfl, rfl, rfl, by rw [hy10, ← hq]; rfl, trivial⟩
        · rintro _ h rfl
          try refine go_run tab 1000 _ _ ?_
          conv => whnf
          rw [digit_rest rfl (by omega) hynh]
          obtain ⟨R1, hR1⟩ : ∃ R1, R1 = (u * 4294967296 + d1) % yn := ⟨_, rfl⟩
          have hR1b : R1 < yn := by rw [hR1]; exact Nat.mod_lt _ (by omega)
          rw [← hR1]
          have N2 : DN R1 d0 y1 y0 := ⟨by omega, by omega, by omega, by omega, by omega⟩
          repeat (refine And.intro (by omega) ?_; conv => whnf)
          refine Runs.loopJ (X := Nat × Nat) (Y := Unit) (fun q => [(2, .int .u64 yn), (8, .int .u64 s), (9, .int .u64 y1), (10, .int .u64 y0), (14, .int .u64 d0), (15, .int .u64 ((u * 4294967296 + d1) / yn : Nat)), (17, .int .u64 R1), (18, .int .u64 (q.1 : Nat)), (16, .int .u64 (q.2 : Nat))])
            (fun q h' => h' = h ∧ DI R1 d0 y1 y0 q.1 q.2) (fun q => q.1) (R1 / y1, R1 % y1)
            (fun _ => [(2, .int .u64 yn), (8, .int .u64 s), (14, .int .u64 d0), (15, .int .u64 ((u * 4294967296 + d1) / yn : Nat)), (17, .int .u64 R1), (18, .int .u64 ((R1 * 4294967296 + d0) / yn : Nat))]) (fun _ h' => h' = h)
            ⟨rfl, DI.init N2⟩ ⟨rfl, rfl, rfl, rfl, rfl, rfl, rfl, rfl, ?_, trivial⟩ ?_ ?_
          · rw [rest_cast N2.y1l N2.y1h (by omega)]; rfl
          · rintro ⟨q, r⟩ h ⟨rfl, I⟩ ih hx
            dsimp only at I ih ⊢
            have I3 := I.le
            have I4 := I.rt
            try refine go_run tab 1000 _ _ ?_
            conv => whnf
            refine ⟨fun h4 => ?_, fun h4 => ?_⟩ <;> conv => whnf
            · obtain ⟨D1, D2, D3, D4⟩ := I.dec N2 (.inl (by omega))
              try refine go_run tab 1000 _ _ ?_
              conv => whnf
              repeat (refine And.intro (by omega) ?_; conv => whnf)
              rw [show ((q : Int) - 1) % 18446744073709551616 = (q - 1 : Nat) by omega, show ((r : Int) + y1) % 18446744073709551616 = (r + y1 : Nat) by omega]
              refine ⟨fun h6 => ?_, fun h6 => ?_⟩ <;> conv => whnf
              · have hq := DI.out N2 D2 D3 D4 (by omega)
                exact hx () _ _ rfl ⟨rfl, rfl, rfl, rfl, rfl, by rw [hy10, ← hq]; rfl, trivial⟩
              · exact ih (q - 1, r + y1) _ _ ⟨rfl, D2, D3, by dsimp only; omega, by dsimp only; omega⟩ (by dsimp only; omega) ⟨rfl, rfl, rfl, rfl, rfl, rfl, rfl, rfl, rfl, trivial⟩
            · have hb := mul_bound (a := q) (b := y0) (by omega) (by omega) (by omega) (by omega)
              have hqy : (q : Int) * y0 = ((q * y0 : Nat) : Int) := by simp
              rw [hqy] at hb ⊢
              refine ⟨fun h5 => ?_, fun h5 => ?_⟩ <;> conv => whnf
              · have h5' : 4294967296 * r + d0 < q * y0 := by omega
                obtain ⟨D1, D2, D3, D4⟩ := I.dec N2 (.inr h5')
                rw [show ((q : Int) - 1) % 18446744073709551616 = (q - 1 : Nat) by omega, show ((r : Int) + y1) % 18446744073709551616 = (r + y1 : Nat) by omega]
                refine ⟨fun h6 => ?_, fun h6 => ?_⟩ <;> conv => whnf
                · have hq := DI.out N2 D2 D3 D4 (by omega)
                  exact hx () _ _ rfl ⟨rfl, rfl, rfl, rfl, rfl, by rw [hy10, ← hq]; rfl, trivial⟩
                · exact ih (q - 1, r + y1) _ _ ⟨rfl, D2, D3, by dsimp only; omega, by dsimp only; omega⟩ (by dsimp only; omega) ⟨rfl, rfl, rfl, rfl, rfl, rfl, rfl, rfl, rfl, trivial⟩
              · have hq := DI.exit N2 I (by omega)
                exact hx () _ _ rfl ⟨rfl, rfl, rfl, rfl, rfl, by rw [hy10, ← hq]; rfl, trivial⟩
          · rintro _ h rfl
            try refine go_run tab 1000 _ _ ?_
            conv => whnf
            rw [digit_rest rfl (by omega) hynh]
            have T := div_two u d1 d0 yn (by omega)
            rw [← hR1] at T
            have L1 := N1.q_lt
            have L2 := N2.q_lt
            rw [← hy10] at L1 L2
            obtain ⟨Q1, hQ1⟩ : ∃ Q1, Q1 = (u * 4294967296 + d1) / yn := ⟨_, rfl⟩
            obtain ⟨Q0, hQ0⟩ : ∃ Q0, Q0 = (R1 * 4294967296 + d0) / yn := ⟨_, rfl⟩
            obtain ⟨R0, hR0⟩ : ∃ R0, R0 = (R1 * 4294967296 + d0) % yn := ⟨_, rfl⟩
            rw [← hQ1, ← hQ0, ← hR0] at T
            rw [← hQ1] at L1 ⊢
            rw [← hQ0] at L2 ⊢
            rw [← hR0]
            repeat (refine And.intro (by omega) ?_; conv => whnf)
            refine Runs.ret Tryz.func87 rfl rfl ⟨_, rfl, ?_⟩
            refine ⟨⟨Q1 * 4294967296 + Q0, R0 / 2 ^ s, ?_, ?_⟩, rfl⟩
            · rw [Int.toNat_natCast, show ((Q1 : Int) * 4294967296 % 18446744073709551616 + Q0) % 18446744073709551616 = (Q1 * 4294967296 + Q0 : Nat) by omega, show (R0 : Int) / 2 ^ s = (R0 / 2 ^ s : Nat) by simp]
              rfl
            · have hN' := Nat.div_add_mod ((hi * B + lo) * 2 ^ s) B
              rw [q1, q2, B_eq] at hN'
              rw [B_eq]
              have e : u * 18446744073709551616 + (d1 * 4294967296 + d0) = (hi * 18446744073709551616 + lo) * 2 ^ s := by omega
              rw [e, hyn, Nat.mul_div_mul_right _ _ (Nat.two_pow_pos s), Nat.mul_mod_mul_right] at T
              refine ⟨T.1.symm, ?_⟩
              rw [← T.2, Nat.mul_div_cancel _ (Nat.two_pow_pos s)]

end Go.Proofs.YtgnciigjhpcdmaaGreatDoor

namespace Go.NatM
open Go Go.Fw

/-- one word more of the quotient -/
theorem word_step {V1 V2 i : Nat} (hV2 : 0 < V2) :
    V1 / B ^ i / V2 = V1 / B ^ (i + 1) / V2 * B + (V1 / B ^ (i + 1) % V2 * B + wdc V1 i) / V2 ∧ V1 / B ^ i % V2 = (V1 / B ^ (i + 1) % V2 * B + wdc V1 i) % V2 := by
  have h1 := div_step V1 i
  obtain ⟨T, hT⟩ : ∃ T, T = V1 / B ^ (i + 1) := ⟨_, rfl⟩
  rw [← hT] at h1 ⊢
  have h2 := Nat.div_add_mod T V2
  have e : V1 / B ^ i = V2 * (T / V2 * B) + (T % V2 * B + wdc V1 i) := by
    rw [h1, ← Nat.mul_assoc, ← Nat.add_assoc, ← Nat.add_mul, h2, Nat.mul_comm, Nat.add_comm]
  rw [e, Nat.mul_add_div hV2, Nat.mul_add_mod]
  exact ⟨rfl, rfl⟩

theorem word_digit_lt {V2 r w : Nat} (hr : r < V2) (hw : w < B) : (r * B + w) / V2 < B := by
  rw [Nat.div_lt_iff_lt_mul (by omega)]
  have := Nat.mul_le_mul_right B (show r + 1 ≤ V2 by omega)
  rw [Nat.succ_mul, Nat.mul_comm V2] at this
  omega

/-- a word below the quotient's words is 0 -/
theorem wdc_mulB {A j i : Nat} (h : j < i) : wdc (A * B ^ i) j = 0 := by
  unfold wdc
  rw [show B ^ i = B * B ^ (i - j - 1) * B ^ j by rw [← Nat.pow_succ', ← Nat.pow_add]; congr 1; omega, ← Nat.mul_assoc, Nat.mul_div_cancel _ (Bp_pos j), ← Nat.mul_assoc, Nat.mul_comm A B, Nat.mul_assoc, Nat.mul_mod_right]

theorem putw_mulB {A x i : Nat} : putw (A * B ^ (i + 1)) i x = (A * B + x) * B ^ i := by
  have h := @putw_eq (A * B ^ (i + 1)) i x
  rw [wdc_mulB (Nat.lt_succ_self i), Nat.mul_zero, Nat.add_zero] at h
  rw [h, Nat.add_mul, Nat.pow_succ, Nat.mul_comm (B ^ i) x, Nat.mul_assoc A B, Nat.mul_comm B (B ^ i)]

/-- one bit more of the quotient -/
theorem bit_step {V1 V2 i : Nat} (hV2 : 0 < V2) (b : Nat) (hb : b = V1 / 2 ^ i % 2) :
    (V2 ≤ 2 * (V1 / 2 ^ (i + 1) % V2) + b → V1 / 2 ^ i / V2 = 2 * (V1 / 2 ^ (i + 1) / V2) + 1 ∧ V1 / 2 ^ i % V2 = 2 * (V1 / 2 ^ (i + 1) % V2) + b - V2) ∧
    (2 * (V1 / 2 ^ (i + 1) % V2) + b < V2 → V1 / 2 ^ i / V2 = 2 * (V1 / 2 ^ (i + 1) / V2) ∧ V1 / 2 ^ i % V2 = 2 * (V1 / 2 ^ (i + 1) % V2) + b) := by
  have e0 : V1 / 2 ^ (i + 1) = V1 / 2 ^ i / 2 := by rw [Nat.pow_succ, Nat.div_div_eq_div_mul]
  obtain ⟨U, hU⟩ : ∃ U, U = V1 / 2 ^ i := ⟨_, rfl⟩
  obtain ⟨T, hT⟩ : ∃ T, T = V1 / 2 ^ (i + 1) := ⟨_, rfl⟩
  rw [← hU] at e0 hb ⊢
  rw [← hT] at e0 ⊢
  have hTb : U = 2 * T + b := by omega
  have h2 := Nat.div_add_mod T V2
  have hm := Nat.mod_lt T hV2
  obtain ⟨q, hq⟩ : ∃ q, q = T / V2 := ⟨_, rfl⟩
  obtain ⟨r, hr⟩ : ∃ r, r = T % V2 := ⟨_, rfl⟩
  rw [← hq, ← hr] at h2
  rw [← hr] at hm
  rw [← hq, ← hr]
  have e : U = V2 * (2 * q) + (2 * r + b) := by
    rw [hTb, ← h2, show V2 * (2 * q) = 2 * (V2 * q) by rw [← Nat.mul_assoc, Nat.mul_comm V2 2, Nat.mul_assoc]]
    omega
  constructor
  · intro h
    have e2 : U = V2 * (2 * q + 1) + (2 * r + b - V2) := by
      rw [Nat.mul_add, Nat.mul_one]; omega
    rw [e2, Nat.mul_add_div hV2, Nat.mul_add_mod, Nat.div_eq_of_lt (by omega), Nat.mod_eq_of_lt (by omega)]
    exact ⟨rfl, rfl⟩
  · intro h
    rw [e, Nat.mul_add_div hV2, Nat.mul_add_mod, Nat.div_eq_of_lt h, Nat.mod_eq_of_lt h]
    exact ⟨rfl, rfl⟩

theorem two_word (i : Nat) : (2 : Nat) ^ i = B ^ (i / 64) * 2 ^ (i % 64) := by
  rw [B_pow, ← Nat.pow_add]; congr 1; omega

/-- a bit set where all below is 0 -/
theorem set_bit (A i : Nat) : wdc (A * 2 ^ (i + 1)) (i / 64) ||| 2 ^ (i % 64) = wdc (A * 2 ^ (i + 1)) (i / 64) + 2 ^ (i % 64) ∧ wdc (A * 2 ^ (i + 1)) (i / 64) + 2 ^ (i % 64) < B ∧
    putw (A * 2 ^ (i + 1)) (i / 64) (wdc (A * 2 ^ (i + 1)) (i / 64) + 2 ^ (i % 64)) = (2 * A + 1) * 2 ^ i := by
  obtain ⟨q, hq⟩ : ∃ q, q = i / 64 := ⟨_, rfl⟩
  obtain ⟨t, ht⟩ : ∃ t, t = i % 64 := ⟨_, rfl⟩
  have ht64 : t < 64 := by omega
  have hB : B = 2 ^ (t + 1) * 2 ^ (63 - t) := by rw [← Nat.pow_add, show t + 1 + (63 - t) = 64 by omega]; rfl
  have e1 : wdc (A * 2 ^ (i + 1)) q = 2 ^ (t + 1) * (A % 2 ^ (63 - t)) := by
    unfold wdc
    rw [Nat.pow_succ, two_word i, ← hq, ← ht, show A * (B ^ q * 2 ^ t * 2) = A * 2 ^ (t + 1) * B ^ q by rw [Nat.pow_succ]; simp only [Nat.mul_comm, Nat.mul_left_comm],
      Nat.mul_div_cancel _ (Bp_pos q), Nat.mul_comm A, hB, Nat.mul_mod_mul_left]
  have hx : 2 ^ t < 2 ^ (t + 1) := by rw [Nat.pow_succ]; have := Nat.two_pow_pos t; omega
  have hlt : 2 ^ (t + 1) * (A % 2 ^ (63 - t)) + 2 ^ t < B := by
    have h1 := Nat.mod_lt A (Nat.two_pow_pos (63 - t))
    have h2 := Nat.mul_le_mul_left (2 ^ (t + 1)) (show A % 2 ^ (63 - t) + 1 ≤ 2 ^ (63 - t) by omega)
    rw [← hB, Nat.mul_add, Nat.mul_one] at h2
    omega
  rw [← hq, ← ht]
  refine ⟨?_, by rw [e1]; exact hlt, ?_⟩
  · rw [e1, Nat.two_pow_add_eq_or_of_lt hx]
  · have h := @putw_eq (A * 2 ^ (i + 1)) q (wdc (A * 2 ^ (i + 1)) q + 2 ^ t)
    rw [Nat.mul_add] at h
    have e2 : (2 * A + 1) * 2 ^ i = A * 2 ^ (i + 1) + B ^ q * 2 ^ t := by
      rw [Nat.add_mul, Nat.one_mul, hq, ht, ← two_word, Nat.pow_succ, Nat.mul_comm 2 A, Nat.mul_assoc, Nat.mul_comm 2 (2 ^ i)]
    omega

/-- the bit that comes in at word j, where 2 R + b is made -/
def cdb (R b j : Nat) : Nat := (2 * (R % B ^ j) + b) / B ^ j

theorem cdb_le {R b j : Nat} (hb : b ≤ 1) : cdb R b j ≤ 1 := by
  have h := Nat.mod_lt R (Bp_pos j)
  have : cdb R b j < 2 := by
    unfold cdb
    rw [Nat.div_lt_iff_lt_mul (Bp_pos j)]
    omega
  omega

theorem cdb_zero (R b : Nat) : cdb R b 0 = b := by simp [cdb, Nat.mod_one]

theorem dbl_word {R b j : Nat} (hb : b ≤ 1) : wdc (2 * R + b) j = (wdc R j * 2 % B) ||| cdb R b j ∧ cdb R b (j + 1) = wdc R j / 9223372036854775808 := by
  have hc := @cdb_le R b j hb
  have hd := Nat.div_add_mod R (B ^ j)
  have e : (2 * R + b) / B ^ j = 2 * (R / B ^ j) + cdb R b j := by
    have : 2 * R + b = B ^ j * (2 * (R / B ^ j)) + (2 * (R % B ^ j) + b) := by
      rw [show B ^ j * (2 * (R / B ^ j)) = 2 * (B ^ j * (R / B ^ j)) by rw [← Nat.mul_assoc, Nat.mul_comm _ 2, Nat.mul_assoc]]
      omega
    rw [this, Nat.mul_add_div (Bp_pos j)]
    rfl
  have hw : wdc R j = R / B ^ j % B := rfl
  have hwl := wdc_lt R j
  constructor
  · have hor : (wdc R j * 2 % B) ||| cdb R b j = wdc R j * 2 % B + cdb R b j := by
      have e2 : wdc R j * 2 % B = 2 ^ 1 * (wdc R j % 9223372036854775808) := by rw [B_eq] at *; omega
      rw [e2, Nat.two_pow_add_eq_or_of_lt (by omega)]
    rw [hor]
    unfold wdc at *
    rw [e]
    rw [B_eq] at *
    omega
  · have h1 := mod_succ R j
    unfold cdb at *
    rw [h1, Nat.pow_succ, ← Nat.div_div_eq_div_mul]
    have e3 : 2 * (R % B ^ j + B ^ j * wdc R j) + b = B ^ j * (2 * wdc R j) + (2 * (R % B ^ j) + b) := by
      rw [show B ^ j * (2 * wdc R j) = 2 * (B ^ j * wdc R j) by rw [← Nat.mul_assoc, Nat.mul_comm _ 2, Nat.mul_assoc]]
      omega
    rw [e3, Nat.mul_add_div (Bp_pos j)]
    obtain ⟨cc, hcc⟩ : ∃ cc, cc = (2 * (R % B ^ j) + b) / B ^ j := ⟨_, rfl⟩
    rw [← hcc] at hc ⊢
    rw [B_eq] at *
    omega

end Go.NatM

namespace Go.Proofs.YtgnciigjhpcdmaaGreatDoor
open Go Go.Fw Go.NatM
set_option maxRecDepth 100000
set_option maxHeartbeats 8000000

theorem bit_word (V i : Nat) : wdc V (i / 64) / 2 ^ (i % 64) % 2 = V / 2 ^ i % 2 := by
  unfold wdc
  have h64 : i % 64 < 64 := Nat.mod_lt _ (by decide)
  rw [two_word i, ← Nat.div_div_eq_div_mul]
  obtain ⟨t, ht⟩ : ∃ t, t = i % 64 := ⟨_, rfl⟩
  rw [← ht] at h64 ⊢
  generalize V / B ^ (i / 64) = X
  rw [show B = 2 ^ t * 2 ^ (64 - t) by rw [← Nat.pow_add, show t + (64 - t) = 64 by omega]; rfl, Nat.mod_mul_right_div_self]
  rw [show 2 ^ (64 - t) = 2 * 2 ^ (63 - t) by rw [← Nat.pow_succ']; congr 1; omega, Nat.mod_mul_right_mod]

theorem low1_fn {h : Array Obj} {y bm bw V m cap many : Nat} {a : Option Addr} (J : Nat → Array Obj → Prop) (h0 : J many h)
    (hcells : ∀ i h', J i h' → cellH h' bm 0 = some (.int .i64 many) ∧ cellH h' bw 0 = some (.slice a m cap) ∧ Wr h' (.slice a m cap) m V) (hm : many ≤ 64 * m) (hmb : m ≤ 1048576)
    (hY : ∀ i h', i < many → J (i + 1) h' → YieldsTo Tryz.prog y #[.int .i64 (i : Nat), .int .u64 (V / 2 ^ i % 2 : Nat)] h' fun v h'' => v = .bool true ∧ J i h'') :
    FnV Tryz.prog 104 #[.func (.yield y) #[] #[], .pointer (some ⟨bm, 0, none⟩), .pointer (some ⟨bw, 0, none⟩)] h fun r h' => r = .tuple #[] ∧ J 0 h' := by
  refine Fn.of (args := [.func (.yield y) #[] #[], .pointer (some ⟨bm, 0, none⟩), .pointer (some ⟨bw, 0, none⟩)]) Tryz.func104 (by kernel_rfl) rfl Tryz.ntmps104 rfl fun w0 cs => ?_
  refine go_run tab 1000 _ _ ?_
  conv => whnf
  refine ⟨_, (hcells _ _ h0).1, ?_⟩
  conv => whnf
  repeat (refine And.intro (by omega) ?_; conv => whnf)
  refine Runs.loop (X := Nat) (fun i => [(0, .func (.yield y) #[] #[]), (1, .pointer (some ⟨bm, 0, none⟩)), (2, .pointer (some ⟨bw, 0, none⟩)), (4, .int .i64 ((i : Int) - 1))]) (fun i h' => i ≤ many ∧ J i h') (fun i => i) many
    ⟨Nat.le_refl _, h0⟩ ⟨rfl, rfl, rfl, rfl, trivial⟩ ?_
  rintro i h' ⟨hi, hJ⟩ ih
  obtain ⟨hc1, hc2, hw⟩ := hcells _ _ hJ
  try refine go_run tab 1000 _ _ ?_
  conv => whnf
  refine ⟨fun h1 => ?_, fun h1 => ?_⟩ <;> conv => whnf
  · obtain ⟨k, rfl⟩ : ∃ k, i = k + 1 := ⟨i - 1, by omega⟩
    rw [show ((k + 1 : Nat) : Int) - 1 = (k : Nat) by omega]
    refine ⟨_, hc2, ?_⟩
    conv => whnf
    rw [show ((k : Nat) : Int) / 64 = (k / 64 : Nat) by omega]
    obtain ⟨b, off, rfl, hrd⟩ := hw.rd rfl (by omega)
    repeat (refine And.intro (by omega) ?_; conv => whnf)
    refine ⟨_, hrd (k / 64) (by omega), ?_⟩
    conv => whnf
    try refine go_run tab 1000 _ _ ?_
    conv => whnf
    repeat (refine And.intro (by omega) ?_; conv => whnf)
    rw [show ((k : Nat) : Int) % 64 = (k % 64 : Nat) by omega, shr_cast]
    have b1 := shr_le (wdc_le V (k / 64)) (k % 64)
    have b2 := bit_word V k
    obtain ⟨x, hx⟩ : ∃ x, x = wdc V (k / 64) / 2 ^ (k % 64) := ⟨_, rfl⟩
    rw [← hx] at b1 b2 ⊢
    repeat (refine And.intro (by omega) ?_; conv => whnf)
    rw [show (((fun a b => a &&& b) (x : Int).toNat (Int.toNat 1) : Nat) : Int) = (V / 2 ^ k % 2 : Nat) by rw [← b2]; exact congrArg _ (Nat.and_two_pow_sub_one_eq_mod x 1)]
    refine Runs.callY (hY k h' (by omega) hJ) ?_
    rintro _ h'' ⟨rfl, hJ'⟩
    try refine go_run tab 1000 _ _ ?_
    conv => whnf
    repeat (refine And.intro (by omega) ?_; conv => whnf)
    exact ih k _ _ ⟨by omega, hJ'⟩ (by omega) ⟨rfl, rfl, rfl, rfl, trivial⟩
  · refine Runs.fin Tryz.func104 rfl rfl ⟨_, rfl, ?_⟩
    have : i = 0 := by omega
    subst this
    exact ⟨rfl, hJ⟩

theorem low_fn {h : Array Obj} (v : Value) (many : Int) (hv : v.cells = #[v]) :
    FnV Tryz.prog 89 #[v, .int .i64 many] h fun r h' => r = .func (.func 104) #[] #[.pointer (some ⟨h.size + 1, 0, none⟩), .pointer (some ⟨h.size, 0, none⟩)] ∧
      h' = (h.push (.cells #[v] 78 (0, 0))).push (.cells #[.int .i64 many] 3 (0, 0)) := by
  refine Fn.of (args := [v, .int .i64 many]) Tryz.func89 (by kernel_rfl) rfl Tryz.ntmps89 rfl fun w0 cs => ?_
  refine go_run tab 1000 _ _ ?_
  conv => whnf
  refine Runs.eff (eff_box) ?_
  rintro _ _ ⟨rfl, rfl⟩
  try refine go_run tab 1000 _ _ ?_
  conv => whnf
  refine Runs.eff (eff_box) ?_
  rintro _ _ ⟨rfl, rfl⟩
  try refine go_run tab 1000 _ _ ?_
  conv => whnf
  refine Runs.ret Tryz.func89 rfl rfl ⟨_, rfl, ?_⟩
  rw [hv]
  refine ⟨?_, rfl⟩
  show Value.func _ _ _ = _
  simp

theorem clone_fn {h : Array Obj} {a : Option Addr} {m cap V : Nat} (hw : Wr h (.slice a m cap) m V) (h0 : 0 < m) (hm : m ≤ 1048576) :
    FnV Tryz.prog 82 #[.slice a m cap] h fun r h' => Wown h.size h' r m V ∧ Keeps h.size h h' := by
  obtain ⟨b, off, rfl, hrd⟩ := hw.rd rfl h0
  have hV : V < B ^ m := by obtain ⟨_, _, _, _, hV, _⟩ := hw; exact hV
  have hb : b < h.size := cellH_lt (hrd 0 h0)
  refine Fn.of (args := [.slice (some ⟨b, off, none⟩) m cap]) Tryz.func82 (by kernel_rfl) rfl Tryz.ntmps82 rfl fun w0 cs => ?_
  refine go_run tab 1000 _ _ ?_
  conv => whnf
  refine Runs.eff (eff_build tab [] (h1 := by simp)) ?_
  rintro _ _ ⟨rfl, rfl⟩
  try refine go_run tab 1000 _ _ ?_
  conv => whnf
  have hown : Own h.size (h.push (.cells #[] 77 (0, 0))) 77 1 (.slice (some ⟨h.size, 0, none⟩) 0 0) 0 [] :=
    ⟨rfl, .inr ⟨h.size, 0, #[], rfl, Nat.le_refl _, push_new _ _ _, Nat.le_refl _, by unfold maxLen; omega, rfl, rfl⟩⟩
  have hk1 : Keeps h.size h (h.push (.cells #[] 77 (0, 0))) := (Keeps.refl _ _).push (Nat.le_refl _) _
  refine Runs.eff (eff_append tab (i := ⟨.int .u64 0, 1, 8⟩) (base := h.size) (m := 0) (m2 := m) (news := (List.range m).map fun j => Value.int .u64 (wdc V j : Nat)) hown (by simp) (fun j u hu => ?_) (fun u hu => ?_) (h63 := by unfold maxLen; omega) (hbytes := by dsimp only; omega) (hbase := by simp)) ?_
  · rw [List.getElem?_map] at hu
    have hj : j < m := by
      rcases Nat.lt_or_ge j m with h | h
      · exact h
      · rw [List.getElem?_eq_none (by simp; omega)] at hu; cases hu
    rw [List.getElem?_range hj] at hu
    obtain rfl := Option.some.inj hu
    rw [hk1.cell hb]
    exact hrd j hj
  · obtain ⟨j, _, rfl⟩ := List.mem_map.1 hu
    rfl
  rintro v' h' ⟨H1, H2, H3, H4⟩
  try refine go_run tab 1000 _ _ ?_
  conv => whnf
  refine Runs.ret Tryz.func82 rfl rfl ⟨_, rfl, ?_⟩
  have hkk : Keeps h.size h h' := hk1.trans (hown.keeps (by simp) H2 H3)
  refine ⟨?_, hkk⟩
  rw [Nat.zero_add] at H1
  obtain ⟨hl, H1⟩ := H1
  rcases H1 with ⟨_, e⟩ | ⟨g, cap', cur, e1, e2, e3, e4, e5, e6, e7⟩
  · omega
  · dsimp only at e6 e7
    refine ⟨g, cap', cur, e1, e2, e3, by omega, e4, hV, fun j hj => ?_⟩
    have : (cur.toList.take (m * 1))[j]? = some (.int .u64 (wdc V j : Nat)) := by
      rw [e7]
      simp [List.getElem?_range hj]
    rw [List.getElem?_take_of_lt (show j < m * 1 by omega)] at this
    simpa using this
end Go.Proofs.YtgnciigjhpcdmaaGreatDoor

namespace Go.Proofs.YtgnciigjhpcdmaaGreatDoor
open Go Go.Fw Go.NatM
set_option maxRecDepth 100000
set_option maxHeartbeats 8000000

abbrev nilS : Value := .slice none 0 0

theorem Wr.nil (h : Array Obj) : Wr h nilS 0 0 := ⟨none, 0, rfl, Nat.le_refl _, by decide, fun h => absurd h (Nat.lt_irrefl _)⟩

theorem cmpI_lt (x y : Nat) : cmpI (x : Int) (y : Int) < 0 ↔ x < y := by
  unfold cmpI
  constructor
  · intro h; split at h
    · omega
    · split at h <;> omega
  · intro h; rw [if_pos (by omega)]; decide

theorem words_src {h : Array Obj} {g m V : Nat} {cur : Array Value} (hat : At h g cur 77) (hc : ∀ j, j < m → cur[j]? = some (.int .u64 (wdc V j : Nat))) :
    ∀ (j : Nat) (u : Value), ((List.range m).map fun j => Value.int .u64 (wdc V j : Nat))[j]? = some u → cellH h g (0 + j) = some u := fun j u hu => by
  rw [List.getElem?_map] at hu
  have hj : j < m := by
    rcases Nat.lt_or_ge j m with h | h
    · exact h
    · rw [List.getElem?_eq_none (by simp; omega)] at hu; cases hu
  rw [List.getElem?_range hj] at hu
  obtain rfl := Option.some.inj hu
  rw [hat.cell, Nat.zero_add]
  exact hc j hj

theorem words_one (m V : Nat) : ∀ u ∈ (List.range m).map (fun j => Value.int .u64 (wdc V j : Nat)), u.oneCell' = true := fun u hu => by
  obtain ⟨j, _, rfl⟩ := List.mem_map.1 hu
  rfl

/-- what divide hands back -/
def DivR (h h' : Array Obj) (r : Value) (V1 V2 : Nat) : Prop :=
  ∃ vq vr mq mr, r = .tuple #[vq, vr] ∧ Wr h' vq mq (V1 / V2) ∧ Wr h' vr mr (V1 % V2) ∧ mq ≤ nw V1 ∧ mr ≤ nw V1 + nw V2 + 1 ∧ Keeps h.size h h'

theorem slice_own {h : Array Obj} {a : Option Addr} {m cap V g : Nat} (hw : Wr h (.slice a m cap) m V) (hm : 0 < m) (hg : h.size ≤ g) : (Value.slice a m cap).ownBlock ≠ some g := by
  intro e
  obtain ⟨b, off, rfl, hr⟩ := hw.rd rfl hm
  have := cellH_lt (hr 0 hm)
  have e : b = g := by simpa [Value.ownBlock] using e
  omega

/-- between two rounds of the division by bits, i bits to come -/
structure DivC (h : Array Obj) (v2 : Value) (g1 g3 : Nat) (V1 V2 i : Nat) (h' : Array Obj) : Prop where
  keeps : Keeps h.size h h'
  bb : At h' h.size #[v2] 78
  qq : At h' (h.size + 1) #[.slice (some ⟨g1, 0, none⟩) (nw V1) (nw V1)] 78
  rr : At h' (h.size + 1 + 1) #[.slice (some ⟨g3, 0, none⟩) (nw V2 + 1) (nw V2 + 1)] 78
  q : ∃ cur, At h' g1 cur 77 ∧ cur.size = nw V1 ∧ V1 / 2 ^ i / V2 * 2 ^ i < B ^ nw V1 ∧ ∀ j, j < nw V1 → cur[j]? = some (.int .u64 (wdc (V1 / 2 ^ i / V2 * 2 ^ i) j : Nat))
  r : ∃ cur, At h' g3 cur 77 ∧ cur.size = nw V2 + 1 ∧ ∀ j, j < nw V2 + 1 → cur[j]? = some (.int .u64 (wdc (V1 / 2 ^ i % V2) j : Nat))

theorem DivC.put {h : Array Obj} {v2 : Value} {g1 g3 V1 V2 i : Nat} {h' h'' : Array Obj} (H : DivC h v2 g1 g3 V1 V2 i h') {b : Nat} (P : PutO h' h'' b) (hb : h.size + 2 < b) (h1 : g1 ≠ b) (h3 : g3 ≠ b) : DivC h v2 g1 g3 V1 V2 i h'' := by
  obtain ⟨k, b1, b2, b3, ⟨c1, q1, q2⟩, ⟨c2, r1, r2⟩⟩ := H
  exact ⟨k.trans (P.keeps.mono (by omega)), P.at b1 (by omega), P.at b2 (by omega), P.at b3 (by omega), ⟨c1, P.at q1 h1, q2⟩, ⟨c2, P.at r1 h3, r2⟩⟩

theorem DivC.kept {h : Array Obj} {v2 : Value} {g1 g3 V1 V2 i : Nat} {h' h'' : Array Obj} (H : DivC h v2 g1 g3 V1 V2 i h') {b : Nat} (P : Keeps b h' h'') (hb : h.size + 2 < b) (h1 : g1 < b) (h3 : g3 < b) : DivC h v2 g1 g3 V1 V2 i h'' := by
  obtain ⟨k, b1, b2, b3, ⟨c1, q1, q2⟩, ⟨c2, r1, r2⟩⟩ := H
  exact ⟨k.trans (P.mono (by omega)), P.at b1 (by omega), P.at b2 (by omega), P.at b3 (by omega), ⟨c1, P.at q1 h1, q2⟩, ⟨c2, P.at r1 h3, r2⟩⟩

theorem divide_fn {h : Array Obj} {v1 v2 : Value} {V1 V2 : Nat} (hw1 : Wr h v1 (nw V1) V1) (hw2 : Wr h v2 (nw V2) V2) (h0 : V2 ≠ 0) (hm1 : nw V1 ≤ 65536) (hm2 : nw V2 ≤ 65536) :
    FnV Tryz.prog 66 #[v1, v2] h fun r h' => DivR h h' r V1 V2 := by
  obtain ⟨a1, cap1, rfl⟩ : ∃ a cap, v1 = .slice a (nw V1) cap := let ⟨a, cap, e, _⟩ := hw1; ⟨a, cap, e⟩
  obtain ⟨a2, cap2, rfl⟩ : ∃ a cap, v2 = .slice a (nw V2) cap := let ⟨a, cap, e, _⟩ := hw2; ⟨a, cap, e⟩
  refine Fn.of (args := [.slice a1 (nw V1) cap1, .slice a2 (nw V2) cap2]) Tryz.func66 (by kernel_rfl) rfl Tryz.ntmps66 rfl fun w0 cs => ?_
  refine go_run tab 1000 _ _ ?_
  conv => whnf
  refine Runs.eff (eff_boxN (cs := #[.slice a2 (nw V2) cap2]) rfl) ?_
  rintro _ ha ⟨rfl, Na⟩
  try refine go_run tab 1000 _ _ ?_
  conv => whnf
  refine Runs.eff (eff_allocN (cs := #[nilS]) tab) ?_
  rintro _ hb ⟨rfl, Nb⟩
  try refine go_run tab 1000 _ _ ?_
  conv => whnf
  refine Runs.eff (eff_allocN (cs := #[nilS]) tab) ?_
  rintro _ h1 ⟨rfl, Nc⟩
  have k1 : Keeps h.size h h1 := (Na.keeps.trans (Nb.keeps.mono (by rw [Na.size]; omega))).trans (Nc.keeps.mono (by rw [Nb.size, Na.size]; omega))
  have B1 := Nc.at (Nb.at Na.blk)
  have Q1 := Nc.at Nb.blk
  have R1 := Nc.blk
  have s1 : h1.size = h.size + 3 := by rw [Nc.size, Nb.size, Na.size]
  rw [Na.size] at Q1
  rw [Nb.size, Na.size] at R1
  rw [Nb.size, Na.size]
  clear Na Nb Nc
  have hw1' := hw1.keeps k1
  have hw2' := hw2.keeps k1
  try refine go_run tab 1000 _ _ ?_
  conv => whnf
  refine ⟨_, B1.one, ?_⟩
  conv => whnf
  refine Runs.callV (compare_fn hw1' hw2' (by omega)) ?_
  rintro _ h1 ⟨rfl, rfl⟩
  try refine go_run tab 1000 _ _ ?_
  conv => whnf
  refine ⟨fun hlt => ?_, fun hlt => ?_⟩ <;> conv => whnf
  · refine Runs.eff (eff_storeB tab Q1) ?_
    rintro _ h2 P2
    try refine go_run tab 1000 _ _ ?_
    conv => whnf
    refine Runs.eff (eff_storeB tab (P2.at R1 (by omega))) ?_
    rintro _ h3 P3
    try refine go_run tab 1000 _ _ ?_
    conv => whnf
    have hV := (cmpI_lt V1 V2).1 hlt
    have hk : Keeps h.size h h3 := (k1.trans (P2.keeps.mono (by omega))).trans (P3.keeps.mono (by omega))
    refine Runs.retC tab Tryz.func66 rfl (vs := [nilS, .slice a1 (nw V1) cap1]) ⟨⟨_, _, rfl, rfl, (P3.at P2.blk (by omega)).one⟩, ⟨_, _, rfl, rfl, P3.blk.one⟩, trivial⟩ ⟨_, rfl, ?_⟩
    refine ⟨_, _, 0, nw V1, rfl, by rw [Nat.div_eq_of_lt hV]; exact Wr.nil _, by rw [Nat.mod_eq_of_lt hV]; exact hw1.keeps hk, by omega, by omega, hk⟩
  · have hge : V2 ≤ V1 := by
      rcases Nat.lt_or_ge V1 V2 with h | h
      · exact absurd ((cmpI_lt V1 V2).2 h) hlt
      · exact h
    repeat (refine And.intro (by omega) ?_; conv => whnf)
    refine Runs.eff (eff_makeN tab (nw V1) (nw V1) (hn := ⟨by omega, by omega, by omega, by dsimp only; omega, by omega⟩)) ?_
    rintro _ h2 ⟨rfl, N2⟩
    have B2 := N2.at B1
    have Q2 := N2.at Q1
    have R2 := N2.at R1
    try refine go_run tab 1000 _ _ ?_
    conv => whnf
    refine Runs.eff (eff_storeB tab Q2) ?_
    rintro _ h3 P3
    try refine go_run tab 1000 _ _ ?_
    conv => whnf
    refine ⟨_, (P3.at B2 (by omega)).one, ?_⟩
    conv => whnf
    refine ⟨fun hone => ?_, fun hone => ?_⟩ <;> conv => whnf
    · have hone : nw V2 = 1 := by omega
      have hV2B : V2 < B := by have := nw_lt V2; rw [hone, Nat.pow_one] at this; exact this
      have hV2w : wdc V2 0 = V2 := by unfold wdc; rw [Nat.pow_zero, Nat.div_one]; exact Nat.mod_eq_of_lt hV2B
      have hm1p : 0 < nw V1 := nw_pos (by omega)
      repeat (refine And.intro (by omega) ?_; conv => whnf)
      have s2 := N2.size
      have s3 := P3.size
      have k3 : Keeps h.size h h3 := (k1.trans (N2.keeps.mono (by omega))).trans (P3.keeps.mono (by omega))
      refine Runs.loop (X := Nat) (fun k => [(0, .slice a1 (nw V1) cap1), (3, .pointer (some ⟨h.size, 0, none⟩)), (4, .pointer (some ⟨h.size + 1, 0, none⟩)), (5, .pointer (some ⟨h.size + 1 + 1, 0, none⟩)), (6, .int .u64 (V1 / B ^ k % V2 : Nat)), (7, .int .i64 ((k : Nat) - 1))])
        (fun k h' => k ≤ nw V1 ∧ Keeps h.size h h' ∧ At h' h.size #[.slice a2 (nw V2) cap2] 78 ∧ At h' (h.size + 1) #[.slice (some ⟨h1.size, 0, none⟩) (nw V1) (nw V1)] 78 ∧ At h' (h.size + 1 + 1) #[nilS] 78 ∧
          ∃ cur, At h' h1.size cur 77 ∧ cur.size = nw V1 ∧ V1 / B ^ k / V2 * B ^ k < B ^ nw V1 ∧ ∀ j, j < nw V1 → cur[j]? = some (.int .u64 (wdc (V1 / B ^ k / V2 * B ^ k) j : Nat)))
        (fun k => k) (nw V1)
        ⟨Nat.le_refl _, k3, P3.at B2 (by omega), P3.blk, P3.at R2 (by omega), _, P3.at N2.blk (by omega), by simp, ?_, fun j hj => ?_⟩ ⟨rfl, rfl, rfl, rfl, ?_, rfl, trivial⟩ ?_
      · rw [Nat.div_eq_of_lt (nw_lt V1), Nat.zero_div, Nat.zero_mul]; exact Bp_pos _
      · rw [Nat.div_eq_of_lt (nw_lt V1), Nat.zero_div, Nat.zero_mul, wdc_zero, Array.getElem?_replicate, if_pos hj]; rfl
      · rw [Nat.div_eq_of_lt (nw_lt V1), Nat.zero_mod]; rfl
      rintro k h4 ⟨hk, k4, B4, Q4, R4, cur, C4, hsz, hS, hc⟩ ih
      try refine go_run tab 1000 _ _ ?_
      conv => whnf
      refine ⟨fun hpos => ?_, fun hpos => ?_⟩ <;> conv => whnf
      · obtain ⟨i, rfl⟩ : ∃ i, k = i + 1 := ⟨k - 1, by omega⟩
        rw [show ((i + 1 : Nat) : Int) - 1 = (i : Nat) by omega]
        have hwi := hw1.keeps k4
        obtain ⟨b1, off1, rfl, hrd1⟩ := hwi.rd rfl hm1p
        obtain ⟨b2, off2, rfl, hrd2⟩ := (hw2.keeps k4).rd rfl (by omega)
        refine Runs.held tab [(0, []), (1, []), (2, []), (3, []), (4, []), (5, []), (6, []), (7, []), (8, []), (9, []), (10, [0]), (11, []), (12, []), (13, []), (14, []), (15, []), (16, [])] (by kernel_rfl) ?_
        conv => whnf
        refine ⟨_, Q4.one, ?_⟩
        conv => whnf
        repeat (refine And.intro (by omega) ?_; conv => whnf)
        refine ⟨_, hrd1 i (by omega), ?_⟩
        conv => whnf
        refine ⟨_, B4.one, ?_⟩
        conv => whnf
        repeat (refine And.intro (by omega) ?_; conv => whnf)
        refine ⟨_, hrd2 0 (by omega), ?_⟩
        conv => whnf
        refine ⟨rfl, _, Eff.call (div64_fn (V1 / B ^ (i + 1) % V2) (wdc V1 i) (wdc V2 0) (wdc_lt _ _) (wdc_lt _ _) (by rw [hV2w]; exact Nat.mod_lt _ (by omega))), ?_⟩
        rintro _ h4 ⟨⟨q, r, rfl, hq, hr⟩, rfl⟩
        refine And.intro (by conv => whnf
                             repeat (refine And.intro (fun e => e) ?_; conv => whnf)
                             exact trivial) ?_
        conv => whnf
        repeat (refine And.intro (by omega) ?_; conv => whnf)
        refine ⟨rfl, _, eff_storeN tab C4 (hlt := by omega), ?_⟩
        rintro _ h5 P5
        refine And.intro (by conv => whnf
                             repeat (refine And.intro (fun e => e) ?_; conv => whnf)
                             exact trivial) ?_
        conv => whnf
        try refine go_run tab 1000 _ _ ?_
        conv => whnf
        repeat (refine And.intro (by omega) ?_; conv => whnf)
        rw [hV2w] at hq hr
        obtain ⟨e1, e2⟩ := word_step (V1 := V1) (V2 := V2) (i := i) (by omega)
        rw [← hq] at e1
        rw [← hr] at e2
        have hqB : q < B := by rw [hq]; exact word_digit_lt (Nat.mod_lt _ (by omega)) (wdc_lt _ _)
        have eS : V1 / B ^ i / V2 * B ^ i = putw (V1 / B ^ (i + 1) / V2 * B ^ (i + 1)) i q := by rw [putw_mulB, e1]
        have z1 := k4.size
        refine ih i _ _ ⟨by omega, k4.trans (P5.keeps.mono (by omega)), P5.at B4 (by omega), P5.at Q4 (by omega), P5.at R4 (by omega), _, P5.blk, by simpa using hsz, by rw [eS]; exact putw_lt hqB (by omega) hS, fun j hj => ?_⟩ (by omega)
          ⟨rfl, rfl, rfl, rfl, by rw [e2]; rfl, rfl, trivial⟩
        rw [eS, wdc_putw hqB, show 0 + ((i : Int)).toNat = i by omega]
        by_cases e : j = i
        · subst e
          rw [Array.getElem?_setIfInBounds_self_of_lt (by omega), if_pos rfl]
        · rw [Array.getElem?_setIfInBounds_ne (by omega), if_neg e]
          exact hc j hj
      · have hk0 : k = 0 := by omega
        subst hk0
        rw [Nat.pow_zero, Nat.div_one, Nat.mul_one] at hS hc
        rw [Nat.pow_zero, Nat.div_one]
        refine ⟨_, Q4.one, ?_⟩
        conv => whnf
        try refine go_run tab 1000 _ _ ?_
        conv => whnf
        refine Runs.eff (eff_buildN tab [.int .u64 (V1 % V2 : Nat)] (h1 := by simp [Value.cells])) ?_
        rintro _ h5 ⟨rfl, N5⟩
        try refine go_run tab 1000 _ _ ?_
        conv => whnf
        refine Runs.eff (eff_storeB tab (N5.at Q4)) ?_
        rintro _ h6 P6
        try refine go_run tab 1000 _ _ ?_
        conv => whnf
        refine Runs.eff (eff_storeB tab (P6.at (N5.at R4) (by omega))) ?_
        rintro _ h7 P7
        try refine go_run tab 1000 _ _ ?_
        conv => whnf
        have z1 := k4.size
        have z5 := N5.size
        have z6 := P6.size
        have k7 : Keeps h.size h h7 := ((k4.trans (N5.keeps.mono (by omega))).trans (P6.keeps.mono (by omega))).trans (P7.keeps.mono (by omega))
        refine Runs.retC tab Tryz.func66 rfl (vs := [.slice (some ⟨h1.size, 0, none⟩) (nw V1) (nw V1), .slice (some ⟨h4.size, 0, none⟩) 1 1]) ⟨⟨_, _, rfl, rfl, (P7.at P6.blk (by omega)).one⟩, ⟨_, _, rfl, rfl, P7.blk.one⟩, trivial⟩ ⟨_, rfl, ?_⟩
        have hlt4 := C4.lt
        refine ⟨_, _, nw V1, 1, rfl, Wr.of_at (P7.at (P6.at (N5.at C4) (by omega)) (by omega)) (Nat.le_refl _) hS hc, Wr.of_at (P7.at (P6.at N5.blk (by omega)) (by omega)) (Nat.le_refl _) ?_ (fun j hj => ?_), by omega, by omega, k7⟩
        · rw [Nat.pow_one]; exact Nat.lt_of_lt_of_le (Nat.mod_lt _ (by omega)) (by omega)
        · have : j = 0 := by omega
          subst this
          rw [show wdc (V1 % V2) 0 = V1 % V2 by unfold wdc; rw [Nat.pow_zero, Nat.div_one]; exact Nat.mod_eq_of_lt (Nat.lt_of_lt_of_le (Nat.mod_lt _ (by omega)) (by omega))]
          rfl
    · have hp2 : 0 < nw V2 := nw_pos h0
      have hn2 : 2 ≤ nw V2 := by omega
      have hm1p : 0 < nw V1 := nw_pos (by omega)
      have hmono := bl_mono hge
      have s2 := N2.size
      have s3 := P3.size
      have k3 : Keeps h.size h h3 := (k1.trans (N2.keeps.mono (by omega))).trans (P3.keeps.mono (by omega))
      have B3 := P3.at B2 (show h.size ≠ h.size + 1 by omega)
      have R3 := P3.at R2 (show h.size + 1 + 1 ≠ h.size + 1 by omega)
      have Q3 := P3.blk
      have C3 := P3.at N2.blk (show h1.size ≠ h.size + 1 by omega)
      clear N2 P3 B2 Q2 R2
      have hbl1 : bl V1 ≤ 4194304 := by
        have := bl_word (show V1 ≠ 0 by omega)
        have := bl_le64 (wdc_lt V1 (nw V1 - 1))
        omega
      refine Runs.held tab [(0, []), (2, []), (1, [2]), (3, []), (4, []), (5, []), (6, [])] (by kernel_rfl) ?_
      conv => whnf
      refine ⟨_, B3.one, ?_⟩
      conv => whnf
      refine ⟨rfl, _, Eff.call (size_fn (hw1.keeps k3) (by omega)), ?_⟩
      rintro _ h3 ⟨rfl, rfl⟩
      refine And.intro (by conv => whnf
                           repeat (refine And.intro (fun e => e) ?_; conv => whnf)
                           exact trivial) ?_
      conv => whnf
      refine ⟨rfl, _, Eff.call (size_fn (hw2.keeps k3) (by omega)), ?_⟩
      rintro _ h3 ⟨rfl, rfl⟩
      refine And.intro (by conv => whnf
                           repeat (refine And.intro (fun e => e) ?_; conv => whnf)
                           exact trivial) ?_
      conv => whnf
      repeat (refine And.intro (by omega) ?_; conv => whnf)
      obtain ⟨many, hmany⟩ : ∃ many, many = bl V1 - bl V2 + 1 := ⟨_, rfl⟩
      have hbl2 := bl_pos h0
      rw [show (bl V1 : Int) - (bl V2 : Int) + 1 = (many : Nat) by omega]
      have hXlt : V1 / 2 ^ many < V2 := by
        have h1 := bl_lt V1
        have h2 := bl_le h0
        refine Nat.lt_of_lt_of_le (Nat.div_lt_of_lt_mul ?_) h2
        rw [← Nat.pow_add, show many + (bl V2 - 1) = bl V1 by omega]
        exact h1
      have hnX := nw_mono (Nat.le_of_lt hXlt)
      try refine go_run tab 1000 _ _ ?_
      conv => whnf
      refine ⟨_, B3.one, ?_⟩
      conv => whnf
      repeat (refine And.intro (by omega) ?_; conv => whnf)
      refine Runs.eff (eff_makeN tab (nw V2 + 1) (nw V2 + 1) (hn := ⟨by omega, by omega, by omega, by dsimp only; omega, by omega⟩)) ?_
      rintro _ h4 ⟨rfl, N4⟩
      try refine go_run tab 1000 _ _ ?_
      conv => whnf
      refine Runs.eff (eff_storeB tab (N4.at R3)) ?_
      rintro _ h5 P5
      have s4 := N4.size
      have s5 := P5.size
      have k5 : Keeps h.size h h5 := (k3.trans (N4.keeps.mono (by omega))).trans (P5.keeps.mono (by omega))
      have B5 := P5.at (N4.at B3) (show h.size ≠ h.size + 1 + 1 by omega)
      have Q5 := P5.at (N4.at Q3) (show h.size + 1 ≠ h.size + 1 + 1 by omega)
      have C5 := P5.at (N4.at C3) (show h1.size ≠ h.size + 1 + 1 by omega)
      have R5 := P5.blk
      have D5 := P5.at N4.blk (show h3.size ≠ h.size + 1 + 1 by omega)
      clear N4 P5 B3 Q3 R3 C3
      try refine go_run tab 1000 _ _ ?_
      conv => whnf
      refine Runs.held tab [(0, []), (1, []), (3, []), (2, [0]), (4, [0]), (5, [])] (by kernel_rfl) ?_
      conv => whnf
      refine ⟨_, R5.one, ?_⟩
      conv => whnf
      refine ⟨rfl, _, Eff.call (clone_fn (hw1.keeps k5) hm1p (by omega)), ?_⟩
      rintro vc h6 ⟨O6, k6⟩
      refine And.intro (by conv => whnf
                           repeat (first | (refine And.intro (fun e => (Keeps.cell (k6) (by omega)).trans e) ?_; conv => whnf) | (refine And.intro (fun e => Keeps.cells (k6) (by omega) e) ?_; conv => whnf))
                           exact trivial) ?_
      conv => whnf
      obtain ⟨g6, cap6, cur6, rfl, hg6, C6, hsz6, hm6, hV6, hc6⟩ := O6
      refine ⟨rfl, _, Eff.call (shift_fn C6 hsz6 hm6 hV6 hc6 (by omega) many (by omega)), ?_⟩
      rintro _ h7 ⟨rfl, cur7, hh7, hsz7, hc7⟩
      refine And.intro (by conv => whnf
                           repeat (first | (refine And.intro (fun e => (Keeps.cell ((hh7 ▸ (Keeps.refl g6 h6).setB (Nat.le_refl _) _ _ : Keeps g6 h6 h7)) (by omega)).trans e) ?_; conv => whnf) | (refine And.intro (fun e => Keeps.cells ((hh7 ▸ (Keeps.refl g6 h6).setB (Nat.le_refl _) _ _ : Keeps g6 h6 h7)) (by omega) e) ?_; conv => whnf))
                           exact trivial) ?_
      conv => whnf
      have k7 : Keeps g6 h6 h7 := hh7 ▸ (Keeps.refl g6 h6).setB (Nat.le_refl _) _ _
      have C7 : At h7 g6 cur7 77 := by rw [hh7]; exact setB_same C6.lt _ _
      have D7 := k7.at (k6.at D5 D5.lt) (show h3.size < g6 by omega)
      have hw7 := Wr.of_at C7 (m := nw (V1 / 2 ^ many)) (cap := cap6) (V := V1 / 2 ^ many) (by have := nw_mono (Nat.div_le_self V1 (2 ^ many)); omega) (nw_lt _) (fun j hj => hc7 j (by have := nw_mono (Nat.div_le_self V1 (2 ^ many)); omega))
      refine ⟨rfl, _, eff_copyN tab D7 (cs := (List.range (nw (V1 / 2 ^ many))).map fun j => Value.int .u64 (wdc (V1 / 2 ^ many) j : Nat)) (hn := by rw [List.length_map, List.length_range]; exact (Nat.min_eq_left (by omega)).symm) (hsrc := words_src C7 (fun j hj => hc7 j (by have := nw_mono (Nat.div_le_self V1 (2 ^ many)); omega))) (hfit := by simp; omega) (h1 := words_one _ _), ?_⟩
      rintro _ h8 ⟨rfl, P8⟩
      refine And.intro (by conv => whnf
                           repeat (refine And.intro (fun e => e) ?_; conv => whnf)
                           exact trivial) ?_
      conv => whnf
      have z6 := k6.size
      have z7 := k7.size
      have z8 := P8.size
      have k8 : Keeps h.size h h8 := ((k5.trans (k6.mono (by omega))).trans (k7.mono (by omega))).trans (P8.keeps.mono (by omega))
      have up : ∀ {b cs e}, At h5 b cs e → b ≠ h3.size → At h8 b cs e := fun H hne => P8.at (k7.at (k6.at H H.lt) (by have := H.lt; omega)) hne
      have B8 := up B5 (by omega)
      have Q8 := up Q5 (by omega)
      have R8 := up R5 (by omega)
      have C8 := up C5 (by omega)
      have D8 := P8.blk
      obtain ⟨cur8, hcur8⟩ : ∃ cur8, cur8 = (List.take 0 (Array.replicate (nw V2 + 1) (Value.int .u64 0)).toList ++ (List.range (nw (V1 / 2 ^ many))).map (fun j => Value.int .u64 (wdc (V1 / 2 ^ many) j : Nat)) ++ List.drop (0 + ((List.range (nw (V1 / 2 ^ many))).map (fun j => Value.int .u64 (wdc (V1 / 2 ^ many) j : Nat))).length) (Array.replicate (nw V2 + 1) (Value.int .u64 0)).toList).toArray := ⟨_, rfl⟩
      have hD8 : At h8 h3.size cur8 77 := by rw [hcur8]; exact D8
      have hsz8 : cur8.size = nw V2 + 1 := by rw [hcur8]; simp; omega
      have hc8 : ∀ j, j < nw V2 + 1 → cur8[j]? = some (.int .u64 (wdc (V1 / 2 ^ many) j : Nat)) := fun j hj => by
        rw [hcur8]
        simp only [List.take_zero, List.nil_append, Nat.zero_add, List.length_map, List.length_range, List.getElem?_toArray, Array.toList_replicate, List.drop_replicate]
        rcases Nat.lt_or_ge j (nw (V1 / 2 ^ many)) with h | h
        · rw [List.getElem?_append_left (by simpa using h), List.getElem?_map, List.getElem?_range h]; rfl
        · rw [List.getElem?_append_right (by simpa using h), List.length_map, List.length_range, List.getElem?_replicate, if_pos (by omega), wdc_ge (nw_lt _) h]; rfl
      clear hcur8 D8 P8 up B5 Q5 R5 C5 D5 D7 C7 hw7
      try refine go_run tab 1000 _ _ ?_
      conv => whnf
      have I8 : DivC h (.slice a2 (nw V2) cap2) h1.size h3.size V1 V2 many h8 := by
        refine ⟨k8, B8, Q8, R8, ⟨_, C8, by simp, ?_, fun j hj => ?_⟩, ⟨cur8, hD8, hsz8, by rw [Nat.mod_eq_of_lt hXlt]; exact hc8⟩⟩
        · rw [Nat.div_eq_of_lt hXlt, Nat.zero_mul]; exact Bp_pos _
        · rw [Nat.div_eq_of_lt hXlt, Nat.zero_mul, wdc_zero, Array.getElem?_replicate, if_pos hj]; rfl
      clear k8 B8 Q8 R8 C8 hD8 hsz8 hc8
      refine Runs.callV (low_fn (.slice a1 (nw V1) cap1) many rfl) ?_
      rintro _ h9 ⟨rfl, hh9⟩
      have z9 : h9.size = h8.size + 2 := by rw [hh9]; simp
      have k9 : Keeps h8.size h8 h9 := by rw [hh9]; exact ((Keeps.refl _ _).push (Nat.le_refl _) _).push (by simp) _
      have m9 : cellH h9 h8.size 0 = some (.slice a1 (nw V1) cap1) := by rw [hh9]; exact ((push_new _ _ _).push _).one
      have n9 : cellH h9 (h8.size + 1) 0 = some (.int .i64 many) := by
        rw [hh9]
        have := (push_new (h8.push (.cells #[.slice a1 (nw V1) cap1] 78 (0, 0))) #[.int .i64 many] 3).one
        simpa using this
      have I9 := I8.kept k9 (by omega) (by omega) (by omega)
      clear hh9
      try refine go_run tab 1000 _ _ ?_
      conv => whnf
      refine Runs.sub (l' := [(3, .pointer (some ⟨h.size, 0, none⟩)), (4, .pointer (some ⟨h.size + 1, 0, none⟩)), (5, .pointer (some ⟨h.size + 1 + 1, 0, none⟩)), (66, .func (.func 104) #[] #[.pointer (some ⟨h8.size + 1, 0, none⟩), .pointer (some ⟨h8.size, 0, none⟩)])]) ⟨rfl, rfl, rfl, rfl, trivial⟩ ?_
      refine Runs.rangeFuncL fun r h10 hrec N10 => ?_
      have z10 := N10.size
      have I10 := I9.kept N10.keeps (by omega) (by omega) (by omega)
      refine (low1_fn (J := fun i h' => DivC h (.slice a2 (nw V2) cap2) h1.size h3.size V1 V2 i h' ∧ LoopAt h' (h9.size + 1) r .ready none ∧ h'[h9.size]? = some (.deferred (some [])) ∧ cellH h' h8.size 0 = some (.slice a1 (nw V1) cap1) ∧ cellH h' (h8.size + 1) 0 = some (.int .i64 many))
        (m := nw V1) (V := V1) ⟨I10, N10.loop, N10.dfr, (N10.keeps.cell (by omega)).trans m9, (N10.keeps.cell (by omega)).trans n9⟩ (fun i h' H => ⟨H.2.2.2.2, H.2.2.2.1, hw1.keeps H.1.keeps⟩) ?_ (by omega) ?_).mono ?_
      · have := bl_word (show V1 ≠ 0 by omega)
        have := bl_le64 (wdc_lt V1 (nw V1 - 1))
        omega
      · rintro i h11 hi ⟨I, LA, df, c1, c2⟩
        clear I8 I9 I10 m9 n9 N10 k6 k7 hh7 C6 hsz6 hm6 hV6 hc6 hsz7 hc7
        obtain ⟨bit, hbit⟩ : ∃ bit, bit = V1 / 2 ^ i % 2 := ⟨_, rfl⟩
        rw [← hbit]
        have hb1 : bit ≤ 1 := by omega
        refine YieldsTo.ofL hrec LA (vs := [.int .i64 (i : Nat), .int .u64 (bit : Nat)]) ?_
        intro w1 fr1 cs1
        try refine go_run tab 1000 _ _ ?_
        conv => whnf
        refine Runs.beginRoundL LA fun h12 P12 LB => ?_
        have J12 := I.put P12 (by omega) (by omega) (by omega)
        have df12 : h12[h9.size]? = some (.deferred (some [])) := by rw [P12.other _ (by omega)]; exact df
        have d1 := (P12.cell (b := h8.size) (o := 0) (by omega)).trans c1
        have d2 := (P12.cell (b := h8.size + 1) (o := 0) (by omega)).trans c2
        clear I LA df c1 c2
        obtain ⟨kk, Bx, Qx, Rx, hqx, curR, Rc, Rsz, Rw⟩ := J12
        try refine go_run tab 1000 _ _ ?_
        conv => whnf
        refine ⟨_, Rx.one, ?_⟩
        conv => whnf
        try refine go_run tab 1000 _ _ ?_
        conv => whnf
        obtain ⟨R, hR⟩ : ∃ R, R = V1 / 2 ^ (i + 1) % V2 := ⟨_, rfl⟩
        rw [← hR] at Rw
        have hRlt : R < V2 := by rw [hR]; exact Nat.mod_lt _ (by omega)
        have hV2B : V2 < B ^ nw V2 := nw_lt V2
        have hWB : 2 * R + bit < B ^ (nw V2 + 1) := by
          have := Nat.mul_le_mul_left (B ^ nw V2) (show 2 ≤ B by decide)
          rw [Nat.pow_succ]
          omega
        have zk := kk.size
        have LBlt := LB.lt
        refine Runs.loop (X := Nat) (fun j => [(3, .pointer (some ⟨h.size, 0, none⟩)), (4, .pointer (some ⟨h.size + 1, 0, none⟩)), (5, .pointer (some ⟨h.size + 1 + 1, 0, none⟩)), (9, .int .i64 (i : Nat)), (10, .int .u64 (cdb R bit j : Nat)), (70, .int .i64 ((nw V2 + 1 : Nat) : Int)), (71, .int .i64 (j : Nat))])
          (fun j h' => j ≤ nw V2 + 1 ∧ PutO h12 h' h3.size ∧ ∃ cur, At h' h3.size cur 77 ∧ cur.size = nw V2 + 1 ∧ ∀ t, t < nw V2 + 1 → cur[t]? = some (.int .u64 (if t < j then wdc (2 * R + bit) t else wdc R t : Nat)))
          (fun j => nw V2 + 1 - j) 0
          ⟨Nat.zero_le _, ⟨rfl, fun _ _ => rfl⟩, curR, Rc, Rsz, fun t ht => by rw [if_neg (Nat.not_lt_zero _)]; exact Rw t ht⟩ ⟨rfl, rfl, rfl, rfl, by rw [cdb_zero]; rfl, rfl, rfl, trivial⟩ ?_
        rintro j h13 ⟨hj, P13, cur13, C13, S13, W13⟩ ih
        have Bx := P13.at Bx (show h.size ≠ h3.size by omega)
        have Qx := P13.at Qx (show h.size + 1 ≠ h3.size by omega)
        have Rx := P13.at Rx (show h.size + 1 + 1 ≠ h3.size by omega)
        try refine go_run tab 1000 _ _ ?_
        conv => whnf
        refine ⟨fun hjl => ?_, fun hjl => ?_⟩ <;> conv => whnf
        · have hw13 : cellH h13 h3.size (0 + j) = some (.int .u64 (wdc R j : Nat)) := by rw [C13.cell, Nat.zero_add, W13 j (by omega), if_neg (Nat.lt_irrefl j)]
          obtain ⟨e1, e2⟩ := dbl_word (R := R) (j := j) hb1
          have hcd := cdb_le (R := R) (j := j) hb1
          have hwl := wdc_le R j
          refine Runs.held tab [(0, []), (1, []), (2, []), (3, []), (4, []), (5, []), (6, []), (7, []), (8, []), (9, []), (10, []), (11, []), (12, []), (13, []), (14, []), (15, []), (16, [])] (by kernel_rfl) ?_
          conv => whnf
          refine ⟨_, Rx.one, ?_⟩
          conv => whnf
          refine ⟨_, Rx.one, ?_⟩
          conv => whnf
          repeat (refine And.intro (by omega) ?_; conv => whnf)
          refine ⟨_, hw13, ?_⟩
          conv => whnf
          obtain ⟨x, hx⟩ : ∃ x, x = wdc R j := ⟨_, rfl⟩
          obtain ⟨cb, hcb⟩ : ∃ cb, cb = cdb R bit j := ⟨_, rfl⟩
          rw [← hx] at hwl
          rw [← hcb] at hcd
          repeat (refine And.intro (by omega) ?_; conv => whnf)
          refine ⟨_, Rx.one, ?_⟩
          conv => whnf
          repeat (refine And.intro (by omega) ?_; conv => whnf)
          refine ⟨_, hw13, ?_⟩
          conv => whnf
          repeat (refine And.intro (by omega) ?_; conv => whnf)
          refine ⟨rfl, _, eff_storeN tab C13 (hlt := by omega), ?_⟩
          rintro _ h14 P14
          refine And.intro (by conv => whnf
                               repeat (refine And.intro (fun e => e) ?_; conv => whnf)
                               exact trivial) ?_
          conv => whnf
          try refine go_run tab 1000 _ _ ?_
          conv => whnf
          repeat (refine And.intro (by omega) ?_; conv => whnf)
          rw [show 0 + ((j : Int)).toNat = j by omega] at P14
          refine ih (j + 1) _ _ ⟨by omega, ⟨P14.size.trans P13.size, fun k hk => (P14.other k hk).trans (P13.other k hk)⟩, _, P14.blk, by simpa using S13, fun t ht => ?_⟩ (by omega) ⟨rfl, rfl, rfl, rfl, ?_, rfl, rfl, trivial⟩
          · by_cases e : t = j
            · subst e
              rw [Array.getElem?_setIfInBounds_self_of_lt (by omega), if_pos (Nat.lt_succ_self t), e1, ← hx, ← hcb]
              have e5 : ((x : Int) * 2 % 18446744073709551616).toNat = x * 2 % B := by rw [B_eq]; omega
              rw [← e5]; rfl
            · rw [Array.getElem?_setIfInBounds_ne (by omega), W13 t ht]
              by_cases e3 : t < j
              · rw [if_pos e3, if_pos (by omega)]
              · rw [if_neg e3, if_neg (by omega)]
          · rw [e2, ← hx]
            show some (Value.int .u64 _) = some (Value.int .u64 _)
            congr 2
        · have hjm : j = nw V2 + 1 := by omega
          subst hjm
          obtain ⟨W, hW⟩ : ∃ W, W = 2 * R + bit := ⟨_, rfl⟩
          rw [← hW] at hWB
          have W13 : ∀ t, t < nw V2 + 1 → cur13[t]? = some (.int .u64 (wdc W t : Nat)) := fun t ht => by rw [W13 t ht, if_pos ht, hW]
          have hk13 : Keeps h.size h h13 := kk.trans (P13.keeps.mono (by omega))
          have hw13 := Wr.of_at C13 (m := nw V2 + 1) (cap := nw V2 + 1) (V := W) (Nat.le_refl _) hWB W13
          have hnW := nw_le hWB
          have hw13' := Wr.of_at C13 (m := nw W) (cap := nw V2 + 1) (V := W) hnW (nw_lt W) (fun t ht => W13 t (by omega))
          obtain ⟨cq, Cq, Sq, Lq, Wq⟩ := hqx
          have Cq := P13.at Cq (show h1.size ≠ h3.size by omega)
          have df13 : h13[h9.size]? = some (.deferred (some [])) := by rw [P13.other _ (by omega)]; exact df12
          have d1 := (P13.cell (b := h8.size) (o := 0) (by omega)).trans d1
          have d2 := (P13.cell (b := h8.size + 1) (o := 0) (by omega)).trans d2
          have LB13 := LB.same (P13.other _ (show h9.size + 1 ≠ h3.size by omega))
          obtain ⟨b1, b2⟩ := bit_step (V1 := V1) (V2 := V2) (i := i) (by omega) bit hbit
          rw [← hR, ← hW] at b1 b2
          clear ih P12 LB df12
          refine Runs.held tab [(0, []), (2, []), (1, [2]), (3, []), (4, [])] (by kernel_rfl) ?_
          conv => whnf
          refine ⟨_, Rx.one, ?_⟩
          conv => whnf
          refine ⟨_, Bx.one, ?_⟩
          conv => whnf
          refine ⟨rfl, _, Eff.call (trim_fn hw13 (by omega)), ?_⟩
          rintro _ h13 ⟨rfl, rfl⟩
          refine And.intro (by conv => whnf
                               repeat (refine And.intro (fun e => e) ?_; conv => whnf)
                               exact trivial) ?_
          conv => whnf
          refine ⟨rfl, _, Eff.call (compare_fn hw13' (hw2.keeps hk13) (by omega)), ?_⟩
          rintro _ h13 ⟨rfl, rfl⟩
          refine And.intro (by conv => whnf
                               repeat (refine And.intro (fun e => e) ?_; conv => whnf)
                               exact trivial) ?_
          conv => whnf
          refine ⟨fun hcmp => ?_, fun hcmp => ?_⟩ <;> conv => whnf
          · have hVW : V2 ≤ W := by
              rcases Nat.lt_or_ge W V2 with h | h
              · have := (cmpI_lt W V2).2 h; omega
              · exact h
            obtain ⟨f1, f2⟩ := b1 hVW
            try refine go_run tab 1000 _ _ ?_
            conv => whnf
            refine ⟨_, Rx.one, ?_⟩
            conv => whnf
            refine ⟨_, Bx.one, ?_⟩
            conv => whnf
            have hsz13 : h13.size = h12.size := P13.size
            refine Runs.callV (reduce_fn C13 S13 (Nat.le_refl _) hWB W13 (hw2.keeps hk13) (slice_own hw2 hp2 (by omega)) hVW (by omega)) ?_
            rintro _ h14 ⟨rfl, cur14, hh14, S14, W14⟩
            have P14 : Put h13 h14 h3.size cur14 77 := by rw [hh14]; exact Put.of C13.lt _ _
            clear hh14
            have z13 := P13.size
            have z14 := P14.size
            have hi64 : i / 64 < nw V1 := by
              have := bl_word (show V1 ≠ 0 by omega)
              have := bl_le64 (wdc_lt V1 (nw V1 - 1))
              omega
            obtain ⟨A, hA⟩ : ∃ A, A = V1 / 2 ^ (i + 1) / V2 := ⟨_, rfl⟩
            rw [← hA] at Lq Wq f1
            obtain ⟨g1, g2, g3⟩ := set_bit A i
            have Cq14 := P14.at Cq (show h1.size ≠ h3.size by omega)
            have hq14 : cellH h14 h1.size (0 + i / 64) = some (.int .u64 (wdc (A * 2 ^ (i + 1)) (i / 64) : Nat)) := by rw [Cq14.cell, Nat.zero_add]; exact Wq _ hi64
            try refine go_run tab 1000 _ _ ?_
            conv => whnf
            refine Runs.held tab [(0, []), (1, []), (2, []), (3, []), (4, []), (5, []), (6, []), (7, []), (8, []), (9, []), (10, [])] (by kernel_rfl) ?_
            conv => whnf
            refine ⟨_, (P14.at Qx (by omega)).one, ?_⟩
            conv => whnf
            repeat (refine And.intro (by omega) ?_; conv => whnf)
            rw [show ((i : Nat) : Int) / 64 = (i / 64 : Nat) by omega]
            repeat (refine And.intro (by omega) ?_; conv => whnf)
            refine ⟨_, hq14, ?_⟩
            conv => whnf
            repeat (refine And.intro (by omega) ?_; conv => whnf)
            rw [show ((i : Nat) : Int) % 64 = (i % 64 : Nat) by omega]
            repeat (refine And.intro (by omega) ?_; conv => whnf)
            have hp2 : 2 ^ (i % 64) < 18446744073709551616 := Nat.pow_lt_pow_right (by decide) (show i % 64 < 64 by omega)
            have hwq := wdc_le (A * 2 ^ (i + 1)) (i / 64)
            rw [show (1 : Int) * 2 ^ (((i % 64 : Nat) : Int)).toNat % 18446744073709551616 = ((2 ^ (i % 64) : Nat) : Int) by
              rw [Int.toNat_natCast]
              have e9 : ((2 : Int) ^ (i % 64)) = ((2 ^ (i % 64) : Nat) : Int) := by simp
              rw [e9]
              obtain ⟨p, hp⟩ : ∃ p, p = 2 ^ (i % 64) := ⟨_, rfl⟩
              rw [← hp] at hp2 ⊢
              omega]
            obtain ⟨p, hp⟩ : ∃ p, p = 2 ^ (i % 64) := ⟨_, rfl⟩
            rw [← hp] at hp2 g1 g2 g3 ⊢
            repeat (refine And.intro (by omega) ?_; conv => whnf)
            refine ⟨rfl, _, eff_storeN tab Cq14 (hlt := by omega), ?_⟩
            rintro _ h15 P15
            refine And.intro (by conv => whnf
                                 repeat (refine And.intro (fun e => e) ?_; conv => whnf)
                                 exact trivial) ?_
            conv => whnf
            try refine go_run tab 1000 _ _ ?_
            conv => whnf
            rw [show 0 + (((i / 64 : Nat) : Int)).toNat = i / 64 by omega] at P15
            have LB15 := LB13.same ((P15.other _ (show h9.size + 1 ≠ h1.size by omega)).trans (P14.other _ (show h9.size + 1 ≠ h3.size by omega)))
            have z15 := P15.size
            refine Runs.endRoundL LB15 fun h16 P16 LC => ?_
            have kk16 : Keeps h.size h h16 := ((hk13.trans (P14.keeps.mono (by omega))).trans (P15.keeps.mono (by omega))).trans (P16.keeps.mono (by omega))
            refine ⟨rfl, ⟨kk16, P16.at (P15.at (P14.at Bx (by omega)) (by omega)) (by omega), P16.at (P15.at (P14.at Qx (by omega)) (by omega)) (by omega), P16.at (P15.at (P14.at Rx (by omega)) (by omega)) (by omega),
              ⟨_, P16.at P15.blk (by omega), by simpa using Sq, ?_, fun t ht => ?_⟩, ⟨cur14, P16.at (P15.at P14.blk (by omega)) (by omega), S14, by rw [f2]; exact W14⟩⟩, LC, ?_,
              (P16.cell (by omega)).trans ((P15.cell (by omega)).trans ((P14.cell (by omega)).trans d1)), (P16.cell (by omega)).trans ((P15.cell (by omega)).trans ((P14.cell (by omega)).trans d2))⟩
            · rw [f1, ← g3]; exact putw_lt g2 hi64 Lq
            · rw [f1, ← g3, wdc_putw g2]
              by_cases e : t = i / 64
              · subst e
                rw [Array.getElem?_setIfInBounds_self_of_lt (by omega), if_pos rfl, ← g1]
                rfl
              · rw [Array.getElem?_setIfInBounds_ne (by omega), if_neg e]
                exact Wq t ht
            · rw [P16.other _ (by omega), P15.other _ (by omega), P14.other _ (by omega)]; exact df13
          · have hWV : W < V2 := (cmpI_lt W V2).1 (by omega)
            obtain ⟨f1, f2⟩ := b2 hWV
            try refine go_run tab 1000 _ _ ?_
            conv => whnf
            refine Runs.endRoundL LB13 fun h15 P15 LC => ?_
            have z13 := P13.size
            refine ⟨rfl, ⟨hk13.trans (P15.keeps.mono (by omega)), P15.at Bx (by omega), P15.at Qx (by omega), P15.at Rx (by omega), ⟨cq, P15.at Cq (by omega), Sq, ?_⟩, ⟨cur13, P15.at C13 (by omega), S13, ?_⟩⟩, LC, ?_, (P15.cell (by omega)).trans d1, (P15.cell (by omega)).trans d2⟩
            · rw [f1, show 2 * (V1 / 2 ^ (i + 1) / V2) * 2 ^ i = V1 / 2 ^ (i + 1) / V2 * 2 ^ (i + 1) by rw [Nat.pow_succ, Nat.mul_comm 2, Nat.mul_assoc, Nat.mul_comm 2]]
              exact ⟨Lq, Wq⟩
            · rw [f2]; exact W13
            · rw [P15.other _ (by omega)]; exact df13
      · rintro _ h11 ⟨rfl, I, LA, df, _⟩
        refine ⟨.ready, none, LA, (by decide), fun h12 P12 => ?_⟩
        have z11 := I.keeps.size
        have z12 := P12.size
        have LAlt := LA.lt
        obtain ⟨kk, Bx, Qx, Rx, ⟨cq, C1, C2, C3, C4⟩, ⟨cr, E1, E2, E3⟩⟩ := I.put P12 (by omega) (by omega) (by omega)
        have df' : h12[h9.size]? = some (.deferred (some [])) := by rw [P12.other _ (by omega)]; exact df
        rw [Nat.pow_zero, Nat.div_one, Nat.mul_one] at C3 C4
        rw [Nat.pow_zero, Nat.div_one] at E3
        try refine go_run tab 1000 _ _ ?_
        conv => whnf
        refine Runs.held tab [(0, []), (1, []), (2, [1]), (3, [])] (by kernel_rfl) ?_
        conv => whnf
        refine ⟨_, Qx.one, ?_⟩
        conv => whnf
        refine ⟨_, Rx.one, ?_⟩
        conv => whnf
        refine ⟨rfl, _, eff_storeB tab Qx, ?_⟩
        rintro _ h13 P13
        refine And.intro (by conv => whnf
                             repeat (refine And.intro (fun e => (P13.cell (by omega)).trans e) ?_; conv => whnf)
                             exact trivial) ?_
        conv => whnf
        refine ⟨rfl, _, eff_storeB tab (P13.at Rx (by omega)), ?_⟩
        rintro _ h14 P14
        refine And.intro (by conv => whnf
                             repeat (refine And.intro (fun e => e) ?_; conv => whnf)
                             exact trivial) ?_
        conv => whnf
        try refine go_run tab 1000 _ _ ?_
        conv => whnf
        have z13 := P13.size
        have z14 := P14.size
        have df14 : h14[h9.size]? = some (.deferred (some [])) := by rw [P14.other _ (by omega), P13.other _ (by omega)]; exact df'
        have P15 := PutO.of h14 h9.size (.deferred none)
        have k15 : Keeps h.size h _ := ((kk.trans (P13.keeps.mono (by omega))).trans (P14.keeps.mono (by omega))).trans (P15.keeps.mono (by omega))
        refine Runs.retC tab Tryz.func66 ⟨_, rfl, df14, rfl⟩ (vs := [.slice (some ⟨h1.size, 0, none⟩) (nw V1) (nw V1), .slice (some ⟨h3.size, 0, none⟩) (nw V2 + 1) (nw V2 + 1)])
          ⟨⟨_, _, rfl, rfl, (P15.at (P14.at P13.blk (by omega)) (by omega)).one⟩, ⟨_, _, rfl, rfl, (P15.at P14.blk (by omega)).one⟩, trivial⟩ ⟨_, rfl, ?_⟩
        refine ⟨_, _, nw V1, nw V2 + 1, rfl, Wr.of_at (P15.at (P14.at (P13.at C1 (by omega)) (by omega)) (by omega)) (Nat.le_refl _) C3 C4, Wr.of_at (P15.at (P14.at (P13.at E1 (by omega)) (by omega)) (by omega)) (Nat.le_refl _) ?_ E3, by omega, by omega, k15⟩
        exact Nat.lt_trans (Nat.mod_lt _ (by omega)) (Nat.lt_of_lt_of_le (nw_lt V2) (Nat.pow_le_pow_right B_pos (by omega)))
end Go.Proofs.YtgnciigjhpcdmaaGreatDoor

namespace Go.NatM
open Go Go.Fw

/-- 2^k is the greatest power of 2 that divides V -/
def Tz (V k : Nat) : Prop := ∃ m, V = 2 ^ k * (2 * m + 1)

theorem Tz.div {V k : Nat} (h : Tz V k) : ∃ m, V / 2 ^ k = 2 * m + 1 ∧ V = 2 ^ k * (V / 2 ^ k) := by
  obtain ⟨m, rfl⟩ := h
  rw [Nat.mul_div_cancel_left _ (Nat.two_pow_pos k)]
  exact ⟨m, rfl, rfl⟩

theorem Tz.lt_bl {V k : Nat} (h : Tz V k) : k < bl V := by
  obtain ⟨m, hm, e⟩ := h.div
  have h0 : V ≠ 0 := by
    intro h0
    rw [h0, Nat.zero_div] at hm
    omega
  have hlt := bl_lt V
  rcases Nat.lt_or_ge k (bl V) with h1 | h1
  · exact h1
  · have := Nat.pow_le_pow_right (show 0 < 2 by decide) h1
    have h3 := Nat.mul_le_mul_left (2 ^ k) (show 1 ≤ V / 2 ^ k by omega)
    omega

theorem odd_coprime {k X m : Nat} (hX : X = 2 * m + 1) : Nat.Coprime (2 ^ k) X := by
  refine Nat.Coprime.pow_left k ?_
  have h1 := Nat.gcd_dvd_left 2 X
  have h2 := Nat.gcd_dvd_right 2 X
  have h3 := Nat.dvd_sub h2 (Nat.dvd_trans h1 ⟨m, rfl⟩)
  rw [hX, Nat.add_sub_cancel_left] at h3
  rw [← hX] at h3
  exact Nat.dvd_one.1 h3

/-- one round of the binary way -/
theorem gcd_step {A C k m : Nat} (hC : C = 2 * m + 1) (hle : C ≤ A) (hk : Tz (A - C) k) : Nat.gcd ((A - C) / 2 ^ k) C = Nat.gcd A C := by
  obtain ⟨_, _, e⟩ := hk.div
  have h1 : Nat.gcd (A - C) C = Nat.gcd A C := Nat.gcd_sub_self_left hle
  rw [← h1]
  conv => rhs; rw [e]
  rw [Nat.Coprime.gcd_mul_left_cancel _ (odd_coprime hC)]

theorem gcd_start {V1 V2 k1 k2 : Nat} (h1 : Tz V1 k1) (h2 : Tz V2 k2) : Nat.gcd V1 V2 = Nat.gcd (V1 / 2 ^ k1) (V2 / 2 ^ k2) * 2 ^ min k1 k2 := by
  obtain ⟨m1, o1, e1⟩ := h1.div
  obtain ⟨m2, o2, e2⟩ := h2.div
  obtain ⟨X, hX⟩ : ∃ X, X = V1 / 2 ^ k1 := ⟨_, rfl⟩
  obtain ⟨Y, hY⟩ : ∃ Y, Y = V2 / 2 ^ k2 := ⟨_, rfl⟩
  rw [← hX] at o1 e1 ⊢
  rw [← hY] at o2 e2 ⊢
  rw [e1, e2]
  rcases Nat.le_total k1 k2 with h | h
  · rw [Nat.min_eq_left h, show 2 ^ k2 * Y = 2 ^ k1 * (2 ^ (k2 - k1) * Y) by rw [← Nat.mul_assoc, ← Nat.pow_add]; congr 2; omega, Nat.gcd_mul_left, Nat.Coprime.gcd_mul_left_cancel_right _ (odd_coprime o1), Nat.mul_comm]
  · rw [Nat.min_eq_right h, show 2 ^ k1 * X = 2 ^ k2 * (2 ^ (k1 - k2) * X) by rw [← Nat.mul_assoc, ← Nat.pow_add]; congr 2; omega, Nat.gcd_mul_left, Nat.Coprime.gcd_mul_left_cancel _ (odd_coprime o2), Nat.mul_comm]

/-- the difference of two odd numbers is even: its rest is less -/
theorem tz_pos {V k : Nat} (h : Tz V k) (hev : V % 2 = 0) : 0 < k := by
  rcases Nat.eq_zero_or_pos k with e | e
  · subst e
    obtain ⟨m, hm⟩ := h
    rw [Nat.pow_zero, Nat.one_mul] at hm
    omega
  · exact e

/-- the first word that is not 0 -/
theorem tz_word {V n t : Nat} (h0 : V % B ^ n = 0) (ht : Tz (wdc V n) t) (h64 : t < 64) : Tz V (64 * n + t) := by
  obtain ⟨m, hm⟩ := ht
  have h1 := div_step V n
  have h2 := Nat.div_add_mod V (B ^ n)
  rw [h0, Nat.add_zero] at h2
  have hB : B = 2 ^ t * (2 * 2 ^ (63 - t)) := by rw [← Nat.pow_succ', ← Nat.pow_add, show t + (63 - t + 1) = 64 by omega]; rfl
  refine ⟨m + 2 ^ (63 - t) * (V / B ^ (n + 1)), ?_⟩
  rw [Nat.pow_add, ← B_pow, Nat.mul_assoc]
  rw [← h2]
  conv => lhs; rw [h1, hm]
  obtain ⟨Y, hY⟩ : ∃ Y, Y = V / B ^ (n + 1) := ⟨_, rfl⟩
  rw [h2, ← hY]
  have e : B * Y = 2 ^ t * (2 * (2 ^ (63 - t) * Y)) := by rw [hB, Nat.mul_assoc, Nat.mul_assoc]
  rw [e, ← Nat.mul_add]
  congr 2
  omega

theorem ctz_tz {x : Nat} (h0 : x ≠ 0) (hx : x < B) : Tz x (Go.Lib.ctz 64 x) ∧ Go.Lib.ctz 64 x < 64 := by
  obtain ⟨m, h1, h2⟩ := Go.Lib.ctzFrom_spec 64 x (by omega) hx
  have e : Go.Lib.ctz 64 x = Go.Lib.ctzFrom 64 x := by simp [Go.Lib.ctz, h0]
  rw [e]
  exact ⟨⟨m, h1⟩, h2⟩

end Go.NatM

namespace Go.Proofs.YtgnciigjhpcdmaaGreatDoor
open Go Go.Fw Go.NatM
set_option maxRecDepth 100000
set_option maxHeartbeats 8000000

/-- the table of package math/bits -/
def TabH (h : Array Obj) : Prop := ∀ j, j < 64 → cellH h 2 j = some (.int .u8 (Go.Lib.deBruijn64tab.getD j 0 : Nat))

theorem TabH.keeps {h h' : Array Obj} (H : TabH h) (k : Keeps h.size h h') : TabH h' := fun j hj => (k.cell (cellH_lt (H 0 (by decide)))).trans (H j hj)

theorem tz64_fn (x : Nat) (h0 : x ≠ 0) (hx : x < B) {h : Array Obj} (hT : TabH h) :
    FnV Tryz.prog 97 #[.int .u64 x] h fun v h' => v = .int .i64 (Go.Lib.ctz 64 x : Nat) ∧ h' = h := by
  obtain ⟨e1, e2⟩ := Go.Lib.lowest_bit 64 x h0 hx
  obtain ⟨t, ht⟩ : ∃ t, t = Go.Lib.ctz 64 x := ⟨_, rfl⟩
  rw [← ht] at e1 e2 ⊢
  obtain ⟨d1, d2⟩ := Go.Lib.deBruijn64_at t e2
  rw [B_eq] at hx
  refine Fn.of (args := [.int .u64 x]) Tryz.func97 (by kernel_rfl) rfl Tryz.ntmps97 rfl fun w0 cs => ?_
  refine go_run tab 1000 _ _ ?_
  conv => whnf
  refine ⟨fun h1 => ?_, fun h1 => ?_⟩ <;> conv => whnf
  · omega
  · repeat (refine And.intro (by omega) ?_; conv => whnf)
    have e3 : (((fun a b => a &&& b) (x : Int).toNat (((0 : Int) - x) % 18446744073709551616).toNat : Nat) : Int) = (2 ^ t : Nat) := by
      rw [Int.toNat_natCast, show (((0 : Int) - x) % 18446744073709551616).toNat = 2 ^ 64 - x by rw [show (2 : Nat) ^ 64 = 18446744073709551616 from rfl]; omega]
      exact congrArg _ e1
    rw [e3]
    obtain ⟨p, hp⟩ : ∃ p, p = 2 ^ t := ⟨_, rfl⟩
    rw [← hp] at d1 d2 ⊢
    rw [show (p : Int) * 285870213051353865 % 18446744073709551616 / 288230376151711744 = (p * 285870213051353865 % 18446744073709551616 / 288230376151711744 : Nat) by simp]
    obtain ⟨i, hi⟩ : ∃ i, i = p * 285870213051353865 % 18446744073709551616 / 288230376151711744 := ⟨_, rfl⟩
    rw [← hi] at d1 d2 ⊢
    repeat (refine And.intro (by omega) ?_; conv => whnf)
    have hc := hT i d1
    rw [d2] at hc
    rw [show 0 + ((i : Nat) : Int).toNat = i by omega]
    refine ⟨_, hc, ?_⟩
    conv => whnf
    repeat (refine And.intro (by omega) ?_; conv => whnf)
    refine Runs.ret Tryz.func97 rfl rfl ⟨_, rfl, ?_⟩
    exact ⟨rfl, rfl⟩

theorem zeros_fn {h : Array Obj} {a : Option Addr} {m cap V : Nat} (hw : Wr h (.slice a m cap) m V) (h0 : V ≠ 0) (hm : m ≤ 1048576) (hT : TabH h) :
    FnV Tryz.prog 81 #[.slice a m cap] h fun r h' => (∃ k : Nat, r = .int .i64 k ∧ Tz V k) ∧ h' = h := by
  have hV : V < B ^ m := by obtain ⟨_, _, _, _, hV, _⟩ := hw; exact hV
  have hmp : 0 < m := by
    rcases Nat.eq_zero_or_pos m with e | e
    · subst e; simp at hV; omega
    · exact e
  obtain ⟨b, off, rfl, hrd⟩ := hw.rd rfl hmp
  refine Fn.of (args := [.slice (some ⟨b, off, none⟩) m cap]) Tryz.func81 (by kernel_rfl) rfl Tryz.ntmps81 rfl fun w0 cs => ?_
  refine go_run tab 1000 _ _ ?_
  conv => whnf
  refine Runs.loopJ (X := Nat) (Y := Nat) (fun n => [(0, .slice (some ⟨b, off, none⟩) m cap), (3, .int .i64 (n : Nat))]) (fun n h' => h' = h ∧ n < m ∧ V % B ^ n = 0) (fun n => m - n) 0
    (fun n => [(0, .slice (some ⟨b, off, none⟩) m cap), (3, .int .i64 (n : Nat))]) (fun n h' => h' = h ∧ n < m ∧ V % B ^ n = 0 ∧ wdc V n ≠ 0)
    ⟨rfl, hmp, by rw [Nat.pow_zero, Nat.mod_one]⟩ ⟨rfl, rfl, trivial⟩ ?_ ?_
  · rintro n h ⟨rfl, hn, hz⟩ ih hx
    try refine go_run tab 1000 _ _ ?_
    conv => whnf
    repeat (refine And.intro (by omega) ?_; conv => whnf)
    refine ⟨_, hrd n hn, ?_⟩
    conv => whnf
    refine ⟨fun h1 => ?_, fun h1 => ?_⟩ <;> conv => whnf
    · repeat (refine And.intro (by omega) ?_; conv => whnf)
      have hw0 : wdc V n = 0 := by omega
      have hz' : V % B ^ (n + 1) = 0 := by rw [mod_succ, hz, hw0]; rfl
      refine ih (n + 1) _ _ ⟨rfl, ?_, hz'⟩ (by omega) ⟨rfl, rfl, trivial⟩
      rcases Nat.lt_or_ge (n + 1) m with h | h
      · exact h
      · have : n + 1 = m := by omega
        rw [this, Nat.mod_eq_of_lt hV] at hz'
        exact absurd hz' h0
    · exact hx n _ _ ⟨rfl, hn, hz, by omega⟩ ⟨rfl, rfl, trivial⟩
  · rintro n h ⟨rfl, hn, hz, hne⟩
    try refine go_run tab 1000 _ _ ?_
    conv => whnf
    repeat (refine And.intro (by omega) ?_; conv => whnf)
    refine ⟨_, hrd n hn, ?_⟩
    conv => whnf
    refine Runs.callV (tz64_fn (wdc V n) hne (wdc_lt _ _) hT) ?_
    rintro _ h ⟨rfl, rfl⟩
    obtain ⟨t1, t2⟩ := ctz_tz hne (wdc_lt V n)
    try refine go_run tab 1000 _ _ ?_
    conv => whnf
    repeat (refine And.intro (by omega) ?_; conv => whnf)
    refine Runs.ret Tryz.func81 rfl rfl ⟨_, rfl, ?_⟩
    exact ⟨⟨64 * n + Go.Lib.ctz 64 (wdc V n), rfl, tz_word hz t1 t2⟩, rfl⟩

end Go.Proofs.YtgnciigjhpcdmaaGreatDoor

namespace Go.Proofs.YtgnciigjhpcdmaaGreatDoor
open Go Go.Fw Go.NatM
set_option maxRecDepth 100000
set_option maxHeartbeats 8000000

theorem Wown.put {base : Nat} {h h' : Array Obj} {v : Value} {m V g : Nat} (hw : Wown base h v m V) (P : PutO h h' g) (hne : v.ownBlock ≠ some g) : Wown base h' v m V := by
  obtain ⟨g', cap, cur, rfl, hb, hat, r⟩ := hw
  have hne : g' ≠ g := fun e => hne (by rw [e]; rfl)
  exact ⟨g', cap, cur, rfl, hb, P.at hat hne, r⟩

theorem Wown.blk {base : Nat} {h : Array Obj} {v : Value} {m V : Nat} (hw : Wown base h v m V) : ∃ g, v.ownBlock = some g ∧ base ≤ g ∧ g < h.size := by
  obtain ⟨g, cap, cur, rfl, hb, hat, _⟩ := hw
  exact ⟨g, rfl, hb, hat.lt⟩

theorem PutO.setB {h : Array Obj} {g : Nat} (cs : Array Value) (e : TypeId) : PutO h (Fw.setB h g cs e) g := PutO.of ..

theorem shiftO_fn {base : Nat} {h : Array Obj} {v : Value} {m V : Nat} (hw : Wown base h v m V) (hm : m ≤ 1048576) (k : Nat) (hk : k ≤ 67108864) :
    FnV Tryz.prog 83 #[v, .int .i64 k] h fun r h' => Wown base h' r (nw (V / 2 ^ k)) (V / 2 ^ k) ∧ r.ownBlock = v.ownBlock ∧ ∃ g, v.ownBlock = some g ∧ PutO h h' g := by
  obtain ⟨g, cap, cur, rfl, hb, hat, hsz, hmc, hV, hc⟩ := hw
  refine (shift_fn hat hsz hmc hV hc hm k hk).mono ?_
  rintro _ _ ⟨rfl, cur', rfl, hsz', hc'⟩
  have hn : nw (V / 2 ^ k) ≤ m := nw_le (Nat.lt_of_le_of_lt (Nat.div_le_self _ _) hV)
  exact ⟨⟨g, cap, cur', rfl, hb, setB_same hat.lt _ _, hsz', by omega, nw_lt _, fun j hj => hc' j (by omega)⟩, rfl, g, rfl, PutO.setB ..⟩

theorem reduceO_fn {base base2 : Nat} {h : Array Obj} {v v2 : Value} {m m2 V1 V2 : Nat} (hw : Wown base h v m V1) (hw2 : Wown base2 h v2 m2 V2) (hne : v.ownBlock ≠ v2.ownBlock) (hle : V2 ≤ V1) (hm : m ≤ 1048576) :
    FnV Tryz.prog 85 #[v, v2] h fun r h' => r = .tuple #[] ∧ Wown base h' v m (V1 - V2) ∧ ∃ g, v.ownBlock = some g ∧ PutO h h' g := by
  obtain ⟨g, cap, cur, rfl, hb, hat, hsz, hmc, hV, hc⟩ := hw
  refine (reduce_fn hat hsz hmc hV hc hw2.wr (fun e => hne e.symm) hle hm).mono ?_
  rintro _ _ ⟨rfl, cur', rfl, hsz', hc'⟩
  exact ⟨rfl, ⟨g, cap, cur', rfl, hb, setB_same hat.lt _ _, hsz', hmc, Nat.lt_of_le_of_lt (Nat.sub_le _ _) hV, hc'⟩, g, rfl, PutO.setB ..⟩

theorem zerosO_fn {base : Nat} {h : Array Obj} {v : Value} {m V : Nat} (hw : Wown base h v m V) (h0 : V ≠ 0) (hm : m ≤ 1048576) (hT : TabH h) :
    FnV Tryz.prog 81 #[v] h fun r h' => (∃ k : Nat, r = .int .i64 k ∧ Tz V k) ∧ h' = h := by
  have hw' := hw.wr
  obtain ⟨g, cap, cur, rfl, _⟩ := hw
  exact zeros_fn hw' h0 hm hT

/-- between two rounds of the binary way -/
structure GcdI (h : Array Obj) (G A C : Nat) (va vb : Value) (h' : Array Obj) : Prop where
  keeps : Keeps h.size h h'
  a : Wown h.size h' va (nw A) A
  c : Wown h.size h' vb (nw C) C
  ne : va.ownBlock ≠ vb.ownBlock
  oa : A % 2 = 1
  oc : C % 2 = 1
  na : nw A ≤ 65536
  nc : nw C ≤ 65536
  gcd : Nat.gcd A C = G

theorem tz_unique {V k k' : Nat} (h : Tz V k) (h' : Tz V k') : k = k' := by
  have key : ∀ {k k' : Nat}, Tz V k → Tz V k' → ¬ k < k' := by
    rintro k k' ⟨m, rfl⟩ ⟨m', e⟩ hlt
    rw [show 2 ^ k' = 2 ^ k * (2 * 2 ^ (k' - k - 1)) by rw [← Nat.pow_succ', ← Nat.pow_add]; congr 1; omega, Nat.mul_assoc] at e
    have e := Nat.eq_of_mul_eq_mul_left (Nat.two_pow_pos k) e
    rw [Nat.mul_assoc] at e
    omega
  have h1 := key h h'
  have h2 := key h' h
  omega

theorem bl_nw (V : Nat) : bl V ≤ 64 * nw V := by
  by_cases h : V = 0
  · subst h; decide
  · have := bl_word h
    have := bl_le64 (wdc_lt V (nw V - 1))
    have := nw_pos h
    omega

theorem tz_le {V k : Nat} (h : Tz V k) (hn : nw V ≤ 65536) : k ≤ 4194304 := by
  have := h.lt_bl
  have := bl_nw V
  omega

theorem odd_of {m X : Nat} (h : X = 2 * m + 1) : X % 2 = 1 := by omega
theorem of_odd {X : Nat} (h : X % 2 = 1) : X = 2 * (X / 2) + 1 := by omega

theorem nw_zero_iff {V : Nat} : nw V = 0 ↔ V = 0 := by
  constructor
  · intro h
    rcases Nat.eq_zero_or_pos V with e | e
    · exact e
    · have := nw_pos (show V ≠ 0 by omega); omega
  · rintro rfl; rfl

theorem one_word {V : Nat} (h : nw V = 1) : V < B ∧ wdc V 0 = V := by
  have h1 := nw_lt V
  rw [h, Nat.pow_one] at h1
  refine ⟨h1, ?_⟩
  unfold wdc; rw [Nat.pow_zero, Nat.div_one]; exact Nat.mod_eq_of_lt h1

/-- the words of a power of 2 -/
theorem pow_word (t j : Nat) : wdc (2 ^ t) j = if j = t / 64 then 2 ^ (t % 64) else 0 := by
  have h64 : t % 64 < 64 := Nat.mod_lt _ (by decide)
  have hp : 2 ^ (t % 64) < B := Nat.pow_lt_pow_right (by decide) h64
  rw [two_word t]
  split
  · rename_i e
    unfold wdc
    rw [e, Nat.mul_div_cancel_left _ (Bp_pos _)]
    exact Nat.mod_eq_of_lt hp
  · rename_i e
    rcases Nat.lt_or_ge j (t / 64) with h | h
    · rw [Nat.mul_comm]; exact wdc_mulB h
    · refine wdc_ge (m := t / 64 + 1) ?_ (by omega)
      rw [Nat.pow_succ]
      exact Nat.mul_lt_mul_of_pos_left hp (Bp_pos _)

theorem cmpI_eq {x y : Nat} (h : cmpI (x : Int) (y : Int) = 0) : x = y := by
  unfold cmpI at h
  split at h
  · omega
  · split at h <;> omega

theorem divisor_fn {h : Array Obj} {v1 v2 : Value} {V1 V2 : Nat} (hw1 : Wr h v1 (nw V1) V1) (hw2 : Wr h v2 (nw V2) V2) (hm1 : nw V1 ≤ 65536) (hm2 : nw V2 ≤ 65536) (hT : TabH h) :
    FnV Tryz.prog 65 #[v1, v2] h fun r h' => (∃ m, Wr h' r m (Nat.gcd V1 V2) ∧ m ≤ 1048576) ∧ Keeps h.size h h' := by
  obtain ⟨a1, cap1, rfl⟩ : ∃ a cap, v1 = .slice a (nw V1) cap := let ⟨a, cap, e, _⟩ := hw1; ⟨a, cap, e⟩
  obtain ⟨a2, cap2, rfl⟩ : ∃ a cap, v2 = .slice a (nw V2) cap := let ⟨a, cap, e, _⟩ := hw2; ⟨a, cap, e⟩
  refine Fn.of (args := [.slice a1 (nw V1) cap1, .slice a2 (nw V2) cap2]) Tryz.func65 (by kernel_rfl) rfl Tryz.ntmps65 rfl fun w0 cs => ?_
  refine go_run tab 1000 _ _ ?_
  conv => whnf
  refine ⟨fun h1 => ?_, fun h1 => ?_⟩ <;> conv => whnf
  · refine Runs.ret Tryz.func65 rfl rfl ⟨_, rfl, ?_⟩
    have : V1 = 0 := nw_zero_iff.1 (by omega)
    subst this
    rw [Nat.gcd_zero_left]
    exact ⟨⟨_, hw2, by omega⟩, Keeps.refl _ _⟩
  · have z1 : V1 ≠ 0 := fun e => h1 (by rw [e]; rfl)
    refine ⟨fun h2 => ?_, fun h2 => ?_⟩ <;> conv => whnf
    · refine Runs.ret Tryz.func65 rfl rfl ⟨_, rfl, ?_⟩
      have : V2 = 0 := nw_zero_iff.1 (by omega)
      subst this
      rw [Nat.gcd_zero_right]
      exact ⟨⟨_, hw1, by omega⟩, Keeps.refl _ _⟩
    · have z2 : V2 ≠ 0 := fun e => h2 (by rw [e]; rfl)
      have p1 := nw_pos z1
      have p2 := nw_pos z2
      have big : ¬ (nw V1 = 1 ∧ nw V2 = 1) → True := fun _ => trivial
      refine ⟨fun h3 => ?_, fun h3 => ?_⟩ <;> conv => whnf
      · refine ⟨fun h4 => ?_, fun h4 => ?_⟩ <;> conv => whnf
        · obtain ⟨q1, w1⟩ := one_word (V := V1) (by omega)
          obtain ⟨q2, w2⟩ := one_word (V := V2) (by omega)
          obtain ⟨b1, off1, rfl, hrd1⟩ := hw1.rd rfl p1
          obtain ⟨b2, off2, rfl, hrd2⟩ := hw2.rd rfl p2
          refine Runs.held tab [(0, []), (1, []), (2, []), (3, []), (4, []), (5, []), (6, []), (7, [])] (by kernel_rfl) ?_
          conv => whnf
          repeat (refine And.intro (by omega) ?_; conv => whnf)
          refine ⟨_, hrd1 0 p1, ?_⟩
          conv => whnf
          repeat (refine And.intro (by omega) ?_; conv => whnf)
          refine ⟨_, hrd2 0 p2, ?_⟩
          conv => whnf
          rw [w1, w2]
          try refine go_run tab 1000 _ _ ?_
          conv => whnf
          refine Runs.loop (X := Nat × Nat) (fun q => [(5, .int .u64 (q.1 : Nat)), (6, .int .u64 (q.2 : Nat))]) (fun q h' => h' = h ∧ q.1 < B ∧ q.2 < B ∧ Nat.gcd q.1 q.2 = Nat.gcd V1 V2) (fun q => q.2) (V1, V2)
            ⟨rfl, q1, q2, rfl⟩ ⟨rfl, rfl, trivial⟩ ?_
          rintro ⟨x, y⟩ h ⟨rfl, hx, hy, hg⟩ ih
          dsimp only at hx hy hg ⊢
          try refine go_run tab 1000 _ _ ?_
          conv => whnf
          refine ⟨fun h5 => ?_, fun h5 => ?_⟩ <;> conv => whnf
          · refine Runs.eff (eff_buildN tab [.int .u64 (x : Nat)] (h1 := by simp [Value.cells])) ?_
            rintro _ h2 ⟨rfl, N2⟩
            try refine go_run tab 1000 _ _ ?_
            conv => whnf
            refine Runs.ret Tryz.func65 rfl rfl ⟨_, rfl, ?_⟩
            have hy0 : y = 0 := by omega
            subst hy0
            rw [Nat.gcd_zero_right] at hg
            rw [← hg]
            refine ⟨⟨1, Wr.of_at N2.blk (Nat.le_refl _) (by rw [Nat.pow_one]; exact hx) (fun j hj => ?_), by omega⟩, N2.keeps⟩
            have : j = 0 := by omega
            subst this
            rw [show wdc x 0 = x by unfold wdc; rw [Nat.pow_zero, Nat.div_one]; exact Nat.mod_eq_of_lt hx]
            rfl
          · try refine go_run tab 1000 _ _ ?_
            conv => whnf
            refine Runs.held tab [(0, []), (1, []), (2, []), (3, []), (4, []), (5, [])] (by kernel_rfl) ?_
            conv => whnf
            rw [B_eq] at hx hy
            repeat (refine And.intro (by omega) ?_; conv => whnf)
            try refine go_run tab 1000 _ _ ?_
            conv => whnf
            exact ih (y, x % y) _ _ ⟨rfl, by rw [B_eq]; exact hy, by rw [B_eq]; exact Nat.lt_of_lt_of_le (Nat.mod_lt _ (by omega)) (by omega), by rw [← hg, Nat.gcd_comm, ← Nat.gcd_rec, Nat.gcd_comm]⟩ (Nat.mod_lt _ (by omega)) ⟨rfl, rfl, trivial⟩
        · try refine go_run tab 1000 _ _ ?_
          conv => whnf
          refine Runs.callV (zeros_fn hw1 z1 (by omega) hT) ?_
          rintro _ h ⟨⟨k1, rfl, t1⟩, rfl⟩
          try refine go_run tab 1000 _ _ ?_
          conv => whnf
          refine Runs.callV (zeros_fn hw2 z2 (by omega) hT) ?_
          rintro _ h ⟨⟨k2, rfl, t2⟩, rfl⟩
          have lk1 := tz_le t1 hm1
          have lk2 := tz_le t2 hm2
          obtain ⟨tw, htw⟩ : ∃ tw, tw = min k1 k2 := ⟨_, rfl⟩
          try refine go_run tab 1000 _ _ ?_
          conv => whnf
          rw [show min (k1 : Int) (k2 : Int) = (tw : Nat) by omega]
          refine Runs.callV (clone_fn hw1 p1 (by omega)) ?_
          rintro va ha ⟨Oa, ka⟩
          try refine go_run tab 1000 _ _ ?_
          conv => whnf
          refine Runs.callV (clone_fn (hw2.keeps ka) p2 (by omega)) ?_
          rintro vb hb ⟨Ob, kb⟩
          have sa := ka.size
          have sb := kb.size
          obtain ⟨ga, ea, ba, la⟩ := Oa.blk
          obtain ⟨gb, eb, bb, lb⟩ := Ob.blk
          have Oa := Oa.keeps kb (Nat.le_refl _)
          have hkb : Keeps h.size h hb := ka.trans (kb.mono sa)
          have Tb := hT.keeps hkb
          have Ob := Ob.mono sa
          try refine go_run tab 1000 _ _ ?_
          conv => whnf
          refine Runs.callV (zerosO_fn Oa z1 (by omega) Tb) ?_
          rintro _ hb ⟨⟨k1', rfl, t1'⟩, rfl⟩
          obtain rfl := tz_unique t1 t1'
          try refine go_run tab 1000 _ _ ?_
          conv => whnf
          refine Runs.callV (shiftO_fn Oa (by omega) k1 (by omega)) ?_
          rintro va1 hc ⟨Oa1, oa1, g1, eg1, P1⟩
          rw [ea] at eg1
          cases eg1
          have Ob1 := Ob.put P1 (by rw [eb]; intro e; cases e; omega)
          have hkc : Keeps h.size h hc := hkb.trans (P1.keeps.mono ba)
          have Tc := hT.keeps hkc
          try refine go_run tab 1000 _ _ ?_
          conv => whnf
          refine Runs.callV (zerosO_fn Ob1 z2 (by omega) Tc) ?_
          rintro _ hc ⟨⟨k2', rfl, t2'⟩, rfl⟩
          obtain rfl := tz_unique t2 t2'
          try refine go_run tab 1000 _ _ ?_
          conv => whnf
          refine Runs.callV (shiftO_fn Ob1 (by omega) k2 (by omega)) ?_
          rintro vb1 hd ⟨Ob2, ob2, g2, eg2, P2⟩
          rw [eb] at eg2
          cases eg2
          have Oa2 := Oa1.put P2 (by rw [oa1, ea]; intro e; cases e; omega)
          have hkd : Keeps h.size h hd := hkc.trans (P2.keeps.mono (by omega))
          obtain ⟨m1, od1, _⟩ := t1.div
          obtain ⟨m2, od2, _⟩ := t2.div
          have hgs := gcd_start t1 t2
          rw [← htw] at hgs
          have n1 := nw_mono (Nat.div_le_self V1 (2 ^ k1))
          have n2 := nw_mono (Nat.div_le_self V2 (2 ^ k2))
          try refine go_run tab 1000 _ _ ?_
          conv => whnf
          refine Runs.loop (X := Nat × Nat × Value × Value) (fun q => [(0, q.2.2.1), (1, q.2.2.2), (7, .int .i64 (tw : Nat))]) (fun q h' => GcdI h (Nat.gcd (V1 / 2 ^ k1) (V2 / 2 ^ k2)) q.1 q.2.1 q.2.2.1 q.2.2.2 h') (fun q => q.1 + q.2.1) (V1 / 2 ^ k1, V2 / 2 ^ k2, va1, vb1)
            ⟨hkd, Oa2, Ob2, by rw [oa1, ob2, ea, eb]; intro e; cases e; omega, odd_of od1, odd_of od2, by dsimp only; omega, by dsimp only; omega, rfl⟩ ⟨rfl, rfl, rfl, trivial⟩ ?_
          rintro ⟨A, C, wa, wc⟩ he ⟨ke, Ea, Ec, ene, eoa, eoc, ena, enc, eg⟩ ih
          dsimp only at Ea Ec ene eoa eoc ena enc eg ih ⊢
          try refine go_run tab 1000 _ _ ?_
          conv => whnf
          refine Runs.callV (compare_fn Ea.wr Ec.wr (by omega)) ?_
          rintro _ he ⟨rfl, rfl⟩
          try refine go_run tab 1000 _ _ ?_
          conv => whnf
          refine ⟨fun hc0 => ?_, fun hc0 => ?_⟩ <;> conv => whnf
          · try refine go_run tab 1000 _ _ ?_
            conv => whnf
            repeat (refine And.intro (by omega) ?_; conv => whnf)
            refine Runs.eff (eff_makeN tab (tw / 64 + 1) (tw / 64 + 1) (hn := ⟨by omega, by omega, by omega, by dsimp only; omega, by omega⟩)) ?_
            rintro _ hf ⟨rfl, Nf⟩
            try refine go_run tab 1000 _ _ ?_
            conv => whnf
            repeat (refine And.intro (by omega) ?_; conv => whnf)
            refine Runs.eff (eff_storeN tab Nf.blk (hlt := by simp; omega)) ?_
            rintro _ hg2 Pg
            try refine go_run tab 1000 _ _ ?_
            conv => whnf
            have hAC := cmpI_eq hc0
            subst hAC
            rw [Nat.gcd_self] at eg
            have zf := Nf.size
            have zg := Pg.size
            have zke := ke.size
            have Ea0 := Ea
            have Ea := Ea.keeps Nf.keeps (Nat.le_refl _)
            obtain ⟨gx, egx, bgx, lgx⟩ := Ea.blk
            have kf : Keeps h.size h hg2 := (ke.trans (Nf.keeps.mono zke)).trans (Pg.keeps.mono zke)
            have Eg : Wown h.size hg2 wa (nw A) A := by
              obtain ⟨g', cap, cur, rfl, hb', hat, r⟩ := Ea
              refine ⟨g', cap, cur, rfl, hb', Pg.at hat ?_, r⟩
              intro e
              subst e
              have := Nf.blk
              obtain ⟨g2', cap2', cur2', e2, _, hat2, _⟩ := Ea0
              cases e2
              have := hat2.lt
              omega
            have hpow : (2 : Nat) ^ tw < B ^ (tw / 64 + 1) := by
              rw [two_word tw, Nat.pow_succ]
              exact Nat.mul_lt_mul_of_pos_left (Nat.pow_lt_pow_right (by decide) (show tw % 64 < 64 by omega)) (Bp_pos _)
            have hwp := Wr.of_at Pg.blk (m := tw / 64 + 1) (cap := tw / 64 + 1) (V := 2 ^ tw) (Nat.le_refl _) hpow (fun j hj => by
              rw [pow_word]
              by_cases e : j = tw / 64
              · rw [if_pos e, show 0 + ((tw : Int) / 64).toNat = j by omega, Array.getElem?_setIfInBounds_self_of_lt (by simp; omega)]
                have h64 : tw % 64 < 64 := Nat.mod_lt _ (by decide)
                have hp : 2 ^ (tw % 64) < B := Nat.pow_lt_pow_right (by decide) h64
                obtain ⟨p, hp'⟩ : ∃ p, p = 2 ^ (tw % 64) := ⟨_, rfl⟩
                rw [show ((tw : Int) % 64).toNat = tw % 64 by omega]
                have e9 : ((2 : Int) ^ (tw % 64)) = ((2 ^ (tw % 64) : Nat) : Int) := by simp
                rw [e9, ← hp']
                rw [← hp', B_eq] at hp
                rw [show (1 : Int) * p % 18446744073709551616 = p by omega]
              · rw [if_neg e, Array.getElem?_setIfInBounds_ne (by omega), Array.getElem?_replicate, if_pos hj]
                rfl)
            refine Runs.callV (times_fn Eg.wr hwp (by omega) (by omega)) ?_
            rintro vr hh ⟨Or, kr⟩
            try refine go_run tab 1000 _ _ ?_
            conv => whnf
            refine Runs.ret Tryz.func65 rfl rfl ⟨_, rfl, ?_⟩
            refine ⟨⟨nw A + (tw / 64 + 1), ?_, by omega⟩, kf.trans (kr.mono (by omega))⟩
            rw [hgs, ← eg]
            exact Or.wr
          · refine ⟨fun hcl => ?_, fun hcl => ?_⟩ <;> conv => whnf
            · have hlt : A < C := by
                rcases Nat.lt_or_ge A C with h | h
                · exact h
                · exfalso
                  rcases Nat.lt_or_ge C A with h' | h'
                  · first | exact hcl ((cmpI_lt _ _).2 h') | (have := (cmpI_lt _ _).1 hcl; omega)
                  · have e : C = A := by omega
                    apply hc0
                    subst e
                    unfold cmpI
                    rw [if_neg (Int.lt_irrefl _), if_neg (Int.lt_irrefl _)]
              try refine go_run tab 1000 _ _ ?_
              conv => whnf
              refine Runs.callV (reduceO_fn Ec Ea (Ne.symm ene) (by omega) (by omega)) ?_
              rintro _ hf ⟨rfl, Ra, gr, egr, Pr⟩
              have R2 := Ea.put Pr (by rw [← egr]; exact Ne.symm (Ne.symm ene))
              obtain ⟨g1', eg1', bg1', _⟩ := Ec.blk
              have hgr : h.size ≤ gr := by rw [egr] at eg1'; cases eg1'; exact bg1'
              have kf : Keeps h.size h hf := ke.trans (Pr.keeps.mono hgr)
              try refine go_run tab 1000 _ _ ?_
              conv => whnf
              refine Runs.callV (zerosO_fn Ra (by omega) (by omega) (hT.keeps kf)) ?_
              rintro _ hf ⟨⟨kz, rfl, tz⟩, rfl⟩
              have hev : (C - A) % 2 = 0 := by omega
              have kzp := tz_pos tz hev
              have nsub := nw_mono (Nat.sub_le C A)
              try refine go_run tab 1000 _ _ ?_
              conv => whnf
              refine Runs.callV (shiftO_fn Ra (by omega) kz (Nat.le_trans (tz_le tz (by omega)) (by decide))) ?_
              rintro wa' hg ⟨Sa, osa, gs, egs, Ps⟩
              have S2 := R2.put Ps (by rw [← egs]; exact Ne.symm (Ne.symm ene))
              have hgs' : h.size ≤ gs := by rw [egs] at eg1'; cases eg1'; exact bg1'
              have kg : Keeps h.size h hg := kf.trans (Ps.keeps.mono hgs')
              obtain ⟨mo, odd', _⟩ := tz.div
              have gst := gcd_step (of_odd eoa) (by omega) tz
              have hdl := Nat.div_le_self (C - A) (2 ^ kz)
              have ndiv := nw_mono hdl
              try refine go_run tab 1000 _ _ ?_
              conv => whnf
              exact ih ((C - A) / 2 ^ kz, A, wa', wa) _ _ ⟨kg, Sa, S2, by rw [osa]; exact (Ne.symm ene), odd_of odd', eoa, by dsimp only; omega, ena, by rw [gst]; exact (by rw [Nat.gcd_comm]; exact eg)⟩ (by dsimp only; omega) ⟨rfl, rfl, rfl, trivial⟩
            · have hlt : C < A := by
                rcases Nat.lt_or_ge C A with h | h
                · exact h
                · exfalso
                  rcases Nat.lt_or_ge A C with h' | h'
                  · first | exact hcl ((cmpI_lt _ _).2 h') | (have := (cmpI_lt _ _).1 hcl; omega)
                  · have e : A = C := by omega
                    apply hc0
                    subst e
                    unfold cmpI
                    rw [if_neg (Int.lt_irrefl _), if_neg (Int.lt_irrefl _)]
              try refine go_run tab 1000 _ _ ?_
              conv => whnf
              refine Runs.callV (reduceO_fn Ea Ec ene (by omega) (by omega)) ?_
              rintro _ hf ⟨rfl, Ra, gr, egr, Pr⟩
              have R2 := Ec.put Pr (by rw [← egr]; exact Ne.symm ene)
              obtain ⟨g1', eg1', bg1', _⟩ := Ea.blk
              have hgr : h.size ≤ gr := by rw [egr] at eg1'; cases eg1'; exact bg1'
              have kf : Keeps h.size h hf := ke.trans (Pr.keeps.mono hgr)
              try refine go_run tab 1000 _ _ ?_
              conv => whnf
              refine Runs.callV (zerosO_fn Ra (by omega) (by omega) (hT.keeps kf)) ?_
              rintro _ hf ⟨⟨kz, rfl, tz⟩, rfl⟩
              have hev : (A - C) % 2 = 0 := by omega
              have kzp := tz_pos tz hev
              have nsub := nw_mono (Nat.sub_le A C)
              try refine go_run tab 1000 _ _ ?_
              conv => whnf
              refine Runs.callV (shiftO_fn Ra (by omega) kz (Nat.le_trans (tz_le tz (by omega)) (by decide))) ?_
              rintro wa' hg ⟨Sa, osa, gs, egs, Ps⟩
              have S2 := R2.put Ps (by rw [← egs]; exact Ne.symm ene)
              have hgs' : h.size ≤ gs := by rw [egs] at eg1'; cases eg1'; exact bg1'
              have kg : Keeps h.size h hg := kf.trans (Ps.keeps.mono hgs')
              obtain ⟨mo, odd', _⟩ := tz.div
              have gst := gcd_step (of_odd eoc) (by omega) tz
              have hdl := Nat.div_le_self (A - C) (2 ^ kz)
              have ndiv := nw_mono hdl
              try refine go_run tab 1000 _ _ ?_
              conv => whnf
              exact ih ((A - C) / 2 ^ kz, C, wa', wc) _ _ ⟨kg, Sa, S2, by rw [osa]; exact ene, odd_of odd', eoc, by dsimp only; omega, enc, by rw [gst]; exact eg⟩ (by dsimp only; omega) ⟨rfl, rfl, rfl, trivial⟩
      · try refine go_run tab 1000 _ _ ?_
        conv => whnf
        refine Runs.callV (zeros_fn hw1 z1 (by omega) hT) ?_
        rintro _ h ⟨⟨k1, rfl, t1⟩, rfl⟩
        try refine go_run tab 1000 _ _ ?_
        conv => whnf
        refine Runs.callV (zeros_fn hw2 z2 (by omega) hT) ?_
        rintro _ h ⟨⟨k2, rfl, t2⟩, rfl⟩
        have lk1 := tz_le t1 hm1
        have lk2 := tz_le t2 hm2
        obtain ⟨tw, htw⟩ : ∃ tw, tw = min k1 k2 := ⟨_, rfl⟩
        try refine go_run tab 1000 _ _ ?_
        conv => whnf
        rw [show min (k1 : Int) (k2 : Int) = (tw : Nat) by omega]
        refine Runs.callV (clone_fn hw1 p1 (by omega)) ?_
        rintro va ha ⟨Oa, ka⟩
        try refine go_run tab 1000 _ _ ?_
        conv => whnf
        refine Runs.callV (clone_fn (hw2.keeps ka) p2 (by omega)) ?_
        rintro vb hb ⟨Ob, kb⟩
        have sa := ka.size
        have sb := kb.size
        obtain ⟨ga, ea, ba, la⟩ := Oa.blk
        obtain ⟨gb, eb, bb, lb⟩ := Ob.blk
        have Oa := Oa.keeps kb (Nat.le_refl _)
        have hkb : Keeps h.size h hb := ka.trans (kb.mono sa)
        have Tb := hT.keeps hkb
        have Ob := Ob.mono sa
        try refine go_run tab 1000 _ _ ?_
        conv => whnf
        refine Runs.callV (zerosO_fn Oa z1 (by omega) Tb) ?_
        rintro _ hb ⟨⟨k1', rfl, t1'⟩, rfl⟩
        obtain rfl := tz_unique t1 t1'
        try refine go_run tab 1000 _ _ ?_
        conv => whnf
        refine Runs.callV (shiftO_fn Oa (by omega) k1 (by omega)) ?_
        rintro va1 hc ⟨Oa1, oa1, g1, eg1, P1⟩
        rw [ea] at eg1
        cases eg1
        have Ob1 := Ob.put P1 (by rw [eb]; intro e; cases e; omega)
        have hkc : Keeps h.size h hc := hkb.trans (P1.keeps.mono ba)
        have Tc := hT.keeps hkc
        try refine go_run tab 1000 _ _ ?_
        conv => whnf
        refine Runs.callV (zerosO_fn Ob1 z2 (by omega) Tc) ?_
        rintro _ hc ⟨⟨k2', rfl, t2'⟩, rfl⟩
        obtain rfl := tz_unique t2 t2'
        try refine go_run tab 1000 _ _ ?_
        conv => whnf
        refine Runs.callV (shiftO_fn Ob1 (by omega) k2 (by omega)) ?_
        rintro vb1 hd ⟨Ob2, ob2, g2, eg2, P2⟩
        rw [eb] at eg2
        cases eg2
        have Oa2 := Oa1.put P2 (by rw [oa1, ea]; intro e; cases e; omega)
        have hkd : Keeps h.size h hd := hkc.trans (P2.keeps.mono (by omega))
        obtain ⟨m1, od1, _⟩ := t1.div
        obtain ⟨m2, od2, _⟩ := t2.div
        have hgs := gcd_start t1 t2
        rw [← htw] at hgs
        have n1 := nw_mono (Nat.div_le_self V1 (2 ^ k1))
        have n2 := nw_mono (Nat.div_le_self V2 (2 ^ k2))
        try refine go_run tab 1000 _ _ ?_
        conv => whnf
        refine Runs.loop (X := Nat × Nat × Value × Value) (fun q => [(0, q.2.2.1), (1, q.2.2.2), (7, .int .i64 (tw : Nat))]) (fun q h' => GcdI h (Nat.gcd (V1 / 2 ^ k1) (V2 / 2 ^ k2)) q.1 q.2.1 q.2.2.1 q.2.2.2 h') (fun q => q.1 + q.2.1) (V1 / 2 ^ k1, V2 / 2 ^ k2, va1, vb1)
          ⟨hkd, Oa2, Ob2, by rw [oa1, ob2, ea, eb]; intro e; cases e; omega, odd_of od1, odd_of od2, by dsimp only; omega, by dsimp only; omega, rfl⟩ ⟨rfl, rfl, rfl, trivial⟩ ?_
        rintro ⟨A, C, wa, wc⟩ he ⟨ke, Ea, Ec, ene, eoa, eoc, ena, enc, eg⟩ ih
        dsimp only at Ea Ec ene eoa eoc ena enc eg ih ⊢
        try refine go_run tab 1000 _ _ ?_
        conv => whnf
        refine Runs.callV (compare_fn Ea.wr Ec.wr (by omega)) ?_
        rintro _ he ⟨rfl, rfl⟩
        try refine go_run tab 1000 _ _ ?_
        conv => whnf
        refine ⟨fun hc0 => ?_, fun hc0 => ?_⟩ <;> conv => whnf
        · try refine go_run tab 1000 _ _ ?_
          conv => whnf
          repeat (refine And.intro (by omega) ?_; conv => whnf)
          refine Runs.eff (eff_makeN tab (tw / 64 + 1) (tw / 64 + 1) (hn := ⟨by omega, by omega, by omega, by dsimp only; omega, by omega⟩)) ?_
          rintro _ hf ⟨rfl, Nf⟩
          try refine go_run tab 1000 _ _ ?_
          conv => whnf
          repeat (refine And.intro (by omega) ?_; conv => whnf)
          refine Runs.eff (eff_storeN tab Nf.blk (hlt := by simp; omega)) ?_
          rintro _ hg2 Pg
          try refine go_run tab 1000 _ _ ?_
          conv => whnf
          have hAC := cmpI_eq hc0
          subst hAC
          rw [Nat.gcd_self] at eg
          have zf := Nf.size
          have zg := Pg.size
          have zke := ke.size
          have Ea0 := Ea
          have Ea := Ea.keeps Nf.keeps (Nat.le_refl _)
          obtain ⟨gx, egx, bgx, lgx⟩ := Ea.blk
          have kf : Keeps h.size h hg2 := (ke.trans (Nf.keeps.mono zke)).trans (Pg.keeps.mono zke)
          have Eg : Wown h.size hg2 wa (nw A) A := by
            obtain ⟨g', cap, cur, rfl, hb', hat, r⟩ := Ea
            refine ⟨g', cap, cur, rfl, hb', Pg.at hat ?_, r⟩
            intro e
            subst e
            have := Nf.blk
            obtain ⟨g2', cap2', cur2', e2, _, hat2, _⟩ := Ea0
            cases e2
            have := hat2.lt
            omega
          have hpow : (2 : Nat) ^ tw < B ^ (tw / 64 + 1) := by
            rw [two_word tw, Nat.pow_succ]
            exact Nat.mul_lt_mul_of_pos_left (Nat.pow_lt_pow_right (by decide) (show tw % 64 < 64 by omega)) (Bp_pos _)
          have hwp := Wr.of_at Pg.blk (m := tw / 64 + 1) (cap := tw / 64 + 1) (V := 2 ^ tw) (Nat.le_refl _) hpow (fun j hj => by
            rw [pow_word]
            by_cases e : j = tw / 64
            · rw [if_pos e, show 0 + ((tw : Int) / 64).toNat = j by omega, Array.getElem?_setIfInBounds_self_of_lt (by simp; omega)]
              have h64 : tw % 64 < 64 := Nat.mod_lt _ (by decide)
              have hp : 2 ^ (tw % 64) < B := Nat.pow_lt_pow_right (by decide) h64
              obtain ⟨p, hp'⟩ : ∃ p, p = 2 ^ (tw % 64) := ⟨_, rfl⟩
              rw [show ((tw : Int) % 64).toNat = tw % 64 by omega]
              have e9 : ((2 : Int) ^ (tw % 64)) = ((2 ^ (tw % 64) : Nat) : Int) := by simp
              rw [e9, ← hp']
              rw [← hp', B_eq] at hp
              rw [show (1 : Int) * p % 18446744073709551616 = p by omega]
            · rw [if_neg e, Array.getElem?_setIfInBounds_ne (by omega), Array.getElem?_replicate, if_pos hj]
              rfl)
          refine Runs.callV (times_fn Eg.wr hwp (by omega) (by omega)) ?_
          rintro vr hh ⟨Or, kr⟩
          try refine go_run tab 1000 _ _ ?_
          conv => whnf
          refine Runs.ret Tryz.func65 rfl rfl ⟨_, rfl, ?_⟩
          refine ⟨⟨nw A + (tw / 64 + 1), ?_, by omega⟩, kf.trans (kr.mono (by omega))⟩
          rw [hgs, ← eg]
          exact Or.wr
        · refine ⟨fun hcl => ?_, fun hcl => ?_⟩ <;> conv => whnf
          · have hlt : A < C := by
              rcases Nat.lt_or_ge A C with h | h
              · exact h
              · exfalso
                rcases Nat.lt_or_ge C A with h' | h'
                · first | exact hcl ((cmpI_lt _ _).2 h') | (have := (cmpI_lt _ _).1 hcl; omega)
                · have e : C = A := by omega
                  apply hc0
                  subst e
                  unfold cmpI
                  rw [if_neg (Int.lt_irrefl _), if_neg (Int.lt_irrefl _)]
            try refine go_run tab 1000 _ _ ?_
            conv => whnf
            refine Runs.callV (reduceO_fn Ec Ea (Ne.symm ene) (by omega) (by omega)) ?_
            rintro _ hf ⟨rfl, Ra, gr, egr, Pr⟩
            have R2 := Ea.put Pr (by rw [← egr]; exact Ne.symm (Ne.symm ene))
            obtain ⟨g1', eg1', bg1', _⟩ := Ec.blk
            have hgr : h.size ≤ gr := by rw [egr] at eg1'; cases eg1'; exact bg1'
            have kf : Keeps h.size h hf := ke.trans (Pr.keeps.mono hgr)
            try refine go_run tab 1000 _ _ ?_
            conv => whnf
            refine Runs.callV (zerosO_fn Ra (by omega) (by omega) (hT.keeps kf)) ?_
            rintro _ hf ⟨⟨kz, rfl, tz⟩, rfl⟩
            have hev : (C - A) % 2 = 0 := by omega
            have kzp := tz_pos tz hev
            have nsub := nw_mono (Nat.sub_le C A)
            try refine go_run tab 1000 _ _ ?_
            conv => whnf
            refine Runs.callV (shiftO_fn Ra (by omega) kz (Nat.le_trans (tz_le tz (by omega)) (by decide))) ?_
            rintro wa' hg ⟨Sa, osa, gs, egs, Ps⟩
            have S2 := R2.put Ps (by rw [← egs]; exact Ne.symm (Ne.symm ene))
            have hgs' : h.size ≤ gs := by rw [egs] at eg1'; cases eg1'; exact bg1'
            have kg : Keeps h.size h hg := kf.trans (Ps.keeps.mono hgs')
            obtain ⟨mo, odd', _⟩ := tz.div
            have gst := gcd_step (of_odd eoa) (by omega) tz
            have hdl := Nat.div_le_self (C - A) (2 ^ kz)
            have ndiv := nw_mono hdl
            try refine go_run tab 1000 _ _ ?_
            conv => whnf
            exact ih ((C - A) / 2 ^ kz, A, wa', wa) _ _ ⟨kg, Sa, S2, by rw [osa]; exact (Ne.symm ene), odd_of odd', eoa, by dsimp only; omega, ena, by rw [gst]; exact (by rw [Nat.gcd_comm]; exact eg)⟩ (by dsimp only; omega) ⟨rfl, rfl, rfl, trivial⟩
          · have hlt : C < A := by
              rcases Nat.lt_or_ge C A with h | h
              · exact h
              · exfalso
                rcases Nat.lt_or_ge A C with h' | h'
                · first | exact hcl ((cmpI_lt _ _).2 h') | (have := (cmpI_lt _ _).1 hcl; omega)
                · have e : A = C := by omega
                  apply hc0
                  subst e
                  unfold cmpI
                  rw [if_neg (Int.lt_irrefl _), if_neg (Int.lt_irrefl _)]
            try refine go_run tab 1000 _ _ ?_
            conv => whnf
            refine Runs.callV (reduceO_fn Ea Ec ene (by omega) (by omega)) ?_
            rintro _ hf ⟨rfl, Ra, gr, egr, Pr⟩
            have R2 := Ec.put Pr (by rw [← egr]; exact Ne.symm ene)
            obtain ⟨g1', eg1', bg1', _⟩ := Ea.blk
            have hgr : h.size ≤ gr := by rw [egr] at eg1'; cases eg1'; exact bg1'
            have kf : Keeps h.size h hf := ke.trans (Pr.keeps.mono hgr)
            try refine go_run tab 1000 _ _ ?_
            conv => whnf
            refine Runs.callV (zerosO_fn Ra (by omega) (by omega) (hT.keeps kf)) ?_
            rintro _ hf ⟨⟨kz, rfl, tz⟩, rfl⟩
            have hev : (A - C) % 2 = 0 := by omega
            have kzp := tz_pos tz hev
            have nsub := nw_mono (Nat.sub_le A C)
            try refine go_run tab 1000 _ _ ?_
            conv => whnf
            refine Runs.callV (shiftO_fn Ra (by omega) kz (Nat.le_trans (tz_le tz (by omega)) (by decide))) ?_
            rintro wa' hg ⟨Sa, osa, gs, egs, Ps⟩
            have S2 := R2.put Ps (by rw [← egs]; exact Ne.symm ene)
            have hgs' : h.size ≤ gs := by rw [egs] at eg1'; cases eg1'; exact bg1'
            have kg : Keeps h.size h hg := kf.trans (Ps.keeps.mono hgs')
            obtain ⟨mo, odd', _⟩ := tz.div
            have gst := gcd_step (of_odd eoc) (by omega) tz
            have hdl := Nat.div_le_self (A - C) (2 ^ kz)
            have ndiv := nw_mono hdl
            try refine go_run tab 1000 _ _ ?_
            conv => whnf
            exact ih ((A - C) / 2 ^ kz, C, wa', wc) _ _ ⟨kg, Sa, S2, by rw [osa]; exact ene, odd_of odd', eoc, by dsimp only; omega, enc, by rw [gst]; exact eg⟩ (by dsimp only; omega) ⟨rfl, rfl, rfl, trivial⟩

end Go.Proofs.YtgnciigjhpcdmaaGreatDoor

namespace Go.Proofs.YtgnciigjhpcdmaaGreatDoor
open Go Go.Fw Go.NatM
set_option maxRecDepth 100000
set_option maxHeartbeats 8000000

theorem size_mt {s : ByteArray} : s = NatM.mt ↔ s.size = 0 := by
  constructor
  · rintro rfl; rfl
  · intro h
    exact bytes_ext (by rw [h]; rfl) fun i hi => by omega

theorem natv_ne {s : ByteArray} (hc : Canon s) (h : s.size ≠ 0) : natv s ≠ 0 := by
  intro e
  have := nb_natv hc
  rw [e, nb_zero] at this
  omega

theorem nw_small {s : ByteArray} (hc : Canon s) (hs : s.size ≤ 256) : nw (natv s) ≤ 32 := by
  rw [← words_len hc]; omega

theorem strs_at {h : Array Obj} {b : Nat} {e : TypeId} {ss : List ByteArray} (H : At h b (ss.map Value.string).toArray e) : Strs h b 0 ss := by
  intro j s hs
  rw [H.cell, Nat.zero_add]
  simp [hs]

theorem Div_fn {h : Array Obj} (s t : ByteArray) : FnV Tryz.prog 46 #[.string s, .string t] h fun r h' => r = .tuple #[.string (divS s t).1, .string (divS s t).2.1, .int .i64 (divS s t).2.2] ∧ Keeps h.size h h' := by
  unfold divS
  refine Fn.of (args := [.string s, .string t]) Tryz.func46 (by kernel_rfl) rfl Tryz.ntmps46 rfl fun w0 cs => ?_
  refine go_run tab 1000 _ _ ?_
  conv => whnf
  refine Runs.eff (eff_buildN tab [.string s, .string t] (h1 := by simp [Value.cells])) ?_
  rintro _ h0 ⟨rfl, N0⟩
  try refine go_run tab 1000 _ _ ?_
  conv => whnf
  repeat (refine And.intro (by omega) ?_; conv => whnf)
  refine Runs.callV (check_fn (strs_at (ss := [s, t]) N0.blk) (by simp)) ?_
  rintro _ h0 ⟨rfl, rfl⟩
  have k0 := N0.keeps
  try refine go_run tab 1000 _ _ ?_
  conv => whnf
  refine ⟨fun hc => ?_, fun hc => ?_⟩ <;> conv => whnf
  · have c1 := chk_zero hc (s := s) (by simp)
    have c2 := chk_zero hc (s := t) (by simp)
    rw [if_pos hc]
    refine ⟨fun hz => ?_, fun hz => ?_⟩ <;> conv => whnf
    · refine Runs.ret Tryz.func46 rfl rfl ⟨_, rfl, ?_⟩
      rw [if_pos (size_mt.1 hz)]
      exact ⟨rfl, k0⟩
    · have hz' : t.size ≠ 0 := fun e => hz (size_mt.2 e)
      rw [if_neg hz']
      refine Runs.callV (words_fn (s := s) (by omega)) ?_
      rintro v2 h2 ⟨o2, k2⟩
      try refine go_run tab 1000 _ _ ?_
      conv => whnf
      refine Runs.callV (words_fn (s := t) (by omega)) ?_
      rintro v3 h3 ⟨o3, k3⟩
      try refine go_run tab 1000 _ _ ?_
      conv => whnf
      have l2 := words_len c1.1
      have l3 := words_len c2.1
      have q2 := (o2.keeps k3 (Nat.le_refl _)).wr
      have q3 := o3.wr
      rw [l2] at q2
      rw [l3] at q3
      have n1 := nw_small c1.1 c1.2
      have n2 := nw_small c2.1 c2.2
      have s0 := k0.size
      have s2 := k2.size
      have s3 := k3.size
      have kk := (k0.trans (k2.mono (by omega))).trans (k3.mono (by omega))
      refine Runs.callV (divide_fn q2 q3 (natv_ne c2.1 hz') (by omega) (by omega)) ?_
      rintro _ h4 ⟨vq, vr, mq, mr, rfl, w1, w2, b1, b2, k4⟩
      try refine go_run tab 1000 _ _ ?_
      conv => whnf
      refine Runs.callV (text_fn w1 (by omega)) ?_
      rintro _ h5 ⟨rfl, k5⟩
      try refine go_run tab 1000 _ _ ?_
      conv => whnf
      refine Runs.callV (text_fn (w2.keeps k5) (by omega)) ?_
      rintro _ h6 ⟨rfl, k6⟩
      try refine go_run tab 1000 _ _ ?_
      conv => whnf
      refine Runs.ret Tryz.func46 rfl rfl ⟨_, rfl, ?_⟩
      have s4 := k4.size
      have s5 := k5.size
      exact ⟨rfl, ((kk.trans (k4.mono (by omega))).trans (k5.mono (by omega))).trans (k6.mono (by omega))⟩
  · refine Runs.ret Tryz.func46 rfl rfl ⟨_, rfl, ?_⟩
    rw [if_neg hc]
    exact ⟨rfl, k0⟩

theorem Gcd_fn {h : Array Obj} (s t : ByteArray) (hT : TabH h) : FnV Tryz.prog 45 #[.string s, .string t] h fun r h' => r = sev (gcdS s t) ∧ Keeps h.size h h' := by
  unfold gcdS
  refine Fn.of (args := [.string s, .string t]) Tryz.func45 (by kernel_rfl) rfl Tryz.ntmps45 rfl fun w0 cs => ?_
  refine go_run tab 1000 _ _ ?_
  conv => whnf
  refine Runs.eff (eff_buildN tab [.string s, .string t] (h1 := by simp [Value.cells])) ?_
  rintro _ h0 ⟨rfl, N0⟩
  try refine go_run tab 1000 _ _ ?_
  conv => whnf
  repeat (refine And.intro (by omega) ?_; conv => whnf)
  refine Runs.callV (check_fn (strs_at (ss := [s, t]) N0.blk) (by simp)) ?_
  rintro _ h0 ⟨rfl, rfl⟩
  have k0 := N0.keeps
  try refine go_run tab 1000 _ _ ?_
  conv => whnf
  refine ⟨fun hc => ?_, fun hc => ?_⟩ <;> conv => whnf
  · have c1 := chk_zero hc (s := s) (by simp)
    have c2 := chk_zero hc (s := t) (by simp)
    rw [if_pos hc]
    refine Runs.callV (words_fn (s := s) (by omega)) ?_
    rintro v2 h2 ⟨o2, k2⟩
    try refine go_run tab 1000 _ _ ?_
    conv => whnf
    refine Runs.callV (words_fn (s := t) (by omega)) ?_
    rintro v3 h3 ⟨o3, k3⟩
    try refine go_run tab 1000 _ _ ?_
    conv => whnf
    have l2 := words_len c1.1
    have l3 := words_len c2.1
    have q2 := (o2.keeps k3 (Nat.le_refl _)).wr
    have q3 := o3.wr
    rw [l2] at q2
    rw [l3] at q3
    have n1 := nw_small c1.1 c1.2
    have n2 := nw_small c2.1 c2.2
    have s0 := k0.size
    have s2 := k2.size
    have s3 := k3.size
    have kk := (k0.trans (k2.mono (by omega))).trans (k3.mono (by omega))
    refine Runs.callV (divisor_fn q2 q3 (by omega) (by omega) (hT.keeps kk)) ?_
    rintro vr h4 ⟨⟨mr, w1, b1⟩, k4⟩
    try refine go_run tab 1000 _ _ ?_
    conv => whnf
    refine Runs.callV (text_fn w1 b1) ?_
    rintro _ h5 ⟨rfl, k5⟩
    try refine go_run tab 1000 _ _ ?_
    conv => whnf
    refine Runs.ret Tryz.func45 rfl rfl ⟨_, rfl, ?_⟩
    have s4 := k4.size
    exact ⟨rfl, (kk.trans (k4.mono (by omega))).trans (k5.mono (by omega))⟩
  · refine Runs.ret Tryz.func45 rfl rfl ⟨_, rfl, ?_⟩
    rw [if_neg hc]
    exact ⟨rfl, k0⟩
end Go.Proofs.YtgnciigjhpcdmaaGreatDoor

namespace Go.NatM
open Go Go.Fw

theorem enc_inj {A C : Nat} (h : enc A = enc C) : A = C := by rw [← natv_enc A, h, natv_enc]
theorem enc_eq {A C : Nat} : enc A = enc C ↔ A = C := ⟨enc_inj, fun h => by rw [h]⟩
theorem enc_zero : enc 0 = NatM.mt := rfl
theorem enc_mt {A : Nat} : enc A = NatM.mt ↔ A = 0 := by rw [← enc_zero, enc_eq]

theorem chk_ok {l : List ByteArray} (h : ∀ s ∈ l, Canon s ∧ s.size ≤ 256) : chk l = 0 := by
  unfold chk
  rw [if_pos (List.all_eq_true.2 fun s hs => canonB_iff.2 (h s hs).1), if_pos (List.all_eq_true.2 fun s hs => Nat.ble_eq_true_of_le (h s hs).2)]

theorem chk_e1 {A : Nat} (hA : nb A ≤ 256) : chk [enc A] = 0 := chk_ok fun s hs => by
  obtain rfl : s = enc A := by simpa using hs
  exact ⟨canon_enc A, by rw [enc_size]; exact hA⟩
theorem chk_e2 {A C : Nat} (hA : nb A ≤ 256) (hC : nb C ≤ 256) : chk [enc A, enc C] = 0 := chk_ok fun s hs => by
  simp only [List.mem_cons, List.not_mem_nil, or_false] at hs
  rcases hs with rfl | rfl
  · exact ⟨canon_enc A, by rw [enc_size]; exact hA⟩
  · exact ⟨canon_enc C, by rw [enc_size]; exact hC⟩

/-- what passes the check is a number's string -/
theorem of_chk {l : List ByteArray} (h : chk l = 0) {s : ByteArray} (hs : s ∈ l) : ∃ A, s = enc A ∧ nb A ≤ 256 := by
  obtain ⟨h1, h2⟩ := chk_zero h hs
  exact ⟨natv s, (enc_natv h1).symm, by rw [nb_natv h1]; exact h2⟩

theorem chk_two {a b : ByteArray} (h : chk [a, b] ≠ 0) : chk [a] ≠ 0 ∨ chk [b] ≠ 0 := by
  by_cases h1 : chk [a] = 0
  · by_cases h2 : chk [b] = 0
    · obtain ⟨A, rfl, hA⟩ := of_chk h1 (List.mem_cons_self ..)
      obtain ⟨C, rfl, hC⟩ := of_chk h2 (List.mem_cons_self ..)
      exact absurd (chk_e2 hA hC) h
    · exact .inr h2
  · exact .inl h1

section
variable {A C : Nat} (hA : nb A ≤ 256) (hC : nb C ≤ 256)
include hA hC
theorem add_e : addS (enc A) (enc C) = shortS (A + C) := by unfold addS; rw [if_pos (chk_e2 hA hC), natv_enc, natv_enc]
theorem mul_e : mulS (enc A) (enc C) = shortS (A * C) := by unfold mulS; rw [if_pos (chk_e2 hA hC), natv_enc, natv_enc]
theorem sub_e : subS (enc A) (enc C) = if A < C then (NatM.mt, 1) else (enc (A - C), 0) := by unfold subS; rw [if_pos (chk_e2 hA hC), natv_enc, natv_enc]
theorem cmp_e : cmpS (enc A) (enc C) = (cmpN A C, 0) := by unfold cmpS; rw [if_pos (chk_e2 hA hC), natv_enc, natv_enc]
theorem gcd_e : gcdS (enc A) (enc C) = (enc (Nat.gcd A C), 0) := by unfold gcdS; rw [if_pos (chk_e2 hA hC), natv_enc, natv_enc]
theorem div_e : divS (enc A) (enc C) = if C = 0 then (NatM.mt, NatM.mt, 71) else (enc (A / C), enc (A % C), 0) := by
  unfold divS
  rw [if_pos (chk_e2 hA hC), natv_enc, natv_enc]
  by_cases h : C = 0
  · subst h; rw [if_pos (by rw [enc_size]; rfl), if_pos rfl]
  · rw [if_neg h, if_neg]
    rw [enc_size]
    have := nb_pos h
    omega
end

theorem short_e {V : Nat} (h : nb V ≤ 256) : shortS V = (enc V, 0) := by unfold shortS; rw [if_pos h]
theorem short_big {V : Nat} (h : ¬ nb V ≤ 256) : shortS V = (NatM.mt, 2) := by unfold shortS; rw [if_neg h]

theorem nb_add (A C : Nat) : nb (A + C) ≤ max (nb A) (nb C) + 1 := by
  refine nb_le ?_
  have h1 := nb_lt A
  have h2 := nb_lt C
  have h3 := Nat.pow_le_pow_right (show 0 < 256 by decide) (Nat.le_max_left (nb A) (nb C))
  have h4 := Nat.pow_le_pow_right (show 0 < 256 by decide) (Nat.le_max_right (nb A) (nb C))
  rw [Nat.pow_succ]
  omega

theorem nb_mul (A C : Nat) : nb (A * C) ≤ nb A + nb C := by
  refine nb_le ?_
  rw [Nat.pow_add]
  exact Nat.mul_lt_mul'' (nb_lt A) (nb_lt C)

theorem cmpN_lt {A C : Nat} (h : A < C) : cmpN A C = -1 := by unfold cmpN; rw [if_pos h]
theorem cmpN_self (A : Nat) : cmpN A A = 0 := by unfold cmpN; rw [if_neg (Nat.lt_irrefl _), if_neg (Nat.lt_irrefl _)]
theorem cmpN_nonneg {A C : Nat} : 0 ≤ cmpN A C ↔ C ≤ A := by
  unfold cmpN
  by_cases h : A < C
  · rw [if_pos h]; omega
  · rw [if_neg h]; split <;> omega
theorem cmpN_neg {A C : Nat} : cmpN A C < 0 ↔ A < C := by
  unfold cmpN
  by_cases h : A < C
  · rw [if_pos h]; omega
  · rw [if_neg h]; split <;> omega
theorem cmpN_pos {A C : Nat} : 0 < cmpN A C ↔ C < A := by
  unfold cmpN
  by_cases h : A < C
  · rw [if_pos h]; omega
  · rw [if_neg h]; split <;> omega
end Go.NatM

namespace Go.NatM
open Go Go.Fw

theorem byteAt_app (a b : ByteArray) (i : Nat) : byteAt (a ++ b) i = if i < a.size then byteAt a i else byteAt b (i - a.size) := by
  obtain ⟨⟨a⟩⟩ := a
  obtain ⟨⟨b⟩⟩ := b
  have e : (ByteArray.mk ⟨a⟩ ++ ByteArray.mk ⟨b⟩).data.toList = a ++ b := by rw [ByteArray.data_append]; simp
  unfold byteAt
  have e2 : (ByteArray.mk ⟨a⟩).size = a.length := rfl
  rw [e, e2, List.getD_eq_getElem?_getD, List.getElem?_append]
  by_cases h : i < a.length
  · rw [if_pos h, if_pos h, List.getD_eq_getElem?_getD]
  · rw [if_neg h, if_neg h, List.getD_eq_getElem?_getD]

theorem byteAt_ext (s : ByteArray) {lo hi i : Nat} (hh : hi ≤ s.size) (h : lo + i < hi) : byteAt (s.extract lo hi) i = byteAt s (lo + i) := by
  obtain ⟨⟨a⟩⟩ := s
  have hh : hi ≤ a.length := hh
  unfold byteAt
  rw [List.getD_eq_getElem?_getD, List.getD_eq_getElem?_getD]
  have e : ((ByteArray.mk ⟨a⟩).extract lo hi).data.toList = (a.drop lo).take (hi - lo) := by
    rw [ByteArray.data_extract]
    simp
  rw [e, List.getElem?_take_of_lt (by omega), List.getElem?_drop]

theorem byc_push0 (R : Nat) {c : Nat} (hc : c < 256) : byc (256 * R + c) 0 = c := by
  unfold byc; rw [Nat.pow_zero, Nat.div_one]; omega
theorem byc_pushS (R : Nat) {c : Nat} (hc : c < 256) (k : Nat) : byc (256 * R + c) (k + 1) = byc R k := by
  unfold byc
  rw [Nat.pow_succ', ← Nat.div_div_eq_div_mul, show (256 * R + c) / 256 = R by omega]
theorem nb_push {R c : Nat} (hR : R ≠ 0) (hc : c < 256) : nb (256 * R + c) = nb R + 1 := by
  refine (nb_eq ?_ fun _ => ?_).symm
  · have := nb_lt R
    rw [Nat.pow_succ]
    omega
  · have := nb_pos hR
    rw [show nb R + 1 - 1 = (nb R - 1) + 1 by omega, byc_pushS R hc]
    exact nb_topb hR
theorem nb_one {c : Nat} (h0 : c ≠ 0) (hc : c < 256) : nb c = 1 := by
  refine (nb_eq (by omega) fun _ => ?_).symm
  have := byc_push0 0 hc
  rw [Nat.mul_zero, Nat.zero_add] at this
  rw [this]; exact h0

theorem push_enc {R i : Nat} {s : ByteArray} (hi : i < s.size) (h : R ≠ 0 ∨ byteAt s i ≠ 0) : enc R ++ s.extract i (i + 1) = enc (256 * R + byteAt s i) := by
  have hc := byteAt_lt s i
  have e1 : (s.extract i (i + 1)).size = 1 := by rw [ByteArray.size_extract]; omega
  have hn : nb (256 * R + byteAt s i) = nb R + 1 := by
    by_cases hR : R = 0
    · subst hR
      rw [Nat.mul_zero, Nat.zero_add, nb_zero]
      exact nb_one (h.resolve_left (fun f => f rfl)) hc
    · exact nb_push hR hc
  refine bytes_ext (by rw [ByteArray.size_append, enc_size, enc_size, e1, hn]) fun k hk => ?_
  rw [ByteArray.size_append, enc_size, e1] at hk
  rw [byteAt_enc (by omega), byteAt_app, enc_size, hn]
  split
  · next hk2 => rw [byteAt_enc hk2, show nb R + 1 - 1 - k = (nb R - 1 - k) + 1 by omega, byc_pushS R hc]
  · rw [show nb R + 1 - 1 - k = 0 by omega, byc_push0 R hc, byteAt_ext s (by omega) (by omega)]
    congr 1
    omega
theorem push_first {R i : Nat} {s : ByteArray} (hi : i < s.size) : byteAt (enc R ++ s.extract i (i + 1)) 0 = 0 ↔ R = 0 ∧ byteAt s i = 0 := by
  rw [byteAt_app, enc_size]
  by_cases hR : R = 0
  · subst hR
    rw [nb_zero, if_neg (by omega), byteAt_ext s (by omega) (by omega)]
    simp
  · have h1 := nb_pos hR
    have h2 := nb_topb hR
    rw [if_pos h1, byteAt_enc h1]
    simp [hR]
    exact h2
theorem push_zero {i : Nat} {s : ByteArray} (hi : i < s.size) : (enc 0 ++ s.extract i (i + 1)).extract 1 ((enc 0 ++ s.extract i (i + 1)).size) = enc 0 := by
  refine bytes_ext ?_ fun k hk => ?_
  · rw [ByteArray.size_extract, ByteArray.size_append, enc_size, nb_zero, ByteArray.size_extract]; omega
  · rw [ByteArray.size_extract, ByteArray.size_append, enc_size, nb_zero, ByteArray.size_extract] at hk; omega

theorem dn_push (Q : Nat) {d : Nat} (hd : d < 256) (n : Nat) : ∀ j, j ≤ n → dn (256 * Q + d) (n + 1) j = dn Q n j
  | 0, _ => rfl
  | j + 1, h => by
    have ih := dn_push Q hd n j (by omega)
    rw [dn, dn, ih, show n + 1 - 1 - j = (n - 1 - j) + 1 by omega, byc_pushS Q hd]
/-- a number's bytes -/
def bts (V : Nat) : List Nat := dn V (nb V) (nb V)
theorem bts_len (V : Nat) : (bts V).length = nb V := dn_length _ _ _
theorem bts_zero : bts 0 = [] := rfl
theorem bts_push {Q d : Nat} (hd : d < 256) (h : Q ≠ 0 ∨ d ≠ 0) : bts (256 * Q + d) = bts Q ++ [d] := by
  have hn : nb (256 * Q + d) = nb Q + 1 := by
    by_cases hQ : Q = 0
    · subst hQ
      rw [Nat.mul_zero, Nat.zero_add, nb_zero]
      exact nb_one (h.resolve_left (fun f => f rfl)) hd
    · exact nb_push hQ hd
  unfold bts
  rw [hn, dn, dn_push Q hd _ _ (Nat.le_refl _), show nb Q + 1 - 1 - nb Q = 0 by omega, byc_push0 Q hd]

/-- one more digit of the dividend -/
theorem pre_step {s : ByteArray} {i : Nat} (hi : i < s.size) : natv s / 256 ^ (s.size - (i + 1)) = 256 * (natv s / 256 ^ (s.size - i)) + byteAt s i := by
  have h1 := bdiv_step (natv s) (s.size - 1 - i)
  rw [byc_natv s (by omega), show s.size - 1 - (s.size - 1 - i) = i by omega, show s.size - 1 - i + 1 = s.size - i by omega] at h1
  rw [show s.size - (i + 1) = s.size - 1 - i by omega]
  omega
theorem div_digit {P B c : Nat} (hB : 0 < B) : (256 * P + c) / B = 256 * (P / B) + (256 * (P % B) + c) / B ∧ (256 * P + c) % B = (256 * (P % B) + c) % B := by
  have h := Nat.div_add_mod P B
  have e : 256 * P + c = B * (256 * (P / B)) + (256 * (P % B) + c) := by
    have : B * (256 * (P / B)) = 256 * (B * (P / B)) := by rw [Nat.mul_left_comm]
    omega
  rw [e, Nat.mul_add_div hB, Nat.mul_add_mod]
  exact ⟨rfl, rfl⟩
theorem digit_lt {P B c : Nat} (hB : 0 < B) (hc : c < 256) : (256 * (P % B) + c) / B < 256 := by
  have := Nat.mod_lt P hB
  refine (Nat.div_lt_iff_lt_mul hB).2 ?_
  omega
end Go.NatM

namespace Go.Proofs.YtgnciigjhpcdmaaGreatDoor
open Go Go.Fw Go.NatM
set_option maxRecDepth 100000
set_option maxHeartbeats 8000000

theorem own_keeps {base B' : Nat} {h h' : Array Obj} {e : TypeId} {sz : Nat} {v : Value} {m : Nat} {xs : List Value} (H : Own base h e sz v m xs) (hk : Keeps B' h h') (hB : h.size ≤ B') : Own base h' e sz v m xs := by
  obtain ⟨hl, H⟩ := H
  refine ⟨hl, ?_⟩
  rcases H with H | ⟨g, cap, cur, h1, h2, h3, h4⟩
  · exact .inl H
  · exact .inr ⟨g, cap, cur, h1, h2, hk.at h3 (Nat.lt_of_lt_of_le h3.lt hB), h4⟩

theorem rdivide_fn {h : Array Obj} {a b : ByteArray} (hb : Canon b) (hsa : a.size ≤ 1000) (hsb : b.size ≤ 1000) (hB : natv b ≠ 0) :
    FnV Tryz.prog 76 #[.string a, .string b] h fun r h' => r = .tuple #[.string (enc (natv a / natv b)), .string (enc (natv a % natv b))] ∧ Keeps h.size h h' := by
  obtain ⟨B, hBe⟩ : ∃ B, B = natv b := ⟨_, rfl⟩
  rw [← hBe] at hB ⊢
  obtain ⟨P, hP⟩ : ∃ P : Nat → Nat, P = fun i => natv a / 256 ^ (a.size - i) := ⟨_, rfl⟩
  have p0 : P 0 = 0 := by rw [hP]; exact Nat.div_eq_of_lt (natv_lt a)
  have pn : P a.size = natv a := by rw [hP]; simp
  have ps : ∀ i, i < a.size → P (i + 1) = 256 * P i + byteAt a i := fun i hi => by rw [hP]; exact pre_step hi
  have pb : ∀ i, nb (P i / B) ≤ a.size := fun i => by
    refine nb_le (Nat.lt_of_le_of_lt ?_ (natv_lt a))
    rw [hP]
    exact Nat.le_trans (Nat.div_le_self _ _) (Nat.div_le_self _ _)
  have hBp : 0 < B := by omega
  have hBn : nb B = b.size := by rw [hBe]; exact nb_natv hb
  have rb : ∀ i, nb (P i % B) ≤ b.size := fun i => by
    rw [← hBn]; exact nb_mono (Nat.le_of_lt (Nat.mod_lt _ hBp))
  rw [← pn]
  refine Fn.of (args := [.string a, .string b]) Tryz.func76 (by kernel_rfl) rfl Tryz.ntmps76 rfl fun w0 cs => ?_
  refine go_run tab 1000 _ _ ?_
  conv => whnf
  refine Runs.eff (eff_build tab [] (h1 := by simp)) ?_
  rintro _ _ ⟨rfl, rfl⟩
  try refine go_run tab 1000 _ _ ?_
  conv => whnf
  repeat (refine And.intro (by omega) ?_; conv => whnf)
  refine Runs.loop (X := Nat × Value) (fun q => [(0, .string a), (1, .string b), (6, q.2), (7, .string (enc (P q.1 % B))), (8, .int .i64 (q.1 : Nat))])
    (fun q h' => q.1 ≤ a.size ∧ Buf h.size h' q.2 (bts (P q.1 / B)) ∧ Keeps h.size h h') (fun q => a.size - q.1) (0, .slice (some ⟨h.size, 0, none⟩) 0 0)
    ⟨Nat.zero_le _, ?_, (Keeps.refl _ _).push (Nat.le_refl _) _⟩ ⟨rfl, rfl, rfl, by rw [p0, Nat.zero_mod]; rfl, rfl, trivial⟩ ?_
  · show Buf _ _ _ (bts (P 0 / B))
    rw [p0, Nat.zero_div]
    exact ⟨rfl, .inr ⟨h.size, 0, _, rfl, Nat.le_refl _, push_new _ _ _, Nat.zero_le _, by unfold maxLen; omega, by simp, by simp [bts_zero]⟩⟩
  rintro ⟨i, buf⟩ h' ⟨hi, hbuf, hkp⟩ ih
  dsimp only at hi hbuf ⊢
  try refine go_run tab 1000 _ _ ?_
  conv => whnf
  refine ⟨fun h1 => ?_, fun h1 => ?_⟩ <;> conv => whnf
  · have hi' : i < a.size := by omega
    have s1 : (enc (P i % B)).size ≤ 1000 := by rw [enc_size]; have := rb i; omega
    have s2 : (a.extract i (i + 1)).size = 1 := by rw [ByteArray.size_extract]; omega
    repeat (refine And.intro (by omega) ?_; conv => whnf)
    have hc := byteAt_lt a i
    have hpi := ps i hi'
    have hdd := div_digit (P := P i) (c := byteAt a i) hBp
    have hdl := digit_lt (P := P i) hBp hc
    rw [← hpi] at hdd
    obtain ⟨X, hX⟩ : ∃ X, X = 256 * (P i % B) + byteAt a i := ⟨_, rfl⟩
    rw [← hX] at hdd hdl
    have hpf := push_first (R := P i % B) hi'
    have hpz := push_zero hi'
    have hpe := push_enc (R := P i % B) hi'
    rw [← hX] at hpe
    have sX : nb X ≤ b.size + 1 := by
      have h1 := rb i
      have h2 := nb_lt (P i % B)
      refine nb_le (Nat.lt_of_lt_of_le (?_ : X < 256 ^ (nb (P i % B) + 1)) (Nat.pow_le_pow_right (by decide) (by omega)))
      rw [Nat.pow_succ]
      omega
    try refine go_run tab 1000 _ _ ?_
    conv => whnf
    rw [show (i : Int).toNat = i from rfl, show ((i : Int) + 1).toNat = i + 1 from rfl]
    repeat (refine And.intro (by omega) ?_; conv => whnf)
    try refine go_run tab 1000 _ _ ?_
    conv => whnf
    obtain ⟨s, hs⟩ : ∃ s, s = enc (P i % B) ++ a.extract i (i + 1) := ⟨_, rfl⟩
    have hs1 : s.size = (enc (P i % B)).size + 1 := by rw [hs, ByteArray.size_append, s2]
    rw [← hs] at hpf hpe ⊢
    have hps : P i % B = 0 ∧ byteAt a i = 0 → s.extract 1 s.size = enc X := fun hh => by
      rw [hs, hh.1, hpz, hX, hh.1, hh.2]
    repeat (refine And.intro (by omega) ?_; conv => whnf)
    conv => whnf
    refine ⟨fun h2 => ?_, fun h2 => ?_⟩ <;> conv => whnf
    all_goals first
      | (have h3 := hps (hpf.1 (by have : ((byteAt s (Int.toNat 0) : Nat) : Int) = 0 := h2
                                   exact Int.ofNat.inj this))
         refine And.intro (by omega) ?_; conv => whnf
         rw [show (1 : Int).toNat = 1 from rfl, h3])
      | (have h3 := hpe (by by_cases h4 : P i % B = 0
                            · refine .inr fun h5 => h2 ?_
                              have := hpf.2 ⟨h4, h5⟩
                              show ((byteAt s (Int.toNat 0) : Nat) : Int) = 0
                              rw [show Int.toNat 0 = 0 from rfl, this]; rfl
                            · exact .inl h4)
         rw [h3])
    all_goals try refine go_run tab 1000 _ _ ?_
    all_goals conv => whnf
    all_goals clear hpf hpe hpz hps h2 h3
    all_goals
      obtain ⟨ab, capb, rfl⟩ := Own.shape hbuf
      refine Runs.loop (X := Nat) (fun d => [(0, .string a), (1, .string b), (6, .slice ab (bts (P i / B)).length capb), (7, .string (enc (X - d * B))), (8, .int .i64 (i : Nat)), (9, .int .i64 (d : Nat))])
        (fun d h2 => d * B ≤ X ∧ Keeps h'.size h' h2) (fun d => X - d * B) 0 ⟨by omega, Keeps.refl _ _⟩ ⟨rfl, rfl, rfl, by rw [Nat.zero_mul]; rfl, rfl, rfl, trivial⟩ ?_
      rintro d h2 ⟨hd, hk2⟩ ih2
      have sY : nb (X - d * B) ≤ b.size + 1 := Nat.le_trans (nb_mono (Nat.sub_le _ _)) sX
      have hdB : d ≤ X / B := (Nat.le_div_iff_mul_le hBp).2 hd
      have e1 : (d + 1) * B = d * B + B := Nat.succ_mul d B
      try refine go_run tab 1000 _ _ ?_
      conv => whnf
      refine Runs.callV (rless_fn (canon_enc (X - d * B)) hb (by rw [enc_size]; omega) (by omega)) ?_
      rintro _ h2 ⟨rfl, rfl⟩
      rw [natv_enc, ← hBe]
      by_cases h4 : X - d * B < B
      · rw [decide_eq_true h4]
        try refine go_run tab 1000 _ _ ?_
        conv => whnf
        have hdX : X / B = d := (Nat.div_eq_of_lt_le (by omega) (by omega))
        have hmX : X % B = X - d * B := by
          have := Nat.div_add_mod X B
          rw [hdX, Nat.mul_comm] at this
          omega
        have hd256 : (d : Int) % 256 = d := by omega
        have sQ := pb i
        rw [← bts_len] at sQ
        have hB2 := own_keeps hbuf hk2 (Nat.le_refl _)
        have sz2 := hk2.size
        have szh := hkp.size
        have hnew : 0 < d ∨ ¬ bts (P i / B) = [] → bts (P (i + 1) / B) = bts (P i / B) ++ [d] := fun hh => by
          rw [hdd.1, hdX]
          refine bts_push (by omega) ?_
          rcases hh with hh | hh
          · exact .inr (by omega)
          · exact .inl fun e => hh (by rw [e]; rfl)
        refine ⟨fun h5 => ?_, fun h5 => ?_⟩ <;> conv => whnf
        rotate_left
        · conv => whnf
          refine ⟨fun h6 => ?_, fun h6 => ?_⟩ <;> conv => whnf
          rotate_left
          · have hq : bts (P i / B) = [] := List.eq_nil_of_length_eq_zero (by omega)
            have hd0 : d = 0 := by omega
            have hq0 : bts (P (i + 1) / B) = [] := by
              have : P i / B = 0 := by
                by_cases h7 : P i / B = 0
                · exact h7
                · have := nb_pos h7
                  rw [← bts_len, hq] at this
                  exact absurd this (by decide)
              rw [hdd.1, this, hdX, hd0]; rfl
            try refine go_run tab 1000 _ _ ?_
            conv => whnf
            repeat (refine And.intro (by omega) ?_; conv => whnf)
            refine ih (i + 1, _) _ _ ⟨by dsimp only; omega, ?_, hkp.trans (hk2.mono szh)⟩ (by dsimp only; omega) ⟨rfl, rfl, rfl, ?_, rfl, trivial⟩
            · show Buf _ _ _ (bts (P (i + 1) / B))
              rw [hq0, ← hq]
              exact hB2
            · show some (Value.string (enc (X - d * B))) = some (Value.string (enc (P (i + 1) % B)))
              rw [hdd.2, hmX]
          all_goals try refine go_run tab 1000 _ _ ?_
          all_goals conv => whnf
          all_goals replace hnew := hnew (.inr fun e => by rw [e] at h6; simp at h6)
          rw [hd256]
          refine Runs.eff (eff_build tab [.int .u8 (d : Nat)] (h1 := by simp [Value.cells])) ?_
          rintro _ _ ⟨rfl, rfl⟩
          try refine go_run tab 1000 _ _ ?_
          conv => whnf
          repeat (refine And.intro (by omega) ?_; conv => whnf)
          have hnews : ∀ j u, [Value.int .u8 (d : Nat)][j]? = some u → cellH (h2.push (.cells #[Value.int .u8 (d : Nat)] 5 (0, 0))) h2.size (0 + j) = some u := fun j u hu => by
            rw [(push_new _ _ _).cell, Nat.zero_add]
            cases j with
            | zero => simpa using hu
            | succ j => simp at hu
          refine Runs.eff (eff_append tab (base := h.size) (m := (bts (P i / B)).length) (m2 := 1) (news := [Value.int .u8 (d : Nat)]) (Own.push hB2 _) rfl hnews (by simp [Value.oneCell']) (h63 := by unfold maxLen; omega) (hbytes := by dsimp only; omega) (hbase := by simp; omega)) ?_
          rintro v' h4 ⟨H1, H2, H3, _⟩
          try refine go_run tab 1000 _ _ ?_
          conv => whnf
          repeat (refine And.intro (by omega) ?_; conv => whnf)
          refine ih (i + 1, v') _ _ ⟨by dsimp only; omega, ?_, ((hkp.trans (hk2.mono szh)).push (by omega) _).trans ((Own.push hB2 _).keeps (by simp; omega) H2 H3)⟩ (by dsimp only; omega) ⟨rfl, rfl, rfl, ?_, rfl, trivial⟩
          · show Buf _ _ _ (bts (P (i + 1) / B))
            rw [hnew]
            unfold Buf
            rw [List.length_append, List.map_append]
            exact H1
          · show some (Value.string (enc (X - d * B))) = some (Value.string (enc (P (i + 1) % B)))
            rw [hdd.2, hmX]
        · try refine go_run tab 1000 _ _ ?_
          conv => whnf
          replace hnew := hnew (.inl (by omega))
          rw [hd256]
          refine Runs.eff (eff_build tab [.int .u8 (d : Nat)] (h1 := by simp [Value.cells])) ?_
          rintro _ _ ⟨rfl, rfl⟩
          try refine go_run tab 1000 _ _ ?_
          conv => whnf
          repeat (refine And.intro (by omega) ?_; conv => whnf)
          have hnews : ∀ j u, [Value.int .u8 (d : Nat)][j]? = some u → cellH (h2.push (.cells #[Value.int .u8 (d : Nat)] 5 (0, 0))) h2.size (0 + j) = some u := fun j u hu => by
            rw [(push_new _ _ _).cell, Nat.zero_add]
            cases j with
            | zero => simpa using hu
            | succ j => simp at hu
          refine Runs.eff (eff_append tab (base := h.size) (m := (bts (P i / B)).length) (m2 := 1) (news := [Value.int .u8 (d : Nat)]) (Own.push hB2 _) rfl hnews (by simp [Value.oneCell']) (h63 := by unfold maxLen; omega) (hbytes := by dsimp only; omega) (hbase := by simp; omega)) ?_
          rintro v' h4 ⟨H1, H2, H3, _⟩
          try refine go_run tab 1000 _ _ ?_
          conv => whnf
          repeat (refine And.intro (by omega) ?_; conv => whnf)
          refine ih (i + 1, v') _ _ ⟨by dsimp only; omega, ?_, ((hkp.trans (hk2.mono szh)).push (by omega) _).trans ((Own.push hB2 _).keeps (by simp; omega) H2 H3)⟩ (by dsimp only; omega) ⟨rfl, rfl, rfl, ?_, rfl, trivial⟩
          · show Buf _ _ _ (bts (P (i + 1) / B))
            rw [hnew]
            unfold Buf
            rw [List.length_append, List.map_append]
            exact H1
          · show some (Value.string (enc (X - d * B))) = some (Value.string (enc (P (i + 1) % B)))
            rw [hdd.2, hmX]
      · rw [decide_eq_false h4]
        try refine go_run tab 1000 _ _ ?_
        conv => whnf
        refine Runs.callV (rminus_fn (canon_enc (X - d * B)) hb (by rw [enc_size]; omega) (by omega) (by rw [natv_enc, ← hBe]; omega)) ?_
        rintro _ h3 ⟨rfl, k3⟩
        rw [natv_enc, ← hBe]
        try refine go_run tab 1000 _ _ ?_
        conv => whnf
        repeat (refine And.intro (by omega) ?_; conv => whnf)
        refine ih2 (d + 1) _ _ ⟨by omega, hk2.trans (k3.mono hk2.size)⟩ (by omega) ⟨rfl, rfl, rfl, ?_, rfl, rfl, trivial⟩
        rw [e1, Nat.sub_add_eq]; rfl
  · have hin : i = a.size := by omega
    subst hin
    obtain ⟨ab, capb, rfl⟩ := Own.shape hbuf
    refine Runs.eff (eff_bufString tab (base := h.size) (ns := bts (P a.size / B)) hbuf) ?_
    rintro _ _ ⟨rfl, rfl⟩
    try refine go_run tab 1000 _ _ ?_
    conv => whnf
    refine Runs.ret Tryz.func76 rfl rfl ⟨_, rfl, ?_⟩
    exact ⟨rfl, hkp⟩

theorem rDiv_fn {h : Array Obj} (s t : ByteArray) : FnV Tryz.prog 51 #[.string s, .string t] h fun r h' => r = .tuple #[.string (divS s t).1, .string (divS s t).2.1, .int .i64 (divS s t).2.2] ∧ Keeps h.size h h' := by
  unfold divS
  refine Fn.of (args := [.string s, .string t]) Tryz.func51 (by kernel_rfl) rfl Tryz.ntmps51 rfl fun w0 cs => ?_
  refine go_run tab 1000 _ _ ?_
  conv => whnf
  refine Runs.callV (rboth_fn s t) ?_
  rintro _ h ⟨rfl, rfl⟩
  try refine go_run tab 1000 _ _ ?_
  conv => whnf
  refine ⟨fun hc => ?_, fun hc => ?_⟩ <;> conv => whnf
  · have c1 := chk_zero hc (s := s) (by simp)
    have c2 := chk_zero hc (s := t) (by simp)
    rw [if_pos hc]
    refine ⟨fun hz => ?_, fun hz => ?_⟩ <;> conv => whnf
    · refine Runs.ret Tryz.func51 rfl rfl ⟨_, rfl, ?_⟩
      rw [if_pos (size_mt.1 hz)]
      exact ⟨rfl, Keeps.refl _ _⟩
    · have hz' : t.size ≠ 0 := fun e => hz (size_mt.2 e)
      rw [if_neg hz']
      refine Runs.callV (rdivide_fn (a := s) c2.1 (by omega) (by omega) (natv_ne c2.1 hz')) ?_
      rintro _ h2 ⟨rfl, k2⟩
      try refine go_run tab 1000 _ _ ?_
      conv => whnf
      refine Runs.ret Tryz.func51 rfl rfl ⟨_, rfl, ?_⟩
      exact ⟨rfl, k2⟩
  · refine Runs.ret Tryz.func51 rfl rfl ⟨_, rfl, ?_⟩
    rw [if_neg hc]
    exact ⟨rfl, Keeps.refl _ _⟩

theorem rGcd_fn {h : Array Obj} (s t : ByteArray) : FnV Tryz.prog 50 #[.string s, .string t] h fun r h' => r = sev (gcdS s t) ∧ Keeps h.size h h' := by
  unfold gcdS
  refine Fn.of (args := [.string s, .string t]) Tryz.func50 (by kernel_rfl) rfl Tryz.ntmps50 rfl fun w0 cs => ?_
  refine go_run tab 1000 _ _ ?_
  conv => whnf
  refine Runs.callV (rboth_fn s t) ?_
  rintro _ h ⟨rfl, rfl⟩
  try refine go_run tab 1000 _ _ ?_
  conv => whnf
  refine ⟨fun hc => ?_, fun hc => ?_⟩ <;> conv => whnf
  · have c1 := chk_zero hc (s := s) (by simp)
    have c2 := chk_zero hc (s := t) (by simp)
    rw [if_pos hc]
    refine Runs.loop (X := ByteArray × ByteArray) (fun q => [(0, .string q.1), (1, .string q.2)])
      (fun q h' => Canon q.1 ∧ q.1.size ≤ 256 ∧ Canon q.2 ∧ q.2.size ≤ 256 ∧ Nat.gcd (natv q.1) (natv q.2) = Nat.gcd (natv s) (natv t) ∧ Keeps h.size h h') (fun q => natv q.2) (s, t)
      ⟨c1.1, c1.2, c2.1, c2.2, rfl, Keeps.refl _ _⟩ ⟨rfl, rfl, trivial⟩ ?_
    rintro ⟨a, b⟩ h' ⟨ha, hsa, hb, hsb, hg, hk⟩ ih
    dsimp only at ha hsa hb hsb hg ⊢
    try refine go_run tab 1000 _ _ ?_
    conv => whnf
    refine ⟨fun hz => ?_, fun hz => ?_⟩ <;> conv => whnf
    · try refine go_run tab 1000 _ _ ?_
      conv => whnf
      refine Runs.ret Tryz.func50 rfl rfl ⟨_, rfl, ?_⟩
      rw [hz, show natv NatM.mt = 0 from rfl, Nat.gcd_zero_right] at hg
      refine ⟨?_, hk⟩
      unfold sev
      rw [← hg, enc_natv ha]
      rfl
    · have hz' : b.size ≠ 0 := fun e => hz (size_mt.2 e)
      have hnz := natv_ne hb hz'
      refine Runs.callV (rdivide_fn (a := a) hb (by omega) (by omega) hnz) ?_
      rintro _ h2 ⟨rfl, k2⟩
      try refine go_run tab 1000 _ _ ?_
      conv => whnf
      have hlt := Nat.mod_lt (natv a) (Nat.pos_of_ne_zero hnz)
      refine ih (b, enc (natv a % natv b)) _ _ ⟨hb, hsb, canon_enc _, ?_, ?_, hk.trans (k2.mono hk.size)⟩ ?_ ⟨rfl, rfl, trivial⟩
      · dsimp only
        rw [enc_size]
        have := nb_mono (Nat.le_of_lt hlt)
        rw [nb_natv hb] at this
        omega
      · dsimp only
        rw [natv_enc, ← hg, Nat.gcd_comm (natv a) (natv b), Nat.gcd_rec (natv b) (natv a), Nat.gcd_comm]
      · dsimp only
        rw [natv_enc]; exact hlt
  · refine Runs.ret Tryz.func50 rfl rfl ⟨_, rfl, ?_⟩
    rw [if_neg hc]
    exact ⟨rfl, Keeps.refl _ _⟩

end Go.Proofs.YtgnciigjhpcdmaaGreatDoor

namespace Go.RatM
open Go Go.Fw Go.NatM

/-- a ratio: its sign, numerator and denominator -/
structure Q where
  neg : Bool
  n : Nat
  d : Nat

def sg (neg : Bool) (n : Nat) : Int := if neg = true then -(n : Int) else n
def Q.val (a : Q) : Rat := mkRat (sg a.neg a.n) a.d
/-- in lowest terms; no negative 0 -/
def Q.Ok (a : Q) : Prop := a.d ≠ 0 ∧ Nat.gcd a.n a.d = 1 ∧ (a.neg = true → a.n ≠ 0)
def low (neg : Bool) (n d : Nat) : Q := ⟨neg && !Nat.beq n 0, n / Nat.gcd n d, d / Nat.gcd n d⟩

theorem beq0 {n : Nat} (h : n ≠ 0) : Nat.beq n 0 = false := by cases n with
  | zero => exact absurd rfl h
  | succ n => rfl
theorem sg_abs (s : Bool) (n : Nat) : (sg s n).natAbs = n := by unfold sg; split <;> omega
theorem sg_zero (s : Bool) : sg s 0 = 0 := by unfold sg; split <;> rfl

theorem Q.val_eq {a : Q} (h : a.Ok) : a.val = ⟨sg a.neg a.n, a.d, h.1, by rw [sg_abs]; exact h.2.1⟩ := (Rat.mk_eq_mkRat _ _ h.1 (by rw [sg_abs]; exact h.2.1)).symm
theorem Q.num {a : Q} (h : a.Ok) : a.val.num = sg a.neg a.n := by rw [Q.val_eq h]
theorem Q.den {a : Q} (h : a.Ok) : a.val.den = a.d := by rw [Q.val_eq h]
theorem Q.inj {a b : Q} (ha : a.Ok) (hb : b.Ok) (h : a.val = b.val) : a = b := by
  have h1 : sg a.neg a.n = sg b.neg b.n := by rw [← Q.num ha, ← Q.num hb, h]
  have h2 : a.d = b.d := by rw [← Q.den ha, ← Q.den hb, h]
  have h3 : a.n = b.n := by rw [← sg_abs a.neg a.n, ← sg_abs b.neg b.n, h1]
  obtain ⟨s, n, d⟩ := a
  obtain ⟨s', n', d'⟩ := b
  obtain ⟨_, _, ha⟩ := ha
  obtain ⟨_, _, hb⟩ := hb
  simp only at h1 h2 h3 ha hb
  subst h2 h3
  have : s = s' := by
    cases s <;> cases s' <;> simp [sg] at h1 ha hb ⊢ <;> omega
  rw [this]

theorem low_ok (neg : Bool) (n : Nat) {d : Nat} (hd : d ≠ 0) : (low neg n d).Ok := by
  have hg : 0 < Nat.gcd n d := Nat.gcd_pos_of_pos_right _ (Nat.pos_of_ne_zero hd)
  refine ⟨?_, ?_, fun h => ?_⟩
  · show d / Nat.gcd n d ≠ 0
    exact Nat.ne_of_gt (Nat.div_pos (Nat.le_of_dvd (Nat.pos_of_ne_zero hd) (Nat.gcd_dvd_right _ _)) hg)
  · show Nat.gcd (n / Nat.gcd n d) (d / Nat.gcd n d) = 1
    rw [Nat.gcd_div (Nat.gcd_dvd_left _ _) (Nat.gcd_dvd_right _ _), Nat.div_self hg]
  · show n / Nat.gcd n d ≠ 0
    have hn : n ≠ 0 := by
      intro e; subst e
      simp [low] at h
    exact Nat.ne_of_gt (Nat.div_pos (Nat.le_of_dvd (Nat.pos_of_ne_zero hn) (Nat.gcd_dvd_left _ _)) hg)

theorem low_val (neg : Bool) (n : Nat) {d : Nat} (hd : d ≠ 0) : (low neg n d).val = mkRat (sg neg n) d := by
  have hg : 0 < Nat.gcd n d := Nat.gcd_pos_of_pos_right _ (Nat.pos_of_ne_zero hd)
  have e1 : Nat.gcd n d * (n / Nat.gcd n d) = n := Nat.mul_div_cancel' (Nat.gcd_dvd_left _ _)
  have e2 : Nat.gcd n d * (d / Nat.gcd n d) = d := Nat.mul_div_cancel' (Nat.gcd_dvd_right _ _)
  have hs : sg neg n = (Nat.gcd n d : Int) * sg (neg && !Nat.beq n 0) (n / Nat.gcd n d) := by
    by_cases hn : n = 0
    · subst hn; simp [sg_zero]
    · have hb : Nat.beq n 0 = false := beq0 hn
      rw [hb]
      cases neg <;> simp only [sg, Bool.not_false, Bool.and_true, if_true, if_false, Bool.false_eq_true]
      · rw [← Int.natCast_mul, e1]
      · rw [Int.mul_neg, ← Int.natCast_mul, e1]
  show mkRat (sg (neg && !Nat.beq n 0) (n / Nat.gcd n d)) (d / Nat.gcd n d) = mkRat (sg neg n) d
  rw [← Rat.mkRat_mul_left (Nat.ne_of_gt hg), ← hs, e2]

abbrev fits (V : Nat) : Prop := nb V ≤ 256

def addL (a b : Q) : Option Q :=
  if fits (a.n * b.d) ∧ fits (b.n * a.d) ∧ fits (a.d * b.d) then
    if a.neg = b.neg then
      if fits (a.n * b.d + b.n * a.d) then some (low a.neg (a.n * b.d + b.n * a.d) (a.d * b.d)) else none
    else if a.n * b.d < b.n * a.d then some (low b.neg (b.n * a.d - a.n * b.d) (a.d * b.d))
    else some (low a.neg (a.n * b.d - b.n * a.d) (a.d * b.d))
  else none

theorem addL_val {a b c : Q} (ha : a.d ≠ 0) (hb : b.d ≠ 0) (h : addL a b = some c) : c.Ok ∧ c.val = a.val + b.val := by
  have hd : a.d * b.d ≠ 0 := Nat.mul_ne_zero ha hb
  have key : ∀ s n, c = low s n (a.d * b.d) → sg s n = sg a.neg a.n * (b.d : Int) + sg b.neg b.n * (a.d : Int) → c.Ok ∧ c.val = a.val + b.val := by
    intro s n e hs
    subst e
    refine ⟨low_ok _ _ hd, ?_⟩
    rw [low_val _ _ hd]
    unfold Q.val
    rw [Rat.mkRat_add_mkRat _ _ ha hb, hs]
  unfold addL at h
  split at h
  · split at h
    · next hs =>
      split at h
      · refine key _ _ (Option.some.inj h).symm ?_
        rw [← hs]
        cases a.neg <;> simp only [sg, if_true, if_false, Bool.false_eq_true, Int.natCast_add, Int.natCast_mul] <;> grind
      · cases h
    · next hs =>
      split at h
      · next hlt =>
        refine key _ _ (Option.some.inj h).symm ?_
        have e : ((b.n * a.d - a.n * b.d : Nat) : Int) = (b.n : Int) * a.d - (a.n : Int) * b.d := by
          rw [Int.natCast_sub (Nat.le_of_lt hlt), Int.natCast_mul, Int.natCast_mul]
        cases hA : a.neg <;> cases hB : b.neg <;> simp [hA, hB] at hs <;> simp only [sg, if_true, if_false, Bool.false_eq_true, e] <;> grind
      · next hlt =>
        refine key _ _ (Option.some.inj h).symm ?_
        have e : ((a.n * b.d - b.n * a.d : Nat) : Int) = (a.n : Int) * b.d - (b.n : Int) * a.d := by
          rw [Int.natCast_sub (by omega), Int.natCast_mul, Int.natCast_mul]
        cases hA : a.neg <;> cases hB : b.neg <;> simp [hA, hB] at hs <;> simp only [sg, if_true, if_false, Bool.false_eq_true, e] <;> grind
  · cases h

/-- at most k bytes each -/
def Q.le (a : Q) (k : Nat) : Prop := nb a.n ≤ k ∧ nb a.d ≤ k

theorem low_le {neg : Bool} {n d k : Nat} (hn : nb n ≤ k) (hd : nb d ≤ k) : (low neg n d).le k :=
  ⟨Nat.le_trans (nb_mono (Nat.div_le_self _ _)) hn, Nat.le_trans (nb_mono (Nat.div_le_self _ _)) hd⟩

theorem addL_fit {a b : Q} {i j : Nat} (ha : a.le i) (hb : b.le j) (h : i + j < 256) : ∃ c, addL a b = some c ∧ c.le (i + j + 1) := by
  have h1 : nb (a.n * b.d) ≤ i + j := Nat.le_trans (nb_mul _ _) (Nat.add_le_add ha.1 hb.2)
  have h2 : nb (b.n * a.d) ≤ i + j := by have := nb_mul b.n a.d; have := ha.2; have := hb.1; omega
  have h3 : nb (a.d * b.d) ≤ i + j := Nat.le_trans (nb_mul _ _) (Nat.add_le_add ha.2 hb.2)
  have h4 : nb (a.n * b.d + b.n * a.d) ≤ i + j + 1 := by have := nb_add (a.n * b.d) (b.n * a.d); omega
  unfold addL
  rw [if_pos ⟨by omega, by omega, by omega⟩]
  split
  · rw [if_pos (by omega)]
    exact ⟨_, rfl, low_le h4 (by omega)⟩
  · split
    · exact ⟨_, rfl, low_le (Nat.le_trans (nb_mono (Nat.sub_le _ _)) (by omega)) (by omega)⟩
    · exact ⟨_, rfl, low_le (Nat.le_trans (nb_mono (Nat.sub_le _ _)) (by omega)) (by omega)⟩

def negQ (a : Q) : Q := ⟨!a.neg && !Nat.beq a.n 0, a.n, a.d⟩
theorem negQ_val (a : Q) : (negQ a).val = -a.val := by
  have hs : sg (!a.neg && !Nat.beq a.n 0) a.n = -sg a.neg a.n := by
    by_cases hn : a.n = 0
    · rw [hn]; simp [sg_zero]
    · have hb : Nat.beq a.n 0 = false := beq0 hn
      rw [hb]
      cases a.neg <;> simp [sg]
  show mkRat (sg (!a.neg && !Nat.beq a.n 0) a.n) a.d = _
  rw [hs, ← Rat.neg_mkRat]; rfl
theorem negQ_ok {a : Q} (h : a.Ok) : (negQ a).Ok := ⟨h.1, h.2.1, fun e => by
  simp only [negQ, Bool.and_eq_true, Bool.not_eq_true'] at e
  intro e2
  have e2 : a.n = 0 := e2
  rw [e2] at e
  simp at e⟩
theorem negQ_le {a : Q} {k : Nat} (h : a.le k) : (negQ a).le k := h

def mulL (a b : Q) : Option Q :=
  if fits (a.n * b.n) ∧ fits (a.d * b.d) then some (low (a.neg != b.neg) (a.n * b.n) (a.d * b.d)) else none
theorem mulL_val {a b c : Q} (ha : a.d ≠ 0) (hb : b.d ≠ 0) (h : mulL a b = some c) : c.Ok ∧ c.val = a.val * b.val := by
  have hd : a.d * b.d ≠ 0 := Nat.mul_ne_zero ha hb
  unfold mulL at h
  split at h
  · cases h
    refine ⟨low_ok _ _ hd, ?_⟩
    rw [low_val _ _ hd]
    unfold Q.val
    rw [Rat.mkRat_mul_mkRat]
    congr 1
    cases a.neg <;> cases b.neg <;> simp [sg, Int.neg_mul, Int.mul_neg]
  · cases h
theorem mulL_fit {a b : Q} {i j : Nat} (ha : a.le i) (hb : b.le j) (h : i + j ≤ 256) : ∃ c, mulL a b = some c ∧ c.le (i + j) := by
  have h1 : nb (a.n * b.n) ≤ i + j := Nat.le_trans (nb_mul _ _) (Nat.add_le_add ha.1 hb.1)
  have h3 : nb (a.d * b.d) ≤ i + j := Nat.le_trans (nb_mul _ _) (Nat.add_le_add ha.2 hb.2)
  unfold mulL
  rw [if_pos ⟨by omega, by omega⟩]
  exact ⟨_, rfl, low_le h1 h3⟩
def invQ (a : Q) : Q := ⟨a.neg, a.d, a.n⟩
theorem invQ_val {a : Q} (ha : a.d ≠ 0) (hn : a.n ≠ 0) : (invQ a).val = a.val⁻¹ := by
  have hv : a.val ≠ 0 := by
    intro e
    unfold Q.val at e
    rw [Rat.mkRat_eq_zero ha] at e
    have := sg_abs a.neg a.n
    rw [e] at this
    exact hn this.symm
  have h1 : (invQ a).val * a.val = 1 := by
    show mkRat (sg a.neg a.d) a.n * mkRat (sg a.neg a.n) a.d = 1
    rw [Rat.mkRat_mul_mkRat]
    have hs : sg a.neg a.d * sg a.neg a.n = ((a.n * a.d : Nat) : Int) := by
      cases a.neg <;> simp [sg, Int.neg_mul, Int.mul_neg, Int.mul_comm]
    rw [hs]
    have := Rat.mkRat_mul_left (n := 1) (d := 1) (a := a.n * a.d) (Nat.mul_ne_zero hn ha)
    rw [Int.mul_one, Nat.mul_one] at this
    rw [this]; rfl
  grind
theorem invQ_le {a : Q} {k : Nat} (h : a.le k) : (invQ a).le k := ⟨h.2, h.1⟩

/-- comparison -/
def cmpQ (a b : Q) : Int :=
  if a.neg = true ∧ ¬ b.neg = true then -1 else if ¬ a.neg = true ∧ b.neg = true then 1
  else if a.neg = true then cmpN (b.n * a.d) (a.n * b.d) else cmpN (a.n * b.d) (b.n * a.d)

theorem val_lt {a b : Q} (ha : a.Ok) (hb : b.Ok) : a.val < b.val ↔ sg a.neg a.n * (b.d : Int) < sg b.neg b.n * (a.d : Int) := by
  rw [Rat.lt_iff, Q.num ha, Q.num hb, Q.den ha, Q.den hb]

theorem cmpQ_lt {a b : Q} (ha : a.Ok) (hb : b.Ok) : (cmpQ a b = -1 ↔ a.val < b.val) ∧ (cmpQ a b = 1 ↔ b.val < a.val) ∧ (cmpQ a b = -1 ∨ cmpQ a b = 0 ∨ cmpQ a b = 1) := by
  rw [val_lt ha hb, val_lt hb ha]
  have pa : 0 < a.d := Nat.pos_of_ne_zero ha.1
  have pb : 0 < b.d := Nat.pos_of_ne_zero hb.1
  have na := ha.2.2
  have nb := hb.2.2
  unfold cmpQ cmpN
  cases hA : a.neg <;> cases hB : b.neg <;> simp only [hA, hB, sg, if_true, if_false, Bool.false_eq_true, not_false_eq_true, not_true_eq_false, and_true, and_false, true_and, false_and, forall_const, false_implies] at na nb ⊢
  · have e1 : (a.n : Int) * b.d = ((a.n * b.d : Nat) : Int) := (Int.natCast_mul _ _).symm
    have e2 : (b.n : Int) * a.d = ((b.n * a.d : Nat) : Int) := (Int.natCast_mul _ _).symm
    rw [e1, e2]
    split
    · omega
    · split <;> omega
  · have e1 : (0 : Int) ≤ (a.n : Int) * b.d := Int.mul_nonneg (by omega) (by omega)
    have e2 : (0 : Int) < (b.n : Int) * a.d := Int.mul_pos (by omega) (by omega)
    rw [Int.neg_mul]
    exact ⟨⟨fun h => by omega, fun h => by omega⟩, ⟨fun _ => by omega, fun _ => trivial⟩, .inr (.inr trivial)⟩
  · have e1 : (0 : Int) < (a.n : Int) * b.d := Int.mul_pos (by omega) (by omega)
    have e2 : (0 : Int) ≤ (b.n : Int) * a.d := Int.mul_nonneg (by omega) (by omega)
    rw [Int.neg_mul]
    exact ⟨⟨fun _ => by omega, fun _ => trivial⟩, ⟨fun h => by omega, fun h => by omega⟩, .inl trivial⟩
  · have e1 : (a.n : Int) * b.d = ((a.n * b.d : Nat) : Int) := (Int.natCast_mul _ _).symm
    have e2 : (b.n : Int) * a.d = ((b.n * a.d : Nat) : Int) := (Int.natCast_mul _ _).symm
    rw [Int.neg_mul, Int.neg_mul, e1, e2]
    split
    · omega
    · split <;> omega
end Go.RatM

namespace Go.RatM
open Go Go.Fw Go.NatM

structure Rt where
  neg : Bool
  n : ByteArray
  d : ByteArray
def Rt.v (a : Rt) : Value := .agg #[.bool a.neg, .string a.n, .string a.d]
def encQ (q : Q) : Rt := ⟨q.neg, enc q.n, enc q.d⟩
def decQ (a : Rt) : Q := ⟨a.neg, natv a.n, natv a.d⟩
def zr : Rt := ⟨false, NatM.mt, NatM.mt⟩
theorem dec_enc (q : Q) : decQ (encQ q) = q := by
  obtain ⟨s, n, d⟩ := q
  simp [decQ, encQ, natv_enc]

/-- the error of a ratio -/
def okR (a : Rt) : Prop := chk [a.n] = 0 ∧ chk [a.d] = 0 ∧ natv a.d ≠ 0 ∧ Nat.gcd (natv a.n) (natv a.d) = 1 ∧ ¬ (a.neg = true ∧ natv a.n = 0)
instance (a : Rt) : Decidable (okR a) := by unfold okR; infer_instance
def chkR (a : Rt) : Int := if okR a then 0 else 70
theorem chkR_zero {a : Rt} : chkR a = 0 ↔ okR a := by
  unfold chkR
  split
  · simp [*]
  · simp [*]
theorem okR_q {a : Rt} (h : okR a) : a = encQ (decQ a) ∧ (decQ a).Ok ∧ (decQ a).le 256 := by
  obtain ⟨h1, h2, h3, h4, h5⟩ := h
  have c1 := chk_zero h1 (s := a.n) (by simp)
  have c2 := chk_zero h2 (s := a.d) (by simp)
  refine ⟨?_, ⟨h3, h4, fun e1 e2 => h5 ⟨e1, e2⟩⟩, ?_, ?_⟩
  · obtain ⟨s, n, d⟩ := a
    simp only [encQ, decQ, enc_natv c1.1, enc_natv c2.1]
  · show nb (natv a.n) ≤ 256
    rw [nb_natv c1.1]; exact c1.2
  · show nb (natv a.d) ≤ 256
    rw [nb_natv c2.1]; exact c2.2
theorem okR_enc {q : Q} (h : q.Ok) (hl : q.le 256) : okR (encQ q) := by
  unfold okR
  simp only [encQ, natv_enc]
  exact ⟨chk_e1 hl.1, chk_e1 hl.2, h.1, h.2.1, fun ⟨e1, e2⟩ => h.2.2 e1 e2⟩
theorem okR_of {a : Rt} (h : okR a) : ∃ q, a = encQ q ∧ q.Ok ∧ q.le 256 := ⟨_, okR_q h⟩

def resR : Option Q → Rt × Int
  | some c => (encQ c, 0)
  | none => (zr, 2)
def opR (f : Q → Q → Option Q) (a b : Rt) : Rt × Int := if okR a ∧ okR b then resR (f (decQ a) (decQ b)) else (zr, 70)
def addR (a b : Rt) : Rt × Int := opR addL a b
def subL (a b : Q) : Option Q := addL a (negQ b)
def subR (a b : Rt) : Rt × Int := opR subL a b
def mulR (a b : Rt) : Rt × Int := opR mulL a b
def divR (a b : Rt) : Rt × Int := if okR a ∧ okR b then (if natv b.n = 0 then (zr, 71) else resR (mulL (decQ a) (invQ (decQ b)))) else (zr, 70)
def newQ (n d : Int) : Q := low (decide (n < 0) != decide (d < 0)) n.natAbs d.natAbs
def newR (n d : Int) : Rt × Int := if d = 0 then (zr, 71) else (encQ (newQ n d), 0)
def cmpR (a b : Rt) : Int × Int :=
  if okR a ∧ okR b then
    if fits ((decQ a).n * (decQ b).d) ∧ fits ((decQ b).n * (decQ a).d) then (cmpQ (decQ a) (decQ b), 0) else (0, 2)
  else (0, 70)
/-- the part over a whole number counts -/
def upQ (a : Q) (up : Bool) : Nat := if a.n % a.d ≠ 0 ∧ up ≠ a.neg then a.n / a.d + 1 else a.n / a.d
def wholeR (a : Rt) (up : Bool) : Int × Int :=
  if okR a then
    if (decQ a).n / (decQ a).d ≤ 4611686018427387904 ∧ upQ (decQ a) up ≤ 4611686018427387904 then (sg a.neg (upQ (decQ a) up), 0) else (0, 2)
  else (0, 70)
def sumF : List Rt → Rt → Rt × Int
  | [], r => (r, 0)
  | a :: l, r => if (addR r a).2 = 0 then sumF l (addR r a).1 else (zr, (addR r a).2)
def oneR : Rt := ⟨false, NatM.mt, enc 1⟩
def sumR (l : List Rt) : Rt × Int := if ∀ a ∈ l, okR a then sumF l oneR else (zr, 70)

section
variable {a b : Q} (ha : a.Ok) (hb : b.Ok) (la : a.le 256) (lb : b.le 256)
include ha hb la lb
theorem opR_e (f : Q → Q → Option Q) : opR f (encQ a) (encQ b) = resR (f a b) := by
  unfold opR
  rw [if_pos ⟨okR_enc ha la, okR_enc hb lb⟩, dec_enc, dec_enc]
theorem divR_e (hn : b.n ≠ 0) : divR (encQ a) (encQ b) = resR (mulL a (invQ b)) := by
  unfold divR
  rw [if_pos ⟨okR_enc ha la, okR_enc hb lb⟩, dec_enc, dec_enc, if_neg (by simp only [encQ, natv_enc]; exact hn)]
theorem divR_0 (hn : b.n = 0) : divR (encQ a) (encQ b) = (zr, 71) := by
  unfold divR
  rw [if_pos ⟨okR_enc ha la, okR_enc hb lb⟩, if_pos (by simp only [encQ, natv_enc]; exact hn)]
end
end Go.RatM

namespace Go.RatM
open Go Go.Fw Go.NatM

theorem Q.le.mono {a : Q} {i j : Nat} (h : a.le i) (hij : i ≤ j) : a.le j := ⟨Nat.le_trans h.1 hij, Nat.le_trans h.2 hij⟩
theorem encQ_inj {a b : Q} (h : encQ a = encQ b) : a = b := by rw [← dec_enc a, ← dec_enc b, h]

def zq : Q := ⟨false, 0, 1⟩
def oq : Q := ⟨false, 1, 1⟩
theorem zq_ok : zq.Ok := ⟨by decide, by decide, fun h => by cases h⟩
theorem oq_ok : oq.Ok := ⟨by decide, by decide, fun h => by cases h⟩
theorem zq_le : zq.le 1 := ⟨by decide, by decide⟩
theorem oq_le : oq.le 1 := ⟨by decide, by decide⟩
theorem zq_val : zq.val = 0 := by decide +kernel
theorem oq_val : oq.val = 1 := by decide +kernel
theorem val_zero {a : Q} (h : a.Ok) : a.val = 0 ↔ a = zq := ⟨fun e => Q.inj h zq_ok (by rw [e, zq_val]), fun e => by rw [e, zq_val]⟩
theorem n_zero {a : Q} (h : a.Ok) : a.n = 0 ↔ a = zq := by
  constructor
  · intro e
    refine (val_zero h).1 ?_
    unfold Q.val
    rw [e, sg_zero, Rat.mkRat_eq_zero h.1]
  · intro e; rw [e]; rfl

section
variable {a b : Q} {i j : Nat} (ha : a.Ok) (hb : b.Ok) (la : a.le i) (lb : b.le j)
include ha hb la lb
theorem addR_ok (h : i + j < 256) : ∃ c, addR (encQ a) (encQ b) = (encQ c, 0) ∧ c.Ok ∧ c.le (i + j + 1) ∧ c.val = a.val + b.val := by
  obtain ⟨c, e, hl⟩ := addL_fit la lb h
  have hv := addL_val ha.1 hb.1 e
  refine ⟨c, ?_, hv.1, hl, hv.2⟩
  unfold addR
  rw [opR_e ha hb (la.mono (by omega)) (lb.mono (by omega)), e]; rfl
theorem subR_ok (h : i + j < 256) : ∃ c, subR (encQ a) (encQ b) = (encQ c, 0) ∧ c.Ok ∧ c.le (i + j + 1) ∧ c.val = a.val - b.val := by
  obtain ⟨c, e, hl⟩ := addL_fit la (negQ_le lb) h
  have hv := addL_val ha.1 (negQ_ok hb).1 e
  refine ⟨c, ?_, hv.1, hl, ?_⟩
  · unfold subR
    rw [opR_e ha hb (la.mono (by omega)) (lb.mono (by omega)), subL, e]; rfl
  · rw [hv.2, negQ_val, Rat.sub_eq_add_neg]
theorem mulR_ok (h : i + j ≤ 256) : ∃ c, mulR (encQ a) (encQ b) = (encQ c, 0) ∧ c.Ok ∧ c.le (i + j) ∧ c.val = a.val * b.val := by
  obtain ⟨c, e, hl⟩ := mulL_fit la lb h
  have hv := mulL_val ha.1 hb.1 e
  refine ⟨c, ?_, hv.1, hl, hv.2⟩
  unfold mulR
  rw [opR_e ha hb (la.mono (by omega)) (lb.mono (by omega)), e]; rfl
theorem divR_ok (h : i + j ≤ 256) (hz : b ≠ zq) : ∃ c, divR (encQ a) (encQ b) = (encQ c, 0) ∧ c.Ok ∧ c.le (i + j) ∧ c.val = a.val * b.val⁻¹ := by
  have hn : b.n ≠ 0 := fun e => hz ((n_zero hb).1 e)
  obtain ⟨c, e, hl⟩ := mulL_fit la (invQ_le lb) h
  have hv := mulL_val (b := invQ b) ha.1 hn e
  refine ⟨c, ?_, hv.1, hl, ?_⟩
  · rw [divR_e ha hb (la.mono (by omega)) (lb.mono (by omega)) hn, e]; rfl
  · rw [hv.2, invQ_val hb.1 hn]
theorem divR_z (h : i + j ≤ 256) (hz : b = zq) : divR (encQ a) (encQ b) = (zr, 71) :=
  divR_0 ha hb (la.mono (by omega)) (lb.mono (by omega)) ((n_zero hb).2 hz)
theorem cmpR_ok (h : i + j ≤ 256) : cmpR (encQ a) (encQ b) = (cmpQ a b, 0) := by
  have h1 : fits (a.n * b.d) := Nat.le_trans (nb_mul _ _) (by have := la.1; have := lb.2; omega)
  have h2 : fits (b.n * a.d) := Nat.le_trans (nb_mul _ _) (by have := la.2; have := lb.1; omega)
  unfold cmpR
  rw [if_pos ⟨okR_enc ha (la.mono (by omega)), okR_enc hb (lb.mono (by omega))⟩, dec_enc, dec_enc, if_pos ⟨h1, h2⟩]
end

theorem newQ_ok {n d : Int} (hd : d ≠ 0) : (newQ n d).Ok := low_ok _ _ (by omega)
theorem newQ_val {n d : Int} (hd : d ≠ 0) : (newQ n d).val = (n : Rat) * (d : Rat)⁻¹ := by
  unfold newQ
  rw [low_val _ _ (by omega)]
  have h1 : sg (decide (n < 0) != decide (d < 0)) n.natAbs = if d < 0 then -n else n := by
    unfold sg
    by_cases hn : n < 0 <;> by_cases hd : d < 0 <;> simp [hn, hd] <;> omega
  rw [h1, Rat.mkRat_eq_div, Rat.div_def]
  split
  · next hneg =>
    have e : ((d.natAbs : Nat) : Rat) = -(d : Rat) := by
      have : ((d.natAbs : Nat) : Int) = -d := by omega
      rw [← Rat.intCast_natCast, this, Rat.intCast_neg]
    rw [e, Rat.intCast_neg]
    have hd' : (d : Rat) ≠ 0 := by
      intro e; exact hd (by exact_mod_cast e)
    grind
  · next hneg =>
    have e : ((d.natAbs : Nat) : Rat) = (d : Rat) := by
      have : ((d.natAbs : Nat) : Int) = d := by omega
      rw [← Rat.intCast_natCast, this]
    rw [e]
theorem newQ_le {n d : Int} {k : Nat} (hn : n.natAbs < 256 ^ k) (hd : d.natAbs < 256 ^ k) : (newQ n d).le k := low_le (nb_le hn) (nb_le hd)
theorem newR_ok {n d : Int} (hd : d ≠ 0) : newR n d = (encQ (newQ n d), 0) := by unfold newR; rw [if_neg hd]
end Go.RatM

namespace Go.RatM
open Go Go.Fw Go.NatM

theorem whole_ok {a : Q} (ha : a.Ok) (la : a.le 256) (up : Bool) :
    wholeR (encQ a) up = if a.n / a.d ≤ 4611686018427387904 ∧ upQ a up ≤ 4611686018427387904 then (sg a.neg (upQ a up), 0) else (0, 2) := by
  unfold wholeR
  rw [if_pos (okR_enc ha la), dec_enc]; rfl

/-- the floor of a ratio, if it is not too great -/
def flo (a : Q) : Int := sg a.neg (upQ a false)
def cei (a : Q) : Int := sg a.neg (upQ a true)

theorem flo_le {a : Q} (hd : a.d ≠ 0) : flo a * a.d ≤ sg a.neg a.n ∧ sg a.neg a.n < (flo a + 1) * a.d := by
  have h1 := Nat.div_add_mod a.n a.d
  have h2 := Nat.mod_lt a.n (Nat.pos_of_ne_zero hd)
  have h3 : (a.n : Int) = (a.d : Int) * ((a.n / a.d : Nat) : Int) + ((a.n % a.d : Nat) : Int) := by
    rw [← Int.natCast_mul, ← Int.natCast_add, h1]
  unfold flo upQ
  generalize a.n / a.d = k at h1 h3 ⊢
  generalize a.n % a.d = m at h1 h2 h3 ⊢
  cases hN : a.neg
  · rw [if_neg (by simp)]
    simp only [sg, Bool.false_eq_true, if_false]
    rw [h3, Int.add_mul, Int.mul_comm (k : Int)]
    omega
  · by_cases hm : m = 0
    · rw [if_neg (by simp [hm])]
      simp only [sg, if_true]
      rw [h3, Int.add_mul, Int.neg_mul, Int.mul_comm (k : Int)]
      omega
    · rw [if_pos ⟨hm, by simp⟩]
      simp only [sg, if_true]
      have e1 : -((k + 1 : Nat) : Int) * (a.d : Int) = -((a.d : Int) * k) - a.d := by grind
      have e2 : (-((k + 1 : Nat) : Int) + 1) * (a.d : Int) = -((a.d : Int) * k) := by grind
      rw [e1, e2, h3]
      omega

theorem cei_flo (a : Q) : cei a = if a.n % a.d = 0 then flo a else flo a + 1 := by
  unfold cei flo upQ
  by_cases hm : a.n % a.d = 0
  · simp [hm]
  · cases hN : a.neg <;> simp [hm, sg]
    omega

theorem negQ_up {a : Q} : upQ (negQ a) true = upQ a false ∧ upQ (negQ a) false = upQ a true := by
  unfold upQ
  show (if a.n % a.d ≠ 0 ∧ true ≠ (!a.neg && !Nat.beq a.n 0) then a.n / a.d + 1 else a.n / a.d) = _ ∧ (if a.n % a.d ≠ 0 ∧ false ≠ (!a.neg && !Nat.beq a.n 0) then a.n / a.d + 1 else a.n / a.d) = _
  by_cases hn : a.n = 0
  · simp [hn]
  · rw [beq0 hn]
    cases a.neg <;> simp
theorem negQ_sg {a : Q} (up : Bool) : sg (negQ a).neg (upQ a up) = -sg a.neg (upQ a up) := by
  show sg (!a.neg && !Nat.beq a.n 0) _ = _
  by_cases hn : a.n = 0
  · have : upQ a up = 0 := by unfold upQ; simp [hn]
    rw [this, sg_zero, sg_zero]; rfl
  · rw [beq0 hn]
    cases a.neg <;> simp [sg]

theorem ceil_neg {a : Q} (ha : a.Ok) (la : a.le 256) : wholeR (encQ (negQ a)) true = (-(wholeR (encQ a) false).1, (wholeR (encQ a) false).2) := by
  rw [whole_ok ha la, whole_ok (negQ_ok ha) (negQ_le la), negQ_up.1, negQ_sg]
  by_cases h : a.n / a.d ≤ 4611686018427387904 ∧ upQ a false ≤ 4611686018427387904
  · rw [if_pos h]
    exact if_pos h
  · rw [if_neg h]
    exact if_neg h

theorem newQ_one (F : Int) : newQ F 1 = ⟨decide (F < 0), F.natAbs, 1⟩ := by
  unfold newQ low
  have : ∀ k : Nat, Nat.gcd k 1 = 1 := fun k => Nat.gcd_one_right k
  simp only [show (1 : Int).natAbs = 1 from rfl, this, Nat.div_one]
  have e : ((decide (F < 0) != decide ((1 : Int) < 0)) && !Nat.beq F.natAbs 0) = decide (F < 0) := by
    by_cases h : F < 0
    · have : F.natAbs ≠ 0 := by omega
      simp [h, beq0 this]
    · simp [h]
  rw [e]
theorem sg_one (F : Int) : sg (decide (F < 0)) F.natAbs = F := by
  unfold sg
  by_cases h : F < 0 <;> simp [h] <;> omega
theorem newQ_int (F : Int) : (newQ F 1).val = (F : Rat) := by rw [newQ_val (by decide)]; grind

/-- an integer against a ratio -/
theorem cmp_int {a : Q} (ha : a.Ok) (F : Int) : (cmpQ (newQ F 1) a ≤ 0 ↔ F * a.d ≤ sg a.neg a.n) ∧ (cmpQ a (newQ F 1) < 0 ↔ sg a.neg a.n < F * a.d) := by
  have hx : (newQ F 1).Ok := newQ_ok (by decide)
  have h1 := cmpQ_lt hx ha
  have h2 := cmpQ_lt ha hx
  rw [val_lt hx ha, val_lt ha hx] at h1
  rw [val_lt hx ha, val_lt ha hx] at h2
  have e1 : sg (newQ F 1).neg (newQ F 1).n = F := by rw [newQ_one]; exact sg_one F
  have e2 : ((newQ F 1).d : Int) = 1 := by rw [newQ_one]; rfl
  rw [e1, e2, Int.mul_one] at h1 h2
  omega

/-- the parts of a quotient -/
theorem low_div (s : Bool) (N : Nat) {D : Nat} (hD : D ≠ 0) : (low s N D).n / (low s N D).d = N / D ∧ ((low s N D).n % (low s N D).d = 0 ↔ N % D = 0) := by
  have hg : 0 < Nat.gcd N D := Nat.gcd_pos_of_pos_right _ (Nat.pos_of_ne_zero hD)
  have e1 : Nat.gcd N D * (N / Nat.gcd N D) = N := Nat.mul_div_cancel' (Nat.gcd_dvd_left _ _)
  have e2 : Nat.gcd N D * (D / Nat.gcd N D) = D := Nat.mul_div_cancel' (Nat.gcd_dvd_right _ _)
  show N / Nat.gcd N D / (D / Nat.gcd N D) = N / D ∧ (N / Nat.gcd N D % (D / Nat.gcd N D) = 0 ↔ N % D = 0)
  generalize Nat.gcd N D = g at hg e1 e2 ⊢
  generalize N / g = N' at e1 ⊢
  generalize D / g = D' at e2 ⊢
  subst e1 e2
  refine ⟨(Nat.mul_div_mul_left _ _ hg).symm, ?_⟩
  rw [Nat.mul_mod_mul_left]
  constructor
  · intro h; rw [h, Nat.mul_zero]
  · intro h
    rcases Nat.mul_eq_zero.1 h with h | h
    · omega
    · exact h

theorem flo_new {m n : Int} (hn : n ≠ 0) : flo (newQ m n) * n.natAbs ≤ (if n < 0 then -m else m) ∧ (if n < 0 then -m else m) < (flo (newQ m n) + 1) * n.natAbs := by
  have hok := newQ_ok (n := m) hn
  have h := flo_le hok.1
  have hv : sg (decide (m < 0) != decide (n < 0)) m.natAbs = if n < 0 then -m else m := by
    unfold sg
    by_cases hm : m < 0 <;> by_cases hd : n < 0 <;> simp [hm, hd] <;> omega
  have hD : n.natAbs ≠ 0 := by omega
  have hg : 0 < Nat.gcd m.natAbs n.natAbs := Nat.gcd_pos_of_pos_right _ (by omega)
  have e1 : Nat.gcd m.natAbs n.natAbs * (m.natAbs / Nat.gcd m.natAbs n.natAbs) = m.natAbs := Nat.mul_div_cancel' (Nat.gcd_dvd_left _ _)
  have e2 : Nat.gcd m.natAbs n.natAbs * (n.natAbs / Nat.gcd m.natAbs n.natAbs) = n.natAbs := Nat.mul_div_cancel' (Nat.gcd_dvd_right _ _)
  have hs : (if n < 0 then -m else m) = (Nat.gcd m.natAbs n.natAbs : Int) * sg (newQ m n).neg (newQ m n).n := by
    rw [← hv]
    show _ = _ * sg ((decide (m < 0) != decide (n < 0)) && !Nat.beq m.natAbs 0) (m.natAbs / Nat.gcd m.natAbs n.natAbs)
    by_cases hm : m.natAbs = 0
    · rw [hm, sg_zero, Nat.zero_div, sg_zero, Int.mul_zero]
    · rw [beq0 hm, Bool.not_false, Bool.and_true]
      unfold sg
      split
      · rw [Int.mul_neg, ← Int.natCast_mul, e1]
      · rw [← Int.natCast_mul, e1]
  have hd : ((newQ m n).d : Int) = ((n.natAbs / Nat.gcd m.natAbs n.natAbs : Nat) : Int) := rfl
  rw [hd] at h
  have e3 : (n.natAbs : Int) = (Nat.gcd m.natAbs n.natAbs : Int) * ((n.natAbs / Nat.gcd m.natAbs n.natAbs : Nat) : Int) := by rw [← Int.natCast_mul, e2]
  rw [hs, e3]
  generalize flo (newQ m n) = f at h ⊢
  generalize sg (newQ m n).neg (newQ m n).n = x at h ⊢
  generalize ((n.natAbs / Nat.gcd m.natAbs n.natAbs : Nat) : Int) = d at h ⊢
  have hg' : (0 : Int) < (Nat.gcd m.natAbs n.natAbs : Int) := by omega
  generalize (Nat.gcd m.natAbs n.natAbs : Int) = g at hg' ⊢
  constructor
  · have := Int.mul_le_mul_of_nonneg_left h.1 (Int.le_of_lt hg')
    rw [Int.mul_left_comm]; exact this
  · have := Int.mul_lt_mul_of_pos_left h.2 hg'
    rw [Int.mul_left_comm]; exact this
theorem cei_new {m n : Int} (hn : n ≠ 0) : cei (newQ m n) = if m.natAbs % n.natAbs = 0 then flo (newQ m n) else flo (newQ m n) + 1 := by
  rw [cei_flo]
  have h : (newQ m n).n % (newQ m n).d = 0 ↔ m.natAbs % n.natAbs = 0 := (low_div (decide (m < 0) != decide (n < 0)) m.natAbs (D := n.natAbs) (by omega)).2
  by_cases h1 : m.natAbs % n.natAbs = 0
  · rw [if_pos h1, if_pos (h.2 h1)]
  · rw [if_neg h1, if_neg (fun e => h1 (h.1 e))]
theorem up_new {m n : Int} (hn : n ≠ 0) (up : Bool) : upQ (newQ m n) up ≤ m.natAbs + 1 ∧ (newQ m n).n / (newQ m n).d ≤ m.natAbs := by
  have h := (low_div (decide (m < 0) != decide (n < 0)) m.natAbs (D := n.natAbs) (by omega)).1
  have h2 : (newQ m n).n / (newQ m n).d = m.natAbs / n.natAbs := h
  have h3 : m.natAbs / n.natAbs ≤ m.natAbs := Nat.div_le_self _ _
  unfold upQ
  rw [h2]
  split <;> omega
end Go.RatM

namespace Go.RatM
open Go Go.Fw Go.NatM

def lowQ (q : Q) : Q := low q.neg q.n q.d
def addP (a b : Q) : Option Q :=
  if fits (a.n * b.d) ∧ fits (b.n * a.d) then
    if fits (a.d * b.d) then
      if a.neg = b.neg then
        if fits (a.n * b.d + b.n * a.d) then some ⟨a.neg, a.n * b.d + b.n * a.d, a.d * b.d⟩ else none
      else if a.n * b.d < b.n * a.d then some ⟨b.neg, b.n * a.d - a.n * b.d, a.d * b.d⟩
      else some ⟨a.neg, a.n * b.d - b.n * a.d, a.d * b.d⟩
    else none
  else none
theorem addL_map (a b : Q) : addL a b = (addP a b).map lowQ := by
  unfold addL addP
  by_cases h1 : fits (a.n * b.d) ∧ fits (b.n * a.d)
  · by_cases h2 : fits (a.d * b.d)
    · rw [if_pos ⟨h1.1, h1.2, h2⟩, if_pos h1, if_pos h2]
      split
      · split <;> rfl
      · split <;> rfl
    · rw [if_neg (fun h => h2 h.2.2), if_pos h1, if_neg h2]; rfl
  · rw [if_neg (fun h => h1 ⟨h.1, h.2.1⟩), if_neg h1]; rfl
def mulP (a b : Q) : Option Q := if fits (a.n * b.n) then if fits (a.d * b.d) then some ⟨a.neg != b.neg, a.n * b.n, a.d * b.d⟩ else none else none
theorem mulL_map (a b : Q) : mulL a b = (mulP a b).map lowQ := by
  unfold mulL mulP
  by_cases h1 : fits (a.n * b.n)
  · by_cases h2 : fits (a.d * b.d)
    · rw [if_pos ⟨h1, h2⟩, if_pos h1, if_pos h2]; rfl
    · rw [if_neg (fun h => h2 h.2), if_pos h1, if_neg h2]; rfl
  · rw [if_neg (fun h => h1 h.1), if_neg h1]; rfl
theorem addP_d {a b c : Q} (h : addP a b = some c) : c.d = a.d * b.d ∧ fits c.n ∧ fits c.d := by
  unfold addP at h
  split at h
  · next hf =>
    split at h
    · next hd =>
      split at h
      · split at h
        · next hs => cases h; exact ⟨rfl, hs, hd⟩
        · cases h
      · split at h
        · cases h; exact ⟨rfl, Nat.le_trans (nb_mono (Nat.sub_le _ _)) hf.2, hd⟩
        · cases h; exact ⟨rfl, Nat.le_trans (nb_mono (Nat.sub_le _ _)) hf.1, hd⟩
    · cases h
  · cases h
theorem mulP_d {a b c : Q} (h : mulP a b = some c) : c.d = a.d * b.d ∧ fits c.n ∧ fits c.d := by
  unfold mulP at h
  split at h
  · next h1 =>
    split at h
    · next h2 => cases h; exact ⟨rfl, h1, h2⟩
    · cases h
  · cases h
end Go.RatM

namespace Go.Proofs.YtgnciigjhpcdmaaGreatDoor
open Go Go.Fw Go.NatM Go.RatM
set_option maxRecDepth 100000
set_option maxHeartbeats 8000000

/-- the panic that ends a calculation -/
def lim : List PanicEntry := [{ v := .iface 60 (.agg #[.int .i64 2]), recovered := false }]

/-- a struct of a bool and two strings, built -/
theorem built_number (b : Bool) (s u : ByteArray) : (Tryz.prog).built 52 [(0, .bool b), (1, .string s), (2, .string u)] = some #[.bool b, .string s, .string u] := by rfl
theorem built_ratio (b : Bool) (s u : ByteArray) : (Tryz.prog).built 31 [(0, .bool b), (1, .string s), (2, .string u)] = some #[.bool b, .string s, .string u] := by rfl
theorem built_failure (e : Int) : (Tryz.prog).built 60 [(0, .int .i64 e)] = some #[.int .i64 e] := by rfl

theorem must_ok {h : Array Obj} (s : ByteArray) : FnO Tryz.prog lim 42 #[.string s, .int .i64 0] h (some (.string s)) := by
  refine Fn.of (args := [.string s, .int .i64 0]) Tryz.func42 (by kernel_rfl) rfl Tryz.ntmps42 rfl fun w0 cs => ?_
  refine go_run tab 1000 _ _ ?_
  conv => whnf
  refine And.intro (fun _ => ?_) (fun hn => absurd (rfl) hn)
  conv => whnf
  try refine go_run tab 1000 _ _ ?_
  conv => whnf
  refine Runs.ret Tryz.func42 rfl rfl ⟨rfl, ?_⟩
  exact Keeps.refl _ _
theorem must_no {h : Array Obj} (s : ByteArray) : FnO Tryz.prog lim 42 #[.string s, .int .i64 2] h none := by
  refine Fn.of (args := [.string s, .int .i64 2]) Tryz.func42 (by kernel_rfl) rfl Tryz.ntmps42 rfl fun w0 cs => ?_
  refine go_run tab 1000 _ _ ?_
  conv => whnf
  refine And.intro (fun hp => absurd hp (by decide)) (fun _ => ?_)
  conv => whnf
  refine Runs.eff (eff_buildA (built_failure 2)) ?_
  rintro _ _ ⟨rfl, rfl⟩
  try refine go_run tab 1000 _ _ ?_
  conv => whnf
  refine Runs.panicU (t := 60) (v := .agg #[.int .i64 2]) ?_
  exact Unw.fail Tryz.func42 (Keeps.refl _ _)
theorem reason_fn {h : Array Obj} : FnV Tryz.prog 34 #[.iface 60 (.agg #[.int .i64 2])] h fun r h' => r = .int .i64 2 ∧ Keeps h.size h h' := by
  refine Fn.of (args := [.iface 60 (.agg #[.int .i64 2])]) Tryz.func34 (by kernel_rfl) rfl Tryz.ntmps34 rfl fun w0 cs => ?_
  refine go_run tab 1000 _ _ ?_
  conv => whnf
  refine Runs.eff (eff_assert Tryz.underlying60 (by simp)) ?_
  rintro _ _ ⟨rfl, rfl⟩
  try refine go_run tab 1000 _ _ ?_
  conv => whnf
  refine Runs.eff (eff_allocN tab) ?_
  rintro _ h1 ⟨rfl, N1⟩
  try refine go_run tab 1000 _ _ ?_
  conv => whnf
  refine Runs.eff (eff_storeS tab N1.blk) ?_
  rintro _ h2 P2
  try refine go_run tab 1000 _ _ ?_
  conv => whnf
  refine ⟨_, (by rw [P2.blk.cell]; rfl), ?_⟩
  conv => whnf
  refine Runs.ret Tryz.func34 rfl rfl ⟨_, rfl, ?_⟩
  exact ⟨rfl, N1.keeps.trans P2.keeps⟩

theorem sign_fn {h : Array Obj} {A C : Nat} (hA : fits A) (hC : fits C) : FnV Tryz.prog 93 #[.string (enc A), .string (enc C)] h fun r h' => r = .int .i64 (cmpN A C) ∧ Keeps h.size h h' := by
  refine Fn.of (args := [.string (enc A), .string (enc C)]) Tryz.func93 (by kernel_rfl) rfl Tryz.ntmps93 rfl fun w0 cs => ?_
  refine go_run tab 1000 _ _ ?_
  conv => whnf
  refine Runs.callV (Compare_fn (enc A) (enc C)) ?_
  rintro _ h1 ⟨rfl, k1⟩
  rw [cmp_e hA hC]
  try refine go_run tab 1000 _ _ ?_
  conv => whnf
  refine Runs.callS (must_ok NatM.mt) ?_
  rintro h2 k2
  try refine go_run tab 1000 _ _ ?_
  conv => whnf
  refine Runs.ret Tryz.func93 rfl rfl ⟨_, rfl, ?_⟩
  exact ⟨rfl, k1.trans (k2.mono k1.size)⟩

def nv (q : Q) : Value := (encQ q).v
theorem negative_fn {h : Array Obj} (q : Q) : FnV Tryz.prog 71 #[nv q] h fun r h' => r = nv (negQ q) ∧ Keeps h.size h h' := by
  obtain ⟨s, n, d⟩ := q
  refine Fn.of (args := [.agg #[.bool s, .string (enc n), .string (enc d)]]) Tryz.func71 (by kernel_rfl) rfl Tryz.ntmps71 rfl fun w0 cs => ?_
  refine go_run tab 1000 _ _ ?_
  conv => whnf
  refine Runs.eff (eff_boxN rfl) ?_
  rintro _ h1 ⟨rfl, N1⟩
  try refine go_run tab 1000 _ _ ?_
  conv => whnf
  refine Runs.eff (eff_allocN tab) ?_
  rintro _ h2 ⟨rfl, N2⟩
  try refine go_run tab 1000 _ _ ?_
  conv => whnf
  have A1 := N2.at N1.blk
  have k2 := N1.keeps.trans (N2.keeps.mono (by rw [N1.size]; omega))
  have c0 : cellH h2 h.size 0 = some (.bool s) := by rw [A1.cell]; rfl
  have c1 : cellH h2 h.size (0 + 1) = some (.string (enc n)) := by rw [A1.cell]; rfl
  have c2 : cellH h2 h.size (0 + 2) = some (.string (enc d)) := by rw [A1.cell]; rfl
  refine ⟨_, c0, ?_⟩
  conv => whnf
  have fin : ∀ b : Bool, b = (!s && !Nat.beq n 0) → ∀ h3, Put h2 h3 h1.size #[.bool b, .string (enc n), .string (enc d)] 52 →
      ∃ v, Ending.returned (tup [Value.agg #[.bool b, .string (enc n), .string (enc d)]]) = Ending.returned v ∧ v = nv (negQ ⟨s, n, d⟩) ∧ Keeps h.size h h3 := fun b hb h3 P3 => by
    subst hb
    exact ⟨_, rfl, rfl, k2.trans (P3.keeps.mono (by rw [N1.size]; omega))⟩
  cases s
  · refine ⟨_, c1, ?_⟩
    conv => whnf
    refine ⟨_, c1, ?_⟩
    conv => whnf
    refine ⟨_, c2, ?_⟩
    conv => whnf
    refine Runs.eff (eff_buildA (built_number _ _ _)) ?_
    rintro _ _ ⟨rfl, rfl⟩
    try refine go_run tab 1000 _ _ ?_
    conv => whnf
    refine Runs.eff (eff_storeS tab N2.blk) ?_
    rintro _ h3 P3
    try refine go_run tab 1000 _ _ ?_
    conv => whnf
    refine Runs.retA tab Tryz.func71 (vs := [.agg #[.bool (!decide (enc n = NatM.mt)), .string (enc n), .string (enc d)]]) (⟨⟨_, _, rfl, .inr ⟨_, _, rfl, rfl, rfl, cellsH_of_at P3.blk, rfl⟩⟩, trivial⟩) ?_
    refine fin _ ?_ h3 P3
    by_cases hz : n = 0
    · subst hz; rfl
    · rw [beq0 hz, decide_eq_false (fun e => hz (enc_mt.1 e))]; rfl
  · conv => whnf
    refine ⟨_, c1, ?_⟩
    conv => whnf
    refine ⟨_, c2, ?_⟩
    conv => whnf
    refine Runs.eff (eff_buildA (built_number _ _ _)) ?_
    rintro _ _ ⟨rfl, rfl⟩
    try refine go_run tab 1000 _ _ ?_
    conv => whnf
    refine Runs.eff (eff_storeS tab N2.blk) ?_
    rintro _ h3 P3
    try refine go_run tab 1000 _ _ ?_
    conv => whnf
    refine Runs.retA tab Tryz.func71 (vs := [.agg #[.bool false, .string (enc n), .string (enc d)]]) (⟨⟨_, _, rfl, .inr ⟨_, _, rfl, rfl, rfl, cellsH_of_at P3.blk, rfl⟩⟩, trivial⟩) ?_
    exact fin false rfl h3 P3

theorem inverse_fn {h : Array Obj} (q : Q) : FnV Tryz.prog 75 #[nv q] h fun r h' => r = nv (invQ q) ∧ Keeps h.size h h' := by
  obtain ⟨s, n, d⟩ := q
  refine Fn.of (args := [.agg #[.bool s, .string (enc n), .string (enc d)]]) Tryz.func75 (by kernel_rfl) rfl Tryz.ntmps75 rfl fun w0 cs => ?_
  refine go_run tab 1000 _ _ ?_
  conv => whnf
  refine Runs.eff (eff_boxN rfl) ?_
  rintro _ h1 ⟨rfl, N1⟩
  try refine go_run tab 1000 _ _ ?_
  conv => whnf
  refine Runs.eff (eff_allocN tab) ?_
  rintro _ h2 ⟨rfl, N2⟩
  try refine go_run tab 1000 _ _ ?_
  conv => whnf
  have A1 := N2.at N1.blk
  have k2 := N1.keeps.trans (N2.keeps.mono (by rw [N1.size]; omega))
  have c0 : cellH h2 h.size 0 = some (.bool s) := by rw [A1.cell]; rfl
  have c1 : cellH h2 h.size (0 + 1) = some (.string (enc n)) := by rw [A1.cell]; rfl
  have c2 : cellH h2 h.size (0 + 2) = some (.string (enc d)) := by rw [A1.cell]; rfl
  refine ⟨_, c0, ?_⟩
  conv => whnf
  refine ⟨_, c2, ?_⟩
  conv => whnf
  refine ⟨_, c1, ?_⟩
  conv => whnf
  refine Runs.eff (eff_buildA (built_number _ _ _)) ?_
  rintro _ _ ⟨rfl, rfl⟩
  try refine go_run tab 1000 _ _ ?_
  conv => whnf
  refine Runs.eff (eff_storeS tab N2.blk) ?_
  rintro _ h3 P3
  try refine go_run tab 1000 _ _ ?_
  conv => whnf
  refine Runs.retA tab Tryz.func75 (vs := [.agg #[.bool s, .string (enc d), .string (enc n)]]) (⟨⟨_, _, rfl, .inr ⟨_, _, rfl, rfl, rfl, cellsH_of_at P3.blk, rfl⟩⟩, trivial⟩) ?_
  exact ⟨_, rfl, rfl, k2.trans (P3.keeps.mono (by rw [N1.size]; omega))⟩

theorem lowest_fn {h : Array Obj} (q : Q) (hd : q.d ≠ 0) (f1 : nb q.n ≤ 256) (f2 : nb q.d ≤ 256) (hT : TabH h) : FnV Tryz.prog 36 #[nv q] h fun r h' => r = nv (lowQ q) ∧ Keeps h.size h h' := by
  obtain ⟨s, n, d⟩ := q
  dsimp only at hd f1 f2
  refine Fn.of (args := [.agg #[.bool s, .string (enc n), .string (enc d)]]) Tryz.func36 (by kernel_rfl) rfl Tryz.ntmps36 rfl fun w0 cs => ?_
  refine go_run tab 1000 _ _ ?_
  conv => whnf
  refine Runs.eff (eff_boxN rfl) ?_
  rintro _ h1 ⟨rfl, N1⟩
  try refine go_run tab 1000 _ _ ?_
  conv => whnf
  refine Runs.eff (eff_allocN tab) ?_
  rintro _ h2 ⟨rfl, N2⟩
  try refine go_run tab 1000 _ _ ?_
  conv => whnf
  have A1 := N2.at N1.blk
  have s1 := N1.size
  have s2 := N2.size
  have k2 := N1.keeps.trans (N2.keeps.mono (by omega))
  have cc : ∀ h', Keeps h2.size h2 h' → cellH h' h.size 0 = some (.bool s) ∧ cellH h' h.size (0 + 1) = some (.string (enc n)) ∧ cellH h' h.size (0 + 2) = some (.string (enc d)) := fun h' hk => by
    have A2 := hk.at A1 A1.lt
    exact ⟨by rw [A2.cell]; rfl, by rw [A2.cell]; rfl, by rw [A2.cell]; rfl⟩
  have hg : 0 < Nat.gcd n d := Nat.gcd_pos_of_pos_right _ (Nat.pos_of_ne_zero hd)
  have hgf : nb (Nat.gcd n d) ≤ 256 := Nat.le_trans (nb_mono (Nat.gcd_le_right _ (Nat.pos_of_ne_zero hd))) f2
  have b0 := cc h2 (Keeps.refl _ _)
  refine ⟨_, b0.2.1, ?_⟩
  conv => whnf
  refine ⟨_, b0.2.2, ?_⟩
  conv => whnf
  refine Runs.callV (Gcd_fn (enc n) (enc d) (hT.keeps k2)) ?_
  rintro _ h3 ⟨rfl, k3⟩
  rw [gcd_e f1 f2]
  have kk3 := k3
  try refine go_run tab 1000 _ _ ?_
  conv => whnf
  refine Runs.callS (must_ok (enc (Nat.gcd n d))) ?_
  rintro h4 k4
  have kk4 := kk3.trans (k4.mono kk3.size)
  try refine go_run tab 1000 _ _ ?_
  conv => whnf
  refine ⟨_, (cc h4 kk4).2.1, ?_⟩
  conv => whnf
  refine Runs.callV (Div_fn (enc n) (enc (Nat.gcd n d))) ?_
  rintro _ h5 ⟨rfl, k5⟩
  rw [div_e f1 hgf, if_neg (by omega)]
  have kk5 := kk4.trans (k5.mono kk4.size)
  try refine go_run tab 1000 _ _ ?_
  conv => whnf
  refine Runs.callS (must_ok NatM.mt) ?_
  rintro h6 k6
  have kk6 := kk5.trans (k6.mono kk5.size)
  try refine go_run tab 1000 _ _ ?_
  conv => whnf
  refine ⟨_, (cc h6 kk6).2.2, ?_⟩
  conv => whnf
  refine Runs.callV (Div_fn (enc d) (enc (Nat.gcd n d))) ?_
  rintro _ h7 ⟨rfl, k7⟩
  rw [div_e f2 hgf, if_neg (by omega)]
  have kk7 := kk6.trans (k7.mono kk6.size)
  try refine go_run tab 1000 _ _ ?_
  conv => whnf
  refine Runs.callS (must_ok NatM.mt) ?_
  rintro h8 k8
  have kk8 := kk7.trans (k8.mono kk7.size)
  try refine go_run tab 1000 _ _ ?_
  conv => whnf
  refine ⟨_, (cc h8 kk8).1, ?_⟩
  conv => whnf
  have fin : ∀ b : Bool, b = (s && !Nat.beq n 0) → ∀ h9, Put h8 h9 h1.size #[.bool b, .string (enc (n / Nat.gcd n d)), .string (enc (d / Nat.gcd n d))] 31 →
      ∃ v, Ending.returned (tup [Value.agg #[.bool b, .string (enc (n / Nat.gcd n d)), .string (enc (d / Nat.gcd n d))]]) = Ending.returned v ∧ v = nv (lowQ ⟨s, n, d⟩) ∧ Keeps h.size h h9 := fun b hb h9 P9 => by
    subst hb
    exact ⟨_, rfl, rfl, (k2.trans (kk8.mono (by omega))).trans (P9.keeps.mono (by omega))⟩
  have A8 := kk8.at N2.blk N2.blk.lt
  have hz : (!decide (enc (n / Nat.gcd n d) = NatM.mt)) = !Nat.beq n 0 := by
    by_cases hn : n = 0
    · subst hn; simp [enc_mt]
    · have h1 : n / Nat.gcd n d ≠ 0 := Nat.ne_of_gt (Nat.div_pos (Nat.le_of_dvd (Nat.pos_of_ne_zero hn) (Nat.gcd_dvd_left _ _)) hg)
      rw [beq0 hn, decide_eq_false (fun e => h1 (enc_mt.1 e))]
  cases s
  · conv => whnf
    refine Runs.eff (eff_buildA (built_ratio _ _ _)) ?_
    rintro _ _ ⟨rfl, rfl⟩
    try refine go_run tab 1000 _ _ ?_
    conv => whnf
    refine Runs.eff (eff_storeS tab A8) ?_
    rintro _ h9 P9
    try refine go_run tab 1000 _ _ ?_
    conv => whnf
    refine Runs.retA tab Tryz.func36 (vs := [.agg #[.bool false, .string (enc (n / Nat.gcd n d)), .string (enc (d / Nat.gcd n d))]]) (⟨⟨_, _, rfl, .inr ⟨_, _, rfl, rfl, rfl, cellsH_of_at P9.blk, rfl⟩⟩, trivial⟩) ?_
    exact fin _ rfl h9 P9
  · conv => whnf
    refine Runs.eff (eff_buildA (built_ratio _ _ _)) ?_
    rintro _ _ ⟨rfl, rfl⟩
    try refine go_run tab 1000 _ _ ?_
    conv => whnf
    refine Runs.eff (eff_storeS tab A8) ?_
    rintro _ h9 P9
    try refine go_run tab 1000 _ _ ?_
    conv => whnf
    refine Runs.retA tab Tryz.func36 (vs := [.agg #[.bool (!decide (enc (n / Nat.gcd n d) = NatM.mt)), .string (enc (n / Nat.gcd n d)), .string (enc (d / Nat.gcd n d))]]) (⟨⟨_, _, rfl, .inr ⟨_, _, rfl, rfl, rfl, cellsH_of_at P9.blk, rfl⟩⟩, trivial⟩) ?_
    refine fin _ ?_ h9 P9
    rw [hz]; rfl
end Go.Proofs.YtgnciigjhpcdmaaGreatDoor

namespace Go.Proofs.YtgnciigjhpcdmaaGreatDoor
open Go Go.Fw Go.NatM Go.RatM
set_option maxRecDepth 100000
set_option maxHeartbeats 16000000

def crossV (a b : Q) : Option Value := if fits (a.n * b.d) ∧ fits (b.n * a.d) then some (.tuple #[.string (enc (a.n * b.d)), .string (enc (b.n * a.d))]) else none

theorem crossed_fn {h : Array Obj} (a b : Q) (la : a.le 256) (lb : b.le 256) : FnO Tryz.prog lim 91 #[nv a, nv b] h (crossV a b) := by
  obtain ⟨r, hr⟩ : ∃ r, r = crossV a b := ⟨_, rfl⟩
  rw [← hr]
  obtain ⟨s, n, d⟩ := a
  obtain ⟨t, m, e⟩ := b
  unfold crossV at hr
  dsimp only at hr
  have ln : nb n ≤ 256 := la.1
  have ld : nb d ≤ 256 := la.2
  have lm : nb m ≤ 256 := lb.1
  have le : nb e ≤ 256 := lb.2
  refine Fn.of (args := [.agg #[.bool s, .string (enc n), .string (enc d)], .agg #[.bool t, .string (enc m), .string (enc e)]]) Tryz.func91 (by kernel_rfl) rfl Tryz.ntmps91 rfl fun w0 cs => ?_
  refine go_run tab 1000 _ _ ?_
  conv => whnf
  refine Runs.eff (eff_boxN rfl) ?_
  rintro _ h1 ⟨rfl, N1⟩
  try refine go_run tab 1000 _ _ ?_
  conv => whnf
  refine Runs.eff (eff_boxN rfl) ?_
  rintro _ h2 ⟨rfl, N2⟩
  try refine go_run tab 1000 _ _ ?_
  conv => whnf
  have s1 := N1.size
  have s2 := N2.size
  have A1 := N2.at N1.blk
  have k2 := N1.keeps.trans (N2.keeps.mono (by omega))
  have a1 : cellH h2 h.size (0 + 1) = some (.string (enc n)) := by rw [A1.cell]; rfl
  have a2 : cellH h2 h.size (0 + 2) = some (.string (enc d)) := by rw [A1.cell]; rfl
  have b1 : cellH h2 h1.size (0 + 1) = some (.string (enc m)) := by rw [N2.blk.cell]; rfl
  have b2 : cellH h2 h1.size (0 + 2) = some (.string (enc e)) := by rw [N2.blk.cell]; rfl
  refine Runs.heldP tab [(0, []), (1, []), (2, []), (3, []), (8, []), (9, []), (10, []), (11, []), (4, [9, 11]), (5, []), (6, []), (7, [9, 11]), (12, []), (13, []), (14, []), (15, []), (16, []), (17, [])] (by kernel_rfl) ?_
  conv => whnf
  refine ⟨_, a1, ?_⟩
  conv => whnf
  refine ⟨_, b2, ?_⟩
  conv => whnf
  refine ⟨_, b1, ?_⟩
  conv => whnf
  refine ⟨_, a2, ?_⟩
  conv => whnf
  refine ⟨rfl, _, _, EffP.of_eff (Eff.call (Mul_fn (enc n) (enc e))), fun _ _ h => h.elim, ?_⟩
  rintro _ h3 ⟨rfl, k3⟩
  refine And.intro (by conv => whnf
                       repeat (first | (refine And.intro (fun e => (Keeps.cell (k3) (by omega)).trans e) ?_; conv => whnf) | (refine And.intro (fun e => Keeps.cells (k3) (by omega) e) ?_; conv => whnf))
                       exact trivial) ?_
  conv => whnf
  rw [mul_e ln le]
  have q3 := k3.size
  by_cases f1 : fits (n * e)
  · rw [short_e f1]
    conv => whnf
    refine ⟨rfl, _, _, EffP.callS (must_ok (enc (n * e))), fun _ _ h => h.elim, ?_⟩
    rintro _ h4 ⟨rfl, k4⟩
    refine And.intro (by conv => whnf
                         repeat (first | (refine And.intro (fun e => (Keeps.cell (k4) (by omega)).trans e) ?_; conv => whnf) | (refine And.intro (fun e => Keeps.cells (k4) (by omega) e) ?_; conv => whnf))
                         exact trivial) ?_
    conv => whnf
    have q4 := k4.size
    refine ⟨rfl, _, _, EffP.of_eff (Eff.call (Mul_fn (enc m) (enc d))), fun _ _ h => h.elim, ?_⟩
    rintro _ h5 ⟨rfl, k5⟩
    refine And.intro (by conv => whnf
                         repeat (refine And.intro (fun e => e) ?_; conv => whnf)
                         exact trivial) ?_
    conv => whnf
    rw [mul_e lm ld]
    have q5 := k5.size
    have kk5 := ((k2.trans (k3.mono (by omega))).trans (k4.mono (by omega))).trans (k5.mono (by omega))
    by_cases f2 : fits (m * d)
    · rw [short_e f2]
      conv => whnf
      refine ⟨rfl, _, _, EffP.callS (must_ok (enc (m * d))), fun _ _ h => h.elim, ?_⟩
      rintro _ h6 ⟨rfl, k6⟩
      refine And.intro (by conv => whnf
                           repeat (refine And.intro (fun e => e) ?_; conv => whnf)
                           exact trivial) ?_
      conv => whnf
      rw [if_pos ⟨f1, f2⟩] at hr
      subst hr
      try refine go_run tab 1000 _ _ ?_
      conv => whnf
      refine Runs.ret Tryz.func91 rfl rfl ⟨rfl, ?_⟩
      exact kk5.trans (k6.mono (by omega))
    · rw [short_big f2]
      conv => whnf
      refine ⟨rfl, _, _, EffP.callF (must_no NatM.mt), ?_, fun _ _ h0 => h0.elim⟩
      rintro _ h0 ⟨rfl, k0⟩
      rw [if_neg (fun h => f2 h.2)] at hr
      subst hr
      exact Unw.fail Tryz.func91 (kk5.trans (k0.mono (by omega)))
  · rw [short_big f1]
    conv => whnf
    refine ⟨rfl, _, _, EffP.callF (must_no NatM.mt), ?_, fun _ _ h0 => h0.elim⟩
    rintro _ h0 ⟨rfl, k0⟩
    rw [if_neg (fun h => f1 h.1)] at hr
    subst hr
    exact Unw.fail Tryz.func91 ((k2.trans (k3.mono (by omega))).trans (k0.mono (by omega)))

theorem qtimes_fn {h : Array Obj} (a b : Q) (la : a.le 256) (lb : b.le 256) : FnO Tryz.prog lim 73 #[nv a, nv b] h ((mulP a b).map nv) := by
  obtain ⟨r, hr⟩ : ∃ r, r = (mulP a b).map nv := ⟨_, rfl⟩
  rw [← hr]
  obtain ⟨s, n, d⟩ := a
  obtain ⟨t, m, e⟩ := b
  unfold mulP at hr
  dsimp only at hr
  have ln : nb n ≤ 256 := la.1
  have ld : nb d ≤ 256 := la.2
  have lm : nb m ≤ 256 := lb.1
  have le : nb e ≤ 256 := lb.2
  refine Fn.of (args := [.agg #[.bool s, .string (enc n), .string (enc d)], .agg #[.bool t, .string (enc m), .string (enc e)]]) Tryz.func73 (by kernel_rfl) rfl Tryz.ntmps73 rfl fun w0 cs => ?_
  refine go_run tab 1000 _ _ ?_
  conv => whnf
  refine Runs.eff (eff_boxN rfl) ?_
  rintro _ h1 ⟨rfl, N1⟩
  try refine go_run tab 1000 _ _ ?_
  conv => whnf
  refine Runs.eff (eff_boxN rfl) ?_
  rintro _ h2 ⟨rfl, N2⟩
  try refine go_run tab 1000 _ _ ?_
  conv => whnf
  refine Runs.eff (eff_allocN tab) ?_
  rintro _ h2b ⟨rfl, N3⟩
  try refine go_run tab 1000 _ _ ?_
  conv => whnf
  have s1 := N1.size
  have s2 := N2.size
  have s3 := N3.size
  have A1 := N3.at (N2.at N1.blk)
  have A2 := N3.at N2.blk
  have k2 := (N1.keeps.trans (N2.keeps.mono (by omega))).trans (N3.keeps.mono (by omega))
  have a0 : cellH h2b h.size 0 = some (.bool s) := by rw [A1.cell]; rfl
  have a1 : cellH h2b h.size (0 + 1) = some (.string (enc n)) := by rw [A1.cell]; rfl
  have a2 : cellH h2b h.size (0 + 2) = some (.string (enc d)) := by rw [A1.cell]; rfl
  have b0 : cellH h2b h1.size 0 = some (.bool t) := by rw [A2.cell]; rfl
  have b1 : cellH h2b h1.size (0 + 1) = some (.string (enc m)) := by rw [A2.cell]; rfl
  have b2 : cellH h2b h1.size (0 + 2) = some (.string (enc e)) := by rw [A2.cell]; rfl
  refine Runs.heldP tab [(0, []), (1, []), (2, []), (3, []), (4, []), (5, []), (6, []), (7, []), (8, []), (13, []), (14, []), (15, []), (16, []), (9, [1, 3, 14, 16]), (10, []), (11, []), (12, [1, 3, 14, 16]), (17, [1, 3]), (18, []), (19, []), (20, [1, 3]), (21, []), (22, [])] (by kernel_rfl) ?_
  conv => whnf
  refine ⟨_, a0, ?_⟩
  conv => whnf
  refine ⟨_, b0, ?_⟩
  conv => whnf
  refine ⟨_, a1, ?_⟩
  conv => whnf
  refine ⟨_, b1, ?_⟩
  conv => whnf
  refine ⟨_, a2, ?_⟩
  conv => whnf
  refine ⟨_, b2, ?_⟩
  conv => whnf
  refine ⟨rfl, _, _, EffP.of_eff (Eff.call (Mul_fn (enc n) (enc m))), fun _ _ h => h.elim, ?_⟩
  rintro _ h3 ⟨rfl, k3⟩
  refine And.intro (by conv => whnf
                       repeat (first | (refine And.intro (fun e => (Keeps.cell (k3) (by omega)).trans e) ?_; conv => whnf) | (refine And.intro (fun e => Keeps.cells (k3) (by omega) e) ?_; conv => whnf))
                       exact trivial) ?_
  conv => whnf
  rw [mul_e ln lm]
  have q3 := k3.size
  by_cases f1 : fits (n * m)
  · rw [short_e f1]
    conv => whnf
    refine ⟨rfl, _, _, EffP.callS (must_ok (enc (n * m))), fun _ _ h => h.elim, ?_⟩
    rintro _ h4 ⟨rfl, k4⟩
    refine And.intro (by conv => whnf
                         repeat (first | (refine And.intro (fun e => (Keeps.cell (k4) (by omega)).trans e) ?_; conv => whnf) | (refine And.intro (fun e => Keeps.cells (k4) (by omega) e) ?_; conv => whnf))
                         exact trivial) ?_
    conv => whnf
    have q4 := k4.size
    refine ⟨rfl, _, _, EffP.of_eff (Eff.call (Mul_fn (enc d) (enc e))), fun _ _ h => h.elim, ?_⟩
    rintro _ h5 ⟨rfl, k5⟩
    refine And.intro (by conv => whnf
                         repeat (first | (refine And.intro (fun e => (Keeps.cell (k5) (by omega)).trans e) ?_; conv => whnf) | (refine And.intro (fun e => Keeps.cells (k5) (by omega) e) ?_; conv => whnf))
                         exact trivial) ?_
    conv => whnf
    rw [mul_e ld le]
    have q5 := k5.size
    have kk5 := (k3.trans (k4.mono (by omega))).trans (k5.mono (by omega))
    by_cases f2 : fits (d * e)
    · rw [short_e f2]
      conv => whnf
      refine ⟨rfl, _, _, EffP.callS (must_ok (enc (d * e))), fun _ _ h => h.elim, ?_⟩
      rintro _ h6 ⟨rfl, k6⟩
      refine And.intro (by conv => whnf
                           repeat (first | (refine And.intro (fun e => (Keeps.cell (k6) (by omega)).trans e) ?_; conv => whnf) | (refine And.intro (fun e => Keeps.cells (k6) (by omega) e) ?_; conv => whnf))
                           exact trivial) ?_
      conv => whnf
      have q6 := k6.size
      have kk6 := kk5.trans (k6.mono (by omega))
      rw [if_pos f1, if_pos f2] at hr
      subst hr
      refine ⟨rfl, _, plain_build (built_number _ _ _), ?_⟩
      conv => whnf
      refine ⟨rfl, _, _, EffP.of_eff (eff_storeS tab (kk6.at N3.blk N3.blk.lt)), fun _ _ h => h.elim, ?_⟩
      rintro _ h7 P7
      refine And.intro (by conv => whnf
                           repeat (refine And.intro (fun e => e) ?_; conv => whnf)
                           exact trivial) ?_
      conv => whnf
      try refine go_run tab 1000 _ _ ?_
      conv => whnf
      refine Runs.retA tab Tryz.func73 (vs := [.agg #[.bool (s != t), .string (enc (n * m)), .string (enc (d * e))]]) (⟨⟨_, _, rfl, .inr ⟨_, _, rfl, rfl, rfl, cellsH_of_at P7.blk, ?_⟩⟩, trivial⟩) ?_
      · cases s <;> cases t <;> rfl
      · exact ⟨rfl, (k2.trans (kk6.mono (by omega))).trans (P7.keeps.mono (by omega))⟩
    · rw [short_big f2]
      conv => whnf
      refine ⟨rfl, _, _, EffP.callF (must_no NatM.mt), ?_, fun _ _ h0 => h0.elim⟩
      rintro _ h0 ⟨rfl, k0⟩
      rw [if_pos f1, if_neg f2] at hr
      subst hr
      exact Unw.fail Tryz.func73 ((k2.trans (kk5.mono (by omega))).trans (k0.mono (by omega)))
  · rw [short_big f1]
    conv => whnf
    refine ⟨rfl, _, _, EffP.callF (must_no NatM.mt), ?_, fun _ _ h0 => h0.elim⟩
    rintro _ h0 ⟨rfl, k0⟩
    rw [if_neg f1] at hr
    subst hr
    exact Unw.fail Tryz.func73 ((k2.trans (k3.mono (by omega))).trans (k0.mono (by omega)))
end Go.Proofs.YtgnciigjhpcdmaaGreatDoor

namespace Go.Proofs.YtgnciigjhpcdmaaGreatDoor
open Go Go.Fw Go.NatM Go.RatM
set_option maxRecDepth 100000
set_option maxHeartbeats 16000000

theorem qplus_fn {h : Array Obj} (a b : Q) (la : a.le 256) (lb : b.le 256) : FnO Tryz.prog lim 69 #[nv a, nv b] h ((addP a b).map nv) := by
  obtain ⟨r, hr⟩ : ∃ r, r = (addP a b).map nv := ⟨_, rfl⟩
  rw [← hr]
  obtain ⟨s, n, d⟩ := a
  obtain ⟨t, m, e⟩ := b
  unfold addP at hr
  dsimp only at hr
  have ln : nb n ≤ 256 := la.1
  have ld : nb d ≤ 256 := la.2
  have lm : nb m ≤ 256 := lb.1
  have le : nb e ≤ 256 := lb.2
  refine Fn.of (args := [.agg #[.bool s, .string (enc n), .string (enc d)], .agg #[.bool t, .string (enc m), .string (enc e)]]) Tryz.func69 (by kernel_rfl) rfl Tryz.ntmps69 rfl fun w0 cs => ?_
  refine go_run tab 1000 _ _ ?_
  conv => whnf
  refine Runs.eff (eff_boxN rfl) ?_
  rintro _ h1 ⟨rfl, N1⟩
  try refine go_run tab 1000 _ _ ?_
  conv => whnf
  refine Runs.eff (eff_boxN rfl) ?_
  rintro _ h2 ⟨rfl, N2⟩
  try refine go_run tab 1000 _ _ ?_
  conv => whnf
  refine Runs.eff (eff_allocN tab) ?_
  rintro _ h2b ⟨rfl, N3⟩
  try refine go_run tab 1000 _ _ ?_
  conv => whnf
  have s1 := N1.size
  have s2 := N2.size
  have s3 := N3.size
  have A1 := N3.at (N2.at N1.blk)
  have A2 := N3.at N2.blk
  have k2 := (N1.keeps.trans (N2.keeps.mono (by omega))).trans (N3.keeps.mono (by omega))
  have ca : ∀ h', Keeps h2b.size h2b h' → cellH h' h.size 0 = some (.bool s) ∧ cellH h' h.size (0 + 1) = some (.string (enc n)) ∧ cellH h' h.size (0 + 2) = some (.string (enc d)) := fun h' hk => by
    have A := hk.at A1 A1.lt
    exact ⟨by rw [A.cell]; rfl, by rw [A.cell]; rfl, by rw [A.cell]; rfl⟩
  have cb : ∀ h', Keeps h2b.size h2b h' → cellH h' h1.size 0 = some (.bool t) ∧ cellH h' h1.size (0 + 1) = some (.string (enc m)) ∧ cellH h' h1.size (0 + 2) = some (.string (enc e)) := fun h' hk => by
    have A := hk.at A2 A2.lt
    exact ⟨by rw [A.cell]; rfl, by rw [A.cell]; rfl, by rw [A.cell]; rfl⟩
  refine Runs.eff (eff_loadAgg tab (vs := [.bool s, .string (enc n), .string (enc d)]) (cellsH_of_at A1) rfl) ?_
  rintro _ h2b ⟨rfl, rfl⟩
  try refine go_run tab 1000 _ _ ?_
  conv => whnf
  refine Runs.eff (eff_loadAgg tab (vs := [.bool t, .string (enc m), .string (enc e)]) (cellsH_of_at A2) rfl) ?_
  rintro _ h2b ⟨rfl, rfl⟩
  try refine go_run tab 1000 _ _ ?_
  conv => whnf
  by_cases f1 : fits (n * e) ∧ fits (m * d)
  · rw [if_pos f1] at hr
    have hcr : FnO Tryz.prog lim 91 #[nv ⟨s, n, d⟩, nv ⟨t, m, e⟩] h2b (some (.tuple #[.string (enc (n * e)), .string (enc (m * d))])) := by
      have := crossed_fn (h := h2b) ⟨s, n, d⟩ ⟨t, m, e⟩ la lb
      unfold crossV at this
      rw [if_pos f1] at this
      exact this
    refine Runs.callS (hcr) ?_
    rintro h3 k3
    have q3 := k3.size
    try refine go_run tab 1000 _ _ ?_
    conv => whnf
    refine ⟨_, (ca h3 k3).2.2, ?_⟩
    conv => whnf
    refine ⟨_, (cb h3 k3).2.2, ?_⟩
    conv => whnf
    refine Runs.callV (Mul_fn (enc d) (enc e)) ?_
    rintro _ h4 ⟨rfl, k4⟩
    have q4 := k4.size
    rw [mul_e ld le]
    have kk4 := k3.trans (k4.mono (by omega))
    by_cases f2 : fits (d * e)
    · rw [short_e f2]
      rw [if_pos f2] at hr
      try refine go_run tab 1000 _ _ ?_
      conv => whnf
      refine Runs.callS (must_ok (enc (d * e))) ?_
      rintro h5 k5
      have q5 := k5.size
      have kk5 := kk4.trans (k5.mono (by omega))
      try refine go_run tab 1000 _ _ ?_
      conv => whnf
      refine ⟨_, (ca h5 kk5).1, ?_⟩
      conv => whnf
      refine ⟨_, (cb h5 kk5).1, ?_⟩
      conv => whnf
      have hst : (s == t) = decide (s = t) := by cases s <;> cases t <;> rfl
      rw [hst]
      by_cases hs : s = t
      · rw [decide_eq_true hs]
        rw [if_pos hs] at hr
        try refine go_run tab 1000 _ _ ?_
        conv => whnf
        refine Runs.heldP tab [(0, []), (1, []), (2, []), (3, []), (8, []), (4, [1]), (5, []), (6, []), (7, [1]), (9, []), (10, [])] (by kernel_rfl) ?_
        conv => whnf
        refine ⟨_, (ca h5 kk5).1, ?_⟩
        conv => whnf
        refine ⟨rfl, _, _, EffP.of_eff (Eff.call (Add_fn (enc (n * e)) (enc (m * d)))), fun _ _ h => h.elim, ?_⟩
        rintro _ h6 ⟨rfl, k6⟩
        refine And.intro (by conv => whnf
                             repeat (first | (refine And.intro (fun e => (Keeps.cell (k6) (by omega)).trans e) ?_; conv => whnf) | (refine And.intro (fun e => Keeps.cells (k6) (by omega) e) ?_; conv => whnf))
                             exact trivial) ?_
        conv => whnf
        have q6 := k6.size
        rw [add_e f1.1 f1.2]
        have kk6 := kk5.trans (k6.mono (by omega))
        by_cases f3 : fits (n * e + m * d)
        · rw [short_e f3]
          rw [if_pos f3] at hr
          subst hr
          conv => whnf
          refine ⟨rfl, _, _, EffP.callS (must_ok (enc (n * e + m * d))), fun _ _ h => h.elim, ?_⟩
          rintro _ h7 ⟨rfl, k7⟩
          refine And.intro (by conv => whnf
                               repeat (first | (refine And.intro (fun e => (Keeps.cell (k7) (by omega)).trans e) ?_; conv => whnf) | (refine And.intro (fun e => Keeps.cells (k7) (by omega) e) ?_; conv => whnf))
                               exact trivial) ?_
          conv => whnf
          have q7 := k7.size
          have kk7 := kk6.trans (k7.mono (by omega))
          refine ⟨rfl, _, plain_build (built_number _ _ _), ?_⟩
          conv => whnf
          refine ⟨rfl, _, _, EffP.of_eff (eff_storeS tab (kk7.at N3.blk N3.blk.lt)), fun _ _ h => h.elim, ?_⟩
          rintro _ h8 P8
          refine And.intro (by conv => whnf
                               repeat (refine And.intro (fun e => e) ?_; conv => whnf)
                               exact trivial) ?_
          conv => whnf
          try refine go_run tab 1000 _ _ ?_
          conv => whnf
          refine Runs.retA tab Tryz.func69 (vs := [.agg #[.bool s, .string (enc (n * e + m * d)), .string (enc (d * e))]]) (⟨⟨_, _, rfl, .inr ⟨_, _, rfl, rfl, rfl, cellsH_of_at P8.blk, rfl⟩⟩, trivial⟩) ?_
          exact ⟨rfl, (k2.trans (kk7.mono (by omega))).trans (P8.keeps.mono (by omega))⟩
        · rw [short_big f3]
          rw [if_neg f3] at hr
          subst hr
          conv => whnf
          refine ⟨rfl, _, _, EffP.callF (must_no NatM.mt), ?_, fun _ _ h0 => h0.elim⟩
          rintro _ h0 ⟨rfl, k0⟩
          exact Unw.fail Tryz.func69 ((k2.trans (kk6.mono (by omega))).trans (k0.mono (by omega)))
      · rw [decide_eq_false hs]
        rw [if_neg hs] at hr
        try refine go_run tab 1000 _ _ ?_
        conv => whnf
        refine Runs.callV (sign_fn f1.1 f1.2) ?_
        rintro _ h6 ⟨rfl, k6⟩
        have q6 := k6.size
        have kk6 := kk5.trans (k6.mono (by omega))
        try refine go_run tab 1000 _ _ ?_
        conv => whnf
        refine ⟨fun hlt => ?_, fun hlt => ?_⟩ <;> conv => whnf
        · have hlt := cmpN_neg.1 hlt
          rw [if_pos hlt] at hr
          subst hr
          try refine go_run tab 1000 _ _ ?_
          conv => whnf
          refine Runs.heldP tab [(0, []), (1, []), (2, []), (3, []), (8, []), (4, [1]), (5, []), (6, []), (7, [1]), (9, []), (10, [])] (by kernel_rfl) ?_
          conv => whnf
          refine ⟨_, (cb h6 kk6).1, ?_⟩
          conv => whnf
          refine ⟨rfl, _, _, EffP.of_eff (Eff.call (Sub_fn (enc (m * d)) (enc (n * e)))), fun _ _ h => h.elim, ?_⟩
          rintro _ h7 ⟨rfl, k7⟩
          refine And.intro (by conv => whnf
                               repeat (first | (refine And.intro (fun e => (Keeps.cell (k7) (by omega)).trans e) ?_; conv => whnf) | (refine And.intro (fun e => Keeps.cells (k7) (by omega) e) ?_; conv => whnf))
                               exact trivial) ?_
          conv => whnf
          have q7 := k7.size
          rw [sub_e f1.2 f1.1, if_neg (by omega)]
          conv => whnf
          refine ⟨rfl, _, _, EffP.callS (must_ok (enc (m * d - n * e))), fun _ _ h => h.elim, ?_⟩
          rintro _ h8 ⟨rfl, k8⟩
          refine And.intro (by conv => whnf
                               repeat (first | (refine And.intro (fun e => (Keeps.cell (k8) (by omega)).trans e) ?_; conv => whnf) | (refine And.intro (fun e => Keeps.cells (k8) (by omega) e) ?_; conv => whnf))
                               exact trivial) ?_
          conv => whnf
          have q8 := k8.size
          have kk8 := (kk6.trans (k7.mono (by omega))).trans (k8.mono (by omega))
          refine ⟨rfl, _, plain_build (built_number _ _ _), ?_⟩
          conv => whnf
          refine ⟨rfl, _, _, EffP.of_eff (eff_storeS tab (kk8.at N3.blk N3.blk.lt)), fun _ _ h => h.elim, ?_⟩
          rintro _ h9 P9
          refine And.intro (by conv => whnf
                               repeat (refine And.intro (fun e => e) ?_; conv => whnf)
                               exact trivial) ?_
          conv => whnf
          try refine go_run tab 1000 _ _ ?_
          conv => whnf
          refine Runs.retA tab Tryz.func69 (vs := [.agg #[.bool t, .string (enc (m * d - n * e)), .string (enc (d * e))]]) (⟨⟨_, _, rfl, .inr ⟨_, _, rfl, rfl, rfl, cellsH_of_at P9.blk, rfl⟩⟩, trivial⟩) ?_
          exact ⟨rfl, (k2.trans (kk8.mono (by omega))).trans (P9.keeps.mono (by omega))⟩
        · have hlt : ¬ n * e < m * d := fun h => hlt (cmpN_neg.2 h)
          rw [if_neg hlt] at hr
          subst hr
          try refine go_run tab 1000 _ _ ?_
          conv => whnf
          refine Runs.heldP tab [(0, []), (1, []), (2, []), (3, []), (8, []), (4, [1]), (5, []), (6, []), (7, [1]), (9, []), (10, [])] (by kernel_rfl) ?_
          conv => whnf
          refine ⟨_, (ca h6 kk6).1, ?_⟩
          conv => whnf
          refine ⟨rfl, _, _, EffP.of_eff (Eff.call (Sub_fn (enc (n * e)) (enc (m * d)))), fun _ _ h => h.elim, ?_⟩
          rintro _ h7 ⟨rfl, k7⟩
          refine And.intro (by conv => whnf
                               repeat (first | (refine And.intro (fun e => (Keeps.cell (k7) (by omega)).trans e) ?_; conv => whnf) | (refine And.intro (fun e => Keeps.cells (k7) (by omega) e) ?_; conv => whnf))
                               exact trivial) ?_
          conv => whnf
          have q7 := k7.size
          rw [sub_e f1.1 f1.2, if_neg hlt]
          conv => whnf
          refine ⟨rfl, _, _, EffP.callS (must_ok (enc (n * e - m * d))), fun _ _ h => h.elim, ?_⟩
          rintro _ h8 ⟨rfl, k8⟩
          refine And.intro (by conv => whnf
                               repeat (first | (refine And.intro (fun e => (Keeps.cell (k8) (by omega)).trans e) ?_; conv => whnf) | (refine And.intro (fun e => Keeps.cells (k8) (by omega) e) ?_; conv => whnf))
                               exact trivial) ?_
          conv => whnf
          have q8 := k8.size
          have kk8 := (kk6.trans (k7.mono (by omega))).trans (k8.mono (by omega))
          refine ⟨rfl, _, plain_build (built_number _ _ _), ?_⟩
          conv => whnf
          refine ⟨rfl, _, _, EffP.of_eff (eff_storeS tab (kk8.at N3.blk N3.blk.lt)), fun _ _ h => h.elim, ?_⟩
          rintro _ h9 P9
          refine And.intro (by conv => whnf
                               repeat (refine And.intro (fun e => e) ?_; conv => whnf)
                               exact trivial) ?_
          conv => whnf
          try refine go_run tab 1000 _ _ ?_
          conv => whnf
          refine Runs.retA tab Tryz.func69 (vs := [.agg #[.bool s, .string (enc (n * e - m * d)), .string (enc (d * e))]]) (⟨⟨_, _, rfl, .inr ⟨_, _, rfl, rfl, rfl, cellsH_of_at P9.blk, rfl⟩⟩, trivial⟩) ?_
          exact ⟨rfl, (k2.trans (kk8.mono (by omega))).trans (P9.keeps.mono (by omega))⟩
    · rw [short_big f2]
      rw [if_neg f2] at hr
      subst hr
      try refine go_run tab 1000 _ _ ?_
      conv => whnf
      refine Runs.callF (must_no NatM.mt) ?_
      rintro h0 k0
      exact Unw.fail Tryz.func69 ((k2.trans (kk4.mono (by omega))).trans (k0.mono (by omega)))
  · rw [if_neg f1] at hr
    subst hr
    have hcr : FnO Tryz.prog lim 91 #[nv ⟨s, n, d⟩, nv ⟨t, m, e⟩] h2b none := by
      have := crossed_fn (h := h2b) ⟨s, n, d⟩ ⟨t, m, e⟩ la lb
      unfold crossV at this
      rw [if_neg f1] at this
      exact this
    refine Runs.callF (hcr) ?_
    rintro h0 k0
    exact Unw.fail Tryz.func69 (k2.trans (k0.mono (by omega)))
end Go.Proofs.YtgnciigjhpcdmaaGreatDoor

namespace Go.Proofs.YtgnciigjhpcdmaaGreatDoor
open Go Go.Fw Go.NatM Go.RatM
set_option maxRecDepth 100000
set_option maxHeartbeats 16000000

theorem op1_fn {h : Array Obj} (a b : Q) (la : a.le 256) (lb : b.le 256) : FnO Tryz.prog lim 68 #[nv a, nv b] h ((addP a b).map nv) := by
  obtain ⟨r, hr⟩ : ∃ r, r = (addP a b).map nv := ⟨_, rfl⟩
  rw [← hr]
  refine Fn.of (args := [.agg #[.bool a.neg, .string (enc a.n), .string (enc a.d)], .agg #[.bool b.neg, .string (enc b.n), .string (enc b.d)]]) Tryz.func68 (by kernel_rfl) rfl Tryz.ntmps68 rfl fun w0 cs => ?_
  refine go_run tab 1000 _ _ ?_
  conv => whnf
  refine Runs.eff (eff_boxN rfl) ?_
  rintro _ h1 ⟨rfl, N1⟩
  try refine go_run tab 1000 _ _ ?_
  conv => whnf
  refine Runs.eff (eff_boxN rfl) ?_
  rintro _ h2 ⟨rfl, N2⟩
  try refine go_run tab 1000 _ _ ?_
  conv => whnf
  refine Runs.eff (eff_allocN tab) ?_
  rintro _ h3 ⟨rfl, N3⟩
  try refine go_run tab 1000 _ _ ?_
  conv => whnf
  have s1 := N1.size
  have s2 := N2.size
  have s3 := N3.size
  have A1 := N3.at (N2.at N1.blk)
  have A2 := N3.at N2.blk
  have k2 := (N1.keeps.trans (N2.keeps.mono (by omega))).trans (N3.keeps.mono (by omega))
  refine Runs.eff (eff_loadAgg tab (vs := [.bool a.neg, .string (enc a.n), .string (enc a.d)]) (cellsH_of_at A1) rfl) ?_
  rintro _ h3 ⟨rfl, rfl⟩
  try refine go_run tab 1000 _ _ ?_
  conv => whnf
  refine Runs.eff (eff_loadAgg tab (vs := [.bool b.neg, .string (enc b.n), .string (enc b.d)]) (cellsH_of_at A2) rfl) ?_
  rintro _ h3 ⟨rfl, rfl⟩
  try refine go_run tab 1000 _ _ ?_
  conv => whnf
  have hc := qplus_fn (h := h3) a b la lb
  cases hq : addP a b with
  | none =>
    rw [hq] at hc hr
    subst hr
    refine Runs.callF (hc) ?_
    rintro h0 k0
    exact Unw.fail Tryz.func68 (k2.trans (k0.mono (by omega)))
  | some q =>
    rw [hq] at hc hr
    subst hr
    refine Runs.callS (hc) ?_
    rintro h4 k4
    have q4 := k4.size
    try refine go_run tab 1000 _ _ ?_
    conv => whnf
    refine Runs.eff (eff_storeS tab (k4.at N3.blk N3.blk.lt)) ?_
    rintro _ h5 P5
    try refine go_run tab 1000 _ _ ?_
    conv => whnf
    refine Runs.retA tab Tryz.func68 (vs := [.agg #[.bool q.neg, .string (enc q.n), .string (enc q.d)]]) (⟨⟨_, _, rfl, .inr ⟨_, _, rfl, rfl, rfl, cellsH_of_at P5.blk, rfl⟩⟩, trivial⟩) ?_
    exact ⟨rfl, (k2.trans (k4.mono (by omega))).trans (P5.keeps.mono (by omega))⟩

theorem op3_fn {h : Array Obj} (a b : Q) (la : a.le 256) (lb : b.le 256) : FnO Tryz.prog lim 72 #[nv a, nv b] h ((mulP a b).map nv) := by
  obtain ⟨r, hr⟩ : ∃ r, r = (mulP a b).map nv := ⟨_, rfl⟩
  rw [← hr]
  refine Fn.of (args := [.agg #[.bool a.neg, .string (enc a.n), .string (enc a.d)], .agg #[.bool b.neg, .string (enc b.n), .string (enc b.d)]]) Tryz.func72 (by kernel_rfl) rfl Tryz.ntmps72 rfl fun w0 cs => ?_
  refine go_run tab 1000 _ _ ?_
  conv => whnf
  refine Runs.eff (eff_boxN rfl) ?_
  rintro _ h1 ⟨rfl, N1⟩
  try refine go_run tab 1000 _ _ ?_
  conv => whnf
  refine Runs.eff (eff_boxN rfl) ?_
  rintro _ h2 ⟨rfl, N2⟩
  try refine go_run tab 1000 _ _ ?_
  conv => whnf
  refine Runs.eff (eff_allocN tab) ?_
  rintro _ h3 ⟨rfl, N3⟩
  try refine go_run tab 1000 _ _ ?_
  conv => whnf
  have s1 := N1.size
  have s2 := N2.size
  have s3 := N3.size
  have A1 := N3.at (N2.at N1.blk)
  have A2 := N3.at N2.blk
  have k2 := (N1.keeps.trans (N2.keeps.mono (by omega))).trans (N3.keeps.mono (by omega))
  refine Runs.eff (eff_loadAgg tab (vs := [.bool a.neg, .string (enc a.n), .string (enc a.d)]) (cellsH_of_at A1) rfl) ?_
  rintro _ h3 ⟨rfl, rfl⟩
  try refine go_run tab 1000 _ _ ?_
  conv => whnf
  refine Runs.eff (eff_loadAgg tab (vs := [.bool b.neg, .string (enc b.n), .string (enc b.d)]) (cellsH_of_at A2) rfl) ?_
  rintro _ h3 ⟨rfl, rfl⟩
  try refine go_run tab 1000 _ _ ?_
  conv => whnf
  have hc := qtimes_fn (h := h3) a b la lb
  cases hq : mulP a b with
  | none =>
    rw [hq] at hc hr
    subst hr
    refine Runs.callF (hc) ?_
    rintro h0 k0
    exact Unw.fail Tryz.func72 (k2.trans (k0.mono (by omega)))
  | some q =>
    rw [hq] at hc hr
    subst hr
    refine Runs.callS (hc) ?_
    rintro h4 k4
    have q4 := k4.size
    try refine go_run tab 1000 _ _ ?_
    conv => whnf
    refine Runs.eff (eff_storeS tab (k4.at N3.blk N3.blk.lt)) ?_
    rintro _ h5 P5
    try refine go_run tab 1000 _ _ ?_
    conv => whnf
    refine Runs.retA tab Tryz.func72 (vs := [.agg #[.bool q.neg, .string (enc q.n), .string (enc q.d)]]) (⟨⟨_, _, rfl, .inr ⟨_, _, rfl, rfl, rfl, cellsH_of_at P5.blk, rfl⟩⟩, trivial⟩) ?_
    exact ⟨rfl, (k2.trans (k4.mono (by omega))).trans (P5.keeps.mono (by omega))⟩

theorem op2_fn {h : Array Obj} (a b : Q) (la : a.le 256) (lb : b.le 256) : FnO Tryz.prog lim 70 #[nv a, nv b] h ((addP a (negQ b)).map nv) := by
  obtain ⟨r, hr⟩ : ∃ r, r = (addP a (negQ b)).map nv := ⟨_, rfl⟩
  rw [← hr]
  refine Fn.of (args := [.agg #[.bool a.neg, .string (enc a.n), .string (enc a.d)], .agg #[.bool b.neg, .string (enc b.n), .string (enc b.d)]]) Tryz.func70 (by kernel_rfl) rfl Tryz.ntmps70 rfl fun w0 cs => ?_
  refine go_run tab 1000 _ _ ?_
  conv => whnf
  refine Runs.eff (eff_boxN rfl) ?_
  rintro _ h1 ⟨rfl, N1⟩
  try refine go_run tab 1000 _ _ ?_
  conv => whnf
  refine Runs.eff (eff_boxN rfl) ?_
  rintro _ h2 ⟨rfl, N2⟩
  try refine go_run tab 1000 _ _ ?_
  conv => whnf
  refine Runs.eff (eff_allocN tab) ?_
  rintro _ h3 ⟨rfl, N3⟩
  try refine go_run tab 1000 _ _ ?_
  conv => whnf
  have s1 := N1.size
  have s2 := N2.size
  have s3 := N3.size
  have A1 := N3.at (N2.at N1.blk)
  have A2 := N3.at N2.blk
  have k2 := (N1.keeps.trans (N2.keeps.mono (by omega))).trans (N3.keeps.mono (by omega))
  refine Runs.heldP tab [(0, []), (1, []), (2, [0]), (3, []), (4, [])] (by kernel_rfl) ?_
  conv => whnf
  refine ⟨[.bool a.neg, .string (enc a.n), .string (enc a.d)], ⟨rfl, cellsH_of_at A1⟩, ?_⟩
  conv => whnf
  refine ⟨[.bool b.neg, .string (enc b.n), .string (enc b.d)], ⟨rfl, cellsH_of_at A2⟩, ?_⟩
  conv => whnf
  refine ⟨rfl, _, _, EffP.of_eff (Eff.call (negative_fn b)), fun _ _ h => h.elim, ?_⟩
  rintro _ h4 ⟨rfl, k4⟩
  refine And.intro (by conv => whnf
                       repeat (first | (refine And.intro (fun e => (Keeps.cell (k4) (by omega)).trans e) ?_; conv => whnf) | (refine And.intro (fun e => Keeps.cells (k4) (by omega) e) ?_; conv => whnf))
                       exact trivial) ?_
  conv => whnf
  have q4 := k4.size
  have hc := qplus_fn (h := h4) a (negQ b) la (negQ_le lb)
  cases hq : addP a (negQ b) with
  | none =>
    rw [hq] at hc hr
    subst hr
    refine ⟨rfl, _, _, EffP.callF (hc), ?_, fun _ _ h0 => h0.elim⟩
    rintro _ h0 ⟨rfl, k0⟩
    exact Unw.fail Tryz.func70 ((k2.trans (k4.mono (by omega))).trans (k0.mono (by omega)))
  | some q =>
    rw [hq] at hc hr
    subst hr
    refine ⟨rfl, _, _, EffP.callS (hc), fun _ _ h => h.elim, ?_⟩
    rintro _ h5 ⟨rfl, k5⟩
    refine And.intro (by conv => whnf
                         repeat (refine And.intro (fun e => e) ?_; conv => whnf)
                         exact trivial) ?_
    conv => whnf
    have q5 := k5.size
    have kk := k4.trans (k5.mono (by omega))
    refine ⟨rfl, _, _, EffP.of_eff (eff_storeS tab (kk.at N3.blk N3.blk.lt)), fun _ _ h => h.elim, ?_⟩
    rintro _ h6 P6
    refine And.intro (by conv => whnf
                         repeat (refine And.intro (fun e => e) ?_; conv => whnf)
                         exact trivial) ?_
    conv => whnf
    try refine go_run tab 1000 _ _ ?_
    conv => whnf
    refine Runs.retA tab Tryz.func70 (vs := [.agg #[.bool q.neg, .string (enc q.n), .string (enc q.d)]]) (⟨⟨_, _, rfl, .inr ⟨_, _, rfl, rfl, rfl, cellsH_of_at P6.blk, rfl⟩⟩, trivial⟩) ?_
    exact ⟨rfl, (k2.trans (kk.mono (by omega))).trans (P6.keeps.mono (by omega))⟩

theorem op4_fn {h : Array Obj} (a b : Q) (la : a.le 256) (lb : b.le 256) : FnO Tryz.prog lim 74 #[nv a, nv b] h ((mulP a (invQ b)).map nv) := by
  obtain ⟨r, hr⟩ : ∃ r, r = (mulP a (invQ b)).map nv := ⟨_, rfl⟩
  rw [← hr]
  refine Fn.of (args := [.agg #[.bool a.neg, .string (enc a.n), .string (enc a.d)], .agg #[.bool b.neg, .string (enc b.n), .string (enc b.d)]]) Tryz.func74 (by kernel_rfl) rfl Tryz.ntmps74 rfl fun w0 cs => ?_
  refine go_run tab 1000 _ _ ?_
  conv => whnf
  refine Runs.eff (eff_boxN rfl) ?_
  rintro _ h1 ⟨rfl, N1⟩
  try refine go_run tab 1000 _ _ ?_
  conv => whnf
  refine Runs.eff (eff_boxN rfl) ?_
  rintro _ h2 ⟨rfl, N2⟩
  try refine go_run tab 1000 _ _ ?_
  conv => whnf
  refine Runs.eff (eff_allocN tab) ?_
  rintro _ h3 ⟨rfl, N3⟩
  try refine go_run tab 1000 _ _ ?_
  conv => whnf
  have s1 := N1.size
  have s2 := N2.size
  have s3 := N3.size
  have A1 := N3.at (N2.at N1.blk)
  have A2 := N3.at N2.blk
  have k2 := (N1.keeps.trans (N2.keeps.mono (by omega))).trans (N3.keeps.mono (by omega))
  refine Runs.heldP tab [(0, []), (1, []), (2, [0]), (3, []), (4, [])] (by kernel_rfl) ?_
  conv => whnf
  refine ⟨[.bool a.neg, .string (enc a.n), .string (enc a.d)], ⟨rfl, cellsH_of_at A1⟩, ?_⟩
  conv => whnf
  refine ⟨[.bool b.neg, .string (enc b.n), .string (enc b.d)], ⟨rfl, cellsH_of_at A2⟩, ?_⟩
  conv => whnf
  refine ⟨rfl, _, _, EffP.of_eff (Eff.call (inverse_fn b)), fun _ _ h => h.elim, ?_⟩
  rintro _ h4 ⟨rfl, k4⟩
  refine And.intro (by conv => whnf
                       repeat (first | (refine And.intro (fun e => (Keeps.cell (k4) (by omega)).trans e) ?_; conv => whnf) | (refine And.intro (fun e => Keeps.cells (k4) (by omega) e) ?_; conv => whnf))
                       exact trivial) ?_
  conv => whnf
  have q4 := k4.size
  have hc := qtimes_fn (h := h4) a (invQ b) la (invQ_le lb)
  cases hq : mulP a (invQ b) with
  | none =>
    rw [hq] at hc hr
    subst hr
    refine ⟨rfl, _, _, EffP.callF (hc), ?_, fun _ _ h0 => h0.elim⟩
    rintro _ h0 ⟨rfl, k0⟩
    exact Unw.fail Tryz.func74 ((k2.trans (k4.mono (by omega))).trans (k0.mono (by omega)))
  | some q =>
    rw [hq] at hc hr
    subst hr
    refine ⟨rfl, _, _, EffP.callS (hc), fun _ _ h => h.elim, ?_⟩
    rintro _ h5 ⟨rfl, k5⟩
    refine And.intro (by conv => whnf
                         repeat (refine And.intro (fun e => e) ?_; conv => whnf)
                         exact trivial) ?_
    conv => whnf
    have q5 := k5.size
    have kk := k4.trans (k5.mono (by omega))
    refine ⟨rfl, _, _, EffP.of_eff (eff_storeS tab (kk.at N3.blk N3.blk.lt)), fun _ _ h => h.elim, ?_⟩
    rintro _ h6 P6
    refine And.intro (by conv => whnf
                         repeat (refine And.intro (fun e => e) ?_; conv => whnf)
                         exact trivial) ?_
    conv => whnf
    try refine go_run tab 1000 _ _ ?_
    conv => whnf
    refine Runs.retA tab Tryz.func74 (vs := [.agg #[.bool q.neg, .string (enc q.n), .string (enc q.d)]]) (⟨⟨_, _, rfl, .inr ⟨_, _, rfl, rfl, rfl, cellsH_of_at P6.blk, rfl⟩⟩, trivial⟩) ?_
    exact ⟨rfl, (k2.trans (kk.mono (by omega))).trans (P6.keeps.mono (by omega))⟩

/-- the map of the operations -/
def opsMap : Array MapEntry := #[⟨.int .u8 43, .func (.func 68) #[] #[], 0⟩, ⟨.int .u8 45, .func (.func 70) #[] #[], 1⟩, ⟨.int .u8 42, .func (.func 72) #[] #[], 2⟩, ⟨.int .u8 47, .func (.func 74) #[] #[], 3⟩]
theorem operations_fn {h : Array Obj} : FnV Tryz.prog 49 #[] h fun r h' => r = .map (some h.size) ∧ h'[h.size]? = some (.map opsMap 4) ∧ Keeps h.size h h' := by
  refine Fn.of (args := []) Tryz.func49 (by kernel_rfl) rfl Tryz.ntmps49 rfl fun w0 cs => ?_
  refine go_run tab 1000 _ _ ?_
  conv => whnf
  refine Runs.eff (eff_makeMap) ?_
  rintro _ _ ⟨rfl, rfl⟩
  try refine go_run tab 1000 _ _ ?_
  conv => whnf
  have set : ∀ (g g' : Array Obj) (o : Obj), g' = g.setIfInBounds h.size o → h.size < g.size → g'[h.size]? = some o := fun g g' o e hg => by rw [e]; exact Array.getElem?_setIfInBounds_self_of_lt hg
  have u1 := Tryz.underlying67
  have u2 := Tryz.underlying5
  refine Runs.eff (eff_insert u1 u2 (r := h.size) (es := #[]) (clock := 0) (key := .int .u8 43) (by simp) rfl) ?_
  rintro _ h1 ⟨rfl, e1⟩
  have z1 : h1.size = h.size + 1 := by rw [e1]; simp
  have m1 := set _ _ _ e1 (by simp)
  have k1 : Keeps h.size h h1 := by rw [e1]; exact ((Keeps.refl _ _).push (Nat.le_refl _) _).put (Nat.le_refl _) _
  try refine go_run tab 1000 _ _ ?_
  conv => whnf
  refine Runs.eff (eff_insert u1 u2 (key := .int .u8 45) m1 rfl) ?_
  rintro _ h2 ⟨rfl, e2⟩
  have z2 : h2.size = h1.size := by rw [e2]; simp
  have m2 := set _ _ _ e2 (by omega)
  have k2 : Keeps h.size h h2 := by rw [e2]; exact k1.put (Nat.le_refl _) _
  try refine go_run tab 1000 _ _ ?_
  conv => whnf
  refine Runs.eff (eff_insert u1 u2 (key := .int .u8 42) m2 rfl) ?_
  rintro _ h3 ⟨rfl, e3⟩
  have z3 : h3.size = h2.size := by rw [e3]; simp
  have m3 := set _ _ _ e3 (by omega)
  have k3 : Keeps h.size h h3 := by rw [e3]; exact k2.put (Nat.le_refl _) _
  try refine go_run tab 1000 _ _ ?_
  conv => whnf
  refine Runs.eff (eff_insert u1 u2 (key := .int .u8 47) m3 rfl) ?_
  rintro _ h4 ⟨rfl, e4⟩
  have m4 := set _ _ _ e4 (by omega)
  have k4 : Keeps h.size h h4 := by rw [e4]; exact k3.put (Nat.le_refl _) _
  try refine go_run tab 1000 _ _ ?_
  conv => whnf
  refine Runs.ret Tryz.func49 rfl rfl ⟨_, rfl, ?_⟩
  exact ⟨rfl, m4, k4⟩
end Go.Proofs.YtgnciigjhpcdmaaGreatDoor

namespace Go.Proofs.YtgnciigjhpcdmaaGreatDoor
open Go Go.Fw Go.NatM Go.RatM
set_option maxRecDepth 100000
set_option maxHeartbeats 16000000

def limR : List PanicEntry := [{ v := .iface 60 (.agg #[.int .i64 2]), recovered := true }]
def zcells : Array Value := #[.bool false, .string NatM.mt, .string NatM.mt]
theorem built_zero : (Tryz.prog).built 31 [] = some zcells := by rfl

/-- nil against nil -/
theorem eff_neNil {P : Program} {n : Nat} {l : Fr} {h : Array Obj} {o : Oper} {t yt : TypeId} {x : Operand} {ms : Array (String × TypeId)} (ht : P.underlying t = some (.interface ms))
    (hop : o.op = .binOp .neq t x (.const .nilIface) yt := by rfl) (hx : ev l x = some .nilIface := by rfl) : Eff P n l h o (fun v' h' => v' = .bool false ∧ h' = h) := by
  refine Eff.of_val1 fun a w ha hh => ⟨w, ?_, Like.refl w, hh⟩
  have e1 : (Op.equalIn 10000 t .nilIface .nilIface).run P w = .ok true w := by
    obtain ⟨m, hm⟩ : ∃ m, 10000 = m + 1 := ⟨9999, rfl⟩
    rw [hm]
    simp [Op.equalIn, run_underlying ht]
  have hc : a.eval (.const .nilIface) = .nilIface := rfl
  simp [execOp, hop, ha.ev hx, hc, eqGuard, binOp, Op.equal, Op.maxDepth, e1]

theorem calcDN {h : Array Obj} {p q : Value} : FnD Tryz.prog 48 #[p, q] .returning h fun e u' h' => e = .returned (tup []) ∧ u' = .returning ∧ h' = h := by
  refine FnD.of (args := [p, q]) Tryz.func48 (by kernel_rfl) rfl Tryz.ntmps48 rfl fun w0 c0 cs => ?_
  refine go_run tab 1000 _ _ ?_
  conv => whnf
  refine Runs.recoverN ?_
  try refine go_run tab 1000 _ _ ?_
  conv => whnf
  refine Runs.eff (eff_neNil Tryz.underlying20) ?_
  rintro _ h ⟨rfl, rfl⟩
  try refine go_run tab 1000 _ _ ?_
  conv => whnf
  exact Runs.finU (Unw.retD tab Tryz.func48 (vs := []) trivial ⟨rfl, rfl, rfl⟩)

theorem calcDP {h : Array Obj} {B b6 b7 : Nat} {cs6 cs7 : Array Value} {e7 : TypeId} (A6 : At h b6 cs6 31) (h6 : cs6.size = 3) (A7 : At h b7 cs7 e7) (h7 : cs7.size = 1) (hne : b6 ≠ b7) (hB6 : B ≤ b6) (hB7 : B ≤ b7) :
    FnD Tryz.prog 48 #[.pointer (some ⟨b6, 0, none⟩), .pointer (some ⟨b7, 0, none⟩)] (.panicking lim) h fun e u' h' =>
      e = .returned (tup []) ∧ u' = .panicking limR ∧ At h' b6 zcells 31 ∧ At h' b7 #[.int .i64 2] e7 ∧ Keeps B h h' := by
  refine FnD.of (args := [.pointer (some ⟨b6, 0, none⟩), .pointer (some ⟨b7, 0, none⟩)]) Tryz.func48 (by kernel_rfl) rfl Tryz.ntmps48 rfl fun w0 c0 cs => ?_
  refine go_run tab 1000 _ _ ?_
  conv => whnf
  refine Runs.recoverP ?_
  try refine go_run tab 1000 _ _ ?_
  conv => whnf
  refine Runs.eff (eff_buildA built_zero) ?_
  rintro _ h ⟨rfl, rfl⟩
  try refine go_run tab 1000 _ _ ?_
  conv => whnf
  refine Runs.callV (reason_fn) ?_
  rintro _ h1 ⟨rfl, k1⟩
  try refine go_run tab 1000 _ _ ?_
  conv => whnf
  have B6 := k1.at A6 A6.lt
  have B7 := k1.at A7 A7.lt
  have l6 := A6.lt
  have l7 := A7.lt
  refine Runs.eff (eff_storeS tab B6 (us := zcells) (hlt := h6)) ?_
  rintro _ h2 P2
  try refine go_run tab 1000 _ _ ?_
  conv => whnf
  have C7 := P2.at B7 (Ne.symm hne)
  obtain ⟨v7, hv7⟩ : ∃ v7, cs7 = #[v7] := by
    obtain ⟨l⟩ := cs7
    match l, h7 with
    | [v], _ => exact ⟨v, rfl⟩
  subst hv7
  refine Runs.eff (eff_storeB tab C7) ?_
  rintro _ h3 P3
  try refine go_run tab 1000 _ _ ?_
  conv => whnf
  refine Runs.finU (Unw.retD tab Tryz.func48 (vs := []) trivial ⟨rfl, rfl, P3.at P2.blk hne, P3.blk, ?_⟩)
  exact ((k1.mono (by omega)).trans (P2.keeps.mono hB6)).trans (P3.keeps.mono hB7)
end Go.Proofs.YtgnciigjhpcdmaaGreatDoor

namespace Go.Proofs.YtgnciigjhpcdmaaGreatDoor
open Go Go.Fw Go.NatM Go.RatM
set_option maxRecDepth 100000
set_option maxHeartbeats 16000000

theorem enc_one : enc 1 = ⟨#[1]⟩ := by decide +kernel

theorem rtCheck_fn {h : Array Obj} (a : Rt) (hT : TabH h) : FnV Tryz.prog 47 #[a.v] h fun r h' => r = .int .i64 (chkR a) ∧ Keeps h.size h h' := by
  obtain ⟨s, n, d⟩ := a
  refine Fn.of (args := [.agg #[.bool s, .string n, .string d]]) Tryz.func47 (by kernel_rfl) rfl Tryz.ntmps47 rfl fun w0 cs => ?_
  refine go_run tab 1000 _ _ ?_
  conv => whnf
  refine Runs.eff (eff_boxN rfl) ?_
  rintro _ h1 ⟨rfl, N1⟩
  try refine go_run tab 1000 _ _ ?_
  conv => whnf
  have s1 := N1.size
  have ca : ∀ h', Keeps h1.size h1 h' → cellH h' h.size 0 = some (.bool s) ∧ cellH h' h.size (0 + 1) = some (.string n) ∧ cellH h' h.size (0 + 2) = some (.string d) := fun h' hk => by
    have A := hk.at N1.blk N1.blk.lt
    exact ⟨by rw [A.cell]; rfl, by rw [A.cell]; rfl, by rw [A.cell]; rfl⟩
  refine ⟨_, (ca h1 (Keeps.refl _ _)).2.1, ?_⟩
  conv => whnf
  refine Runs.callV (Check_fn n) ?_
  rintro _ h2 ⟨rfl, k2⟩
  have q2 := k2.size
  try refine go_run tab 1000 _ _ ?_
  conv => whnf
  refine ⟨fun e1 => ?_, fun e1 => ?_⟩ <;> conv => whnf
  rotate_left
  · conv => whnf
    refine Runs.ret Tryz.func47 rfl rfl ⟨_, rfl, ?_⟩
    exact ⟨by unfold chkR; rw [if_neg (fun o => e1 o.1)]; rfl, N1.keeps.trans (k2.mono (by omega))⟩
  · conv => whnf
    refine ⟨_, (ca h2 k2).2.2, ?_⟩
    conv => whnf
    refine Runs.callV (Check_fn d) ?_
    rintro _ h3 ⟨rfl, k3⟩
    have q3 := k3.size
    have kk3 := k2.trans (k3.mono (by omega))
    try refine go_run tab 1000 _ _ ?_
    conv => whnf
    refine ⟨fun e2 => ?_, fun e2 => ?_⟩ <;> conv => whnf
    rotate_left
    · conv => whnf
      refine Runs.ret Tryz.func47 rfl rfl ⟨_, rfl, ?_⟩
      exact ⟨by unfold chkR; rw [if_neg (fun o => e2 o.2.1)]; rfl, N1.keeps.trans (kk3.mono (by omega))⟩
    · conv => whnf
      refine ⟨_, (ca h3 kk3).2.2, ?_⟩
      conv => whnf
      refine ⟨fun e3 => ?_, fun e3 => ?_⟩ <;> conv => whnf
      · conv => whnf
        refine Runs.ret Tryz.func47 rfl rfl ⟨_, rfl, ?_⟩
        exact ⟨by unfold chkR; rw [if_neg (fun o => o.2.2.1 (by show natv d = 0; rw [e3]; rfl))]; rfl, N1.keeps.trans (kk3.mono (by omega))⟩
      · try refine go_run tab 1000 _ _ ?_
        conv => whnf
        have c1 := chk_zero e1 (s := n) (by simp)
        have c2 := chk_zero e2 (s := d) (by simp)
        have hd : natv d ≠ 0 := natv_ne c2.1 (fun e => e3 (size_mt.2 e))
        refine ⟨_, (ca h3 kk3).2.1, ?_⟩
        conv => whnf
        refine ⟨_, (ca h3 kk3).2.2, ?_⟩
        conv => whnf
        refine Runs.callV (Gcd_fn n d (hT.keeps (N1.keeps.trans (kk3.mono (by omega))))) ?_
        rintro _ h4 ⟨rfl, k4⟩
        have q4 := k4.size
        have kk4 := kk3.trans (k4.mono (by omega))
        have eg : gcdS n d = (enc (Nat.gcd (natv n) (natv d)), 0) := by
          have := gcd_e (A := natv n) (C := natv d) (by rw [nb_natv c1.1]; exact c1.2) (by rw [nb_natv c2.1]; exact c2.2)
          rw [enc_natv c1.1, enc_natv c2.1] at this
          exact this
        rw [eg]
        try refine go_run tab 1000 _ _ ?_
        conv => whnf
        have hge : (enc (Nat.gcd (natv n) (natv d)) = ⟨#[1]⟩) ↔ Nat.gcd (natv n) (natv d) = 1 := by rw [← enc_one, enc_eq]
        have kk : Keeps h.size h h4 := N1.keeps.trans (kk4.mono (by omega))
        refine ⟨fun e4 => ?_, fun e4 => ?_⟩ <;> conv => whnf
        rotate_left
        · conv => whnf
          refine Runs.ret Tryz.func47 rfl rfl ⟨_, rfl, ?_⟩
          exact ⟨by unfold chkR; rw [if_neg (fun o => e4 (hge.2 o.2.2.2.1))]; rfl, kk⟩
        · have e4 := hge.1 e4
          conv => whnf
          refine ⟨_, (ca h4 kk4).1, ?_⟩
          conv => whnf
          cases s
          · conv => whnf
            refine Runs.ret Tryz.func47 rfl rfl ⟨_, rfl, ?_⟩
            exact ⟨by unfold chkR; rw [if_pos ⟨e1, e2, hd, e4, fun o => by cases o.1⟩]; rfl, kk⟩
          · conv => whnf
            refine ⟨_, (ca h4 kk4).2.1, ?_⟩
            conv => whnf
            refine ⟨fun e5 => ?_, fun e5 => ?_⟩ <;> conv => whnf
            · conv => whnf
              refine Runs.ret Tryz.func47 rfl rfl ⟨_, rfl, ?_⟩
              exact ⟨by unfold chkR; rw [if_neg (fun o => o.2.2.2.2 ⟨rfl, by show natv n = 0; rw [e5]; rfl⟩)]; rfl, kk⟩
            · conv => whnf
              refine Runs.ret Tryz.func47 rfl rfl ⟨_, rfl, ?_⟩
              exact ⟨by unfold chkR; rw [if_pos ⟨e1, e2, hd, e4, fun o => natv_ne c1.1 (fun e => e5 (size_mt.2 e)) o.2⟩]; rfl, kk⟩
end Go.Proofs.YtgnciigjhpcdmaaGreatDoor

namespace Go.Proofs.YtgnciigjhpcdmaaGreatDoor
open Go Go.Fw Go.NatM Go.RatM
set_option maxRecDepth 100000
set_option maxHeartbeats 16000000

def resC (k : Int) (f : Q → Q → Option Q) (a b : Rt) : Rt × Int :=
  if okR a ∧ okR b then (if k = 47 ∧ natv b.n = 0 then (zr, 71) else resR ((f (decQ a) (decQ b)).map lowQ)) else (zr, 70)
def rev (p : Rt × Int) : Value := .tuple #[p.1.v, .int .i64 p.2]

theorem calculate_fn {h : Array Obj} {k : Int} {i : Nat} {g : FuncId} {f : Q → Q → Option Q} (a b : Rt) (hT : TabH h)
    (hf : Instr.findNow (.int .u8) (.int .u8 k) opsMap.toList 0 = some (some (i, .func (.func g) #[] #[])))
    (hg : ∀ (h : Array Obj) (a b : Q), a.le 256 → b.le 256 → FnO Tryz.prog lim g #[nv a, nv b] h ((f a b).map nv))
    (hd : ∀ a b c : Q, a.Ok → b.Ok → ¬ (k = 47 ∧ b.n = 0) → f a b = some c → c.d ≠ 0 ∧ fits c.n ∧ fits c.d) :
    FnV Tryz.prog 37 #[.int .u8 k, a.v, b.v] h fun r h' => r = rev (resC k f a b) ∧ Keeps h.size h h' := by
  obtain ⟨r, hr⟩ : ∃ r, r = resC k f a b := ⟨_, rfl⟩
  rw [← hr]
  obtain ⟨s, n, d⟩ := a
  obtain ⟨t, m, e⟩ := b
  unfold resC at hr
  refine Fn.of (args := [.int .u8 k, .agg #[.bool s, .string n, .string d], .agg #[.bool t, .string m, .string e]]) Tryz.func37 (by kernel_rfl) rfl Tryz.ntmps37 rfl fun w0 cs => ?_
  refine go_run tab 1000 _ _ ?_
  conv => whnf
  refine Runs.eff (eff_boxN rfl) ?_
  rintro _ h1 ⟨rfl, N1⟩
  try refine go_run tab 1000 _ _ ?_
  conv => whnf
  refine Runs.eff (eff_boxN rfl) ?_
  rintro _ h2 ⟨rfl, N2⟩
  try refine go_run tab 1000 _ _ ?_
  conv => whnf
  refine Runs.eff (eff_allocN tab) ?_
  rintro _ h3 ⟨rfl, N3⟩
  try refine go_run tab 1000 _ _ ?_
  conv => whnf
  refine Runs.eff (eff_allocN tab) ?_
  rintro _ h4 ⟨rfl, N4⟩
  try refine go_run tab 1000 _ _ ?_
  conv => whnf
  have s1 := N1.size
  have s2 := N2.size
  have s3 := N3.size
  have s4 := N4.size
  have A1 := N4.at (N3.at (N2.at N1.blk))
  have A2 := N4.at (N3.at N2.blk)
  have A3 := N4.at N3.blk
  have A4 := N4.blk
  have k4 := ((N1.keeps.trans (N2.keeps.mono (by omega))).trans (N3.keeps.mono (by omega))).trans (N4.keeps.mono (by omega))
  refine Runs.eff (eff_loadAgg tab (vs := [.bool s, .string n, .string d]) (cellsH_of_at A1) rfl) ?_
  rintro _ h4 ⟨rfl, rfl⟩
  try refine go_run tab 1000 _ _ ?_
  conv => whnf
  refine Runs.callV (rtCheck_fn ⟨s, n, d⟩ (hT.keeps k4)) ?_
  rintro _ h5 ⟨rfl, k5⟩
  have q5 := k5.size
  try refine go_run tab 1000 _ _ ?_
  conv => whnf
  refine ⟨fun o1 => ?_, fun o1 => ?_⟩ <;> conv => whnf
  rotate_left
  · conv => whnf
    refine Runs.eff (eff_buildA built_zero) ?_
    rintro _ h5 ⟨rfl, rfl⟩
    try refine go_run tab 1000 _ _ ?_
    conv => whnf
    refine Runs.eff (eff_storeS tab (us := zcells) (k5.at A3 A3.lt)) ?_
    rintro _ h16 P6
    try refine go_run tab 1000 _ _ ?_
    conv => whnf
    refine Runs.eff (eff_storeB tab (P6.at (k5.at A4 A4.lt) (by omega))) ?_
    rintro _ h17 P7
    try refine go_run tab 1000 _ _ ?_
    conv => whnf
    rw [if_neg (fun o => o1 (chkR_zero.2 o.1))] at hr
    subst hr
    refine Runs.retA tab Tryz.func37 (vs := [.agg zcells, .int .i64 70]) (⟨⟨_, _, rfl, .inr ⟨_, _, rfl, rfl, rfl, cellsH_of_at (P7.at P6.blk (by omega)), rfl⟩⟩, ⟨_, _, rfl, .inl ⟨rfl, by rw [P7.blk.cell]; rfl⟩⟩, trivial⟩) ?_
    exact ⟨_, rfl, rfl, ((k4.trans (k5.mono (by omega))).trans (P6.keeps.mono (by omega))).trans (P7.keeps.mono (by omega))⟩
  · have o1 := chkR_zero.1 o1
    conv => whnf
    refine Runs.eff (eff_loadAgg tab (vs := [.bool t, .string m, .string e]) (cellsH_of_at (k5.at A2 A2.lt)) rfl) ?_
    rintro _ h5 ⟨rfl, rfl⟩
    try refine go_run tab 1000 _ _ ?_
    conv => whnf
    refine Runs.callV (rtCheck_fn ⟨t, m, e⟩ ((hT.keeps k4).keeps k5)) ?_
    rintro _ h6 ⟨rfl, k6⟩
    have q6 := k6.size
    have kk6 := k5.trans (k6.mono (by omega))
    try refine go_run tab 1000 _ _ ?_
    conv => whnf
    refine ⟨fun o2 => ?_, fun o2 => ?_⟩ <;> conv => whnf
    rotate_left
    · conv => whnf
      refine Runs.eff (eff_buildA built_zero) ?_
      rintro _ h6 ⟨rfl, rfl⟩
      try refine go_run tab 1000 _ _ ?_
      conv => whnf
      refine Runs.eff (eff_storeS tab (us := zcells) (kk6.at A3 A3.lt)) ?_
      rintro _ h16 P6
      try refine go_run tab 1000 _ _ ?_
      conv => whnf
      refine Runs.eff (eff_storeB tab (P6.at (kk6.at A4 A4.lt) (by omega))) ?_
      rintro _ h17 P7
      try refine go_run tab 1000 _ _ ?_
      conv => whnf
      rw [if_neg (fun o => o2 (chkR_zero.2 o.2))] at hr
      subst hr
      refine Runs.retA tab Tryz.func37 (vs := [.agg zcells, .int .i64 70]) (⟨⟨_, _, rfl, .inr ⟨_, _, rfl, rfl, rfl, cellsH_of_at (P7.at P6.blk (by omega)), rfl⟩⟩, ⟨_, _, rfl, .inl ⟨rfl, by rw [P7.blk.cell]; rfl⟩⟩, trivial⟩) ?_
      exact ⟨_, rfl, rfl, ((k4.trans (kk6.mono (by omega))).trans (P6.keeps.mono (by omega))).trans (P7.keeps.mono (by omega))⟩
    · have o2 := chkR_zero.1 o2
      rw [if_pos ⟨o1, o2⟩] at hr
      try refine go_run tab 1000 _ _ ?_
      conv => whnf
      have ca : ∀ h', Keeps h4.size h4 h' → cellH h' h.size 0 = some (.bool s) ∧ cellH h' h.size (0 + 1) = some (.string n) ∧ cellH h' h.size (0 + 2) = some (.string d) := fun h' hk => by
        have A := hk.at A1 A1.lt
        exact ⟨by rw [A.cell]; rfl, by rw [A.cell]; rfl, by rw [A.cell]; rfl⟩
      have cb : ∀ h', Keeps h4.size h4 h' → cellH h' h1.size 0 = some (.bool t) ∧ cellH h' h1.size (0 + 1) = some (.string m) ∧ cellH h' h1.size (0 + 2) = some (.string e) := fun h' hk => by
        have A := hk.at A2 A2.lt
        exact ⟨by rw [A.cell]; rfl, by rw [A.cell]; rfl, by rw [A.cell]; rfl⟩
      have cm := chk_zero o2.1 (s := m) (by simp)
      have qa := okR_q o1
      have qb := okR_q o2
      have na : nv (decQ ⟨s, n, d⟩) = .agg #[.bool s, .string n, .string d] := by rw [nv, ← qa.1]; rfl
      have nb : nv (decQ ⟨t, m, e⟩) = .agg #[.bool t, .string m, .string e] := by rw [nv, ← qb.1]; rfl
      have u1 := Tryz.underlying67
      have u2 := Tryz.underlying5
      refine ⟨fun z1 => ?_, fun z1 => ?_⟩ <;> conv => whnf
      conv => whnf
      refine ⟨_, (cb h6 kk6).2.1, ?_⟩
      conv => whnf
      refine ⟨fun z2 => ?_, fun z2 => ?_⟩ <;> conv => whnf
      · conv => whnf
        refine Runs.eff (eff_buildA built_zero) ?_
        rintro _ h6 ⟨rfl, rfl⟩
        try refine go_run tab 1000 _ _ ?_
        conv => whnf
        refine Runs.eff (eff_storeS tab (us := zcells) (kk6.at A3 A3.lt)) ?_
        rintro _ h16 P6
        try refine go_run tab 1000 _ _ ?_
        conv => whnf
        refine Runs.eff (eff_storeB tab (P6.at (kk6.at A4 A4.lt) (by omega))) ?_
        rintro _ h17 P7
        try refine go_run tab 1000 _ _ ?_
        conv => whnf
        rw [if_pos ⟨z1, by show natv m = 0; rw [z2]; rfl⟩] at hr
        subst hr
        refine Runs.retA tab Tryz.func37 (vs := [.agg zcells, .int .i64 71]) (⟨⟨_, _, rfl, .inr ⟨_, _, rfl, rfl, rfl, cellsH_of_at (P7.at P6.blk (by omega)), rfl⟩⟩, ⟨_, _, rfl, .inl ⟨rfl, by rw [P7.blk.cell]; rfl⟩⟩, trivial⟩) ?_
        exact ⟨_, rfl, rfl, ((k4.trans (kk6.mono (by omega))).trans (P6.keeps.mono (by omega))).trans (P7.keeps.mono (by omega))⟩
      all_goals first
        | (have hz : ¬ (k = 47 ∧ natv m = 0) := fun o => natv_ne cm.1 (fun e => z2 (size_mt.2 e)) o.2
           rw [if_neg hz] at hr)
        | (have hz : ¬ (k = 47 ∧ natv m = 0) := fun o => z1 o.1
           rw [if_neg hz] at hr)
      all_goals try refine go_run tab 1000 _ _ ?_
      all_goals conv => whnf
      all_goals refine Runs.deferU ?_
      all_goals try refine go_run tab 1000 _ _ ?_
      all_goals conv => whnf
      all_goals
        refine Runs.heldP tab [(1, []), (3, []), (4, []), (5, []), (6, []), (7, []), (8, []), (9, []), (10, []), (11, []), (12, []), (13, []), (14, []), (15, []), (16, []), (0, [4, 6, 8, 9, 11, 13, 15, 16]), (2, [4, 6, 8, 9, 11, 13, 15, 16]), (17, []), (18, []), (19, []), (20, [])] (by kernel_rfl) ?_
        conv => whnf
        refine ⟨_, (ca h6 kk6).1, ?_⟩
        conv => whnf
        refine ⟨_, (ca h6 kk6).2.1, ?_⟩
        conv => whnf
        refine ⟨_, (ca h6 kk6).2.2, ?_⟩
        conv => whnf
        refine ⟨rfl, _, plain_build (built_number _ _ _), ?_⟩
        conv => whnf
        refine ⟨_, (cb h6 kk6).1, ?_⟩
        conv => whnf
        refine ⟨_, (cb h6 kk6).2.1, ?_⟩
        conv => whnf
        refine ⟨_, (cb h6 kk6).2.2, ?_⟩
        conv => whnf
        refine ⟨rfl, _, plain_build (built_number _ _ _), ?_⟩
        conv => whnf
        refine ⟨rfl, _, _, EffP.of_eff (Eff.call operations_fn), fun _ _ h => h.elim, ?_⟩
        rintro _ h7 ⟨rfl, hm, k7⟩
        refine And.intro (by conv => whnf
                             repeat (first | (refine And.intro (fun e => (Keeps.cell (k7) (by omega)).trans e) ?_; conv => whnf) | (refine And.intro (fun e => Keeps.cells (k7) (by omega) e) ?_; conv => whnf))
                             exact trivial) ?_
        conv => whnf
        have q7 := k7.size
        have kk7 := kk6.trans (k7.mono (by omega))
        refine ⟨rfl, _, _, EffP.of_eff (eff_lookup u1 u2 hm hf), fun _ _ h => h.elim, ?_⟩
        rintro _ h7 ⟨rfl, rfl⟩
        refine And.intro (by conv => whnf
                             repeat (refine And.intro (fun e => e) ?_; conv => whnf)
                             exact trivial) ?_
        conv => whnf
        have hc := hg h7 (decQ ⟨s, n, d⟩) (decQ ⟨t, m, e⟩) qa.2.2 qb.2.2
        rw [na, nb] at hc
        cases hq : f (decQ ⟨s, n, d⟩) (decQ ⟨t, m, e⟩) with
        | none =>
          rw [hq] at hc hr
          subst hr
          refine ⟨rfl, _, _, EffP.callF (hc), ?_, fun _ _ h0 => h0.elim⟩
          rintro _ h0 ⟨rfl, k0⟩
          have kk0 := kk7.trans (k0.mono (by omega))
          refine Unw.defer (args := #[]) (calcDP (B := h.size) (kk0.at A3 A3.lt) rfl (kk0.at A4 A4.lt) rfl (by omega) (by omega) (by omega)) (by simp) (fun _ _ hh => by cases hh.1) ?_ (fun _ _ _ hh => by cases hh.1)
          rintro v u' h8 ⟨_, rfl, B6, B7, k8⟩
          show Unw _ _ .returning _ _
          exact Unw.retA tab Tryz.func37 (vs := [.agg zcells, .int .i64 2]) ⟨⟨_, _, rfl, .inr ⟨_, _, rfl, rfl, rfl, cellsH_of_at B6, rfl⟩⟩, ⟨_, _, rfl, .inl ⟨rfl, by rw [B7.cell]; rfl⟩⟩, trivial⟩ ⟨_, rfl, rfl, (k4.trans (kk0.mono (by omega))).trans k8⟩
        | some c =>
          have hcd := hd _ _ c qa.2.1 qb.2.1 hz hq
          rw [hq] at hc hr
          subst hr
          refine ⟨rfl, _, _, EffP.callS (hc), fun _ _ h => h.elim, ?_⟩
          rintro _ h8 ⟨rfl, k8⟩
          refine And.intro (by conv => whnf
                               repeat (refine And.intro (fun e => e) ?_; conv => whnf)
                               exact trivial) ?_
          conv => whnf
          have q8 := k8.size
          have kk8 := kk7.trans (k8.mono (by omega))
          refine ⟨rfl, _, _, EffP.of_eff (Eff.call (lowest_fn c hcd.1 hcd.2.1 hcd.2.2 ((hT.keeps k4).keeps kk8))), fun _ _ h => h.elim, ?_⟩
          rintro _ h9 ⟨rfl, k9⟩
          refine And.intro (by conv => whnf
                               repeat (refine And.intro (fun e => e) ?_; conv => whnf)
                               exact trivial) ?_
          conv => whnf
          have q9 := k9.size
          have kk9 := kk8.trans (k9.mono (by omega))
          refine ⟨rfl, _, _, EffP.of_eff (eff_storeS tab (us := #[.bool (lowQ c).neg, .string (enc (lowQ c).n), .string (enc (lowQ c).d)]) (kk9.at A3 A3.lt)), fun _ _ h => h.elim, ?_⟩
          rintro _ h10 P10
          refine And.intro (by conv => whnf
                               repeat (refine And.intro (fun e => e) ?_; conv => whnf)
                               exact trivial) ?_
          conv => whnf
          refine ⟨rfl, _, _, EffP.of_eff (eff_storeB tab (P10.at (kk9.at A4 A4.lt) (by omega))), fun _ _ h => h.elim, ?_⟩
          rintro _ h11 P11
          refine And.intro (by conv => whnf
                               repeat (refine And.intro (fun e => e) ?_; conv => whnf)
                               exact trivial) ?_
          conv => whnf
          try refine go_run tab 1000 _ _ ?_
          conv => whnf
          refine Runs.retU ?_
          refine Unw.defer (args := #[]) calcDN (by simp) (fun _ _ hh => by cases hh.1) ?_ (fun _ _ _ hh => by cases hh.1)
          rintro v u' h12 ⟨_, rfl, rfl⟩
          show Unw _ _ .returning _ _
          exact Unw.retA tab Tryz.func37 (vs := [.agg #[.bool (lowQ c).neg, .string (enc (lowQ c).n), .string (enc (lowQ c).d)], .int .i64 0]) ⟨⟨_, _, rfl, .inr ⟨_, _, rfl, rfl, rfl, cellsH_of_at (P11.at P10.blk (by omega)), rfl⟩⟩, ⟨_, _, rfl, .inl ⟨rfl, by rw [P11.blk.cell]; rfl⟩⟩, trivial⟩ ⟨_, rfl, rfl, ((k4.trans (kk9.mono (by omega))).trans (P10.keeps.mono (by omega))).trans (P11.keeps.mono (by omega))⟩
end Go.Proofs.YtgnciigjhpcdmaaGreatDoor

namespace Go.Proofs.YtgnciigjhpcdmaaGreatDoor
open Go Go.Fw Go.NatM Go.RatM
set_option maxRecDepth 100000
set_option maxHeartbeats 16000000

theorem qMul_fn {h : Array Obj} (a b : Rt) (hT : TabH h) : FnV Tryz.prog 23 #[a.v, b.v] h fun r h' => r = rev (mulR a b) ∧ Keeps h.size h h' := by
  obtain ⟨r, hr⟩ : ∃ r, r = mulR a b := ⟨_, rfl⟩
  rw [← hr]
  have heq : resC 42 (fun a b => mulP a b) a b = mulR a b := by unfold resC mulR opR; simp [← mulL_map]
  rw [← heq] at hr
  refine Fn.of (args := [.agg #[.bool a.neg, .string a.n, .string a.d], .agg #[.bool b.neg, .string b.n, .string b.d]]) Tryz.func23 (by kernel_rfl) rfl Tryz.ntmps23 rfl fun w0 cs => ?_
  refine go_run tab 1000 _ _ ?_
  conv => whnf
  refine Runs.eff (eff_boxN rfl) ?_
  rintro _ h1 ⟨rfl, N1⟩
  try refine go_run tab 1000 _ _ ?_
  conv => whnf
  refine Runs.eff (eff_boxN rfl) ?_
  rintro _ h2 ⟨rfl, N2⟩
  try refine go_run tab 1000 _ _ ?_
  conv => whnf
  refine Runs.eff (eff_allocN tab) ?_
  rintro _ h3 ⟨rfl, N3⟩
  try refine go_run tab 1000 _ _ ?_
  conv => whnf
  have s1 := N1.size
  have s2 := N2.size
  have s3 := N3.size
  have A1 := N3.at (N2.at N1.blk)
  have A2 := N3.at N2.blk
  have k2 := (N1.keeps.trans (N2.keeps.mono (by omega))).trans (N3.keeps.mono (by omega))
  refine Runs.eff (eff_loadAgg tab (vs := [.bool a.neg, .string a.n, .string a.d]) (cellsH_of_at A1) rfl) ?_
  rintro _ h3 ⟨rfl, rfl⟩
  try refine go_run tab 1000 _ _ ?_
  conv => whnf
  refine Runs.eff (eff_loadAgg tab (vs := [.bool b.neg, .string b.n, .string b.d]) (cellsH_of_at A2) rfl) ?_
  rintro _ h3 ⟨rfl, rfl⟩
  try refine go_run tab 1000 _ _ ?_
  conv => whnf
  refine Runs.callV (calculate_fn (k := 42) (i := 2) (g := 72) (f := fun a b => mulP a b) a b (hT.keeps k2) (by rfl) (fun h a b la lb => op3_fn a b la lb) (fun a b c ha hb _ e => ⟨by rw [(mulP_d e).1]; exact Nat.mul_ne_zero ha.1 hb.1, (mulP_d e).2⟩)) ?_
  rintro _ h4 ⟨rfl, k4⟩
  rw [← hr]
  have q4 := k4.size
  try refine go_run tab 1000 _ _ ?_
  conv => whnf
  refine Runs.eff (eff_storeS tab (us := #[.bool r.1.neg, .string r.1.n, .string r.1.d]) (k4.at N3.blk N3.blk.lt)) ?_
  rintro _ h5 P5
  try refine go_run tab 1000 _ _ ?_
  conv => whnf
  refine Runs.retA tab Tryz.func23 (vs := [.agg #[.bool r.1.neg, .string r.1.n, .string r.1.d], .int .i64 r.2]) (⟨⟨_, _, rfl, .inr ⟨_, _, rfl, rfl, rfl, cellsH_of_at P5.blk, rfl⟩⟩, rfl, trivial⟩) ?_
  exact ⟨_, rfl, rfl, (k2.trans (k4.mono (by omega))).trans (P5.keeps.mono (by omega))⟩

theorem qDiv_fn {h : Array Obj} (a b : Rt) (hT : TabH h) : FnV Tryz.prog 29 #[a.v, b.v] h fun r h' => r = rev (divR a b) ∧ Keeps h.size h h' := by
  obtain ⟨r, hr⟩ : ∃ r, r = divR a b := ⟨_, rfl⟩
  rw [← hr]
  have heq : resC 47 (fun a b => mulP a (invQ b)) a b = divR a b := by unfold resC divR; simp [← mulL_map]
  rw [← heq] at hr
  refine Fn.of (args := [.agg #[.bool a.neg, .string a.n, .string a.d], .agg #[.bool b.neg, .string b.n, .string b.d]]) Tryz.func29 (by kernel_rfl) rfl Tryz.ntmps29 rfl fun w0 cs => ?_
  refine go_run tab 1000 _ _ ?_
  conv => whnf
  refine Runs.eff (eff_boxN rfl) ?_
  rintro _ h1 ⟨rfl, N1⟩
  try refine go_run tab 1000 _ _ ?_
  conv => whnf
  refine Runs.eff (eff_boxN rfl) ?_
  rintro _ h2 ⟨rfl, N2⟩
  try refine go_run tab 1000 _ _ ?_
  conv => whnf
  refine Runs.eff (eff_allocN tab) ?_
  rintro _ h3 ⟨rfl, N3⟩
  try refine go_run tab 1000 _ _ ?_
  conv => whnf
  have s1 := N1.size
  have s2 := N2.size
  have s3 := N3.size
  have A1 := N3.at (N2.at N1.blk)
  have A2 := N3.at N2.blk
  have k2 := (N1.keeps.trans (N2.keeps.mono (by omega))).trans (N3.keeps.mono (by omega))
  refine Runs.eff (eff_loadAgg tab (vs := [.bool a.neg, .string a.n, .string a.d]) (cellsH_of_at A1) rfl) ?_
  rintro _ h3 ⟨rfl, rfl⟩
  try refine go_run tab 1000 _ _ ?_
  conv => whnf
  refine Runs.eff (eff_loadAgg tab (vs := [.bool b.neg, .string b.n, .string b.d]) (cellsH_of_at A2) rfl) ?_
  rintro _ h3 ⟨rfl, rfl⟩
  try refine go_run tab 1000 _ _ ?_
  conv => whnf
  refine Runs.callV (calculate_fn (k := 47) (i := 3) (g := 74) (f := fun a b => mulP a (invQ b)) a b (hT.keeps k2) (by rfl) (fun h a b la lb => op4_fn a b la lb) (fun a b c ha hb hz e => ⟨by rw [(mulP_d e).1]; exact Nat.mul_ne_zero ha.1 (fun e => hz ⟨rfl, e⟩), (mulP_d e).2⟩)) ?_
  rintro _ h4 ⟨rfl, k4⟩
  rw [← hr]
  have q4 := k4.size
  try refine go_run tab 1000 _ _ ?_
  conv => whnf
  refine Runs.eff (eff_storeS tab (us := #[.bool r.1.neg, .string r.1.n, .string r.1.d]) (k4.at N3.blk N3.blk.lt)) ?_
  rintro _ h5 P5
  try refine go_run tab 1000 _ _ ?_
  conv => whnf
  refine Runs.retA tab Tryz.func29 (vs := [.agg #[.bool r.1.neg, .string r.1.n, .string r.1.d], .int .i64 r.2]) (⟨⟨_, _, rfl, .inr ⟨_, _, rfl, rfl, rfl, cellsH_of_at P5.blk, rfl⟩⟩, rfl, trivial⟩) ?_
  exact ⟨_, rfl, rfl, (k2.trans (k4.mono (by omega))).trans (P5.keeps.mono (by omega))⟩

end Go.Proofs.YtgnciigjhpcdmaaGreatDoor

namespace Go.Proofs.YtgnciigjhpcdmaaGreatDoor
open Go Go.Fw Go.NatM Go.RatM
set_option maxRecDepth 100000
set_option maxHeartbeats 16000000

theorem amount_fn {h : Array Obj} (n : Int) (hn : -9223372036854775808 ≤ n ∧ n ≤ 9223372036854775807) : FnV Tryz.prog 35 #[.int .i64 n] h fun r h' => r = .string (enc n.natAbs) ∧ Keeps h.size h h' := by
  refine Fn.of (args := [.int .i64 n]) Tryz.func35 (by kernel_rfl) rfl Tryz.ntmps35 rfl fun w0 cs => ?_
  refine go_run tab 1000 _ _ ?_
  conv => whnf
  have fit1 : ∀ V : Nat, V ≤ 9223372036854775808 → nb V ≤ 8 := fun V hV => nb_le (by have : (256 : Nat) ^ 8 = 18446744073709551616 := by decide
                                                                                     omega)
  refine ⟨fun h0 => ?_, fun h0 => ?_⟩ <;> conv => whnf
  · try refine go_run tab 1000 _ _ ?_
    conv => whnf
    refine Runs.callV (Of_fn n hn.2) ?_
    rintro _ h1 ⟨rfl, k1⟩
    have q1 := k1.size
    rw [show ofS n = (enc n.natAbs, 0) by unfold ofS; rw [if_neg (by omega), show n.toNat = n.natAbs by omega]]
    try refine go_run tab 1000 _ _ ?_
    conv => whnf
    refine Runs.callS (must_ok (enc n.natAbs)) ?_
    rintro h2 k2
    try refine go_run tab 1000 _ _ ?_
    conv => whnf
    refine Runs.ret Tryz.func35 rfl rfl ⟨_, rfl, ?_⟩
    exact ⟨rfl, k1.trans (k2.mono (by omega))⟩
  · try refine go_run tab 1000 _ _ ?_
    conv => whnf
    repeat (refine And.intro (by omega) ?_; conv => whnf)
    refine Runs.callV (Of_fn (0 - (n + 1)) (by omega)) ?_
    rintro _ h1 ⟨rfl, k1⟩
    have q1 := k1.size
    have e1 : ofS (0 - (n + 1)) = (enc (n.natAbs - 1), 0) := by unfold ofS; rw [if_neg (by omega), show (0 - (n + 1)).toNat = n.natAbs - 1 by omega]
    rw [e1]
    try refine go_run tab 1000 _ _ ?_
    conv => whnf
    refine Runs.callS (must_ok (enc (n.natAbs - 1))) ?_
    rintro h2 k2
    have q2 := k2.size
    try refine go_run tab 1000 _ _ ?_
    conv => whnf
    rw [← enc_one]
    refine Runs.callV (Add_fn (enc (n.natAbs - 1)) (enc 1)) ?_
    rintro _ h3 ⟨rfl, k3⟩
    have q3 := k3.size
    have f1 := fit1 (n.natAbs - 1) (by omega)
    have f2 := fit1 1 (by omega)
    have f3 := fit1 (n.natAbs - 1 + 1) (by omega)
    rw [add_e (by omega) (by omega), short_e (by omega)]
    try refine go_run tab 1000 _ _ ?_
    conv => whnf
    refine Runs.callS (must_ok (enc (n.natAbs - 1 + 1))) ?_
    rintro h4 k4
    try refine go_run tab 1000 _ _ ?_
    conv => whnf
    refine Runs.ret Tryz.func35 rfl rfl ⟨_, rfl, ?_⟩
    exact ⟨by rw [show n.natAbs - 1 + 1 = n.natAbs by omega]; rfl, ((k1.trans (k2.mono (by omega))).trans (k3.mono (by omega))).trans (k4.mono (by omega))⟩
end Go.Proofs.YtgnciigjhpcdmaaGreatDoor
