/- Texts of this seat, joined: divisor. Div, Gcd. sane. The functions of package naturals at numbers' strings; plain. What the rows of this seat have in common: the table of package math/bits at the call's beginning; a world for the witness. -/
import Derived.Test.YtehlghcpbmbfkaaDoorJoinB
import Derived.Test.YtehlghcpbmbfkaaDoorCards
import Derived.Test.YtehlghcpbmbfkaaDoorTie
import Derived.WalkKit
import Derived.ProofKit
import Derived.OpenShut
import Derived.Deep.DeepHandedRow
import Derived.Lib.LaidTab
namespace Go.Proofs.YtehlghcpbmbfkaaDoor
open Go Go.Fw Go.NatM
set_option maxRecDepth 100000
set_option maxHeartbeats 8000000

theorem Wown.put {base : Nat} {h h' : Array Obj} {v : Value} {m V g : Nat} (hw : Wown base h v m V) (P : PutO h h' g) (hne : v.ownBlock ≠ some g) : Wown base h' v m V := by
  obtain ⟨g', cap, cur, rfl, hb, hat, r⟩ := hw
  have hne : g' ≠ g := fun e => hne (by rw [e]; rfl)
  exact ⟨g', cap, cur, rfl, hb, P.at hat hne, r⟩

theorem Wown.blk {base : Nat} {h : Array Obj} {v : Value} {m V : Nat} (hw : Wown base h v m V) : ∃ g, v.ownBlock = some g ∧ base ≤ g ∧ g < h.size := by
  obtain ⟨g, cap, cur, rfl, hb, hat, _⟩ := hw
  exact ⟨g, rfl, hb, hat.lt⟩

theorem PutO.setB {h : Array Obj} {g : Nat} (cs : Array Value) (e : TypeId) : PutO h (Fw.setB h g cs e) g := PutO.of ..

theorem shiftO_fn {base : Nat} {h : Array Obj} {v : Value} {m V : Nat} (hw : Wown base h v m V) (hm : m ≤ 1048576) (k : Nat) (hk : k ≤ 67108864) :
    FnV Tryd.prog 62 #[v, .int .i64 k] h fun r h' => Wown base h' r (nw (V / 2 ^ k)) (V / 2 ^ k) ∧ r.ownBlock = v.ownBlock ∧ ∃ g, v.ownBlock = some g ∧ PutO h h' g := by
  obtain ⟨g, cap, cur, rfl, hb, hat, hsz, hmc, hV, hc⟩ := hw
  refine (shift_fn hat hsz hmc hV hc hm k hk).mono ?_
  rintro _ _ ⟨rfl, cur', rfl, hsz', hc'⟩
  have hn : nw (V / 2 ^ k) ≤ m := nw_le (Nat.lt_of_le_of_lt (Nat.div_le_self _ _) hV)
  exact ⟨⟨g, cap, cur', rfl, hb, setB_same hat.lt _ _, hsz', by omega, nw_lt _, fun j hj => hc' j (by omega)⟩, rfl, g, rfl, PutO.setB ..⟩

theorem reduceO_fn {base base2 : Nat} {h : Array Obj} {v v2 : Value} {m m2 V1 V2 : Nat} (hw : Wown base h v m V1) (hw2 : Wown base2 h v2 m2 V2) (hne : v.ownBlock ≠ v2.ownBlock) (hle : V2 ≤ V1) (hm : m ≤ 1048576) :
    FnV Tryd.prog 48 #[v, v2] h fun r h' => r = .tuple #[] ∧ Wown base h' v m (V1 - V2) ∧ ∃ g, v.ownBlock = some g ∧ PutO h h' g := by
  obtain ⟨g, cap, cur, rfl, hb, hat, hsz, hmc, hV, hc⟩ := hw
  refine (reduce_fn hat hsz hmc hV hc hw2.wr (fun e => hne e.symm) hle hm).mono ?_
  rintro _ _ ⟨rfl, cur', rfl, hsz', hc'⟩
  exact ⟨rfl, ⟨g, cap, cur', rfl, hb, setB_same hat.lt _ _, hsz', hmc, Nat.lt_of_le_of_lt (Nat.sub_le _ _) hV, hc'⟩, g, rfl, PutO.setB ..⟩

theorem zerosO_fn {base : Nat} {h : Array Obj} {v : Value} {m V : Nat} (hw : Wown base h v m V) (h0 : V ≠ 0) (hm : m ≤ 1048576) (hT : TabH h) :
    FnV Tryd.prog 66 #[v] h fun r h' => (∃ k : Nat, r = .int .i64 k ∧ Tz V k) ∧ h' = h := by
  have hw' := hw.wr
  obtain ⟨g, cap, cur, rfl, _⟩ := hw
  exact zeros_fn hw' h0 hm hT

/-- between two rounds of the binary way -/
structure GcdI (h : Array Obj) (G A C : Nat) (va vb : Value) (h' : Array Obj) : Prop where
  keeps : Keeps h.size h h'
  a : Wown h.size h' va (nw A) A
  c : Wown h.size h' vb (nw C) C
  ne : va.ownBlock ≠ vb.ownBlock
  oa : A % 2 = 1
  oc : C % 2 = 1
  na : nw A ≤ 65536
  nc : nw C ≤ 65536
  gcd : Nat.gcd A C = G

theorem tz_unique {V k k' : Nat} (h : Tz V k) (h' : Tz V k') : k = k' := by
  have key : ∀ {k k' : Nat}, Tz V k → Tz V k' → ¬ k < k' := by
    rintro k k' ⟨m, rfl⟩ ⟨m', e⟩ hlt
    rw [show 2 ^ k' = 2 ^ k * (2 * 2 ^ (k' - k - 1)) by rw [← Nat.pow_succ', ← Nat.pow_add]; congr 1; omega, Nat.mul_assoc] at e
    have e := Nat.eq_of_mul_eq_mul_left (Nat.two_pow_pos k) e
    rw [Nat.mul_assoc] at e
    omega
  have h1 := key h h'
  have h2 := key h' h
  omega

theorem bl_nw (V : Nat) : bl V ≤ 64 * nw V := by
  by_cases h : V = 0
  · subst h; decide
  · have := bl_word h
    have := bl_le64 (wdc_lt V (nw V - 1))
    have := nw_pos h
    omega

theorem tz_le {V k : Nat} (h : Tz V k) (hn : nw V ≤ 65536) : k ≤ 4194304 := by
  have := h.lt_bl
  have := bl_nw V
  omega

theorem odd_of {m X : Nat} (h : X = 2 * m + 1) : X % 2 = 1 := by omega
theorem of_odd {X : Nat} (h : X % 2 = 1) : X = 2 * (X / 2) + 1 := by omega

theorem nw_zero_iff {V : Nat} : nw V = 0 ↔ V = 0 := by
  constructor
  · intro h
    rcases Nat.eq_zero_or_pos V with e | e
    · exact e
    · have := nw_pos (show V ≠ 0 by omega); omega
  · rintro rfl; rfl

theorem one_word {V : Nat} (h : nw V = 1) : V < B ∧ wdc V 0 = V := by
  have h1 := nw_lt V
  rw [h, Nat.pow_one] at h1
  refine ⟨h1, ?_⟩
  unfold wdc; rw [Nat.pow_zero, Nat.div_one]; exact Nat.mod_eq_of_lt h1

/-- the words of a power of 2 -/
theorem pow_word (t j : Nat) : wdc (2 ^ t) j = if j = t / 64 then 2 ^ (t % 64) else 0 := by
  have h64 : t % 64 < 64 := Nat.mod_lt _ (by decide)
  have hp : 2 ^ (t % 64) < B := Nat.pow_lt_pow_right (by decide) h64
  rw [two_word t]
  split
  · rename_i e
    unfold wdc
    rw [e, Nat.mul_div_cancel_left _ (Bp_pos _)]
    exact Nat.mod_eq_of_lt hp
  · rename_i e
    rcases Nat.lt_or_ge j (t / 64) with h | h
    · rw [Nat.mul_comm]; exact wdc_mulB h
    · refine wdc_ge (m := t / 64 + 1) ?_ (by omega)
      rw [Nat.pow_succ]
      exact Nat.mul_lt_mul_of_pos_left hp (Bp_pos _)

theorem cmpI_eq {x y : Nat} (h : cmpI (x : Int) (y : Int) = 0) : x = y := by
  unfold cmpI at h
  split at h
  · omega
  · split at h <;> omega

theorem divisor_fn {h : Array Obj} {v1 v2 : Value} {V1 V2 : Nat} (hw1 : Wr h v1 (nw V1) V1) (hw2 : Wr h v2 (nw V2) V2) (hm1 : nw V1 ≤ 65536) (hm2 : nw V2 ≤ 65536) (hT : TabH h) :
    FnV Tryd.prog 53 #[v1, v2] h fun r h' => (∃ m, Wr h' r m (Nat.gcd V1 V2) ∧ m ≤ 1048576) ∧ Keeps h.size h h' := by
  obtain ⟨a1, cap1, rfl⟩ : ∃ a cap, v1 = .slice a (nw V1) cap := let ⟨a, cap, e, _⟩ := hw1; ⟨a, cap, e⟩
  obtain ⟨a2, cap2, rfl⟩ : ∃ a cap, v2 = .slice a (nw V2) cap := let ⟨a, cap, e, _⟩ := hw2; ⟨a, cap, e⟩
  refine Fn.of (args := [.slice a1 (nw V1) cap1, .slice a2 (nw V2) cap2]) Tryd.func53 (by kernel_rfl) rfl Tryd.ntmps53 rfl fun w0 cs => ?_
  refine go_run tab 1000 _ _ ?_
  conv => whnf
  refine ⟨fun h1 => ?_, fun h1 => ?_⟩ <;> conv => whnf
  · refine Runs.ret Tryd.func53 rfl rfl ⟨_, rfl, ?_⟩
    have : V1 = 0 := nw_zero_iff.1 (by omega)
    subst this
    rw [Nat.gcd_zero_left]
    exact ⟨⟨_, hw2, by omega⟩, Keeps.refl _ _⟩
  · have z1 : V1 ≠ 0 := fun e => h1 (by rw [e]; rfl)
    refine ⟨fun h2 => ?_, fun h2 => ?_⟩ <;> conv => whnf
    · refine Runs.ret Tryd.func53 rfl rfl ⟨_, rfl, ?_⟩
      have : V2 = 0 := nw_zero_iff.1 (by omega)
      subst this
      rw [Nat.gcd_zero_right]
      exact ⟨⟨_, hw1, by omega⟩, Keeps.refl _ _⟩
    · have z2 : V2 ≠ 0 := fun e => h2 (by rw [e]; rfl)
      have p1 := nw_pos z1
      have p2 := nw_pos z2
      have big : ¬ (nw V1 = 1 ∧ nw V2 = 1) → True := fun _ => trivial
      refine ⟨fun h3 => ?_, fun h3 => ?_⟩ <;> conv => whnf
      · refine ⟨fun h4 => ?_, fun h4 => ?_⟩ <;> conv => whnf
        · obtain ⟨q1, w1⟩ := one_word (V := V1) (by omega)
          obtain ⟨q2, w2⟩ := one_word (V := V2) (by omega)
          obtain ⟨b1, off1, rfl, hrd1⟩ := hw1.rd rfl p1
          obtain ⟨b2, off2, rfl, hrd2⟩ := hw2.rd rfl p2
          refine Runs.held tab [(0, []), (1, []), (2, []), (3, []), (4, []), (5, []), (6, []), (7, [])] (by kernel_rfl) ?_
          conv => whnf
          repeat (refine And.intro (by omega) ?_; conv => whnf)
          refine ⟨_, hrd1 0 p1, ?_⟩
          conv => whnf
          repeat (refine And.intro (by omega) ?_; conv => whnf)
          refine ⟨_, hrd2 0 p2, ?_⟩
          conv => whnf
          rw [w1, w2]
          try refine go_run tab 1000 _ _ ?_
          conv => whnf
          refine Runs.loop (X := Nat × Nat) (fun q => [(5, .int .u64 (q.1 : Nat)), (6, .int .u64 (q.2 : Nat))]) (fun q h' => h' = h ∧ q.1 < B ∧ q.2 < B ∧ Nat.gcd q.1 q.2 = Nat.gcd V1 V2) (fun q => q.2) (V1, V2)
            ⟨rfl, q1, q2, rfl⟩ ⟨rfl, rfl, trivial⟩ ?_
          rintro ⟨x, y⟩ h ⟨rfl, hx, hy, hg⟩ ih
          dsimp only at hx hy hg ⊢
          try refine go_run tab 1000 _ _ ?_
          conv => whnf
          refine ⟨fun h5 => ?_, fun h5 => ?_⟩ <;> conv => whnf
          · refine Runs.eff (eff_buildN tab [.int .u64 (x : Nat)] (h1 := by simp [Value.cells])) ?_
            rintro _ h2 ⟨rfl, N2⟩
            try refine go_run tab 1000 _ _ ?_
            conv => whnf
            refine Runs.ret Tryd.func53 rfl rfl ⟨_, rfl, ?_⟩
            have hy0 : y = 0 := by omega
            subst hy0
            rw [Nat.gcd_zero_right] at hg
            rw [← hg]
            refine ⟨⟨1, Wr.of_at N2.blk (Nat.le_refl _) (by rw [Nat.pow_one]; exact hx) (fun j hj => ?_), by omega⟩, N2.keeps⟩
            have : j = 0 := by omega
            subst this
            rw [show wdc x 0 = x by unfold wdc; rw [Nat.pow_zero, Nat.div_one]; exact Nat.mod_eq_of_lt hx]
            rfl
          · try refine go_run tab 1000 _ _ ?_
            conv => whnf
            refine Runs.held tab [(0, []), (1, []), (2, []), (3, []), (4, []), (5, [])] (by kernel_rfl) ?_
            conv => whnf
            rw [B_eq] at hx hy
            repeat (refine And.intro (by omega) ?_; conv => whnf)
            try refine go_run tab 1000 _ _ ?_
            conv => whnf
            exact ih (y, x % y) _ _ ⟨rfl, by rw [B_eq]; exact hy, by rw [B_eq]; exact Nat.lt_of_lt_of_le (Nat.mod_lt _ (by omega)) (by omega), by rw [← hg, Nat.gcd_comm, ← Nat.gcd_rec, Nat.gcd_comm]⟩ (Nat.mod_lt _ (by omega)) ⟨rfl, rfl, trivial⟩
        · try refine go_run tab 1000 _ _ ?_
          conv => whnf
          refine Runs.callV (zeros_fn hw1 z1 (by omega) hT) ?_
          rintro _ h ⟨⟨k1, rfl, t1⟩, rfl⟩
          try refine go_run tab 1000 _ _ ?_
          conv => whnf
          refine Runs.callV (zeros_fn hw2 z2 (by omega) hT) ?_
          rintro _ h ⟨⟨k2, rfl, t2⟩, rfl⟩
          have lk1 := tz_le t1 hm1
          have lk2 := tz_le t2 hm2
          obtain ⟨tw, htw⟩ : ∃ tw, tw = min k1 k2 := ⟨_, rfl⟩
          try refine go_run tab 1000 _ _ ?_
          conv => whnf
          rw [show min (k1 : Int) (k2 : Int) = (tw : Nat) by omega]
          refine Runs.callV (clone_fn hw1 p1 (by omega)) ?_
          rintro va ha ⟨Oa, ka⟩
          try refine go_run tab 1000 _ _ ?_
          conv => whnf
          refine Runs.callV (clone_fn (hw2.keeps ka) p2 (by omega)) ?_
          rintro vb hb ⟨Ob, kb⟩
          have sa := ka.size
          have sb := kb.size
          obtain ⟨ga, ea, ba, la⟩ := Oa.blk
          obtain ⟨gb, eb, bb, lb⟩ := Ob.blk
          have Oa := Oa.keeps kb (Nat.le_refl _)
          have hkb : Keeps h.size h hb := ka.trans (kb.mono sa)
          have Tb := hT.keeps hkb
          have Ob := Ob.mono sa
          try refine go_run tab 1000 _ _ ?_
          conv => whnf
          refine Runs.callV (zerosO_fn Oa z1 (by omega) Tb) ?_
          rintro _ hb ⟨⟨k1', rfl, t1'⟩, rfl⟩
          obtain rfl := tz_unique t1 t1'
          try refine go_run tab 1000 _ _ ?_
          conv => whnf
          refine Runs.callV (shiftO_fn Oa (by omega) k1 (by omega)) ?_
          rintro va1 hc ⟨Oa1, oa1, g1, eg1, P1⟩
          rw [ea] at eg1
          cases eg1
          have Ob1 := Ob.put P1 (by rw [eb]; intro e; cases e; omega)
          have hkc : Keeps h.size h hc := hkb.trans (P1.keeps.mono ba)
          have Tc := hT.keeps hkc
          try refine go_run tab 1000 _ _ ?_
          conv => whnf
          refine Runs.callV (zerosO_fn Ob1 z2 (by omega) Tc) ?_
          rintro _ hc ⟨⟨k2', rfl, t2'⟩, rfl⟩
          obtain rfl := tz_unique t2 t2'
          try refine go_run tab 1000 _ _ ?_
          conv => whnf
          refine Runs.callV (shiftO_fn Ob1 (by omega) k2 (by omega)) ?_
          rintro vb1 hd ⟨Ob2, ob2, g2, eg2, P2⟩
          rw [eb] at eg2
          cases eg2
          have Oa2 := Oa1.put P2 (by rw [oa1, ea]; intro e; cases e; omega)
          have hkd : Keeps h.size h hd := hkc.trans (P2.keeps.mono (by omega))
          obtain ⟨m1, od1, _⟩ := t1.div
          obtain ⟨m2, od2, _⟩ := t2.div
          have hgs := gcd_start t1 t2
          rw [← htw] at hgs
          have n1 := nw_mono (Nat.div_le_self V1 (2 ^ k1))
          have n2 := nw_mono (Nat.div_le_self V2 (2 ^ k2))
          try refine go_run tab 1000 _ _ ?_
          conv => whnf
          refine Runs.loop (X := Nat × Nat × Value × Value) (fun q => [(0, q.2.2.1), (1, q.2.2.2), (7, .int .i64 (tw : Nat))]) (fun q h' => GcdI h (Nat.gcd (V1 / 2 ^ k1) (V2 / 2 ^ k2)) q.1 q.2.1 q.2.2.1 q.2.2.2 h') (fun q => q.1 + q.2.1) (V1 / 2 ^ k1, V2 / 2 ^ k2, va1, vb1)
            ⟨hkd, Oa2, Ob2, by rw [oa1, ob2, ea, eb]; intro e; cases e; omega, odd_of od1, odd_of od2, by dsimp only; omega, by dsimp only; omega, rfl⟩ ⟨rfl, rfl, rfl, trivial⟩ ?_
          rintro ⟨A, C, wa, wc⟩ he ⟨ke, Ea, Ec, ene, eoa, eoc, ena, enc, eg⟩ ih
          dsimp only at Ea Ec ene eoa eoc ena enc eg ih ⊢
          try refine go_run tab 1000 _ _ ?_
          conv => whnf
          refine Runs.callV (compare_fn Ea.wr Ec.wr (by omega)) ?_
          rintro _ he ⟨rfl, rfl⟩
          try refine go_run tab 1000 _ _ ?_
          conv => whnf
          refine ⟨fun hc0 => ?_, fun hc0 => ?_⟩ <;> conv => whnf
          · try refine go_run tab 1000 _ _ ?_
            conv => whnf
            repeat (refine And.intro (by omega) ?_; conv => whnf)
            refine Runs.eff (eff_makeN tab (tw / 64 + 1) (tw / 64 + 1) (hn := ⟨by omega, by omega, by omega, by dsimp only; omega, by omega⟩)) ?_
            rintro _ hf ⟨rfl, Nf⟩
            try refine go_run tab 1000 _ _ ?_
            conv => whnf
            repeat (refine And.intro (by omega) ?_; conv => whnf)
            refine Runs.eff (eff_storeN tab Nf.blk (hlt := by simp; omega)) ?_
            rintro _ hg2 Pg
            try refine go_run tab 1000 _ _ ?_
            conv => whnf
            have hAC := cmpI_eq hc0
            subst hAC
            rw [Nat.gcd_self] at eg
            have zf := Nf.size
            have zg := Pg.size
            have zke := ke.size
            have Ea0 := Ea
            have Ea := Ea.keeps Nf.keeps (Nat.le_refl _)
            obtain ⟨gx, egx, bgx, lgx⟩ := Ea.blk
            have kf : Keeps h.size h hg2 := (ke.trans (Nf.keeps.mono zke)).trans (Pg.keeps.mono zke)
            have Eg : Wown h.size hg2 wa (nw A) A := by
              obtain ⟨g', cap, cur, rfl, hb', hat, r⟩ := Ea
              refine ⟨g', cap, cur, rfl, hb', Pg.at hat ?_, r⟩
              intro e
              subst e
              have := Nf.blk
              obtain ⟨g2', cap2', cur2', e2, _, hat2, _⟩ := Ea0
              cases e2
              have := hat2.lt
              omega
            have hpow : (2 : Nat) ^ tw < B ^ (tw / 64 + 1) := by
              rw [two_word tw, Nat.pow_succ]
              exact Nat.mul_lt_mul_of_pos_left (Nat.pow_lt_pow_right (by decide) (show tw % 64 < 64 by omega)) (Bp_pos _)
            have hwp := Wr.of_at Pg.blk (m := tw / 64 + 1) (cap := tw / 64 + 1) (V := 2 ^ tw) (Nat.le_refl _) hpow (fun j hj => by
              rw [pow_word]
              by_cases e : j = tw / 64
              · rw [if_pos e, show 0 + ((tw : Int) / 64).toNat = j by omega, Array.getElem?_setIfInBounds_self_of_lt (by simp; omega)]
                have h64 : tw % 64 < 64 := Nat.mod_lt _ (by decide)
                have hp : 2 ^ (tw % 64) < B := Nat.pow_lt_pow_right (by decide) h64
                obtain ⟨p, hp'⟩ : ∃ p, p = 2 ^ (tw % 64) := ⟨_, rfl⟩
                rw [show ((tw : Int) % 64).toNat = tw % 64 by omega]
                have e9 : ((2 : Int) ^ (tw % 64)) = ((2 ^ (tw % 64) : Nat) : Int) := by simp
                rw [e9, ← hp']
                rw [← hp', B_eq] at hp
                rw [show (1 : Int) * p % 18446744073709551616 = p by omega]
              · rw [if_neg e, Array.getElem?_setIfInBounds_ne (by omega), Array.getElem?_replicate, if_pos hj]
                rfl)
            refine Runs.callV (times_fn Eg.wr hwp (by omega) (by omega)) ?_
            rintro vr hh ⟨Or, kr⟩
            try refine go_run tab 1000 _ _ ?_
            conv => whnf
            refine Runs.ret Tryd.func53 rfl rfl ⟨_, rfl, ?_⟩
            refine ⟨⟨nw A + (tw / 64 + 1), ?_, by omega⟩, kf.trans (kr.mono (by omega))⟩
            rw [hgs, ← eg]
            exact Or.wr
          · refine ⟨fun hcl => ?_, fun hcl => ?_⟩ <;> conv => whnf
            · have hlt : A < C := by
                rcases Nat.lt_or_ge A C with h | h
                · exact h
                · exfalso
                  rcases Nat.lt_or_ge C A with h' | h'
                  · first | exact hcl ((cmpI_lt _ _).2 h') | (have := (cmpI_lt _ _).1 hcl; omega)
                  · have e : C = A := by omega
                    apply hc0
                    subst e
                    unfold cmpI
                    rw [if_neg (Int.lt_irrefl _), if_neg (Int.lt_irrefl _)]
              try refine go_run tab 1000 _ _ ?_
              conv => whnf
              refine Runs.callV (reduceO_fn Ec Ea (Ne.symm ene) (by omega) (by omega)) ?_
              rintro _ hf ⟨rfl, Ra, gr, egr, Pr⟩
              have R2 := Ea.put Pr (by rw [← egr]; exact Ne.symm (Ne.symm ene))
              obtain ⟨g1', eg1', bg1', _⟩ := Ec.blk
              have hgr : h.size ≤ gr := by rw [egr] at eg1'; cases eg1'; exact bg1'
              have kf : Keeps h.size h hf := ke.trans (Pr.keeps.mono hgr)
              try refine go_run tab 1000 _ _ ?_
              conv => whnf
              refine Runs.callV (zerosO_fn Ra (by omega) (by omega) (hT.keeps kf)) ?_
              rintro _ hf ⟨⟨kz, rfl, tz⟩, rfl⟩
              have hev : (C - A) % 2 = 0 := by omega
              have kzp := tz_pos tz hev
              have nsub := nw_mono (Nat.sub_le C A)
              try refine go_run tab 1000 _ _ ?_
              conv => whnf
              refine Runs.callV (shiftO_fn Ra (by omega) kz (Nat.le_trans (tz_le tz (by omega)) (by decide))) ?_
              rintro wa' hg ⟨Sa, osa, gs, egs, Ps⟩
              have S2 := R2.put Ps (by rw [← egs]; exact Ne.symm (Ne.symm ene))
              have hgs' : h.size ≤ gs := by rw [egs] at eg1'; cases eg1'; exact bg1'
              have kg : Keeps h.size h hg := kf.trans (Ps.keeps.mono hgs')
              obtain ⟨mo, odd', _⟩ := tz.div
              have gst := gcd_step (of_odd eoa) (by omega) tz
              have hdl := Nat.div_le_self (C - A) (2 ^ kz)
              have ndiv := nw_mono hdl
              try refine go_run tab 1000 _ _ ?_
              conv => whnf
              exact ih ((C - A) / 2 ^ kz, A, wa', wa) _ _ ⟨kg, Sa, S2, by rw [osa]; exact (Ne.symm ene), odd_of odd', eoa, by dsimp only; omega, ena, by rw [gst]; exact (by rw [Nat.gcd_comm]; exact eg)⟩ (by dsimp only; omega) ⟨rfl, rfl, rfl, trivial⟩
            · have hlt : C < A := by
                rcases Nat.lt_or_ge C A with h | h
                · exact h
                · exfalso
                  rcases Nat.lt_or_ge A C with h' | h'
                  · first | exact hcl ((cmpI_lt _ _).2 h') | (have := (cmpI_lt _ _).1 hcl; omega)
                  · have e : A = C := by omega
                    apply hc0
                    subst e
                    unfold cmpI
                    rw [if_neg (Int.lt_irrefl _), if_neg (Int.lt_irrefl _)]
              try refine go_run tab 1000 _ _ ?_
              conv => whnf
              refine Runs.callV (reduceO_fn Ea Ec ene (by omega) (by omega)) ?_
              rintro _ hf ⟨rfl, Ra, gr, egr, Pr⟩
              have R2 := Ec.put Pr (by rw [← egr]; exact Ne.symm ene)
              obtain ⟨g1', eg1', bg1', _⟩ := Ea.blk
              have hgr : h.size ≤ gr := by rw [egr] at eg1'; cases eg1'; exact bg1'
              have kf : Keeps h.size h hf := ke.trans (Pr.keeps.mono hgr)
              try refine go_run tab 1000 _ _ ?_
              conv => whnf
              refine Runs.callV (zerosO_fn Ra (by omega) (by omega) (hT.keeps kf)) ?_
              rintro _ hf ⟨⟨kz, rfl, tz⟩, rfl⟩
              have hev : (A - C) % 2 = 0 := by omega
              have kzp := tz_pos tz hev
              have nsub := nw_mono (Nat.sub_le A C)
              try refine go_run tab 1000 _ _ ?_
              conv => whnf
              refine Runs.callV (shiftO_fn Ra (by omega) kz (Nat.le_trans (tz_le tz (by omega)) (by decide))) ?_
              rintro wa' hg ⟨Sa, osa, gs, egs, Ps⟩
              have S2 := R2.put Ps (by rw [← egs]; exact Ne.symm ene)
              have hgs' : h.size ≤ gs := by rw [egs] at eg1'; cases eg1'; exact bg1'
              have kg : Keeps h.size h hg := kf.trans (Ps.keeps.mono hgs')
              obtain ⟨mo, odd', _⟩ := tz.div
              have gst := gcd_step (of_odd eoc) (by omega) tz
              have hdl := Nat.div_le_self (A - C) (2 ^ kz)
              have ndiv := nw_mono hdl
              try refine go_run tab 1000 _ _ ?_
              conv => whnf
              exact ih ((A - C) / 2 ^ kz, C, wa', wc) _ _ ⟨kg, Sa, S2, by rw [osa]; exact ene, odd_of odd', eoc, by dsimp only; omega, enc, by rw [gst]; exact eg⟩ (by dsimp only; omega) ⟨rfl, rfl, rfl, trivial⟩
      · try refine go_run tab 1000 _ _ ?_
        conv => whnf
        refine Runs.callV (zeros_fn hw1 z1 (by omega) hT) ?_
        rintro _ h ⟨⟨k1, rfl, t1⟩, rfl⟩
        try refine go_run tab 1000 _ _ ?_
        conv => whnf
        refine Runs.callV (zeros_fn hw2 z2 (by omega) hT) ?_
        rintro _ h ⟨⟨k2, rfl, t2⟩, rfl⟩
        have lk1 := tz_le t1 hm1
        have lk2 := tz_le t2 hm2
        obtain ⟨tw, htw⟩ : ∃ tw, tw = min k1 k2 := ⟨_, rfl⟩
        try refine go_run tab 1000 _ _ ?_
        conv => whnf
        rw [show min (k1 : Int) (k2 : Int) = (tw : Nat) by omega]
        refine Runs.callV (clone_fn hw1 p1 (by omega)) ?_
        rintro va ha ⟨Oa, ka⟩
        try refine go_run tab 1000 _ _ ?_
        conv => whnf
        refine Runs.callV (clone_fn (hw2.keeps ka) p2 (by omega)) ?_
        rintro vb hb ⟨Ob, kb⟩
        have sa := ka.size
        have sb := kb.size
        obtain ⟨ga, ea, ba, la⟩ := Oa.blk
        obtain ⟨gb, eb, bb, lb⟩ := Ob.blk
        have Oa := Oa.keeps kb (Nat.le_refl _)
        have hkb : Keeps h.size h hb := ka.trans (kb.mono sa)
        have Tb := hT.keeps hkb
        have Ob := Ob.mono sa
        try refine go_run tab 1000 _ _ ?_
        conv => whnf
        refine Runs.callV (zerosO_fn Oa z1 (by omega) Tb) ?_
        rintro _ hb ⟨⟨k1', rfl, t1'⟩, rfl⟩
        obtain rfl := tz_unique t1 t1'
        try refine go_run tab 1000 _ _ ?_
        conv => whnf
        refine Runs.callV (shiftO_fn Oa (by omega) k1 (by omega)) ?_
        rintro va1 hc ⟨Oa1, oa1, g1, eg1, P1⟩
        rw [ea] at eg1
        cases eg1
        have Ob1 := Ob.put P1 (by rw [eb]; intro e; cases e; omega)
        have hkc : Keeps h.size h hc := hkb.trans (P1.keeps.mono ba)
        have Tc := hT.keeps hkc
        try refine go_run tab 1000 _ _ ?_
        conv => whnf
        refine Runs.callV (zerosO_fn Ob1 z2 (by omega) Tc) ?_
        rintro _ hc ⟨⟨k2', rfl, t2'⟩, rfl⟩
        obtain rfl := tz_unique t2 t2'
        try refine go_run tab 1000 _ _ ?_
        conv => whnf
        refine Runs.callV (shiftO_fn Ob1 (by omega) k2 (by omega)) ?_
        rintro vb1 hd ⟨Ob2, ob2, g2, eg2, P2⟩
        rw [eb] at eg2
        cases eg2
        have Oa2 := Oa1.put P2 (by rw [oa1, ea]; intro e; cases e; omega)
        have hkd : Keeps h.size h hd := hkc.trans (P2.keeps.mono (by omega))
        obtain ⟨m1, od1, _⟩ := t1.div
        obtain ⟨m2, od2, _⟩ := t2.div
        have hgs := gcd_start t1 t2
        rw [← htw] at hgs
        have n1 := nw_mono (Nat.div_le_self V1 (2 ^ k1))
        have n2 := nw_mono (Nat.div_le_self V2 (2 ^ k2))
        try refine go_run tab 1000 _ _ ?_
        conv => whnf
        refine Runs.loop (X := Nat × Nat × Value × Value) (fun q => [(0, q.2.2.1), (1, q.2.2.2), (7, .int .i64 (tw : Nat))]) (fun q h' => GcdI h (Nat.gcd (V1 / 2 ^ k1) (V2 / 2 ^ k2)) q.1 q.2.1 q.2.2.1 q.2.2.2 h') (fun q => q.1 + q.2.1) (V1 / 2 ^ k1, V2 / 2 ^ k2, va1, vb1)
          ⟨hkd, Oa2, Ob2, by rw [oa1, ob2, ea, eb]; intro e; cases e; omega, odd_of od1, odd_of od2, by dsimp only; omega, by dsimp only; omega, rfl⟩ ⟨rfl, rfl, rfl, trivial⟩ ?_
        rintro ⟨A, C, wa, wc⟩ he ⟨ke, Ea, Ec, ene, eoa, eoc, ena, enc, eg⟩ ih
        dsimp only at Ea Ec ene eoa eoc ena enc eg ih ⊢
        try refine go_run tab 1000 _ _ ?_
        conv => whnf
        refine Runs.callV (compare_fn Ea.wr Ec.wr (by omega)) ?_
        rintro _ he ⟨rfl, rfl⟩
        try refine go_run tab 1000 _ _ ?_
        conv => whnf
        refine ⟨fun hc0 => ?_, fun hc0 => ?_⟩ <;> conv => whnf
        · try refine go_run tab 1000 _ _ ?_
          conv => whnf
          repeat (refine And.intro (by omega) ?_; conv => whnf)
          refine Runs.eff (eff_makeN tab (tw / 64 + 1) (tw / 64 + 1) (hn := ⟨by omega, by omega, by omega, by dsimp only; omega, by omega⟩)) ?_
          rintro _ hf ⟨rfl, Nf⟩
          try refine go_run tab 1000 _ _ ?_
          conv => whnf
          repeat (refine And.intro (by omega) ?_; conv => whnf)
          refine Runs.eff (eff_storeN tab Nf.blk (hlt := by simp; omega)) ?_
          rintro _ hg2 Pg
          try refine go_run tab 1000 _ _ ?_
          conv => whnf
          have hAC := cmpI_eq hc0
          subst hAC
          rw [Nat.gcd_self] at eg
          have zf := Nf.size
          have zg := Pg.size
          have zke := ke.size
          have Ea0 := Ea
          have Ea := Ea.keeps Nf.keeps (Nat.le_refl _)
          obtain ⟨gx, egx, bgx, lgx⟩ := Ea.blk
          have kf : Keeps h.size h hg2 := (ke.trans (Nf.keeps.mono zke)).trans (Pg.keeps.mono zke)
          have Eg : Wown h.size hg2 wa (nw A) A := by
            obtain ⟨g', cap, cur, rfl, hb', hat, r⟩ := Ea
            refine ⟨g', cap, cur, rfl, hb', Pg.at hat ?_, r⟩
            intro e
            subst e
            have := Nf.blk
            obtain ⟨g2', cap2', cur2', e2, _, hat2, _⟩ := Ea0
            cases e2
            have := hat2.lt
            omega
          have hpow : (2 : Nat) ^ tw < B ^ (tw / 64 + 1) := by
            rw [two_word tw, Nat.pow_succ]
            exact Nat.mul_lt_mul_of_pos_left (Nat.pow_lt_pow_right (by decide) (show tw % 64 < 64 by omega)) (Bp_pos _)
          have hwp := Wr.of_at Pg.blk (m := tw / 64 + 1) (cap := tw / 64 + 1) (V := 2 ^ tw) (Nat.le_refl _) hpow (fun j hj => by
            rw [pow_word]
            by_cases e : j = tw / 64
            · rw [if_pos e, show 0 + ((tw : Int) / 64).toNat = j by omega, Array.getElem?_setIfInBounds_self_of_lt (by simp; omega)]
              have h64 : tw % 64 < 64 := Nat.mod_lt _ (by decide)
              have hp : 2 ^ (tw % 64) < B := Nat.pow_lt_pow_right (by decide) h64
              obtain ⟨p, hp'⟩ : ∃ p, p = 2 ^ (tw % 64) := ⟨_, rfl⟩
              rw [show ((tw : Int) % 64).toNat = tw % 64 by omega]
              have e9 : ((2 : Int) ^ (tw % 64)) = ((2 ^ (tw % 64) : Nat) : Int) := by simp
              rw [e9, ← hp']
              rw [← hp', B_eq] at hp
              rw [show (1 : Int) * p % 18446744073709551616 = p by omega]
            · rw [if_neg e, Array.getElem?_setIfInBounds_ne (by omega), Array.getElem?_replicate, if_pos hj]
              rfl)
          refine Runs.callV (times_fn Eg.wr hwp (by omega) (by omega)) ?_
          rintro vr hh ⟨Or, kr⟩
          try refine go_run tab 1000 _ _ ?_
          conv => whnf
          refine Runs.ret Tryd.func53 rfl rfl ⟨_, rfl, ?_⟩
          refine ⟨⟨nw A + (tw / 64 + 1), ?_, by omega⟩, kf.trans (kr.mono (by omega))⟩
          rw [hgs, ← eg]
          exact Or.wr
        · refine ⟨fun hcl => ?_, fun hcl => ?_⟩ <;> conv => whnf
          · have hlt : A < C := by
              rcases Nat.lt_or_ge A C with h | h
              · exact h
              · exfalso
                rcases Nat.lt_or_ge C A with h' | h'
                · first | exact hcl ((cmpI_lt _ _).2 h') | (have := (cmpI_lt _ _).1 hcl; omega)
                · have e : C = A := by omega
                  apply hc0
                  subst e
                  unfold cmpI
                  rw [if_neg (Int.lt_irrefl _), if_neg (Int.lt_irrefl _)]
            try refine go_run tab 1000 _ _ ?_
            conv => whnf
            refine Runs.callV (reduceO_fn Ec Ea (Ne.symm ene) (by omega) (by omega)) ?_
            rintro _ hf ⟨rfl, Ra, gr, egr, Pr⟩
            have R2 := Ea.put Pr (by rw [← egr]; exact Ne.symm (Ne.symm ene))
            obtain ⟨g1', eg1', bg1', _⟩ := Ec.blk
            have hgr : h.size ≤ gr := by rw [egr] at eg1'; cases eg1'; exact bg1'
            have kf : Keeps h.size h hf := ke.trans (Pr.keeps.mono hgr)
            try refine go_run tab 1000 _ _ ?_
            conv => whnf
            refine Runs.callV (zerosO_fn Ra (by omega) (by omega) (hT.keeps kf)) ?_
            rintro _ hf ⟨⟨kz, rfl, tz⟩, rfl⟩
            have hev : (C - A) % 2 = 0 := by omega
            have kzp := tz_pos tz hev
            have nsub := nw_mono (Nat.sub_le C A)
            try refine go_run tab 1000 _ _ ?_
            conv => whnf
            refine Runs.callV (shiftO_fn Ra (by omega) kz (Nat.le_trans (tz_le tz (by omega)) (by decide))) ?_
            rintro wa' hg ⟨Sa, osa, gs, egs, Ps⟩
            have S2 := R2.put Ps (by rw [← egs]; exact Ne.symm (Ne.symm ene))
            have hgs' : h.size ≤ gs := by rw [egs] at eg1'; cases eg1'; exact bg1'
            have kg : Keeps h.size h hg := kf.trans (Ps.keeps.mono hgs')
            obtain ⟨mo, odd', _⟩ := tz.div
            have gst := gcd_step (of_odd eoa) (by omega) tz
            have hdl := Nat.div_le_self (C - A) (2 ^ kz)
            have ndiv := nw_mono hdl
            try refine go_run tab 1000 _ _ ?_
            conv => whnf
            exact ih ((C - A) / 2 ^ kz, A, wa', wa) _ _ ⟨kg, Sa, S2, by rw [osa]; exact (Ne.symm ene), odd_of odd', eoa, by dsimp only; omega, ena, by rw [gst]; exact (by rw [Nat.gcd_comm]; exact eg)⟩ (by dsimp only; omega) ⟨rfl, rfl, rfl, trivial⟩
          · have hlt : C < A := by
              rcases Nat.lt_or_ge C A with h | h
              · exact h
              · exfalso
                rcases Nat.lt_or_ge A C with h' | h'
                · first | exact hcl ((cmpI_lt _ _).2 h') | (have := (cmpI_lt _ _).1 hcl; omega)
                · have e : A = C := by omega
                  apply hc0
                  subst e
                  unfold cmpI
                  rw [if_neg (Int.lt_irrefl _), if_neg (Int.lt_irrefl _)]
            try refine go_run tab 1000 _ _ ?_
            conv => whnf
            refine Runs.callV (reduceO_fn Ea Ec ene (by omega) (by omega)) ?_
            rintro _ hf ⟨rfl, Ra, gr, egr, Pr⟩
            have R2 := Ec.put Pr (by rw [← egr]; exact Ne.symm ene)
            obtain ⟨g1', eg1', bg1', _⟩ := Ea.blk
            have hgr : h.size ≤ gr := by rw [egr] at eg1'; cases eg1'; exact bg1'
            have kf : Keeps h.size h hf := ke.trans (Pr.keeps.mono hgr)
            try refine go_run tab 1000 _ _ ?_
            conv => whnf
            refine Runs.callV (zerosO_fn Ra (by omega) (by omega) (hT.keeps kf)) ?_
            rintro _ hf ⟨⟨kz, rfl, tz⟩, rfl⟩
            have hev : (A - C) % 2 = 0 := by omega
            have kzp := tz_pos tz hev
            have nsub := nw_mono (Nat.sub_le A C)
            try refine go_run tab 1000 _ _ ?_
            conv => whnf
            refine Runs.callV (shiftO_fn Ra (by omega) kz (Nat.le_trans (tz_le tz (by omega)) (by decide))) ?_
            rintro wa' hg ⟨Sa, osa, gs, egs, Ps⟩
            have S2 := R2.put Ps (by rw [← egs]; exact Ne.symm ene)
            have hgs' : h.size ≤ gs := by rw [egs] at eg1'; cases eg1'; exact bg1'
            have kg : Keeps h.size h hg := kf.trans (Ps.keeps.mono hgs')
            obtain ⟨mo, odd', _⟩ := tz.div
            have gst := gcd_step (of_odd eoc) (by omega) tz
            have hdl := Nat.div_le_self (A - C) (2 ^ kz)
            have ndiv := nw_mono hdl
            try refine go_run tab 1000 _ _ ?_
            conv => whnf
            exact ih ((A - C) / 2 ^ kz, C, wa', wc) _ _ ⟨kg, Sa, S2, by rw [osa]; exact ene, odd_of odd', eoc, by dsimp only; omega, enc, by rw [gst]; exact eg⟩ (by dsimp only; omega) ⟨rfl, rfl, rfl, trivial⟩

end Go.Proofs.YtehlghcpbmbfkaaDoor

namespace Go.Proofs.YtehlghcpbmbfkaaDoor
open Go Go.Fw Go.NatM
set_option maxRecDepth 100000
set_option maxHeartbeats 8000000

theorem size_mt {s : ByteArray} : s = NatM.mt ↔ s.size = 0 := by
  constructor
  · rintro rfl; rfl
  · intro h
    exact bytes_ext (by rw [h]; rfl) fun i hi => by omega

theorem natv_ne {s : ByteArray} (hc : Canon s) (h : s.size ≠ 0) : natv s ≠ 0 := by
  intro e
  have := nb_natv hc
  rw [e, nb_zero] at this
  omega

theorem nw_small {s : ByteArray} (hc : Canon s) (hs : s.size ≤ 256) : nw (natv s) ≤ 32 := by
  rw [← words_len hc]; omega

theorem strs_at {h : Array Obj} {b : Nat} {e : TypeId} {ss : List ByteArray} (H : At h b (ss.map Value.string).toArray e) : Strs h b 0 ss := by
  intro j s hs
  rw [H.cell, Nat.zero_add]
  simp [hs]

theorem Div_fn {h : Array Obj} (s t : ByteArray) : FnV Tryd.prog 27 #[.string s, .string t] h fun r h' => r = .tuple #[.string (divS s t).1, .string (divS s t).2.1, .int .i64 (divS s t).2.2] ∧ Keeps h.size h h' := by
  unfold divS
  refine Fn.of (args := [.string s, .string t]) Tryd.func27 (by kernel_rfl) rfl Tryd.ntmps27 rfl fun w0 cs => ?_
  refine go_run tab 1000 _ _ ?_
  conv => whnf
  refine Runs.eff (eff_buildN tab [.string s, .string t] (h1 := by simp [Value.cells])) ?_
  rintro _ h0 ⟨rfl, N0⟩
  try refine go_run tab 1000 _ _ ?_
  conv => whnf
  repeat (refine And.intro (by omega) ?_; conv => whnf)
  refine Runs.callV (check_fn (strs_at (ss := [s, t]) N0.blk) (by simp)) ?_
  rintro _ h0 ⟨rfl, rfl⟩
  have k0 := N0.keeps
  try refine go_run tab 1000 _ _ ?_
  conv => whnf
  refine ⟨fun hc => ?_, fun hc => ?_⟩ <;> conv => whnf
  · have c1 := chk_zero hc (s := s) (by simp)
    have c2 := chk_zero hc (s := t) (by simp)
    rw [if_pos hc]
    refine ⟨fun hz => ?_, fun hz => ?_⟩ <;> conv => whnf
    · refine Runs.ret Tryd.func27 rfl rfl ⟨_, rfl, ?_⟩
      rw [if_pos (size_mt.1 hz)]
      exact ⟨rfl, k0⟩
    · have hz' : t.size ≠ 0 := fun e => hz (size_mt.2 e)
      rw [if_neg hz']
      refine Runs.callV (words_fn (s := s) (by omega)) ?_
      rintro v2 h2 ⟨o2, k2⟩
      try refine go_run tab 1000 _ _ ?_
      conv => whnf
      refine Runs.callV (words_fn (s := t) (by omega)) ?_
      rintro v3 h3 ⟨o3, k3⟩
      try refine go_run tab 1000 _ _ ?_
      conv => whnf
      have l2 := words_len c1.1
      have l3 := words_len c2.1
      have q2 := (o2.keeps k3 (Nat.le_refl _)).wr
      have q3 := o3.wr
      rw [l2] at q2
      rw [l3] at q3
      have n1 := nw_small c1.1 c1.2
      have n2 := nw_small c2.1 c2.2
      have s0 := k0.size
      have s2 := k2.size
      have s3 := k3.size
      have kk := (k0.trans (k2.mono (by omega))).trans (k3.mono (by omega))
      refine Runs.callV (divide_fn q2 q3 (natv_ne c2.1 hz') (by omega) (by omega)) ?_
      rintro _ h4 ⟨vq, vr, mq, mr, rfl, w1, w2, b1, b2, k4⟩
      try refine go_run tab 1000 _ _ ?_
      conv => whnf
      refine Runs.callV (text_fn w1 (by omega)) ?_
      rintro _ h5 ⟨rfl, k5⟩
      try refine go_run tab 1000 _ _ ?_
      conv => whnf
      refine Runs.callV (text_fn (w2.keeps k5) (by omega)) ?_
      rintro _ h6 ⟨rfl, k6⟩
      try refine go_run tab 1000 _ _ ?_
      conv => whnf
      refine Runs.ret Tryd.func27 rfl rfl ⟨_, rfl, ?_⟩
      have s4 := k4.size
      have s5 := k5.size
      exact ⟨rfl, ((kk.trans (k4.mono (by omega))).trans (k5.mono (by omega))).trans (k6.mono (by omega))⟩
  · refine Runs.ret Tryd.func27 rfl rfl ⟨_, rfl, ?_⟩
    rw [if_neg hc]
    exact ⟨rfl, k0⟩

theorem Gcd_fn {h : Array Obj} (s t : ByteArray) (hT : TabH h) : FnV Tryd.prog 29 #[.string s, .string t] h fun r h' => r = sev (gcdS s t) ∧ Keeps h.size h h' := by
  unfold gcdS
  refine Fn.of (args := [.string s, .string t]) Tryd.func29 (by kernel_rfl) rfl Tryd.ntmps29 rfl fun w0 cs => ?_
  refine go_run tab 1000 _ _ ?_
  conv => whnf
  refine Runs.eff (eff_buildN tab [.string s, .string t] (h1 := by simp [Value.cells])) ?_
  rintro _ h0 ⟨rfl, N0⟩
  try refine go_run tab 1000 _ _ ?_
  conv => whnf
  repeat (refine And.intro (by omega) ?_; conv => whnf)
  refine Runs.callV (check_fn (strs_at (ss := [s, t]) N0.blk) (by simp)) ?_
  rintro _ h0 ⟨rfl, rfl⟩
  have k0 := N0.keeps
  try refine go_run tab 1000 _ _ ?_
  conv => whnf
  refine ⟨fun hc => ?_, fun hc => ?_⟩ <;> conv => whnf
  · have c1 := chk_zero hc (s := s) (by simp)
    have c2 := chk_zero hc (s := t) (by simp)
    rw [if_pos hc]
    refine Runs.callV (words_fn (s := s) (by omega)) ?_
    rintro v2 h2 ⟨o2, k2⟩
    try refine go_run tab 1000 _ _ ?_
    conv => whnf
    refine Runs.callV (words_fn (s := t) (by omega)) ?_
    rintro v3 h3 ⟨o3, k3⟩
    try refine go_run tab 1000 _ _ ?_
    conv => whnf
    have l2 := words_len c1.1
    have l3 := words_len c2.1
    have q2 := (o2.keeps k3 (Nat.le_refl _)).wr
    have q3 := o3.wr
    rw [l2] at q2
    rw [l3] at q3
    have n1 := nw_small c1.1 c1.2
    have n2 := nw_small c2.1 c2.2
    have s0 := k0.size
    have s2 := k2.size
    have s3 := k3.size
    have kk := (k0.trans (k2.mono (by omega))).trans (k3.mono (by omega))
    refine Runs.callV (divisor_fn q2 q3 (by omega) (by omega) (hT.keeps kk)) ?_
    rintro vr h4 ⟨⟨mr, w1, b1⟩, k4⟩
    try refine go_run tab 1000 _ _ ?_
    conv => whnf
    refine Runs.callV (text_fn w1 b1) ?_
    rintro _ h5 ⟨rfl, k5⟩
    try refine go_run tab 1000 _ _ ?_
    conv => whnf
    refine Runs.ret Tryd.func29 rfl rfl ⟨_, rfl, ?_⟩
    have s4 := k4.size
    exact ⟨rfl, (kk.trans (k4.mono (by omega))).trans (k5.mono (by omega))⟩
  · refine Runs.ret Tryd.func29 rfl rfl ⟨_, rfl, ?_⟩
    rw [if_neg hc]
    exact ⟨rfl, k0⟩
end Go.Proofs.YtehlghcpbmbfkaaDoor

namespace Go.Proofs.YtehlghcpbmbfkaaDoor
open Go Go.Fw Go.NatM
set_option maxRecDepth 100000
set_option maxHeartbeats 8000000

theorem sane_fn {h : Array Obj} (hT : TabH h) : FnV Tryd.prog 11 #[] h fun r h' => r = .bool true ∧ Keeps h.size h h' := by
  refine Fn.of (args := []) Tryd.func11 (by kernel_rfl) rfl Tryd.ntmps11 rfl fun w0 cs => ?_
  refine go_run tab 1000 _ _ ?_
  conv => whnf
  have kk := Keeps.refl h.size h
  refine Runs.callV (Of_fn 256 (by decide)) ?_
  rintro _ h1 ⟨rfl, k1⟩
  have s1 := kk.size
  have kk := kk.trans (k1.mono (by omega))
  rw [show ofS 256 = (⟨#[1, 0]⟩, 0) by decide +kernel]
  try refine go_run tab 1000 _ _ ?_
  conv => whnf
  refine Runs.callV (Of_fn 0 (by decide)) ?_
  rintro _ h2 ⟨rfl, k2⟩
  have s2 := kk.size
  have kk := kk.trans (k2.mono (by omega))
  rw [show ofS 0 = (⟨#[]⟩, 0) by decide +kernel]
  try refine go_run tab 1000 _ _ ?_
  conv => whnf
  refine Runs.callV (Of_fn (-1) (by decide)) ?_
  rintro _ h3 ⟨rfl, k3⟩
  have s3 := kk.size
  have kk := kk.trans (k3.mono (by omega))
  rw [show ofS (-1) = (⟨#[]⟩, 1) by decide +kernel]
  try refine go_run tab 1000 _ _ ?_
  conv => whnf
  refine Runs.callV (Int_fn ⟨#[1, 0]⟩) ?_
  rintro _ h4 ⟨rfl, k4⟩
  have s4 := kk.size
  have kk := kk.trans (k4.mono (by omega))
  rw [show intS ⟨#[1, 0]⟩ = (256, true) by decide +kernel]
  try refine go_run tab 1000 _ _ ?_
  conv => whnf
  refine Runs.callV (Int_fn ⟨#[128, 0, 0, 0, 0, 0, 0, 0]⟩) ?_
  rintro _ h5 ⟨rfl, k5⟩
  have s5 := kk.size
  have kk := kk.trans (k5.mono (by omega))
  rw [show intS ⟨#[128, 0, 0, 0, 0, 0, 0, 0]⟩ = (0, false) by decide +kernel]
  try refine go_run tab 1000 _ _ ?_
  conv => whnf
  refine Runs.callV (Add_fn ⟨#[255]⟩ ⟨#[1]⟩) ?_
  rintro _ h6 ⟨rfl, k6⟩
  have s6 := kk.size
  have kk := kk.trans (k6.mono (by omega))
  rw [show addS ⟨#[255]⟩ ⟨#[1]⟩ = (⟨#[1, 0]⟩, 0) by decide +kernel]
  try refine go_run tab 1000 _ _ ?_
  conv => whnf
  refine Runs.callV (Sub_fn ⟨#[1, 0]⟩ ⟨#[1]⟩) ?_
  rintro _ h7 ⟨rfl, k7⟩
  have s7 := kk.size
  have kk := kk.trans (k7.mono (by omega))
  rw [show subS ⟨#[1, 0]⟩ ⟨#[1]⟩ = (⟨#[255]⟩, 0) by decide +kernel]
  try refine go_run tab 1000 _ _ ?_
  conv => whnf
  refine Runs.callV (Sub_fn ⟨#[1]⟩ ⟨#[2]⟩) ?_
  rintro _ h8 ⟨rfl, k8⟩
  have s8 := kk.size
  have kk := kk.trans (k8.mono (by omega))
  rw [show subS ⟨#[1]⟩ ⟨#[2]⟩ = (⟨#[]⟩, 1) by decide +kernel]
  try refine go_run tab 1000 _ _ ?_
  conv => whnf
  refine Runs.callV (Mul_fn ⟨#[255]⟩ ⟨#[255]⟩) ?_
  rintro _ h9 ⟨rfl, k9⟩
  have s9 := kk.size
  have kk := kk.trans (k9.mono (by omega))
  rw [show mulS ⟨#[255]⟩ ⟨#[255]⟩ = (⟨#[254, 1]⟩, 0) by decide +kernel]
  try refine go_run tab 1000 _ _ ?_
  conv => whnf
  refine Runs.callV (Div_fn ⟨#[3, 232]⟩ ⟨#[1, 0]⟩) ?_
  rintro _ h10 ⟨rfl, k10⟩
  have s10 := kk.size
  have kk := kk.trans (k10.mono (by omega))
  rw [show divS ⟨#[3, 232]⟩ ⟨#[1, 0]⟩ = (⟨#[3]⟩, ⟨#[232]⟩, 0) by decide +kernel]
  try refine go_run tab 1000 _ _ ?_
  conv => whnf
  refine Runs.callV (Div_fn ⟨#[5]⟩ ⟨#[]⟩) ?_
  rintro _ h11 ⟨rfl, k11⟩
  have s11 := kk.size
  have kk := kk.trans (k11.mono (by omega))
  rw [show divS ⟨#[5]⟩ ⟨#[]⟩ = (⟨#[]⟩, ⟨#[]⟩, 71) by decide +kernel]
  try refine go_run tab 1000 _ _ ?_
  conv => whnf
  refine Runs.callV (Gcd_fn ⟨#[12]⟩ ⟨#[18]⟩ (hT.keeps kk)) ?_
  rintro _ h12 ⟨rfl, k12⟩
  have s12 := kk.size
  have kk := kk.trans (k12.mono (by omega))
  rw [show gcdS ⟨#[12]⟩ ⟨#[18]⟩ = (⟨#[6]⟩, 0) by decide +kernel]
  try refine go_run tab 1000 _ _ ?_
  conv => whnf
  refine Runs.callV (Compare_fn ⟨#[1, 0]⟩ ⟨#[255]⟩) ?_
  rintro _ h13 ⟨rfl, k13⟩
  have s13 := kk.size
  have kk := kk.trans (k13.mono (by omega))
  rw [show cmpS ⟨#[1, 0]⟩ ⟨#[255]⟩ = (1, 0) by decide +kernel]
  try refine go_run tab 1000 _ _ ?_
  conv => whnf
  repeat (refine And.intro (fun _ => ?_) (fun hn => absurd rfl hn); conv => whnf)
  refine Runs.callV (Check_fn ⟨#[0]⟩) ?_
  rintro _ h14 ⟨rfl, k14⟩
  have s14 := kk.size
  have kk := kk.trans (k14.mono (by omega))
  rw [show chk [⟨#[0]⟩] = 60 by decide +kernel]
  try refine go_run tab 1000 _ _ ?_
  conv => whnf
  repeat (refine And.intro (fun _ => ?_) (fun hn => absurd rfl hn); conv => whnf)
  refine Runs.callV (Check_fn ⟨#[]⟩) ?_
  rintro _ h15 ⟨rfl, k15⟩
  have s15 := kk.size
  have kk := kk.trans (k15.mono (by omega))
  rw [show chk [⟨#[]⟩] = 0 by decide +kernel]
  try refine go_run tab 1000 _ _ ?_
  conv => whnf
  repeat (refine And.intro (fun _ => ?_) (fun hn => absurd rfl hn); conv => whnf)
  refine Runs.ret Tryd.func11 rfl rfl ⟨_, rfl, ?_⟩
  exact ⟨rfl, kk⟩

end Go.Proofs.YtehlghcpbmbfkaaDoor

namespace Go.NatM
open Go Go.Fw

theorem enc_inj {A C : Nat} (h : enc A = enc C) : A = C := by rw [← natv_enc A, h, natv_enc]
theorem enc_eq {A C : Nat} : enc A = enc C ↔ A = C := ⟨enc_inj, fun h => by rw [h]⟩
theorem enc_zero : enc 0 = NatM.mt := rfl
theorem enc_mt {A : Nat} : enc A = NatM.mt ↔ A = 0 := by rw [← enc_zero, enc_eq]

theorem chk_ok {l : List ByteArray} (h : ∀ s ∈ l, Canon s ∧ s.size ≤ 256) : chk l = 0 := by
  unfold chk
  rw [if_pos (List.all_eq_true.2 fun s hs => canonB_iff.2 (h s hs).1), if_pos (List.all_eq_true.2 fun s hs => Nat.ble_eq_true_of_le (h s hs).2)]

theorem chk_e1 {A : Nat} (hA : nb A ≤ 256) : chk [enc A] = 0 := chk_ok fun s hs => by
  obtain rfl : s = enc A := by simpa using hs
  exact ⟨canon_enc A, by rw [enc_size]; exact hA⟩
theorem chk_e2 {A C : Nat} (hA : nb A ≤ 256) (hC : nb C ≤ 256) : chk [enc A, enc C] = 0 := chk_ok fun s hs => by
  simp only [List.mem_cons, List.not_mem_nil, or_false] at hs
  rcases hs with rfl | rfl
  · exact ⟨canon_enc A, by rw [enc_size]; exact hA⟩
  · exact ⟨canon_enc C, by rw [enc_size]; exact hC⟩

/-- what passes the check is a number's string -/
theorem of_chk {l : List ByteArray} (h : chk l = 0) {s : ByteArray} (hs : s ∈ l) : ∃ A, s = enc A ∧ nb A ≤ 256 := by
  obtain ⟨h1, h2⟩ := chk_zero h hs
  exact ⟨natv s, (enc_natv h1).symm, by rw [nb_natv h1]; exact h2⟩

theorem chk_two {a b : ByteArray} (h : chk [a, b] ≠ 0) : chk [a] ≠ 0 ∨ chk [b] ≠ 0 := by
  by_cases h1 : chk [a] = 0
  · by_cases h2 : chk [b] = 0
    · obtain ⟨A, rfl, hA⟩ := of_chk h1 (List.mem_cons_self ..)
      obtain ⟨C, rfl, hC⟩ := of_chk h2 (List.mem_cons_self ..)
      exact absurd (chk_e2 hA hC) h
    · exact .inr h2
  · exact .inl h1

section
variable {A C : Nat} (hA : nb A ≤ 256) (hC : nb C ≤ 256)
include hA hC
theorem add_e : addS (enc A) (enc C) = shortS (A + C) := by unfold addS; rw [if_pos (chk_e2 hA hC), natv_enc, natv_enc]
theorem mul_e : mulS (enc A) (enc C) = shortS (A * C) := by unfold mulS; rw [if_pos (chk_e2 hA hC), natv_enc, natv_enc]
theorem sub_e : subS (enc A) (enc C) = if A < C then (NatM.mt, 1) else (enc (A - C), 0) := by unfold subS; rw [if_pos (chk_e2 hA hC), natv_enc, natv_enc]
theorem cmp_e : cmpS (enc A) (enc C) = (cmpN A C, 0) := by unfold cmpS; rw [if_pos (chk_e2 hA hC), natv_enc, natv_enc]
theorem gcd_e : gcdS (enc A) (enc C) = (enc (Nat.gcd A C), 0) := by unfold gcdS; rw [if_pos (chk_e2 hA hC), natv_enc, natv_enc]
theorem div_e : divS (enc A) (enc C) = if C = 0 then (NatM.mt, NatM.mt, 71) else (enc (A / C), enc (A % C), 0) := by
  unfold divS
  rw [if_pos (chk_e2 hA hC), natv_enc, natv_enc]
  by_cases h : C = 0
  · subst h; rw [if_pos (by rw [enc_size]; rfl), if_pos rfl]
  · rw [if_neg h, if_neg]
    rw [enc_size]
    have := nb_pos h
    omega
end

theorem short_e {V : Nat} (h : nb V ≤ 256) : shortS V = (enc V, 0) := by unfold shortS; rw [if_pos h]
theorem short_big {V : Nat} (h : ¬ nb V ≤ 256) : shortS V = (NatM.mt, 2) := by unfold shortS; rw [if_neg h]

theorem nb_add (A C : Nat) : nb (A + C) ≤ max (nb A) (nb C) + 1 := by
  refine nb_le ?_
  have h1 := nb_lt A
  have h2 := nb_lt C
  have h3 := Nat.pow_le_pow_right (show 0 < 256 by decide) (Nat.le_max_left (nb A) (nb C))
  have h4 := Nat.pow_le_pow_right (show 0 < 256 by decide) (Nat.le_max_right (nb A) (nb C))
  rw [Nat.pow_succ]
  omega

theorem nb_mul (A C : Nat) : nb (A * C) ≤ nb A + nb C := by
  refine nb_le ?_
  rw [Nat.pow_add]
  exact Nat.mul_lt_mul'' (nb_lt A) (nb_lt C)

theorem cmpN_lt {A C : Nat} (h : A < C) : cmpN A C = -1 := by unfold cmpN; rw [if_pos h]
theorem cmpN_self (A : Nat) : cmpN A A = 0 := by unfold cmpN; rw [if_neg (Nat.lt_irrefl _), if_neg (Nat.lt_irrefl _)]
theorem cmpN_nonneg {A C : Nat} : 0 ≤ cmpN A C ↔ C ≤ A := by
  unfold cmpN
  by_cases h : A < C
  · rw [if_pos h]; omega
  · rw [if_neg h]; split <;> omega
theorem cmpN_neg {A C : Nat} : cmpN A C < 0 ↔ A < C := by
  unfold cmpN
  by_cases h : A < C
  · rw [if_pos h]; omega
  · rw [if_neg h]; split <;> omega
theorem cmpN_pos {A C : Nat} : 0 < cmpN A C ↔ C < A := by
  unfold cmpN
  by_cases h : A < C
  · rw [if_pos h]; omega
  · rw [if_neg h]; split <;> omega
end Go.NatM

namespace Go.Proofs.YtehlghcpbmbfkaaDoor
open Go Go.Fw Go.ChangeShapes Go.WideShapes Go.ChangeAt Go.RowKit

theorem own : ownKnob Tryd.prog.godebug = none := by kernel_rfl
theorem gTab : Tryd.prog.globalNamed "math/bits.deBruijn64tab" = some 2 := by kernel_rfl
theorem gTabType : (Tryd.prog.globals[2]?).map (·.type) = some 84 := by kernel_rfl
theorem cellsTab : Tryd.prog.cellsOf 84 = 64 := by kernel_rfl
theorem cellsByte : Tryd.prog.cellsOf 5 = 1 := by kernel_rfl

theorem table {W : World} (h : laidMetH Tryd.prog [("math/bits.deBruijn64tab", Rows.laid_math_bits_deBruijn64tab)] W) : TabH W.heap := by
  have h1 : Lib.TabIs Tryd.prog W "math/bits.deBruijn64tab" .u8 (Go.Lib.deBruijn64tab.map fun (x : Nat) => (x : Int)) :=
    Lib.tabIs_of_head (rest := []) gTab gTabType Tryd.underlying84 Tryd.underlying5 cellsByte cellsTab h
  intro j hj
  have h2 := cellH_of (h1.cell gTab j (by simpa [Go.Lib.deBruijn64tab] using hj))
  have hl : j < Go.Lib.deBruijn64tab.length := by simpa [Go.Lib.deBruijn64tab] using hj
  have hd : (Go.Lib.deBruijn64tab.map fun (x : Nat) => (x : Int)).getD j 0 = ((Go.Lib.deBruijn64tab.getD j 0 : Nat) : Int) := by
    simp [List.getD_eq_getElem?_getD, List.getElem?_map, List.getElem?_eq_getElem hl]
  rw [hd] at h2
  exact h2

/-- The settled world, the table holding what its initialiser lays. -/
noncomputable def laidWorld (os : Os) : World :=
  { World.holding Tryd.prog os ⟨#[], #[], []⟩ with heap := (World.holding Tryd.prog os ⟨#[], #[], []⟩).heap.modify 2 fun
      | .cells _ t frozen => .cells (Go.Lib.deBruijn64tab.map fun (x : Nat) => Value.int .u8 (x : Int)).toArray t frozen
      | o => o }
end Go.Proofs.YtehlghcpbmbfkaaDoor
