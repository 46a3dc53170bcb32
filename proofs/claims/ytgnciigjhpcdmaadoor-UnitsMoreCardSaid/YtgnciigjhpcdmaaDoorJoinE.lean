/- Texts of this seat, joined: Package units: what resolved units are; plain. Package units: converting between resolved units; plain. Package units: Resolve. Package units: Resolve's two ways; equality of lists. Package units: Convert. The statements about layer 9: few, same, resolved. The statements about layer 9: the chapter's examples. The statement UnitsResolved. Rows whose arguments are structs of single cells, with structs inside. What the rows of this seat have in common: the table of package math/bits at the call's beginning; a world for the witness. Arguments that are structs of a bool and two strings. What the rows of the ratios have in common. What the rows of layer 9 have in common. -/
import Derived.Test.YtgnciigjhpcdmaaDoorJoinD
import Derived.Test.YtgnciigjhpcdmaaDoorCards
import Derived.Test.YtgnciigjhpcdmaaDoorTie
import Derived.WalkKit
import Derived.ProofKit
import Derived.OpenShut
import Derived.Deep.DeepHandedRow
import Derived.Lib.LaidTab
import Derived.WideShapes
import Derived.ChangeArms
import Derived.RowKit
set_option linter.unusedVariables false
set_option linter.unusedSimpArgs false
namespace Go.RatM
open Go Go.Fw Go.NatM

theorem stepU_again {x : List Un} {u v : Un} (h : stepU x u = .inl v) : stepU x v = .inl v := by
  have key : ∃ b s, v = u.re b s := by
    unfold stepU at h
    split at h
    · split at h
      · cases h; exact ⟨_, _, rfl⟩
      · cases h
    · split at h
      · split at h
        · split at h
          · cases h
          · cases h; exact ⟨_, _, rfl⟩
        · cases h
      · cases h
  obtain ⟨b, s, rfl⟩ := key
  exact h
theorem stepU_fields {x : List Un} {u v : Un} (h : stepU x u = .inl v) : v.name = u.name ∧ v.of_ = u.of_ ∧ v.n = u.n ∧ v.d = u.d := by
  unfold stepU at h
  split at h
  · split at h
    · cases h; exact ⟨rfl, rfl, rfl, rfl⟩
    · cases h
  · split at h
    · split at h
      · split at h
        · cases h
        · cases h; exact ⟨rfl, rfl, rfl, rfl⟩
      · cases h
    · cases h
theorem resU_iff : ∀ {l x y : List Un}, resU l x = .inl y ↔ ∃ z, y = x ++ z ∧ z.length = l.length ∧ ∀ i (h : i < l.length) (h' : i < z.length), stepU (x ++ z.take i) l[i] = .inl z[i]
  | [], x, y => by
    constructor
    · intro h
      cases h
      exact ⟨[], by simp, rfl, fun i h => absurd h (by simp)⟩
    · rintro ⟨z, rfl, hz, _⟩
      have : z = [] := List.eq_nil_of_length_eq_zero hz
      subst this
      simp [resU]
  | u :: l, x, y => by
    constructor
    · intro h
      simp only [resU] at h
      split at h
      · rename_i v hv
        obtain ⟨z, rfl, hz, hs⟩ := resU_iff.1 h
        refine ⟨v :: z, by simp, by simp [hz], ?_⟩
        intro i hi hi'
        cases i with
        | zero => simpa using hv
        | succ i =>
          have := hs i (by simpa using hi) (by simpa using hi')
          simpa using this
      · cases h
    · rintro ⟨z, rfl, hz, hs⟩
      cases z with
      | nil => simp at hz
      | cons v z =>
        have h0 := hs 0 (by simp) (by simp)
        simp only [List.take_zero, List.append_nil, List.getElem_cons_zero] at h0
        simp only [resU, h0]
        refine resU_iff.2 ⟨z, by simp, by simpa using hz, ?_⟩
        intro i hi hi'
        have := hs (i + 1) (by simpa using hi) (by simpa using hi')
        simpa using this
/-- x are the units l, resolved -/
def ResP (l x : List Un) : Prop := x.length = l.length ∧ ∀ i (h : i < l.length) (h' : i < x.length), stepU (x.take i) l[i] = .inl x[i]
theorem resU_nil {l x : List Un} : resU l [] = .inl x ↔ ResP l x := by
  rw [resU_iff]
  constructor
  · rintro ⟨z, e, h1, h2⟩
    rw [List.nil_append] at e
    subst e
    exact ⟨h1, by simpa using h2⟩
  · rintro ⟨h1, h2⟩
    exact ⟨x, rfl, h1, by simpa using h2⟩
theorem ResP.again {l x : List Un} (h : ResP l x) : ResP x x := ⟨rfl, fun i hi hi' => stepU_again (h.2 i (by rw [← h.1]; exact hi) hi')⟩
theorem ResP.names {l x : List Un} (h : ResP l x) : x.map Un.name = l.map Un.name := by
  refine List.ext_getElem (by rw [List.length_map, List.length_map, h.1]) fun i h1 h2 => ?_
  rw [List.length_map] at h1 h2
  rw [List.getElem_map, List.getElem_map]
  exact (stepU_fields (h.2 i h2 h1)).1
theorem resolveU_inl {l x : List Un} : resolveU l = .inl x ↔ l.length ≤ 32 ∧ (l.map Un.name).Nodup ∧ ResP l x := by
  unfold resolveU
  by_cases h1 : 32 < l.length
  · rw [if_pos h1]
    exact ⟨(fun h => by cases h), fun h => absurd h.1 (by omega)⟩
  · rw [if_neg h1]
    by_cases h2 : (l.map Un.name).Nodup
    · rw [if_neg (fun h => h h2), resU_nil]
      exact ⟨fun h => ⟨by omega, h2, h⟩, fun h => h.2.2⟩
    · rw [if_pos h2]
      exact ⟨(fun h => by cases h), fun h => absurd h.2.1 h2⟩
theorem resolveU_again {l x : List Un} (h : resolveU l = .inl x) : resolveU x = .inl x := by
  obtain ⟨h1, h2, h3⟩ := resolveU_inl.1 h
  exact resolveU_inl.2 ⟨by rw [h3.1]; exact h1, by rw [h3.names]; exact h2, h3.again⟩
theorem checkU_res {l x : List Un} (h : resolveU l = .inl x) : checkU x = 0 := by
  unfold checkU
  rw [resolveU_again h]
  exact if_pos rfl
theorem checkU_inr {l : List Un} {e : Int} (h : resolveU l = .inr e) : checkU l = e := by
  unfold checkU
  rw [h]
/-- what is known of each unit -/
theorem ResP.base {l x : List Un} (h : ResP l x) {i : Nat} (hi : i < x.length) (he : x[i].of_ = NatM.mt) : x[i].base = i ∧ x[i].scale = one1 := by
  have hi' : i < l.length := by rw [← h.1]; exact hi
  have hs := h.2 i hi' hi
  have e1 := (stepU_fields hs).2.1
  unfold stepU at hs
  rw [if_pos (e1 ▸ he)] at hs
  split at hs
  · have hs := Sum.inl.inj hs
    rw [← hs]
    refine ⟨?_, rfl⟩
    show ((x.take i).length : Int) = i
    rw [List.length_take]
    omega
  · cases hs
theorem ResP.made {l x : List Un} (h : ResP l x) {i : Nat} (hi : i < x.length) (he : x[i].of_ ≠ NatM.mt) : btw x[i].n ∧ btw x[i].d ∧ ∃ j, ∃ hj : j < i, x[j].name = x[i].of_ ∧ x[i].base = x[j].base ∧ x[i].scale = (mulR x[j].scale (newR x[i].n x[i].d).1).1 := by
  have hi' : i < l.length := by rw [← h.1]; exact hi
  have hs := h.2 i hi' hi
  obtain ⟨_, e1, e2, e3⟩ := stepU_fields hs
  unfold stepU at hs
  rw [if_neg (e1 ▸ he)] at hs
  split at hs
  · rename_i hb
    split at hs
    · rename_i v hv
      split at hs
      · cases hs
      · rename_i hf
        have hs := Sum.inl.inj hs
        obtain ⟨j, hj⟩ : ∃ j : Nat, findI (x.take i) l[i].of_ = j := ⟨(findI (x.take i) l[i].of_).toNat, by omega⟩
        rw [hj, Int.toNat_natCast] at hv
        obtain ⟨hj1, hj2, _⟩ := findI_some.1 hj
        rw [List.length_take] at hj1
        have hv2 := (List.getElem?_eq_some_iff.1 hv).2
        rw [List.getElem_take] at hv2 hj2
        refine ⟨e2 ▸ hb.1, e3 ▸ hb.2, j, by omega, by rw [e1]; exact hj2, ?_, ?_⟩
        · rw [← hs, hv2]; rfl
        · have : x[i].scale = (l[i].re v.base (mulR v.scale (newR l[i].n l[i].d).1).1).scale := by rw [hs]
          rw [this, e2, e3, hv2]; rfl
    · cases hs
  · cases hs
theorem ResP.sc {l x : List Un} (h : ResP l x) {k : Nat} (hk : 1 + 3 * l.length ≤ k) (h2 : k ≤ 256) : ∀ u ∈ x, Sc1 k u := by
  intro u hu
  exact (resU_sc (k := 1) (by omega) (by omega) (fun w hw => by cases hw) (resU_nil.2 h) u hu).mono hk
end Go.RatM

namespace Go.RatM
open Go Go.Fw Go.NatM

/-- the value of a unit's scale -/
def Un.sv (u : Un) : Rat := (decQ u.scale).val
theorem Sc1.sv {k : Nat} {u : Un} (h : Sc1 k u) : ∃ q : Q, u.scale = encQ q ∧ q.Ok ∧ q.le k ∧ q.val = u.sv ∧ 0 < u.sv := by
  obtain ⟨q, h1, h2, h3, h4⟩ := h
  refine ⟨q, h1, h2, h3, ?_, ?_⟩
  · unfold Un.sv; rw [h1, dec_enc]
  · unfold Un.sv; rw [h1, dec_enc]; exact h4
theorem cvU_bad {l : List Un} {a b : Int} {r : Rt} (h : checkU l ≠ 0) : convU l a b r = (zr, checkU l) := if_pos h
def outU (l : List Un) (a b : Int) : Prop := a < 0 ∨ (l.length : Int) ≤ a ∨ b < 0 ∨ (l.length : Int) ≤ b ∨ ∃ (i j : Nat) (hi : i < l.length) (hj : j < l.length), a = i ∧ b = j ∧ l[i].base ≠ l[j].base
theorem cvU_out {l : List Un} {a b : Int} {r : Rt} (h : checkU l = 0) (ho : outU l a b) : convU l a b r = (zr, 90) := by
  unfold convU
  rw [if_neg (fun e => e h)]
  split
  · rename_i u v hu hv
    obtain ⟨h1, h3⟩ := List.getElem?_eq_some_iff.1 hu
    obtain ⟨h2, h4⟩ := List.getElem?_eq_some_iff.1 hv
    refine if_pos ?_
    rcases ho with ho | ho | ho | ho | ⟨i, j, hi, hj, rfl, rfl, ho⟩
    · exact .inl ho
    · omega
    · exact .inr (.inl ho)
    · omega
    · simp only [Int.toNat_natCast] at h3 h4
      rw [← h3, ← h4]
      exact .inr (.inr ho)
  · rfl
theorem outU_or (l : List Un) (a b : Int) : outU l a b ∨ ∃ (i j : Nat) (hi : i < l.length) (hj : j < l.length), a = i ∧ b = j ∧ l[i].base = l[j].base := by
  by_cases h : a < 0 ∨ (l.length : Int) ≤ a ∨ b < 0 ∨ (l.length : Int) ≤ b
  · exact .inl (by unfold outU; omega)
  · obtain ⟨i, rfl⟩ : ∃ i : Nat, a = i := ⟨a.toNat, by omega⟩
    obtain ⟨j, rfl⟩ : ∃ j : Nat, b = j := ⟨b.toNat, by omega⟩
    have hi : i < l.length := by omega
    have hj : j < l.length := by omega
    by_cases hb : l[i].base = l[j].base
    · exact .inr ⟨i, j, hi, hj, rfl, rfl, hb⟩
    · exact .inl (.inr (.inr (.inr (.inr ⟨i, j, hi, hj, rfl, rfl, hb⟩))))
theorem cvU_in {l : List Un} {i j : Nat} {r : Rt} (h : checkU l = 0) (hi : i < l.length) (hj : j < l.length) (hb : l[i].base = l[j].base) : convU l i j r =
    if (mulR r l[i].scale).2 ≠ 0 then (zr, (mulR r l[i].scale).2) else divR (mulR r l[i].scale).1 l[j].scale := by
  unfold convU
  rw [if_neg (fun e => e h), Int.toNat_natCast, Int.toNat_natCast, List.getElem?_eq_getElem hi, List.getElem?_eq_getElem hj]
  dsimp only
  rw [if_neg (by omega)]
  rfl
theorem conv_ok {l : List Un} {m k i j : Nat} {R : Q} (h : checkU l = 0) (hs : ∀ u ∈ l, Sc1 m u) (hk : k + m + m ≤ 256) (hi : i < l.length) (hj : j < l.length) (hb : l[i].base = l[j].base) (oR : R.Ok) (lR : R.le k) :
    ∃ P : Q, convU l i j (encQ R) = (encQ P, 0) ∧ P.Ok ∧ P.le (k + m + m) ∧ P.val = R.val * l[i].sv * l[j].sv⁻¹ := by
  obtain ⟨a, a1, a2, a3, a4, a5⟩ := (hs _ (List.getElem_mem hi)).sv
  obtain ⟨b, b1, b2, b3, b4, b5⟩ := (hs _ (List.getElem_mem hj)).sv
  obtain ⟨c, c1, c2, c3, c4⟩ := mulR_ok oR a2 lR a3 (by omega)
  have hz : b ≠ zq := fun e => by
    have := (val_zero b2).2 e
    rw [b4] at this
    rw [this] at b5
    exact absurd b5 (by decide)
  obtain ⟨d, d1, d2, d3, d4⟩ := divR_ok c2 b2 c3 b3 hk hz
  refine ⟨d, ?_, d2, d3, ?_⟩
  · rw [cvU_in h hi hj hb, a1, c1, if_neg (by simp), b1, d1]
  · rw [d4, c4, a4, b4]
theorem inv_one {a : Rat} (h : 0 < a) : a * a⁻¹ = 1 := Rat.mul_inv_cancel a (fun e => by rw [e] at h; exact absurd h (by decide))
theorem conv_back {a b r : Rat} (ha : 0 < a) (hb : 0 < b) : r * a * b⁻¹ * b * a⁻¹ = r := by
  have h1 := inv_one ha
  have h2 := inv_one hb
  have : r * a * b⁻¹ * b * a⁻¹ = r * (a * a⁻¹) * (b * b⁻¹) := by grind
  rw [this, h1, h2]; grind
theorem conv_via {a b c r : Rat} (hb : 0 < b) : r * a * b⁻¹ * b * c⁻¹ = r * a * c⁻¹ := by
  have h2 := inv_one hb
  have : r * a * b⁻¹ * b * c⁻¹ = r * a * c⁻¹ * (b * b⁻¹) := by grind
  rw [this, h2]; grind
theorem conv_self {a r : Rat} (ha : 0 < a) : r * a * a⁻¹ = r := by
  have h1 := inv_one ha
  have : r * a * a⁻¹ = r * (a * a⁻¹) := by grind
  rw [this, h1]; grind
theorem conv_lt {a b r s : Rat} (ha : 0 < a) (hb : 0 < b) : r * a * b⁻¹ < s * a * b⁻¹ ↔ r < s := by
  have hk : 0 < a * b⁻¹ := Rat.mul_pos ha (Rat.inv_pos.2 hb)
  rw [Rat.mul_assoc, Rat.mul_assoc]
  exact Rat.mul_lt_mul_right hk
theorem cmpQ_eq' {A B C D : Q} (hA : A.Ok) (hB : B.Ok) (hC : C.Ok) (hD : D.Ok) (h1 : A.val < B.val ↔ C.val < D.val) (h2 : B.val < A.val ↔ D.val < C.val) : cmpQ A B = cmpQ C D := by
  have h := cmpQ_lt hA hB
  have k := cmpQ_lt hC hD
  rcases h.2.2 with e | e | e
  · rw [e, (k.1.2 (h1.1 (h.1.1 e)))]
  · rcases k.2.2 with f | f | f
    · have := h.1.2 (h1.2 (k.1.1 f)); omega
    · omega
    · have := h.2.1.2 (h2.2 (k.2.1.1 f)); omega
  · rw [e, (k.2.1.2 (h2.1 (h.2.1.1 e)))]
end Go.RatM

namespace Go.Proofs.YtgnciigjhpcdmaaDoor
open Go Go.Fw Go.NatM Go.RatM
set_option maxRecDepth 100000
set_option maxHeartbeats 64000000

def resO : List Un ⊕ Int → OutS
  | .inl x => .ret (.tup [.buf 1, .v (.int .i64 0)]) 2 [ownU 1 x]
  | .inr e => .ret (.tup [.v (.slice none 0 0), .v (.int .i64 e)]) 1 []

def scOk (x : List Un) : Prop := ∀ w ∈ x, Sc1 (1 + 3 * x.length) w
theorem scOk.nil : scOk [] := fun w hw => by cases hw
theorem scOk.step {x : List Un} {u v : Un} (hx : scOk x) (hl : x.length < 32) (h : stepU x u = .inl v) : scOk (x ++ [v]) := by
  intro w hw
  have hs := stepU_sc (k := 1 + 3 * x.length) (by omega) (by omega) hx h
  have hle : (x ++ [v]).length = x.length + 1 := by simp
  rw [hle]
  rcases List.mem_append.1 hw with hw | hw
  · exact (hx w hw).mono (by omega)
  · rw [List.mem_singleton.1 hw]; exact hs.mono (by omega)
theorem mulR_one {q : Q} {k : Nat} (ok : q.Ok) (hk : q.le k) (h : k ≤ 255) : mulR one1 (encQ q) = (encQ q, 0) := by
  obtain ⟨c, c1, c2, c3, c4⟩ := mulR_ok oq_ok ok oq_le hk (by omega)
  have : c = q := Q.inj c2 ok (by rw [c4, oq_val]; grind)
  subst this
  exact c1
theorem mulR_new {q : Q} {k : Nat} {n d : Int} (ok : q.Ok) (hk : q.le k) (h : k + 3 ≤ 256) (hn : btw n) (hd : btw d) : (mulR (encQ q) (newR n d).1).2 = 0 := by
  obtain ⟨n1, n2, n3⟩ := newQ_pos hn hd
  obtain ⟨c, c1, c2, c3, c4⟩ := mulR_ok ok n1 hk n2 h
  rw [newR_ok (by omega), c1]
theorem foldM_two {q : Q} {k : Nat} {n d : Int} (ok : q.Ok) (hk : q.le k) (h : k + 3 ≤ 256) (hn : btw n) (hd : btw d) : foldM [encQ q, (newR n d).1] one1 = ((mulR (encQ q) (newR n d).1).1, 0) := by
  have h1 := mulR_new ok hk h hn hd
  unfold foldM
  rw [mulR_one ok hk (by omega), if_pos rfl]
  unfold foldM
  rw [if_pos h1]
  rfl
abbrev rtB (b : Nat) (a : Rt) : Nat × Fw.Blk := (b, .cells 31 [.v (.bool a.neg), .v (.string a.n), .v (.string a.d)])
theorem rowsU_app (x : List Un) (v : Un) : rowsU x ++ [v.row] = rowsU (x ++ [v]) := by simp [rowsU]
theorem foldM_nil : foldM [] one1 = (one1, 0) := rfl
theorem newR_one : newR 1 1 = (one1, 0) := (newR_ok (by decide)).trans (by rw [show newQ 1 1 = oq from rfl]; rfl)

theorem resolve_fn (l : List Un) (hl : l.length ≤ 9223372036854775807) (hi : ∀ u ∈ l, (-9223372036854775808 ≤ u.n ∧ u.n ≤ 9223372036854775807) ∧ (-9223372036854775808 ≤ u.d ∧ u.d ≤ 9223372036854775807)) :
    FnT Tryd.prog TabT 9 1 [.buf 0] [(0, .ro 8 (rowsU l))] (fun _ : Unit => True) (fun _ => resO (resolveU l)) := by
  have hlr := rowsU_len l
  obtain ⟨r, hr⟩ : ∃ r, r = resolveU l := ⟨_, rfl⟩
  rw [← hr]
  unfold resolveU at hr
  refine FnT.of Tryd.func9 (by kernel_rfl) rfl Tryd.ntmps9 rfl fun E0 F h hT w0 cs => ?_
  conv => whnf
  refine goS_run tab 1000 _ _ _ _ ?_
  conv => whnf
  repeat (first | (refine And.intro (by omega) ?_; (try intro _); conv => whnf) | (refine And.intro ?_ (by omega); (try intro _); conv => whnf) | (refine ⟨_, RemV.nonneg (by omega) (by omega), ?_⟩; conv => whnf))
  refine ⟨fun h1 => ?_, fun h1 => ?_⟩ <;> conv => whnf
  · rw [if_pos (by omega)] at hr
    subst hr
    conv => whnf
    repeat (first | (refine And.intro (by omega) ?_; (try intro _); conv => whnf) | (refine And.intro ?_ (by omega); (try intro _); conv => whnf) | (refine ⟨_, RemV.nonneg (by omega) (by omega), ?_⟩; conv => whnf))
    try refine RunsS.retU ?_
    try refine RunsS.finU ?_
    exact UnwS.ret tab Tryd.func9 rfl (EndS.mk (()) (trivial) [] (by repeat (first | exact trivial | refine ⟨by rfl, ?_⟩)) rfl rfl (okRet rfl rfl))
  · rw [if_neg (by omega)] at hr
    have h1 : l.length ≤ 32 := by omega
    conv => whnf
    repeat (first | (refine And.intro (by omega) ?_; (try intro _); conv => whnf) | (refine And.intro ?_ (by omega); (try intro _); conv => whnf) | (refine ⟨_, RemV.nonneg (by omega) (by omega), ?_⟩; conv => whnf))
    by_cases hn : (l.map Un.name).Nodup
    · rw [if_neg (fun h => h hn)] at hr
      refine RunsS.callV (fun Ez Hz Az Sz K => twins_fn l (Sz.ro (b := 0) rfl)) ?_
      conv => whnf
      rw [decide_eq_false (fun h => h hn)]
      try dsimp only
      try refine goS_run tab 1000 _ _ _ _ ?_
      conv => whnf
      repeat (first | (refine And.intro (by omega) ?_; (try intro _); conv => whnf) | (refine And.intro ?_ (by omega); (try intro _); conv => whnf) | (refine ⟨_, RemV.nonneg (by omega) (by omega), ?_⟩; conv => whnf))
      refine RunsS.callV (fun Ez Hz Az Sz K => qNew_fn 1 1 (by omega) (by omega) (tabOk.at hT K).1) ?_
      conv => whnf
      rw [newR_one]
      try dsimp only
      try refine goS_run tab 1000 _ _ _ _ ?_
      conv => whnf
      repeat (first | (refine And.intro (by omega) ?_; (try intro _); conv => whnf) | (refine And.intro ?_ (by omega); (try intro _); conv => whnf) | (refine ⟨_, RemV.nonneg (by omega) (by omega), ?_⟩; conv => whnf))
      refine RunsS.subR (nx' := 3) (l' := [(25, .v (.int .i64 0)), (24, .v (.int .i64 (rowsU l).length)), (23, .buf 0), (6, .fn (.func 22) [] [.ptr 1 0]), (4, .ptr 2 0), (3, .v (.int .i64 0)), (2, .ptr 1 0)]) (H' := [rtB 2 one1, cellU 1 (.v (.slice none 0 0)), (0, .ro 8 (rowsU l))]) [] ?_ (by repeat (first | exact trivial | refine ⟨by rfl, ?_⟩)) (by repeat (first | exact trivial | refine ⟨by rfl, ?_⟩))
      refine RunsS.nilOwn (l' := [(25, .v (.int .i64 0)), (24, .v (.int .i64 (rowsU l).length)), (23, .buf 0), (6, .fn (.func 22) [] [.ptr 1 0]), (4, .ptr 2 0), (3, .v (.int .i64 0)), (2, .ptr 1 0)]) (H' := [rtB 2 one1, cellU 1 (.buf 3), (0, .ro 8 (rowsU l))]) 33 8 ?_ (by rfl) (by rfl) (by rfl)
      refine RunsS.subR [] (RunsS.loop (fun (⟨k, x⟩ : Nat × List Un) => [(25, .v (.int .i64 k)), (24, .v (.int .i64 (rowsU l).length)), (23, .buf 0), (6, .fn (.func 22) [] [.ptr 1 0]), (4, .ptr 2 0), (3, .v (.int .i64 0)), (2, .ptr 1 0)]) (fun (⟨k, x⟩ : Nat × List Un) => [ownU 3 x, rtB 2 one1, cellU 1 (.buf 3), (0, .ro 8 (rowsU l))]) 4 (fun (⟨k, x⟩ : Nat × List Un) => k ≤ l.length ∧ x.length = k ∧ scOk x ∧ r = resU (l.drop k) x) (fun (⟨k, x⟩ : Nat × List Un) => l.length - k) ?round1 ((0, [])) ?J01) ?SS1 ?HH1
      case J01 => exact (⟨Nat.zero_le _, rfl, scOk.nil, hr⟩)
      case SS1 => repeat (first | exact trivial | refine ⟨by rfl, ?_⟩)
      case HH1 => repeat (first | exact trivial | refine ⟨by rfl, ?_⟩)
      rintro ⟨k, x⟩ hJ back
      try dsimp only at hJ back
      conv => whnf
      try dsimp only
      refine goS_run tab 1000 _ _ _ _ ?_
      conv => whnf
      repeat (first | (refine And.intro (by omega) ?_; (try intro _); conv => whnf) | (refine And.intro ?_ (by omega); (try intro _); conv => whnf) | (refine ⟨_, RemV.nonneg (by omega) (by omega), ?_⟩; conv => whnf))
      refine ⟨fun hk => ?_, fun hk => ?_⟩ <;> conv => whnf
      · have hk : k < l.length := by omega
        have hd : l.drop k = l[k] :: l.drop (k + 1) := List.drop_eq_getElem_cons hk
        obtain ⟨hJ1, hJ2, hJ3, hJ4⟩ := hJ
        rw [hd] at hJ4
        simp only [resU] at hJ4
        conv => whnf
        repeat (first | (refine And.intro (by omega) ?_; (try intro _); conv => whnf) | (refine And.intro ?_ (by omega); (try intro _); conv => whnf) | (refine ⟨_, RemV.nonneg (by omega) (by omega), ?_⟩; conv => whnf))
        refine ⟨_, rowsU_get hk, ?_⟩
        conv => whnf
        try (refine And.intro (by first | omega | exact Nat.le_of_ble_eq_true rfl) ?_; conv => whnf)
        repeat (first | (refine And.intro (by omega) ?_; (try intro _); conv => whnf) | (refine And.intro ?_ (by omega); (try intro _); conv => whnf) | (refine ⟨_, RemV.nonneg (by omega) (by omega), ?_⟩; conv => whnf))
        refine ⟨fun e0 => ?_, fun e0 => ?_⟩ <;> conv => whnf
        · have st : stepU x l[k] = if l[k].n = 0 ∧ l[k].d = 0 then .inl (l[k].re k one1) else .inr 90 := by
            unfold stepU
            rw [if_pos e0, hJ2]
          by_cases hz : l[k].n = 0 ∧ l[k].d = 0
          · rw [if_pos hz] at st
            rw [st] at hJ4
            conv => whnf
            repeat (first | (refine And.intro (by omega) ?_; (try intro _); conv => whnf) | (refine And.intro ?_ (by omega); (try intro _); conv => whnf) | (refine ⟨_, RemV.nonneg (by omega) (by omega), ?_⟩; conv => whnf))
            refine RunsS.callV (fun Ez Hz Az Sz K => fold_fn [] one1 Ro.nil (tabOk.at hT K).1) ?_
            conv => whnf
            rw [foldM_nil]
            try dsimp only
            try refine goS_run tab 1000 _ _ _ _ ?_
            conv => whnf
            repeat (first | (refine And.intro (by omega) ?_; (try intro _); conv => whnf) | (refine And.intro ?_ (by omega); (try intro _); conv => whnf) | (refine ⟨_, RemV.nonneg (by omega) (by omega), ?_⟩; conv => whnf))
            refine And.intro (appOb (by rw [rowsU_len]; omega)) ?_
            conv => whnf
            try refine goS_run tab 1000 _ _ _ _ ?_
            conv => whnf
            repeat (first | (refine And.intro (by omega) ?_; (try intro _); conv => whnf) | (refine And.intro ?_ (by omega); (try intro _); conv => whnf) | (refine ⟨_, RemV.nonneg (by omega) (by omega), ?_⟩; conv => whnf))
            refine RunsS.rowsEq (6) (rowsU_app x (l[k].re k one1)) ?_
            conv => whnf
            refine RunsS.subR [(3, 6)] (back ((k + 1, x ++ [(l[k].re k one1)])) ?BJ2 ?BM2) ?SS2 ?HH2
            case BJ2 => exact (⟨hk, by rw [List.length_append, hJ2]; rfl, hJ3.step (by omega) st, hJ4⟩)
            case BM2 => (try dsimp only); omega
            case SS2 => repeat (first | exact trivial | refine ⟨by rfl, ?_⟩)
            case HH2 => repeat (first | exact trivial | refine ⟨by rfl, ?_⟩)
          · rw [if_neg hz] at st
            rw [st] at hJ4
            subst hJ4
            by_cases hz1 : l[k].n = 0
            · have hz2 : l[k].d ≠ 0 := fun e => hz ⟨hz1, e⟩
              conv => whnf
              repeat (first | (refine And.intro (by omega) ?_; (try intro _); conv => whnf) | (refine And.intro ?_ (by omega); (try intro _); conv => whnf) | (refine ⟨_, RemV.nonneg (by omega) (by omega), ?_⟩; conv => whnf))
              try refine RunsS.retU ?_
              try refine RunsS.finU ?_
              exact UnwS.ret tab Tryd.func9 rfl (EndS.mk (()) (trivial) [] (by repeat (first | exact trivial | refine ⟨by rfl, ?_⟩)) rfl rfl (okRet rfl rfl))
            · conv => whnf
              repeat (first | (refine And.intro (by omega) ?_; (try intro _); conv => whnf) | (refine And.intro ?_ (by omega); (try intro _); conv => whnf) | (refine ⟨_, RemV.nonneg (by omega) (by omega), ?_⟩; conv => whnf))
              try refine RunsS.retU ?_
              try refine RunsS.finU ?_
              exact UnwS.ret tab Tryd.func9 rfl (EndS.mk (()) (trivial) [] (by repeat (first | exact trivial | refine ⟨by rfl, ?_⟩)) rfl rfl (okRet rfl rfl))
        · conv => whnf
          repeat (first | (refine And.intro (by omega) ?_; (try intro _); conv => whnf) | (refine And.intro ?_ (by omega); (try intro _); conv => whnf) | (refine ⟨_, RemV.nonneg (by omega) (by omega), ?_⟩; conv => whnf))
          have hi' := hi l[k] (List.getElem_mem hk)
          by_cases b1 : btw l[k].n
          · refine RunsS.callV (fun Ez Hz Az Sz K => between_fn l[k].n) ?_
            conv => whnf
            rw [decide_eq_true b1]
            try dsimp only
            try refine goS_run tab 1000 _ _ _ _ ?_
            conv => whnf
            repeat (first | (refine And.intro (by omega) ?_; (try intro _); conv => whnf) | (refine And.intro ?_ (by omega); (try intro _); conv => whnf) | (refine ⟨_, RemV.nonneg (by omega) (by omega), ?_⟩; conv => whnf))
            by_cases b2 : btw l[k].d
            · refine RunsS.callV (fun Ez Hz Az Sz K => between_fn l[k].d) ?_
              conv => whnf
              rw [decide_eq_true b2]
              try dsimp only
              try refine goS_run tab 1000 _ _ _ _ ?_
              conv => whnf
              repeat (first | (refine And.intro (by omega) ?_; (try intro _); conv => whnf) | (refine And.intro ?_ (by omega); (try intro _); conv => whnf) | (refine ⟨_, RemV.nonneg (by omega) (by omega), ?_⟩; conv => whnf))
              by_cases hf : findI x l[k].of_ < 0
              · have st : stepU x l[k] = .inr 110 := by
                  unfold stepU
                  rw [if_neg e0, if_pos ⟨b1, b2⟩]
                  split
                  · rw [if_pos hf]
                  · rfl
                rw [st] at hJ4
                subst hJ4
                refine RunsS.callN (meant_fn x (by omega) l[k].of_) [1, 3] ?CNr3 (by repeat (first | exact trivial | refine ⟨by rfl, ?_⟩)) ?CNa3
                case CNa3 => rfl
                intro _ _
                conv => whnf
                try refine goS_run tab 1000 _ _ _ _ ?_
                conv => whnf
                repeat (first | (refine And.intro (by omega) ?_; (try intro _); conv => whnf) | (refine And.intro ?_ (by omega); (try intro _); conv => whnf) | (refine ⟨_, RemV.nonneg (by omega) (by omega), ?_⟩; conv => whnf))
                try refine RunsS.retU ?_
                try refine RunsS.finU ?_
                exact UnwS.ret tab Tryd.func9 rfl (EndS.mk (()) (trivial) [] (by repeat (first | exact trivial | refine ⟨by rfl, ?_⟩)) rfl rfl (okRet rfl rfl))
              · obtain ⟨j, hj, hj1, hj2⟩ := findI_nonneg (l := x) (nm := l[k].of_) (by omega)
                have st : stepU x l[k] = .inl (l[k].re x[j].base (mulR x[j].scale (newR l[k].n l[k].d).1).1) := by
                  unfold stepU
                  rw [if_neg e0, if_pos ⟨b1, b2⟩, hj, Int.toNat_natCast, List.getElem?_eq_getElem hj1]
                  exact if_neg (by omega)
                rw [st] at hJ4
                obtain ⟨q, q1, q2, q3, q4⟩ := hJ3 x[j] (List.getElem_mem hj1)
                have fm : foldM [x[j].scale, (newR l[k].n l[k].d).1] one1 = ((mulR x[j].scale (newR l[k].n l[k].d).1).1, 0) := by rw [q1]; exact foldM_two q2 q3 (by omega) b1 b2
                have nm : newR l[k].n l[k].d = ((newR l[k].n l[k].d).1, 0) := by rw [newR_ok (by omega)]
                have C := meant_fn x (by omega) l[k].of_
                rw [hj] at C
                have hxr := rowsU_len x
                refine RunsS.callN (C) [1, 3] ?CNr4 (by repeat (first | exact trivial | refine ⟨by rfl, ?_⟩)) ?CNa4
                case CNa4 => rfl
                intro _ _
                conv => whnf
                try refine goS_run tab 1000 _ _ _ _ ?_
                conv => whnf
                repeat (first | (refine And.intro (by omega) ?_; (try intro _); conv => whnf) | (refine And.intro ?_ (by omega); (try intro _); conv => whnf) | (refine ⟨_, RemV.nonneg (by omega) (by omega), ?_⟩; conv => whnf))
                refine RunsS.callV (fun Ez Hz Az Sz K => qNew_fn l[k].n l[k].d hi'.1 hi'.2 (tabOk.at hT K).1) ?_
                conv => whnf
                rw [nm]
                try dsimp only
                try refine goS_run tab 1000 _ _ _ _ ?_
                conv => whnf
                repeat (first | (refine And.intro (by omega) ?_; (try intro _); conv => whnf) | (refine And.intro ?_ (by omega); (try intro _); conv => whnf) | (refine ⟨_, RemV.nonneg (by omega) (by omega), ?_⟩; conv => whnf))
                refine ⟨_, rowsU_get hj1, ?_⟩
                conv => whnf
                try (refine And.intro (by first | omega | exact Nat.le_of_ble_eq_true rfl) ?_; conv => whnf)
                repeat (first | (refine And.intro (by omega) ?_; (try intro _); conv => whnf) | (refine And.intro ?_ (by omega); (try intro _); conv => whnf) | (refine ⟨_, RemV.nonneg (by omega) (by omega), ?_⟩; conv => whnf))
                refine RunsS.held tab (.fl 0 (.fl 1 (.fl 2 (.fl 3 (.fl 4 (.fl 5 (.e1 6 [] (.fl 7 .done)))))))) (by kernel_rfl) ?_
                conv => whnf
                try refine goR_run tab _ _ _ _ _ _ ?_
                conv => whnf
                repeat (first | (refine And.intro (by omega) ?_; (try intro _); conv => whnf) | (refine And.intro ?_ (by omega); (try intro _); conv => whnf) | (refine And.intro (by (conv => whnf); (repeat (refine And.intro (by (conv => whnf); first | rfl | exact trivial) ?_; conv => whnf)); exact trivial) ?_; conv => whnf) | (refine ⟨_, RemV.nonneg (by omega) (by omega), ?_⟩; conv => whnf))
                try refine goS_run tab 1000 _ _ _ _ ?_
                conv => whnf
                repeat (first | (refine And.intro (by omega) ?_; (try intro _); conv => whnf) | (refine And.intro ?_ (by omega); (try intro _); conv => whnf) | (refine ⟨_, RemV.nonneg (by omega) (by omega), ?_⟩; conv => whnf))
                refine ⟨_, rowsU_get hj1, ?_⟩
                conv => whnf
                try (refine And.intro (by first | omega | exact Nat.le_of_ble_eq_true rfl) ?_; conv => whnf)
                try refine goR_run tab _ _ _ _ _ _ ?_
                conv => whnf
                repeat (first | (refine And.intro (by omega) ?_; (try intro _); conv => whnf) | (refine And.intro ?_ (by omega); (try intro _); conv => whnf) | (refine And.intro (by (conv => whnf); (repeat (refine And.intro (by (conv => whnf); first | rfl | exact trivial) ?_; conv => whnf)); exact trivial) ?_; conv => whnf) | (refine ⟨_, RemV.nonneg (by omega) (by omega), ?_⟩; conv => whnf))
                try refine goS_run tab 1000 _ _ _ _ ?_
                conv => whnf
                repeat (first | (refine And.intro (by omega) ?_; (try intro _); conv => whnf) | (refine And.intro ?_ (by omega); (try intro _); conv => whnf) | (refine ⟨_, RemV.nonneg (by omega) (by omega), ?_⟩; conv => whnf))
                refine RunsS.callV (fun Ez Hz Az Sz K => fold_fn [x[j].scale, (newR l[k].n l[k].d).1] one1 (Sz.ro (b := 6) rfl) (tabOk.at hT K).1) ?_
                conv => whnf
                rw [fm]
                try dsimp only
                try refine goS_run tab 1000 _ _ _ _ ?_
                conv => whnf
                repeat (first | (refine And.intro (by omega) ?_; (try intro _); conv => whnf) | (refine And.intro ?_ (by omega); (try intro _); conv => whnf) | (refine ⟨_, RemV.nonneg (by omega) (by omega), ?_⟩; conv => whnf))
                refine And.intro (appOb (by rw [rowsU_len]; omega)) ?_
                conv => whnf
                try refine goS_run tab 1000 _ _ _ _ ?_
                conv => whnf
                repeat (first | (refine And.intro (by omega) ?_; (try intro _); conv => whnf) | (refine And.intro ?_ (by omega); (try intro _); conv => whnf) | (refine ⟨_, RemV.nonneg (by omega) (by omega), ?_⟩; conv => whnf))
                refine RunsS.rowsEq (8) (rowsU_app x (l[k].re x[j].base (mulR x[j].scale (newR l[k].n l[k].d).1).1)) ?_
                conv => whnf
                refine RunsS.subR [(3, 8)] (back ((k + 1, x ++ [l[k].re x[j].base (mulR x[j].scale (newR l[k].n l[k].d).1).1])) ?BJ5 ?BM5) ?SS5 ?HH5
                case BJ5 => exact (⟨hk, by rw [List.length_append, hJ2]; rfl, hJ3.step (by omega) st, hJ4⟩)
                case BM5 => (try dsimp only); omega
                case SS5 => repeat (first | exact trivial | refine ⟨by rfl, ?_⟩)
                case HH5 => repeat (first | exact trivial | refine ⟨by rfl, ?_⟩)
            · have st : stepU x l[k] = .inr 90 := by
                unfold stepU
                rw [if_neg e0, if_neg fun h => b2 h.2]
              rw [st] at hJ4
              subst hJ4
              refine RunsS.callV (fun Ez Hz Az Sz K => between_fn l[k].d) ?_
              conv => whnf
              rw [decide_eq_false b2]
              try dsimp only
              try refine goS_run tab 1000 _ _ _ _ ?_
              conv => whnf
              repeat (first | (refine And.intro (by omega) ?_; (try intro _); conv => whnf) | (refine And.intro ?_ (by omega); (try intro _); conv => whnf) | (refine ⟨_, RemV.nonneg (by omega) (by omega), ?_⟩; conv => whnf))
              try refine RunsS.retU ?_
              try refine RunsS.finU ?_
              exact UnwS.ret tab Tryd.func9 rfl (EndS.mk (()) (trivial) [] (by repeat (first | exact trivial | refine ⟨by rfl, ?_⟩)) rfl rfl (okRet rfl rfl))
          · have st : stepU x l[k] = .inr 90 := by
              unfold stepU
              rw [if_neg e0, if_neg fun h => b1 h.1]
            rw [st] at hJ4
            subst hJ4
            refine RunsS.callV (fun Ez Hz Az Sz K => between_fn l[k].n) ?_
            conv => whnf
            rw [decide_eq_false b1]
            try dsimp only
            try refine goS_run tab 1000 _ _ _ _ ?_
            conv => whnf
            repeat (first | (refine And.intro (by omega) ?_; (try intro _); conv => whnf) | (refine And.intro ?_ (by omega); (try intro _); conv => whnf) | (refine ⟨_, RemV.nonneg (by omega) (by omega), ?_⟩; conv => whnf))
            try refine RunsS.retU ?_
            try refine RunsS.finU ?_
            exact UnwS.ret tab Tryd.func9 rfl (EndS.mk (()) (trivial) [] (by repeat (first | exact trivial | refine ⟨by rfl, ?_⟩)) rfl rfl (okRet rfl rfl))
      · have hk : k = l.length := by omega
        have hJ4 := hJ.2.2.2
        rw [hk, List.drop_length] at hJ4
        have hJ4 : r = .inl x := hJ4
        conv => whnf
        repeat (first | (refine And.intro (by omega) ?_; (try intro _); conv => whnf) | (refine And.intro ?_ (by omega); (try intro _); conv => whnf) | (refine ⟨_, RemV.nonneg (by omega) (by omega), ?_⟩; conv => whnf))
        rw [hJ4]
        try refine RunsS.retU ?_
        try refine RunsS.finU ?_
        exact UnwS.ret tab Tryd.func9 rfl (EndS.mk (()) (trivial) [(1, 3)] (by repeat (first | exact trivial | refine ⟨by rfl, ?_⟩)) rfl rfl (okRet rfl rfl))
    · rw [if_pos hn] at hr
      subst hr
      refine RunsS.callV (fun Ez Hz Az Sz K => twins_fn l (Sz.ro (b := 0) rfl)) ?_
      conv => whnf
      rw [decide_eq_true hn]
      try dsimp only
      try refine goS_run tab 1000 _ _ _ _ ?_
      conv => whnf
      repeat (first | (refine And.intro (by omega) ?_; (try intro _); conv => whnf) | (refine And.intro ?_ (by omega); (try intro _); conv => whnf) | (refine ⟨_, RemV.nonneg (by omega) (by omega), ?_⟩; conv => whnf))
      try refine RunsS.retU ?_
      try refine RunsS.finU ?_
      exact UnwS.ret tab Tryd.func9 rfl (EndS.mk (()) (trivial) [] (by repeat (first | exact trivial | refine ⟨by rfl, ?_⟩)) rfl rfl (okRet rfl rfl))
end Go.Proofs.YtgnciigjhpcdmaaDoor

namespace Go.Proofs.YtgnciigjhpcdmaaDoor
open Go Go.Fw Go.NatM Go.RatM
set_option maxRecDepth 100000
set_option maxHeartbeats 64000000

def UnOk (l : List Un) : Prop := ∀ u ∈ l, (-9223372036854775808 ≤ u.n ∧ u.n ≤ 9223372036854775807) ∧ (-9223372036854775808 ≤ u.d ∧ u.d ≤ 9223372036854775807)
theorem resOk {l x : List Un} (hl : l.length ≤ 9223372036854775807) (hi : UnOk l) (hx : resolveU l = .inl x) :
    FnT Tryd.prog TabT 9 1 [.buf 0] [(0, .ro 8 (rowsU l))] (fun _ : Unit => True) (fun _ => .ret (.tup [.buf 1, .v (.int .i64 0)]) 2 [ownU 1 x]) := by
  have := resolve_fn l hl hi
  rw [hx] at this
  exact this
theorem resNo {l : List Un} {e : Int} (hl : l.length ≤ 9223372036854775807) (hi : UnOk l) (hx : resolveU l = .inr e) :
    FnT Tryd.prog TabT 9 1 [.buf 0] [(0, .ro 8 (rowsU l))] (fun _ : Unit => True) (fun _ => .ret (.tup [.v (.slice none 0 0), .v (.int .i64 e)]) 1 []) := by
  have := resolve_fn l hl hi
  rw [hx] at this
  exact this
theorem take_eq_succ {a b : List Un} {k : Nat} (ha : k < a.length) (hb : k < b.length) (h : a.take k = b.take k) (he : a[k] = b[k]) : a.take (k + 1) = b.take (k + 1) := by
  rw [List.take_add_one, List.take_add_one, h, List.getElem?_eq_getElem ha, List.getElem?_eq_getElem hb, he]
theorem equal_fn {h : Array Obj} (a b : List Un) {va vb : Value} (hva : Ro h va 8 (rowsU a)) (hvb : Ro h vb 8 (rowsU b)) : FnV Tryd.prog 27 #[va, vb] h fun r h' => r = .bool (decide (a = b)) ∧ Keeps h.size h h' := by
  have hla := rowsU_len a
  have hlb := rowsU_len b
  have hma := hva.len
  have hmb := hvb.len
  obtain ⟨r, hr⟩ : ∃ r, r = decide (a = b) := ⟨_, rfl⟩
  rw [← hr]
  refine Fn.ofG (envL [va, vb]) 2 [.buf 0, .buf 1] [(0, .ro (8) (rowsU a)), (1, .ro (8) (rowsU b))] (fun k => k < _) Tryd.func27 (by kernel_rfl) rfl Tryd.ntmps27 rfl (fun _ hk => hk) (Sat.ros (vs := [va, vb]) (l := [(8, rowsU a), (8, rowsU b)]) ⟨hva, hvb, trivial⟩) fun w0 cs => ?_
  conv => whnf
  refine goS_run tab 1000 _ _ _ _ ?_
  conv => whnf
  repeat (first | (refine And.intro (by omega) ?_; (try intro _); conv => whnf) | (refine And.intro ?_ (by omega); (try intro _); conv => whnf) | (refine ⟨_, RemV.nonneg (by omega) (by omega), ?_⟩; conv => whnf))
  refine ⟨fun h1 => ?_, fun h1 => ?_⟩ <;> conv => whnf
  · have h1 : a.length = b.length := by omega
    conv => whnf
    repeat (first | (refine And.intro (by omega) ?_; (try intro _); conv => whnf) | (refine And.intro ?_ (by omega); (try intro _); conv => whnf) | (refine ⟨_, RemV.nonneg (by omega) (by omega), ?_⟩; conv => whnf))
    refine RunsS.subR [] (RunsS.loop (fun (k : Nat) => [(13, .v (.int .i64 k)), (12, .v (.int .i64 (rowsU a).length)), (11, .buf 0), (0, .buf 0), (1, .buf 1)]) (fun (k : Nat) => [(0, .ro 8 (rowsU a)), (1, .ro 8 (rowsU b))]) 2 (fun (k : Nat) => k ≤ a.length ∧ a.take k = b.take k) (fun (k : Nat) => a.length - k) ?round1 (0) ?J01) ?SS1 ?HH1
    case J01 => exact (⟨Nat.zero_le _, rfl⟩)
    case SS1 => repeat (first | exact trivial | refine ⟨by rfl, ?_⟩)
    case HH1 => repeat (first | exact trivial | refine ⟨by rfl, ?_⟩)
    rintro k hJ back
    try dsimp only at hJ back
    conv => whnf
    try dsimp only
    refine goS_run tab 1000 _ _ _ _ ?_
    conv => whnf
    repeat (first | (refine And.intro (by omega) ?_; (try intro _); conv => whnf) | (refine And.intro ?_ (by omega); (try intro _); conv => whnf) | (refine ⟨_, RemV.nonneg (by omega) (by omega), ?_⟩; conv => whnf))
    refine ⟨fun hk => ?_, fun hk => ?_⟩ <;> conv => whnf
    · have hk : k < a.length := by omega
      have hkb : k < b.length := by omega
      conv => whnf
      repeat (first | (refine And.intro (by omega) ?_; (try intro _); conv => whnf) | (refine And.intro ?_ (by omega); (try intro _); conv => whnf) | (refine ⟨_, RemV.nonneg (by omega) (by omega), ?_⟩; conv => whnf))
      refine RunsS.held tab (.fl 0 (.fl 1 (.fl 2 (.fl 3 (.fl 4 (.fl 5 (.fl 6 (.fl 7 (.fl 8 .done))))))))) (by kernel_rfl) ?_
      conv => whnf
      try refine goR_run tab _ _ _ _ _ _ ?_
      conv => whnf
      repeat (first | (refine And.intro (by omega) ?_; (try intro _); conv => whnf) | (refine And.intro ?_ (by omega); (try intro _); conv => whnf) | (refine And.intro (by (conv => whnf); (repeat (refine And.intro (by (conv => whnf); first | rfl | exact trivial) ?_; conv => whnf)); exact trivial) ?_; conv => whnf) | (refine ⟨_, RemV.nonneg (by omega) (by omega), ?_⟩; conv => whnf))
      try refine goS_run tab 1000 _ _ _ _ ?_
      conv => whnf
      repeat (first | (refine And.intro (by omega) ?_; (try intro _); conv => whnf) | (refine And.intro ?_ (by omega); (try intro _); conv => whnf) | (refine ⟨_, RemV.nonneg (by omega) (by omega), ?_⟩; conv => whnf))
      refine ⟨_, rowsU_get hk, ?_⟩
      conv => whnf
      try (refine And.intro (by first | omega | exact Nat.le_of_ble_eq_true rfl) ?_; conv => whnf)
      try refine goR_run tab _ _ _ _ _ _ ?_
      conv => whnf
      repeat (first | (refine And.intro (by omega) ?_; (try intro _); conv => whnf) | (refine And.intro ?_ (by omega); (try intro _); conv => whnf) | (refine And.intro (by (conv => whnf); (repeat (refine And.intro (by (conv => whnf); first | rfl | exact trivial) ?_; conv => whnf)); exact trivial) ?_; conv => whnf) | (refine ⟨_, RemV.nonneg (by omega) (by omega), ?_⟩; conv => whnf))
      try refine goS_run tab 1000 _ _ _ _ ?_
      conv => whnf
      repeat (first | (refine And.intro (by omega) ?_; (try intro _); conv => whnf) | (refine And.intro ?_ (by omega); (try intro _); conv => whnf) | (refine ⟨_, RemV.nonneg (by omega) (by omega), ?_⟩; conv => whnf))
      refine ⟨_, rowsU_get hkb, ?_⟩
      conv => whnf
      try (refine And.intro (by first | omega | exact Nat.le_of_ble_eq_true rfl) ?_; conv => whnf)
      try refine goR_run tab _ _ _ _ _ _ ?_
      conv => whnf
      repeat (first | (refine And.intro (by omega) ?_; (try intro _); conv => whnf) | (refine And.intro ?_ (by omega); (try intro _); conv => whnf) | (refine And.intro (by (conv => whnf); (repeat (refine And.intro (by (conv => whnf); first | rfl | exact trivial) ?_; conv => whnf)); exact trivial) ?_; conv => whnf) | (refine ⟨_, RemV.nonneg (by omega) (by omega), ?_⟩; conv => whnf))
      try refine goS_run tab 1000 _ _ _ _ ?_
      conv => whnf
      repeat (first | (refine And.intro (by omega) ?_; (try intro _); conv => whnf) | (refine And.intro ?_ (by omega); (try intro _); conv => whnf) | (refine ⟨_, RemV.nonneg (by omega) (by omega), ?_⟩; conv => whnf))
      refine ⟨fun he => ?_, fun he => ?_⟩ <;> conv => whnf
      · try refine goR_run tab _ _ _ _ _ _ ?_
        conv => whnf
        repeat (first | (refine And.intro (by omega) ?_; (try intro _); conv => whnf) | (refine And.intro ?_ (by omega); (try intro _); conv => whnf) | (refine And.intro (by (conv => whnf); (repeat (refine And.intro (by (conv => whnf); first | rfl | exact trivial) ?_; conv => whnf)); exact trivial) ?_; conv => whnf) | (refine ⟨_, RemV.nonneg (by omega) (by omega), ?_⟩; conv => whnf))
        try refine goS_run tab 1000 _ _ _ _ ?_
        conv => whnf
        repeat (first | (refine And.intro (by omega) ?_; (try intro _); conv => whnf) | (refine And.intro ?_ (by omega); (try intro _); conv => whnf) | (refine ⟨_, RemV.nonneg (by omega) (by omega), ?_⟩; conv => whnf))
        refine RunsS.subR [] (back (k + 1) ?BJ2 ?BM2) ?SS2 ?HH2
        case BJ2 => exact (⟨hk, take_eq_succ hk hkb hJ.2 (Un.ext8 he)⟩)
        case BM2 => (try dsimp only); omega
        case SS2 => repeat (first | exact trivial | refine ⟨by rfl, ?_⟩)
        case HH2 => repeat (first | exact trivial | refine ⟨by rfl, ?_⟩)
      · try refine goR_run tab _ _ _ _ _ _ ?_
        conv => whnf
        repeat (first | (refine And.intro (by omega) ?_; (try intro _); conv => whnf) | (refine And.intro ?_ (by omega); (try intro _); conv => whnf) | (refine And.intro (by (conv => whnf); (repeat (refine And.intro (by (conv => whnf); first | rfl | exact trivial) ?_; conv => whnf)); exact trivial) ?_; conv => whnf) | (refine ⟨_, RemV.nonneg (by omega) (by omega), ?_⟩; conv => whnf))
        try refine goS_run tab 1000 _ _ _ _ ?_
        conv => whnf
        repeat (first | (refine And.intro (by omega) ?_; (try intro _); conv => whnf) | (refine And.intro ?_ (by omega); (try intro _); conv => whnf) | (refine ⟨_, RemV.nonneg (by omega) (by omega), ?_⟩; conv => whnf))
        have : r = false := by
          rw [hr]
          refine decide_eq_false fun e => he ?_
          subst e
          exact Un.ext8_iff.1 rfl
        rw [this]
        refine RunsS.retU (UnwS.ret tab Tryd.func27 rfl fun Ez Hz Az Sz K => ⟨_, rfl, rfl, K.keeps⟩)
    · have hk : k = a.length := by omega
      have h2 := hJ.2
      rw [hk, List.take_length, h1, List.take_length] at h2
      have : r = true := by rw [hr]; exact decide_eq_true h2
      conv => whnf
      repeat (first | (refine And.intro (by omega) ?_; (try intro _); conv => whnf) | (refine And.intro ?_ (by omega); (try intro _); conv => whnf) | (refine ⟨_, RemV.nonneg (by omega) (by omega), ?_⟩; conv => whnf))
      rw [this]
      refine RunsS.retU (UnwS.ret tab Tryd.func27 rfl fun Ez Hz Az Sz K => ⟨_, rfl, rfl, K.keeps⟩)
  · have : r = false := by rw [hr]; exact decide_eq_false (fun e => h1 (by rw [e]))
    rw [this]
    conv => whnf
    repeat (first | (refine And.intro (by omega) ?_; (try intro _); conv => whnf) | (refine And.intro ?_ (by omega); (try intro _); conv => whnf) | (refine ⟨_, RemV.nonneg (by omega) (by omega), ?_⟩; conv => whnf))
    refine RunsS.retU (UnwS.ret tab Tryd.func27 rfl fun Ez Hz Az Sz K => ⟨_, rfl, rfl, K.keeps⟩)
theorem resU_err : ∀ {l x : List Un} {e : Int}, resU l x = .inr e → e = 90 ∨ e = 110
  | [], x, e, h => by cases h
  | u :: l, x, e, h => by
    simp only [resU] at h
    split at h
    · exact resU_err h
    · rename_i e' he
      cases h
      unfold stepU at he
      split at he
      · split at he <;> cases he
        exact .inl rfl
      · split at he
        · split at he
          · split at he <;> cases he
            exact .inr rfl
          · cases he; exact .inr rfl
        · cases he; exact .inl rfl
theorem resolveU_err {l : List Un} {e : Int} (h : resolveU l = .inr e) : e = 90 ∨ e = 110 ∨ e = 111 := by
  unfold resolveU at h
  split at h
  · cases h; exact .inl rfl
  · split at h
    · cases h; exact .inr (.inr rfl)
    · have := resU_err h; omega
theorem uCheck_fn {h : Array Obj} (l : List Un) (hi : UnOk l) {v : Value} (hv : Ro h v 8 (rowsU l)) (hT : TabH h) : FnV Tryd.prog 10 #[v] h fun r h' => r = .int .i64 (checkU l) ∧ Keeps h.size h h' := by
  have hl := rowsU_len l
  have hm := hv.len
  refine Fn.ofG (envL [v]) 1 [.buf 0] [(0, .ro (8) (rowsU l))] (fun k => k < _) Tryd.func10 (by kernel_rfl) rfl Tryd.ntmps10 rfl (fun _ hk => hk) (Sat.ros (vs := [v]) (l := [(8, rowsU l)]) ⟨hv, trivial⟩) fun w0 cs => ?_
  conv => whnf
  refine goS_run tab 1000 _ _ _ _ ?_
  conv => whnf
  repeat (first | (refine And.intro (by omega) ?_; (try intro _); conv => whnf) | (refine And.intro ?_ (by omega); (try intro _); conv => whnf) | (refine ⟨_, RemV.nonneg (by omega) (by omega), ?_⟩; conv => whnf))
  cases hx : resolveU l with
  | inr e =>
    have he := resolveU_err hx
    have : checkU l = e := by unfold checkU; rw [hx]
    rw [this]
    refine RunsS.callT tabOk (hT.t) (resNo (by omega) hi hx) [0] (by repeat (first | exact trivial | refine ⟨by rfl, ?_⟩)) ?CNa3 ?CNr3
    case CNa3 => rfl
    intro _ _
    conv => whnf
    try refine goS_run tab 1000 _ _ _ _ ?_
    conv => whnf
    repeat (first | (refine And.intro (by omega) ?_; (try intro _); conv => whnf) | (refine And.intro ?_ (by omega); (try intro _); conv => whnf) | (refine ⟨_, RemV.nonneg (by omega) (by omega), ?_⟩; conv => whnf))
    refine RunsS.retU (UnwS.ret tab Tryd.func10 rfl fun Ez Hz Az Sz K => ⟨_, rfl, rfl, K.keeps⟩)
  | inl x =>
    have hc : checkU l = if x = l then 0 else 90 := by unfold checkU; rw [hx]
    rw [hc]
    refine RunsS.callT tabOk (hT.t) (resOk (by omega) hi hx) [0] (by repeat (first | exact trivial | refine ⟨by rfl, ?_⟩)) ?CNa4 ?CNr4
    case CNa4 => rfl
    intro _ _
    conv => whnf
    try refine goS_run tab 1000 _ _ _ _ ?_
    conv => whnf
    repeat (first | (refine And.intro (by omega) ?_; (try intro _); conv => whnf) | (refine And.intro ?_ (by omega); (try intro _); conv => whnf) | (refine ⟨_, RemV.nonneg (by omega) (by omega), ?_⟩; conv => whnf))
    by_cases he : x = l
    · refine RunsS.callV (fun Ez Hz Az Sz K => equal_fn x l (Sz.ro (b := 1) rfl) (Sz.ro (b := 0) rfl)) ?_
      conv => whnf
      rw [decide_eq_true he]
      try dsimp only
      try refine goS_run tab 1000 _ _ _ _ ?_
      conv => whnf
      repeat (first | (refine And.intro (by omega) ?_; (try intro _); conv => whnf) | (refine And.intro ?_ (by omega); (try intro _); conv => whnf) | (refine ⟨_, RemV.nonneg (by omega) (by omega), ?_⟩; conv => whnf))
      rw [if_pos he]
      refine RunsS.retU (UnwS.ret tab Tryd.func10 rfl fun Ez Hz Az Sz K => ⟨_, rfl, rfl, K.keeps⟩)
    · refine RunsS.callV (fun Ez Hz Az Sz K => equal_fn x l (Sz.ro (b := 1) rfl) (Sz.ro (b := 0) rfl)) ?_
      conv => whnf
      rw [decide_eq_false he]
      try dsimp only
      try refine goS_run tab 1000 _ _ _ _ ?_
      conv => whnf
      repeat (first | (refine And.intro (by omega) ?_; (try intro _); conv => whnf) | (refine And.intro ?_ (by omega); (try intro _); conv => whnf) | (refine ⟨_, RemV.nonneg (by omega) (by omega), ?_⟩; conv => whnf))
      rw [if_neg he]
      refine RunsS.retU (UnwS.ret tab Tryd.func10 rfl fun Ez Hz Az Sz K => ⟨_, rfl, rfl, K.keeps⟩)
end Go.Proofs.YtgnciigjhpcdmaaDoor

namespace Go.Proofs.YtgnciigjhpcdmaaDoor
open Go Go.Fw Go.NatM Go.RatM
set_option maxRecDepth 100000
set_option maxHeartbeats 64000000

theorem convU_bad {l : List Un} {a b : Int} {r : Rt} (h : checkU l ≠ 0) : convU l a b r = (zr, checkU l) := if_pos h
theorem convU_out {l : List Un} {a b : Int} {r : Rt} (h : checkU l = 0) (ho : a < 0 ∨ (l.length : Int) ≤ a ∨ b < 0 ∨ (l.length : Int) ≤ b) : convU l a b r = (zr, 90) := by
  unfold convU
  rw [if_neg (fun e => e h)]
  split
  · rename_i u v hu hv
    have h1 := (List.getElem?_eq_some_iff.1 hu).1
    have h2 := (List.getElem?_eq_some_iff.1 hv).1
    exact if_pos (by omega)
  · rfl
theorem convU_in {l : List Un} {i j : Nat} {r : Rt} (h : checkU l = 0) (hi : i < l.length) (hj : j < l.length) : convU l i j r =
    if l[i].base ≠ l[j].base then (zr, 90) else if (mulR r l[i].scale).2 ≠ 0 then (zr, (mulR r l[i].scale).2) else divR (mulR r l[i].scale).1 l[j].scale := by
  unfold convU
  rw [if_neg (fun e => e h), Int.toNat_natCast, Int.toNat_natCast, List.getElem?_eq_getElem hi, List.getElem?_eq_getElem hj]
  dsimp only
  by_cases hb : l[i].base ≠ l[j].base
  · rw [if_pos (.inr (.inr hb)), if_pos hb]
    rfl
  · rw [if_neg (by omega), if_neg hb]
    rfl
theorem convert_fn {h : Array Obj} (l : List Un) (hi : UnOk l) {v : Value} (hv : Ro h v 8 (rowsU l)) (a b : Int) (r : Rt) (hT : TabH h) : FnV Tryd.prog 17 #[v, .int .i64 a, .int .i64 b, r.v] h fun y h' => y = rev (convU l a b r) ∧ Keeps h.size h h' := by
  have hl := rowsU_len l
  have hm := hv.len
  obtain ⟨y, hy⟩ : ∃ y, y = convU l a b r := ⟨_, rfl⟩
  rw [← hy]
  refine Fn.ofG (envL [v]) 1 [.buf 0, .v (.int .i64 a), .v (.int .i64 b), .agg [.v (.bool r.neg), .v (.string r.n), .v (.string r.d)]] [(0, .ro (8) (rowsU l))] (fun k => k < _) Tryd.func17 (by kernel_rfl) rfl Tryd.ntmps17 rfl (fun _ hk => hk) (Sat.ros (vs := [v]) (l := [(8, rowsU l)]) ⟨hv, trivial⟩) fun w0 cs => ?_
  conv => whnf
  refine goS_run tab 1000 _ _ _ _ ?_
  conv => whnf
  repeat (first | (refine And.intro (by omega) ?_; (try intro _); conv => whnf) | (refine And.intro ?_ (by omega); (try intro _); conv => whnf) | (refine ⟨_, RemV.nonneg (by omega) (by omega), ?_⟩; conv => whnf))
  by_cases hc : checkU l = 0
  · refine RunsS.callV (fun Ez Hz Az Sz K => uCheck_fn l hi (Sz.ro (b := 0) rfl) (hT.keeps ⟨K.size, K.same⟩)) ?_
    conv => whnf
    rw [hc]
    try dsimp only
    try refine goS_run tab 1000 _ _ _ _ ?_
    conv => whnf
    repeat (first | (refine And.intro (by omega) ?_; (try intro _); conv => whnf) | (refine And.intro ?_ (by omega); (try intro _); conv => whnf) | (refine ⟨_, RemV.nonneg (by omega) (by omega), ?_⟩; conv => whnf))
    by_cases ho : a < 0 ∨ (l.length : Int) ≤ a ∨ b < 0 ∨ (l.length : Int) ≤ b
    · rw [convU_out hc ho] at hy
      subst hy
      refine RunsS.held tab (.fl 0 (.fl 1 (.fl 2 (.fl 3 (.fl 4 (.fl 5 (.fl 6 (.fl 7 (.fl 8 (.fl 9 (.fl 10 (.fl 11 (.fl 12 (.fl 13 (.fl 14 (.fl 15 (.fl 16 (.fl 17 (.fl 18 (.fl 19 (.fl 20 (.fl 21 (.fl 22 (.fl 23 (.fl 24 (.fl 25 (.fl 26 (.fl 27 (.fl 28 (.fl 29 (.fl 30 .done))))))))))))))))))))))))))))))) (by kernel_rfl) ?_
      conv => whnf
      try refine goR_run tab _ _ _ _ _ _ ?_
      conv => whnf
      repeat (first | (refine And.intro (by omega) ?_; (try intro _); conv => whnf) | (refine And.intro ?_ (by omega); (try intro _); conv => whnf) | (refine And.intro (by (conv => whnf); (repeat (refine And.intro (by (conv => whnf); first | rfl | exact trivial) ?_; conv => whnf)); exact trivial) ?_; conv => whnf) | (refine ⟨_, RemV.nonneg (by omega) (by omega), ?_⟩; conv => whnf))
      try refine goS_run tab 1000 _ _ _ _ ?_
      conv => whnf
      repeat (first | (refine And.intro (by omega) ?_; (try intro _); conv => whnf) | (refine And.intro ?_ (by omega); (try intro _); conv => whnf) | (refine ⟨_, RemV.nonneg (by omega) (by omega), ?_⟩; conv => whnf))
      by_cases o1 : a < 0
      · try refine goR_run tab _ _ _ _ _ _ ?_
        conv => whnf
        repeat (first | (refine And.intro (by omega) ?_; (try intro _); conv => whnf) | (refine And.intro ?_ (by omega); (try intro _); conv => whnf) | (refine And.intro (by (conv => whnf); (repeat (refine And.intro (by (conv => whnf); first | rfl | exact trivial) ?_; conv => whnf)); exact trivial) ?_; conv => whnf) | (refine ⟨_, RemV.nonneg (by omega) (by omega), ?_⟩; conv => whnf))
        try refine goS_run tab 1000 _ _ _ _ ?_
        conv => whnf
        repeat (first | (refine And.intro (by omega) ?_; (try intro _); conv => whnf) | (refine And.intro ?_ (by omega); (try intro _); conv => whnf) | (refine ⟨_, RemV.nonneg (by omega) (by omega), ?_⟩; conv => whnf))
        refine RunsS.retU (UnwS.ret tab Tryd.func17 rfl fun Ez Hz Az Sz K => ⟨_, rfl, rfl, K.keeps⟩)
      by_cases o2 : (l.length : Int) ≤ a
      · try refine goR_run tab _ _ _ _ _ _ ?_
        conv => whnf
        repeat (first | (refine And.intro (by omega) ?_; (try intro _); conv => whnf) | (refine And.intro ?_ (by omega); (try intro _); conv => whnf) | (refine And.intro (by (conv => whnf); (repeat (refine And.intro (by (conv => whnf); first | rfl | exact trivial) ?_; conv => whnf)); exact trivial) ?_; conv => whnf) | (refine ⟨_, RemV.nonneg (by omega) (by omega), ?_⟩; conv => whnf))
        try refine goS_run tab 1000 _ _ _ _ ?_
        conv => whnf
        repeat (first | (refine And.intro (by omega) ?_; (try intro _); conv => whnf) | (refine And.intro ?_ (by omega); (try intro _); conv => whnf) | (refine ⟨_, RemV.nonneg (by omega) (by omega), ?_⟩; conv => whnf))
        refine RunsS.retU (UnwS.ret tab Tryd.func17 rfl fun Ez Hz Az Sz K => ⟨_, rfl, rfl, K.keeps⟩)
      by_cases o3 : b < 0
      · try refine goR_run tab _ _ _ _ _ _ ?_
        conv => whnf
        repeat (first | (refine And.intro (by omega) ?_; (try intro _); conv => whnf) | (refine And.intro ?_ (by omega); (try intro _); conv => whnf) | (refine And.intro (by (conv => whnf); (repeat (refine And.intro (by (conv => whnf); first | rfl | exact trivial) ?_; conv => whnf)); exact trivial) ?_; conv => whnf) | (refine ⟨_, RemV.nonneg (by omega) (by omega), ?_⟩; conv => whnf))
        try refine goS_run tab 1000 _ _ _ _ ?_
        conv => whnf
        repeat (first | (refine And.intro (by omega) ?_; (try intro _); conv => whnf) | (refine And.intro ?_ (by omega); (try intro _); conv => whnf) | (refine ⟨_, RemV.nonneg (by omega) (by omega), ?_⟩; conv => whnf))
        refine RunsS.retU (UnwS.ret tab Tryd.func17 rfl fun Ez Hz Az Sz K => ⟨_, rfl, rfl, K.keeps⟩)
      · try refine goR_run tab _ _ _ _ _ _ ?_
        conv => whnf
        repeat (first | (refine And.intro (by omega) ?_; (try intro _); conv => whnf) | (refine And.intro ?_ (by omega); (try intro _); conv => whnf) | (refine And.intro (by (conv => whnf); (repeat (refine And.intro (by (conv => whnf); first | rfl | exact trivial) ?_; conv => whnf)); exact trivial) ?_; conv => whnf) | (refine ⟨_, RemV.nonneg (by omega) (by omega), ?_⟩; conv => whnf))
        try refine goS_run tab 1000 _ _ _ _ ?_
        conv => whnf
        repeat (first | (refine And.intro (by omega) ?_; (try intro _); conv => whnf) | (refine And.intro ?_ (by omega); (try intro _); conv => whnf) | (refine ⟨_, RemV.nonneg (by omega) (by omega), ?_⟩; conv => whnf))
        refine RunsS.retU (UnwS.ret tab Tryd.func17 rfl fun Ez Hz Az Sz K => ⟨_, rfl, rfl, K.keeps⟩)
    · obtain ⟨i, rfl⟩ : ∃ i : Nat, a = i := ⟨a.toNat, by omega⟩
      obtain ⟨j, rfl⟩ : ∃ j : Nat, b = j := ⟨b.toNat, by omega⟩
      have i1 : i < l.length := by omega
      have j1 : j < l.length := by omega
      rw [convU_in hc i1 j1] at hy
      refine RunsS.held tab (.fl 0 (.fl 1 (.fl 2 (.fl 3 (.fl 4 (.fl 5 (.fl 6 (.fl 7 (.fl 8 (.fl 9 (.fl 10 (.fl 11 (.fl 12 (.fl 13 (.fl 14 (.fl 15 (.fl 16 (.fl 17 (.fl 18 (.fl 19 (.fl 20 (.fl 21 (.fl 22 (.fl 23 (.fl 24 (.fl 25 (.fl 26 (.fl 27 (.fl 28 (.fl 29 (.fl 30 .done))))))))))))))))))))))))))))))) (by kernel_rfl) ?_
      conv => whnf
      try refine goR_run tab _ _ _ _ _ _ ?_
      conv => whnf
      repeat (first | (refine And.intro (by omega) ?_; (try intro _); conv => whnf) | (refine And.intro ?_ (by omega); (try intro _); conv => whnf) | (refine And.intro (by (conv => whnf); (repeat (refine And.intro (by (conv => whnf); first | rfl | exact trivial) ?_; conv => whnf)); exact trivial) ?_; conv => whnf) | (refine ⟨_, RemV.nonneg (by omega) (by omega), ?_⟩; conv => whnf))
      try refine goS_run tab 1000 _ _ _ _ ?_
      conv => whnf
      repeat (first | (refine And.intro (by omega) ?_; (try intro _); conv => whnf) | (refine And.intro ?_ (by omega); (try intro _); conv => whnf) | (refine ⟨_, RemV.nonneg (by omega) (by omega), ?_⟩; conv => whnf))
      refine ⟨_, rowsU_get i1, ?_⟩
      conv => whnf
      try (refine And.intro (by first | omega | exact Nat.le_of_ble_eq_true rfl) ?_; conv => whnf)
      try refine goR_run tab _ _ _ _ _ _ ?_
      conv => whnf
      repeat (first | (refine And.intro (by omega) ?_; (try intro _); conv => whnf) | (refine And.intro ?_ (by omega); (try intro _); conv => whnf) | (refine And.intro (by (conv => whnf); (repeat (refine And.intro (by (conv => whnf); first | rfl | exact trivial) ?_; conv => whnf)); exact trivial) ?_; conv => whnf) | (refine ⟨_, RemV.nonneg (by omega) (by omega), ?_⟩; conv => whnf))
      try refine goS_run tab 1000 _ _ _ _ ?_
      conv => whnf
      repeat (first | (refine And.intro (by omega) ?_; (try intro _); conv => whnf) | (refine And.intro ?_ (by omega); (try intro _); conv => whnf) | (refine ⟨_, RemV.nonneg (by omega) (by omega), ?_⟩; conv => whnf))
      refine ⟨_, rowsU_get j1, ?_⟩
      conv => whnf
      try (refine And.intro (by first | omega | exact Nat.le_of_ble_eq_true rfl) ?_; conv => whnf)
      try refine goR_run tab _ _ _ _ _ _ ?_
      conv => whnf
      repeat (first | (refine And.intro (by omega) ?_; (try intro _); conv => whnf) | (refine And.intro ?_ (by omega); (try intro _); conv => whnf) | (refine And.intro (by (conv => whnf); (repeat (refine And.intro (by (conv => whnf); first | rfl | exact trivial) ?_; conv => whnf)); exact trivial) ?_; conv => whnf) | (refine ⟨_, RemV.nonneg (by omega) (by omega), ?_⟩; conv => whnf))
      try refine goS_run tab 1000 _ _ _ _ ?_
      conv => whnf
      repeat (first | (refine And.intro (by omega) ?_; (try intro _); conv => whnf) | (refine And.intro ?_ (by omega); (try intro _); conv => whnf) | (refine ⟨_, RemV.nonneg (by omega) (by omega), ?_⟩; conv => whnf))
      refine ⟨fun hb => ?_, fun hb => ?_⟩ <;> conv => whnf
      · try refine goR_run tab _ _ _ _ _ _ ?_
        conv => whnf
        repeat (first | (refine And.intro (by omega) ?_; (try intro _); conv => whnf) | (refine And.intro ?_ (by omega); (try intro _); conv => whnf) | (refine And.intro (by (conv => whnf); (repeat (refine And.intro (by (conv => whnf); first | rfl | exact trivial) ?_; conv => whnf)); exact trivial) ?_; conv => whnf) | (refine ⟨_, RemV.nonneg (by omega) (by omega), ?_⟩; conv => whnf))
        try refine goS_run tab 1000 _ _ _ _ ?_
        conv => whnf
        repeat (first | (refine And.intro (by omega) ?_; (try intro _); conv => whnf) | (refine And.intro ?_ (by omega); (try intro _); conv => whnf) | (refine ⟨_, RemV.nonneg (by omega) (by omega), ?_⟩; conv => whnf))
        refine RunsS.held tab (.fl 0 (.fl 1 (.fl 2 (.fl 3 (.fl 4 (.fl 5 (.e1 6 [] (.fl 7 (.fl 8 (.fl 9 (.e1 10 [] (.fl 11 .done)))))))))))) (by kernel_rfl) ?_
        conv => whnf
        try refine goR_run tab _ _ _ _ _ _ ?_
        conv => whnf
        repeat (first | (refine And.intro (by omega) ?_; (try intro _); conv => whnf) | (refine And.intro ?_ (by omega); (try intro _); conv => whnf) | (refine And.intro (by (conv => whnf); (repeat (refine And.intro (by (conv => whnf); first | rfl | exact trivial) ?_; conv => whnf)); exact trivial) ?_; conv => whnf) | (refine ⟨_, RemV.nonneg (by omega) (by omega), ?_⟩; conv => whnf))
        try refine goS_run tab 1000 _ _ _ _ ?_
        conv => whnf
        repeat (first | (refine And.intro (by omega) ?_; (try intro _); conv => whnf) | (refine And.intro ?_ (by omega); (try intro _); conv => whnf) | (refine ⟨_, RemV.nonneg (by omega) (by omega), ?_⟩; conv => whnf))
        refine ⟨_, rowsU_get i1, ?_⟩
        conv => whnf
        try (refine And.intro (by first | omega | exact Nat.le_of_ble_eq_true rfl) ?_; conv => whnf)
        try refine goR_run tab _ _ _ _ _ _ ?_
        conv => whnf
        repeat (first | (refine And.intro (by omega) ?_; (try intro _); conv => whnf) | (refine And.intro ?_ (by omega); (try intro _); conv => whnf) | (refine And.intro (by (conv => whnf); (repeat (refine And.intro (by (conv => whnf); first | rfl | exact trivial) ?_; conv => whnf)); exact trivial) ?_; conv => whnf) | (refine ⟨_, RemV.nonneg (by omega) (by omega), ?_⟩; conv => whnf))
        try refine goS_run tab 1000 _ _ _ _ ?_
        conv => whnf
        repeat (first | (refine And.intro (by omega) ?_; (try intro _); conv => whnf) | (refine And.intro ?_ (by omega); (try intro _); conv => whnf) | (refine ⟨_, RemV.nonneg (by omega) (by omega), ?_⟩; conv => whnf))
        refine EffR.callV (fun Ez Hz Az Sz K => qMul_fn r l[i].scale (hT.keeps ⟨K.size, K.same⟩)) (by (conv => whnf); (repeat (refine And.intro (by (conv => whnf); first | rfl | exact trivial) ?_; conv => whnf)); exact trivial) ?_
        conv => whnf
        try refine goR_run tab _ _ _ _ _ _ ?_
        conv => whnf
        repeat (first | (refine And.intro (by omega) ?_; (try intro _); conv => whnf) | (refine And.intro ?_ (by omega); (try intro _); conv => whnf) | (refine And.intro (by (conv => whnf); (repeat (refine And.intro (by (conv => whnf); first | rfl | exact trivial) ?_; conv => whnf)); exact trivial) ?_; conv => whnf) | (refine ⟨_, RemV.nonneg (by omega) (by omega), ?_⟩; conv => whnf))
        try refine goS_run tab 1000 _ _ _ _ ?_
        conv => whnf
        repeat (first | (refine And.intro (by omega) ?_; (try intro _); conv => whnf) | (refine And.intro ?_ (by omega); (try intro _); conv => whnf) | (refine ⟨_, RemV.nonneg (by omega) (by omega), ?_⟩; conv => whnf))
        rw [if_neg (fun e => e hb)] at hy
        refine ⟨fun hm => ?_, fun hm => ?_⟩ <;> conv => whnf
        · try refine goR_run tab _ _ _ _ _ _ ?_
          conv => whnf
          repeat (first | (refine And.intro (by omega) ?_; (try intro _); conv => whnf) | (refine And.intro ?_ (by omega); (try intro _); conv => whnf) | (refine And.intro (by (conv => whnf); (repeat (refine And.intro (by (conv => whnf); first | rfl | exact trivial) ?_; conv => whnf)); exact trivial) ?_; conv => whnf) | (refine ⟨_, RemV.nonneg (by omega) (by omega), ?_⟩; conv => whnf))
          try refine goS_run tab 1000 _ _ _ _ ?_
          conv => whnf
          repeat (first | (refine And.intro (by omega) ?_; (try intro _); conv => whnf) | (refine And.intro ?_ (by omega); (try intro _); conv => whnf) | (refine ⟨_, RemV.nonneg (by omega) (by omega), ?_⟩; conv => whnf))
          rw [if_neg (fun e => e hm)] at hy
          refine RunsS.held tab (.fl 0 (.fl 1 (.fl 2 (.fl 3 (.fl 4 (.fl 5 (.e1 6 [] (.fl 7 (.fl 8 (.e1 9 [] (.fl 10 .done))))))))))) (by kernel_rfl) ?_
          conv => whnf
          try refine goR_run tab _ _ _ _ _ _ ?_
          conv => whnf
          repeat (first | (refine And.intro (by omega) ?_; (try intro _); conv => whnf) | (refine And.intro ?_ (by omega); (try intro _); conv => whnf) | (refine And.intro (by (conv => whnf); (repeat (refine And.intro (by (conv => whnf); first | rfl | exact trivial) ?_; conv => whnf)); exact trivial) ?_; conv => whnf) | (refine ⟨_, RemV.nonneg (by omega) (by omega), ?_⟩; conv => whnf))
          try refine goS_run tab 1000 _ _ _ _ ?_
          conv => whnf
          repeat (first | (refine And.intro (by omega) ?_; (try intro _); conv => whnf) | (refine And.intro ?_ (by omega); (try intro _); conv => whnf) | (refine ⟨_, RemV.nonneg (by omega) (by omega), ?_⟩; conv => whnf))
          refine ⟨_, rowsU_get j1, ?_⟩
          conv => whnf
          try (refine And.intro (by first | omega | exact Nat.le_of_ble_eq_true rfl) ?_; conv => whnf)
          try refine goR_run tab _ _ _ _ _ _ ?_
          conv => whnf
          repeat (first | (refine And.intro (by omega) ?_; (try intro _); conv => whnf) | (refine And.intro ?_ (by omega); (try intro _); conv => whnf) | (refine And.intro (by (conv => whnf); (repeat (refine And.intro (by (conv => whnf); first | rfl | exact trivial) ?_; conv => whnf)); exact trivial) ?_; conv => whnf) | (refine ⟨_, RemV.nonneg (by omega) (by omega), ?_⟩; conv => whnf))
          try refine goS_run tab 1000 _ _ _ _ ?_
          conv => whnf
          repeat (first | (refine And.intro (by omega) ?_; (try intro _); conv => whnf) | (refine And.intro ?_ (by omega); (try intro _); conv => whnf) | (refine ⟨_, RemV.nonneg (by omega) (by omega), ?_⟩; conv => whnf))
          refine EffR.callV (fun Ez Hz Az Sz K => qDiv_fn (mulR r l[i].scale).1 l[j].scale (hT.keeps ⟨K.size, K.same⟩)) (by (conv => whnf); (repeat (refine And.intro (by (conv => whnf); first | rfl | exact trivial) ?_; conv => whnf)); exact trivial) ?_
          conv => whnf
          try refine goR_run tab _ _ _ _ _ _ ?_
          conv => whnf
          repeat (first | (refine And.intro (by omega) ?_; (try intro _); conv => whnf) | (refine And.intro ?_ (by omega); (try intro _); conv => whnf) | (refine And.intro (by (conv => whnf); (repeat (refine And.intro (by (conv => whnf); first | rfl | exact trivial) ?_; conv => whnf)); exact trivial) ?_; conv => whnf) | (refine ⟨_, RemV.nonneg (by omega) (by omega), ?_⟩; conv => whnf))
          try refine goS_run tab 1000 _ _ _ _ ?_
          conv => whnf
          repeat (first | (refine And.intro (by omega) ?_; (try intro _); conv => whnf) | (refine And.intro ?_ (by omega); (try intro _); conv => whnf) | (refine ⟨_, RemV.nonneg (by omega) (by omega), ?_⟩; conv => whnf))
          subst hy
          refine RunsS.retU (UnwS.ret tab Tryd.func17 rfl fun Ez Hz Az Sz K => ⟨_, rfl, rfl, K.keeps⟩)
        · try refine goR_run tab _ _ _ _ _ _ ?_
          conv => whnf
          repeat (first | (refine And.intro (by omega) ?_; (try intro _); conv => whnf) | (refine And.intro ?_ (by omega); (try intro _); conv => whnf) | (refine And.intro (by (conv => whnf); (repeat (refine And.intro (by (conv => whnf); first | rfl | exact trivial) ?_; conv => whnf)); exact trivial) ?_; conv => whnf) | (refine ⟨_, RemV.nonneg (by omega) (by omega), ?_⟩; conv => whnf))
          try refine goS_run tab 1000 _ _ _ _ ?_
          conv => whnf
          repeat (first | (refine And.intro (by omega) ?_; (try intro _); conv => whnf) | (refine And.intro ?_ (by omega); (try intro _); conv => whnf) | (refine ⟨_, RemV.nonneg (by omega) (by omega), ?_⟩; conv => whnf))
          rw [if_pos hm] at hy
          subst hy
          refine RunsS.retU (UnwS.ret tab Tryd.func17 rfl fun Ez Hz Az Sz K => ⟨_, rfl, rfl, K.keeps⟩)
      · try refine goR_run tab _ _ _ _ _ _ ?_
        conv => whnf
        repeat (first | (refine And.intro (by omega) ?_; (try intro _); conv => whnf) | (refine And.intro ?_ (by omega); (try intro _); conv => whnf) | (refine And.intro (by (conv => whnf); (repeat (refine And.intro (by (conv => whnf); first | rfl | exact trivial) ?_; conv => whnf)); exact trivial) ?_; conv => whnf) | (refine ⟨_, RemV.nonneg (by omega) (by omega), ?_⟩; conv => whnf))
        try refine goS_run tab 1000 _ _ _ _ ?_
        conv => whnf
        repeat (first | (refine And.intro (by omega) ?_; (try intro _); conv => whnf) | (refine And.intro ?_ (by omega); (try intro _); conv => whnf) | (refine ⟨_, RemV.nonneg (by omega) (by omega), ?_⟩; conv => whnf))
        rw [if_pos hb] at hy
        subst hy
        refine RunsS.retU (UnwS.ret tab Tryd.func17 rfl fun Ez Hz Az Sz K => ⟨_, rfl, rfl, K.keeps⟩)
  · rw [convU_bad hc] at hy
    subst hy
    refine RunsS.callV (fun Ez Hz Az Sz K => uCheck_fn l hi (Sz.ro (b := 0) rfl) (hT.keeps ⟨K.size, K.same⟩)) ?_
    conv => whnf
    try refine goS_run tab 1000 _ _ _ _ ?_
    conv => whnf
    repeat (first | (refine And.intro (by omega) ?_; (try intro _); conv => whnf) | (refine And.intro ?_ (by omega); (try intro _); conv => whnf) | (refine ⟨_, RemV.nonneg (by omega) (by omega), ?_⟩; conv => whnf))
    refine RunsS.retU (UnwS.ret tab Tryd.func17 rfl fun Ez Hz Az Sz K => ⟨_, rfl, rfl, K.keeps⟩)
end Go.Proofs.YtgnciigjhpcdmaaDoor

namespace Go.Proofs.YtgnciigjhpcdmaaDoor
open Go Go.Fw Go.NatM Go.RatM
set_option maxRecDepth 100000
set_option maxHeartbeats 64000000

abbrev FewS (a : Rt) : Prop := (a.n.size : Int) ≤ 40 ∧ (a.d.size : Int) ≤ 40
def FewU (l : List Un) : Prop := (∀ u ∈ l, FewS u.scale) ∧ l.length ≤ 8
instance (l : List Un) : Decidable (FewU l) := by unfold FewU; infer_instance
theorem ufew_fn {h : Array Obj} (l : List Un) {v : Value} (hv : Ro h v 8 (rowsU l)) : FnV Tryd.prog 8 #[v] h fun r h' => r = .bool (decide (FewU l)) ∧ Keeps h.size h h' := by
  have hl := rowsU_len l
  have hm := hv.len
  obtain ⟨r, hr⟩ : ∃ r, r = decide (FewU l) := ⟨_, rfl⟩
  rw [← hr]
  refine Fn.ofG (envL [v]) 1 [.buf 0] [(0, .ro (8) (rowsU l))] (fun k => k < _) Tryd.func8 (by kernel_rfl) rfl Tryd.ntmps8 rfl (fun _ hk => hk) (Sat.ros (vs := [v]) (l := [(8, rowsU l)]) ⟨hv, trivial⟩) fun w0 cs => ?_
  conv => whnf
  refine goS_run tab 1000 _ _ _ _ ?_
  conv => whnf
  repeat (first | (refine And.intro (by omega) ?_; (try intro _); conv => whnf) | (refine And.intro ?_ (by omega); (try intro _); conv => whnf) | (refine ⟨_, RemV.nonneg (by omega) (by omega), ?_⟩; conv => whnf))
  refine RunsS.subR [] (RunsS.loop (fun (k : Nat) => [(3, .v (.int .i64 k)), (0, .buf 0)]) (fun (k : Nat) => [(0, .ro 8 (rowsU l))]) 1 (fun (k : Nat) => k ≤ l.length ∧ ∀ j (hj : j < k) (hjl : j < l.length), FewS l[j].scale) (fun (k : Nat) => l.length - k) ?round1 (0) ?J01) ?SS1 ?HH1
  case J01 => exact (⟨Nat.zero_le _, fun j hj => absurd hj (Nat.not_lt_zero _)⟩)
  case SS1 => repeat (first | exact trivial | refine ⟨by rfl, ?_⟩)
  case HH1 => repeat (first | exact trivial | refine ⟨by rfl, ?_⟩)
  rintro k hJ back
  try dsimp only at hJ back
  conv => whnf
  try dsimp only
  refine goS_run tab 1000 _ _ _ _ ?_
  conv => whnf
  repeat (first | (refine And.intro (by omega) ?_; (try intro _); conv => whnf) | (refine And.intro ?_ (by omega); (try intro _); conv => whnf) | (refine ⟨_, RemV.nonneg (by omega) (by omega), ?_⟩; conv => whnf))
  refine ⟨fun hk => ?_, fun hk => ?_⟩ <;> conv => whnf
  · have hk : k < l.length := by omega
    conv => whnf
    repeat (first | (refine And.intro (by omega) ?_; (try intro _); conv => whnf) | (refine And.intro ?_ (by omega); (try intro _); conv => whnf) | (refine ⟨_, RemV.nonneg (by omega) (by omega), ?_⟩; conv => whnf))
    refine ⟨_, rowsU_get hk, ?_⟩
    conv => whnf
    try (refine And.intro (by first | omega | exact Nat.le_of_ble_eq_true rfl) ?_; conv => whnf)
    repeat (first | (refine And.intro (by omega) ?_; (try intro _); conv => whnf) | (refine And.intro ?_ (by omega); (try intro _); conv => whnf) | (refine ⟨_, RemV.nonneg (by omega) (by omega), ?_⟩; conv => whnf))
    by_cases hf : FewS l[k].scale
    · have f1 := hf.1
      have f2 := hf.2
      conv => whnf
      repeat (first | (refine And.intro (by omega) ?_; (try intro _); conv => whnf) | (refine And.intro ?_ (by omega); (try intro _); conv => whnf) | (refine ⟨_, RemV.nonneg (by omega) (by omega), ?_⟩; conv => whnf))
      refine ⟨_, rowsU_get hk, ?_⟩
      conv => whnf
      try (refine And.intro (by first | omega | exact Nat.le_of_ble_eq_true rfl) ?_; conv => whnf)
      repeat (first | (refine And.intro (by omega) ?_; (try intro _); conv => whnf) | (refine And.intro ?_ (by omega); (try intro _); conv => whnf) | (refine ⟨_, RemV.nonneg (by omega) (by omega), ?_⟩; conv => whnf))
      intro _
      conv => whnf
      repeat (first | (refine And.intro (by omega) ?_; (try intro _); conv => whnf) | (refine And.intro ?_ (by omega); (try intro _); conv => whnf) | (refine ⟨_, RemV.nonneg (by omega) (by omega), ?_⟩; conv => whnf))
      refine RunsS.subR [] (back (k + 1) ?BJ2 ?BM2) ?SS2 ?HH2
      case BJ2 => exact (⟨hk, fun j hj hjl => (Nat.lt_succ_iff_lt_or_eq.1 hj).elim (fun hj => hJ.2 j hj hjl) (fun e => by subst e; exact hf)⟩)
      case BM2 => (try dsimp only); omega
      case SS2 => repeat (first | exact trivial | refine ⟨by rfl, ?_⟩)
      case HH2 => repeat (first | exact trivial | refine ⟨by rfl, ?_⟩)
    · have : r = false := by rw [hr]; exact decide_eq_false fun h => hf (h.1 _ (List.getElem_mem hk))
      rw [this]
      by_cases h1 : (l[k].scale.n.size : Int) ≤ 40
      · have h2 : ¬ (l[k].scale.d.size : Int) ≤ 40 := fun e => hf ⟨h1, e⟩
        conv => whnf
        repeat (first | (refine And.intro (by omega) ?_; (try intro _); conv => whnf) | (refine And.intro ?_ (by omega); (try intro _); conv => whnf) | (refine ⟨_, RemV.nonneg (by omega) (by omega), ?_⟩; conv => whnf))
        refine ⟨_, rowsU_get hk, ?_⟩
        conv => whnf
        try (refine And.intro (by first | omega | exact Nat.le_of_ble_eq_true rfl) ?_; conv => whnf)
        repeat (first | (refine And.intro (by omega) ?_; (try intro _); conv => whnf) | (refine And.intro ?_ (by omega); (try intro _); conv => whnf) | (refine ⟨_, RemV.nonneg (by omega) (by omega), ?_⟩; conv => whnf))
        refine RunsS.retU (UnwS.ret tab Tryd.func8 rfl fun Ez Hz Az Sz K => ⟨_, rfl, rfl, K.keeps⟩)
      · conv => whnf
        repeat (first | (refine And.intro (by omega) ?_; (try intro _); conv => whnf) | (refine And.intro ?_ (by omega); (try intro _); conv => whnf) | (refine ⟨_, RemV.nonneg (by omega) (by omega), ?_⟩; conv => whnf))
        refine RunsS.retU (UnwS.ret tab Tryd.func8 rfl fun Ez Hz Az Sz K => ⟨_, rfl, rfl, K.keeps⟩)
  · conv => whnf
    repeat (first | (refine And.intro (by omega) ?_; (try intro _); conv => whnf) | (refine And.intro ?_ (by omega); (try intro _); conv => whnf) | (refine ⟨_, RemV.nonneg (by omega) (by omega), ?_⟩; conv => whnf))
    refine RunsS.retU (UnwS.ret tab Tryd.func8 rfl fun Ez Hz Az Sz K => ⟨_, rfl, ?_, K.keeps⟩)
    refine congrArg Value.bool ?_
    have hall : ∀ u ∈ l, FewS u.scale := by
      intro u hu
      obtain ⟨j, hj, rfl⟩ := List.getElem_of_mem hu
      exact hJ.2 j (by omega) hj
    rw [hr]
    refine decide_eq_decide.2 ⟨fun h => ⟨hall, by omega⟩, fun h => by have := h.2; omega⟩
theorem same_fn {h : Array Obj} (a b : List Un) {va vb : Value} (hva : Ro h va 8 (rowsU a)) (hvb : Ro h vb 8 (rowsU b)) : FnV Tryd.prog 11 #[va, vb] h fun r h' => r = .bool (decide (a = b)) ∧ Keeps h.size h h' := by
  have hla := rowsU_len a
  have hlb := rowsU_len b
  have hma := hva.len
  have hmb := hvb.len
  obtain ⟨r, hr⟩ : ∃ r, r = decide (a = b) := ⟨_, rfl⟩
  rw [← hr]
  refine Fn.ofG (envL [va, vb]) 2 [.buf 0, .buf 1] [(0, .ro (8) (rowsU a)), (1, .ro (8) (rowsU b))] (fun k => k < _) Tryd.func11 (by kernel_rfl) rfl Tryd.ntmps11 rfl (fun _ hk => hk) (Sat.ros (vs := [va, vb]) (l := [(8, rowsU a), (8, rowsU b)]) ⟨hva, hvb, trivial⟩) fun w0 cs => ?_
  conv => whnf
  refine goS_run tab 1000 _ _ _ _ ?_
  conv => whnf
  repeat (first | (refine And.intro (by omega) ?_; (try intro _); conv => whnf) | (refine And.intro ?_ (by omega); (try intro _); conv => whnf) | (refine ⟨_, RemV.nonneg (by omega) (by omega), ?_⟩; conv => whnf))
  refine ⟨fun h1 => ?_, fun h1 => ?_⟩ <;> conv => whnf
  · have h1 : a.length = b.length := by omega
    conv => whnf
    repeat (first | (refine And.intro (by omega) ?_; (try intro _); conv => whnf) | (refine And.intro ?_ (by omega); (try intro _); conv => whnf) | (refine ⟨_, RemV.nonneg (by omega) (by omega), ?_⟩; conv => whnf))
    refine RunsS.subR [] (RunsS.loop (fun (k : Nat) => [(5, .v (.int .i64 k)), (0, .buf 0), (1, .buf 1)]) (fun (k : Nat) => [(0, .ro 8 (rowsU a)), (1, .ro 8 (rowsU b))]) 2 (fun (k : Nat) => k ≤ a.length ∧ a.take k = b.take k) (fun (k : Nat) => a.length - k) ?round3 (0) ?J03) ?SS3 ?HH3
    case J03 => exact (⟨Nat.zero_le _, rfl⟩)
    case SS3 => repeat (first | exact trivial | refine ⟨by rfl, ?_⟩)
    case HH3 => repeat (first | exact trivial | refine ⟨by rfl, ?_⟩)
    rintro k hJ back
    try dsimp only at hJ back
    conv => whnf
    try dsimp only
    refine goS_run tab 1000 _ _ _ _ ?_
    conv => whnf
    repeat (first | (refine And.intro (by omega) ?_; (try intro _); conv => whnf) | (refine And.intro ?_ (by omega); (try intro _); conv => whnf) | (refine ⟨_, RemV.nonneg (by omega) (by omega), ?_⟩; conv => whnf))
    refine ⟨fun hk => ?_, fun hk => ?_⟩ <;> conv => whnf
    · have hk : k < a.length := by omega
      have hkb : k < b.length := by omega
      conv => whnf
      repeat (first | (refine And.intro (by omega) ?_; (try intro _); conv => whnf) | (refine And.intro ?_ (by omega); (try intro _); conv => whnf) | (refine ⟨_, RemV.nonneg (by omega) (by omega), ?_⟩; conv => whnf))
      refine RunsS.held tab (.fl 0 (.fl 1 (.fl 2 (.fl 3 (.fl 4 (.fl 5 (.fl 6 (.fl 7 (.fl 8 .done))))))))) (by kernel_rfl) ?_
      conv => whnf
      try refine goR_run tab _ _ _ _ _ _ ?_
      conv => whnf
      repeat (first | (refine And.intro (by omega) ?_; (try intro _); conv => whnf) | (refine And.intro ?_ (by omega); (try intro _); conv => whnf) | (refine And.intro (by (conv => whnf); (repeat (refine And.intro (by (conv => whnf); first | rfl | exact trivial) ?_; conv => whnf)); exact trivial) ?_; conv => whnf) | (refine ⟨_, RemV.nonneg (by omega) (by omega), ?_⟩; conv => whnf))
      try refine goS_run tab 1000 _ _ _ _ ?_
      conv => whnf
      repeat (first | (refine And.intro (by omega) ?_; (try intro _); conv => whnf) | (refine And.intro ?_ (by omega); (try intro _); conv => whnf) | (refine ⟨_, RemV.nonneg (by omega) (by omega), ?_⟩; conv => whnf))
      refine ⟨_, rowsU_get hk, ?_⟩
      conv => whnf
      try (refine And.intro (by first | omega | exact Nat.le_of_ble_eq_true rfl) ?_; conv => whnf)
      try refine goR_run tab _ _ _ _ _ _ ?_
      conv => whnf
      repeat (first | (refine And.intro (by omega) ?_; (try intro _); conv => whnf) | (refine And.intro ?_ (by omega); (try intro _); conv => whnf) | (refine And.intro (by (conv => whnf); (repeat (refine And.intro (by (conv => whnf); first | rfl | exact trivial) ?_; conv => whnf)); exact trivial) ?_; conv => whnf) | (refine ⟨_, RemV.nonneg (by omega) (by omega), ?_⟩; conv => whnf))
      try refine goS_run tab 1000 _ _ _ _ ?_
      conv => whnf
      repeat (first | (refine And.intro (by omega) ?_; (try intro _); conv => whnf) | (refine And.intro ?_ (by omega); (try intro _); conv => whnf) | (refine ⟨_, RemV.nonneg (by omega) (by omega), ?_⟩; conv => whnf))
      refine ⟨_, rowsU_get hkb, ?_⟩
      conv => whnf
      try (refine And.intro (by first | omega | exact Nat.le_of_ble_eq_true rfl) ?_; conv => whnf)
      try refine goR_run tab _ _ _ _ _ _ ?_
      conv => whnf
      repeat (first | (refine And.intro (by omega) ?_; (try intro _); conv => whnf) | (refine And.intro ?_ (by omega); (try intro _); conv => whnf) | (refine And.intro (by (conv => whnf); (repeat (refine And.intro (by (conv => whnf); first | rfl | exact trivial) ?_; conv => whnf)); exact trivial) ?_; conv => whnf) | (refine ⟨_, RemV.nonneg (by omega) (by omega), ?_⟩; conv => whnf))
      try refine goS_run tab 1000 _ _ _ _ ?_
      conv => whnf
      repeat (first | (refine And.intro (by omega) ?_; (try intro _); conv => whnf) | (refine And.intro ?_ (by omega); (try intro _); conv => whnf) | (refine ⟨_, RemV.nonneg (by omega) (by omega), ?_⟩; conv => whnf))
      refine ⟨fun he => ?_, fun he => ?_⟩ <;> conv => whnf
      · try refine goR_run tab _ _ _ _ _ _ ?_
        conv => whnf
        repeat (first | (refine And.intro (by omega) ?_; (try intro _); conv => whnf) | (refine And.intro ?_ (by omega); (try intro _); conv => whnf) | (refine And.intro (by (conv => whnf); (repeat (refine And.intro (by (conv => whnf); first | rfl | exact trivial) ?_; conv => whnf)); exact trivial) ?_; conv => whnf) | (refine ⟨_, RemV.nonneg (by omega) (by omega), ?_⟩; conv => whnf))
        try refine goS_run tab 1000 _ _ _ _ ?_
        conv => whnf
        repeat (first | (refine And.intro (by omega) ?_; (try intro _); conv => whnf) | (refine And.intro ?_ (by omega); (try intro _); conv => whnf) | (refine ⟨_, RemV.nonneg (by omega) (by omega), ?_⟩; conv => whnf))
        refine RunsS.subR [] (back (k + 1) ?BJ4 ?BM4) ?SS4 ?HH4
        case BJ4 => exact (⟨hk, take_eq_succ hk hkb hJ.2 (Un.ext8 he)⟩)
        case BM4 => (try dsimp only); omega
        case SS4 => repeat (first | exact trivial | refine ⟨by rfl, ?_⟩)
        case HH4 => repeat (first | exact trivial | refine ⟨by rfl, ?_⟩)
      · try refine goR_run tab _ _ _ _ _ _ ?_
        conv => whnf
        repeat (first | (refine And.intro (by omega) ?_; (try intro _); conv => whnf) | (refine And.intro ?_ (by omega); (try intro _); conv => whnf) | (refine And.intro (by (conv => whnf); (repeat (refine And.intro (by (conv => whnf); first | rfl | exact trivial) ?_; conv => whnf)); exact trivial) ?_; conv => whnf) | (refine ⟨_, RemV.nonneg (by omega) (by omega), ?_⟩; conv => whnf))
        try refine goS_run tab 1000 _ _ _ _ ?_
        conv => whnf
        repeat (first | (refine And.intro (by omega) ?_; (try intro _); conv => whnf) | (refine And.intro ?_ (by omega); (try intro _); conv => whnf) | (refine ⟨_, RemV.nonneg (by omega) (by omega), ?_⟩; conv => whnf))
        have : r = false := by
          rw [hr]
          refine decide_eq_false fun e => he ?_
          subst e
          exact Un.ext8_iff.1 rfl
        rw [this]
        refine RunsS.retU (UnwS.ret tab Tryd.func11 rfl fun Ez Hz Az Sz K => ⟨_, rfl, rfl, K.keeps⟩)
    · have hk : k = a.length := by omega
      have h2 := hJ.2
      rw [hk, List.take_length, h1, List.take_length] at h2
      have : r = true := by rw [hr]; exact decide_eq_true h2
      conv => whnf
      repeat (first | (refine And.intro (by omega) ?_; (try intro _); conv => whnf) | (refine And.intro ?_ (by omega); (try intro _); conv => whnf) | (refine ⟨_, RemV.nonneg (by omega) (by omega), ?_⟩; conv => whnf))
      rw [this]
      refine RunsS.retU (UnwS.ret tab Tryd.func11 rfl fun Ez Hz Az Sz K => ⟨_, rfl, rfl, K.keeps⟩)
  · have : r = false := by rw [hr]; exact decide_eq_false (fun e => h1 (by rw [e]))
    rw [this]
    conv => whnf
    repeat (first | (refine And.intro (by omega) ?_; (try intro _); conv => whnf) | (refine And.intro ?_ (by omega); (try intro _); conv => whnf) | (refine ⟨_, RemV.nonneg (by omega) (by omega), ?_⟩; conv => whnf))
    refine RunsS.retU (UnwS.ret tab Tryd.func11 rfl fun Ez Hz Az Sz K => ⟨_, rfl, rfl, K.keeps⟩)
def resdU (l : List Un) (r : Rt) : Option (List Un) := if FewU l ∧ FewS r then match resolveU l with
  | .inl x => some x
  | .inr _ => none
  else none
abbrev rtS (a : Rt) : SV := .agg [.v (.bool a.neg), .v (.string a.n), .v (.string a.d)]
def resdO : Option (List Un) → OutS
  | some x => .ret (.tup [.buf 1, .v (.bool true)]) 2 [ownU 1 x]
  | none => .ret (.tup [.v (.slice none 0 0), .v (.bool false)]) 1 []
theorem resolved_fn (l : List Un) (hl : l.length ≤ 9223372036854775807) (hi : UnOk l) (r : Rt) : FnT Tryd.prog TabT 15 1 [.buf 0, rtS r] [(0, .ro 8 (rowsU l))] (fun _ : Unit => True) (fun _ => resdO (resdU l r)) := by
  have hlr := rowsU_len l
  by_cases hf : FewU l ∧ FewS r
  · cases hx : resolveU l with
    | inl x =>
      have : resdU l r = some x := by unfold resdU; rw [if_pos hf, hx]
      rw [this]
      refine FnT.of Tryd.func15 (by kernel_rfl) rfl Tryd.ntmps15 rfl fun E0 F h hT w0 cs => ?_
      conv => whnf
      refine goS_run tab 1000 _ _ _ _ ?_
      conv => whnf
      repeat (first | (refine And.intro (by omega) ?_; (try intro _); conv => whnf) | (refine And.intro ?_ (by omega); (try intro _); conv => whnf) | (refine ⟨_, RemV.nonneg (by omega) (by omega), ?_⟩; conv => whnf))
      refine RunsS.callV (fun Ez Hz Az Sz K => ufew_fn l (Sz.ro (b := 0) rfl)) ?_
      conv => whnf
      rw [decide_eq_true hf.1]
      try dsimp only
      try refine goS_run tab 1000 _ _ _ _ ?_
      conv => whnf
      repeat (first | (refine And.intro (by omega) ?_; (try intro _); conv => whnf) | (refine And.intro ?_ (by omega); (try intro _); conv => whnf) | (refine ⟨_, RemV.nonneg (by omega) (by omega), ?_⟩; conv => whnf))
      refine RunsS.callT tabOk (hT) (resOk hl hi hx) [0] (by repeat (first | exact trivial | refine ⟨by rfl, ?_⟩)) ?CNa5 ?CNr5
      case CNa5 => rfl
      intro _ _
      conv => whnf
      try refine goS_run tab 1000 _ _ _ _ ?_
      conv => whnf
      repeat (first | (refine And.intro (by omega) ?_; (try intro _); conv => whnf) | (refine And.intro ?_ (by omega); (try intro _); conv => whnf) | (refine ⟨_, RemV.nonneg (by omega) (by omega), ?_⟩; conv => whnf))
      try refine RunsS.retU ?_
      try refine RunsS.finU ?_
      exact UnwS.ret tab Tryd.func15 rfl (EndS.mk (()) (trivial) [(1, 2)] (by repeat (first | exact trivial | refine ⟨by rfl, ?_⟩)) rfl rfl (okRet rfl rfl))
    | inr e =>
      have he := resolveU_err hx
      have : resdU l r = none := by unfold resdU; rw [if_pos hf, hx]
      rw [this]
      refine FnT.of Tryd.func15 (by kernel_rfl) rfl Tryd.ntmps15 rfl fun E0 F h hT w0 cs => ?_
      conv => whnf
      refine goS_run tab 1000 _ _ _ _ ?_
      conv => whnf
      repeat (first | (refine And.intro (by omega) ?_; (try intro _); conv => whnf) | (refine And.intro ?_ (by omega); (try intro _); conv => whnf) | (refine ⟨_, RemV.nonneg (by omega) (by omega), ?_⟩; conv => whnf))
      refine RunsS.callV (fun Ez Hz Az Sz K => ufew_fn l (Sz.ro (b := 0) rfl)) ?_
      conv => whnf
      rw [decide_eq_true hf.1]
      try dsimp only
      try refine goS_run tab 1000 _ _ _ _ ?_
      conv => whnf
      repeat (first | (refine And.intro (by omega) ?_; (try intro _); conv => whnf) | (refine And.intro ?_ (by omega); (try intro _); conv => whnf) | (refine ⟨_, RemV.nonneg (by omega) (by omega), ?_⟩; conv => whnf))
      refine RunsS.callT tabOk (hT) (resNo hl hi hx) [0] (by repeat (first | exact trivial | refine ⟨by rfl, ?_⟩)) ?CNa6 ?CNr6
      case CNa6 => rfl
      intro _ _
      conv => whnf
      try refine goS_run tab 1000 _ _ _ _ ?_
      conv => whnf
      repeat (first | (refine And.intro (by omega) ?_; (try intro _); conv => whnf) | (refine And.intro ?_ (by omega); (try intro _); conv => whnf) | (refine ⟨_, RemV.nonneg (by omega) (by omega), ?_⟩; conv => whnf))
      rw [show decide (e = 0) = false from decide_eq_false (by omega)]
      try refine RunsS.retU ?_
      try refine RunsS.finU ?_
      exact UnwS.ret tab Tryd.func15 rfl (EndS.mk (()) (trivial) [] (by repeat (first | exact trivial | refine ⟨by rfl, ?_⟩)) rfl rfl (okRet rfl rfl))
  · have : resdU l r = none := if_neg hf
    rw [this]
    refine FnT.of Tryd.func15 (by kernel_rfl) rfl Tryd.ntmps15 rfl fun E0 F h hT w0 cs => ?_
    conv => whnf
    refine goS_run tab 1000 _ _ _ _ ?_
    conv => whnf
    repeat (first | (refine And.intro (by omega) ?_; (try intro _); conv => whnf) | (refine And.intro ?_ (by omega); (try intro _); conv => whnf) | (refine ⟨_, RemV.nonneg (by omega) (by omega), ?_⟩; conv => whnf))
    by_cases h1 : FewU l
    · refine RunsS.callV (fun Ez Hz Az Sz K => ufew_fn l (Sz.ro (b := 0) rfl)) ?_
      conv => whnf
      rw [decide_eq_true h1]
      try dsimp only
      try refine goS_run tab 1000 _ _ _ _ ?_
      conv => whnf
      repeat (first | (refine And.intro (by omega) ?_; (try intro _); conv => whnf) | (refine And.intro ?_ (by omega); (try intro _); conv => whnf) | (refine ⟨_, RemV.nonneg (by omega) (by omega), ?_⟩; conv => whnf))
      by_cases h2 : (r.n.size : Int) ≤ 40
      · have h3 : ¬ (r.d.size : Int) ≤ 40 := fun e => hf ⟨h1, h2, e⟩
        conv => whnf
        repeat (first | (refine And.intro (by omega) ?_; (try intro _); conv => whnf) | (refine And.intro ?_ (by omega); (try intro _); conv => whnf) | (refine ⟨_, RemV.nonneg (by omega) (by omega), ?_⟩; conv => whnf))
        try refine RunsS.retU ?_
        try refine RunsS.finU ?_
        exact UnwS.ret tab Tryd.func15 rfl (EndS.mk (()) (trivial) [] (by repeat (first | exact trivial | refine ⟨by rfl, ?_⟩)) rfl rfl (okRet rfl rfl))
      · conv => whnf
        repeat (first | (refine And.intro (by omega) ?_; (try intro _); conv => whnf) | (refine And.intro ?_ (by omega); (try intro _); conv => whnf) | (refine ⟨_, RemV.nonneg (by omega) (by omega), ?_⟩; conv => whnf))
        try refine RunsS.retU ?_
        try refine RunsS.finU ?_
        exact UnwS.ret tab Tryd.func15 rfl (EndS.mk (()) (trivial) [] (by repeat (first | exact trivial | refine ⟨by rfl, ?_⟩)) rfl rfl (okRet rfl rfl))
    · refine RunsS.callV (fun Ez Hz Az Sz K => ufew_fn l (Sz.ro (b := 0) rfl)) ?_
      conv => whnf
      rw [decide_eq_false h1]
      try dsimp only
      try refine goS_run tab 1000 _ _ _ _ ?_
      conv => whnf
      repeat (first | (refine And.intro (by omega) ?_; (try intro _); conv => whnf) | (refine And.intro ?_ (by omega); (try intro _); conv => whnf) | (refine ⟨_, RemV.nonneg (by omega) (by omega), ?_⟩; conv => whnf))
      try refine RunsS.retU ?_
      try refine RunsS.finU ?_
      exact UnwS.ret tab Tryd.func15 rfl (EndS.mk (()) (trivial) [] (by repeat (first | exact trivial | refine ⟨by rfl, ?_⟩)) rfl rfl (okRet rfl rfl))
theorem whole9_fn {h : Array Obj} (n : Int) (hn : -9223372036854775808 ≤ n ∧ n ≤ 9223372036854775807) (hT : TabH h) : FnV Tryd.prog 12 #[.int .i64 n] h fun r h' => r = (newR n 1).1.v ∧ Keeps h.size h h' := by
  refine Fn.ofS (args := [.int .i64 n]) Tryd.func12 (by kernel_rfl) rfl Tryd.ntmps12 rfl fun w0 cs => ?_
  conv => whnf
  refine goS_run tab 1000 _ _ _ _ ?_
  conv => whnf
  repeat (first | (refine And.intro (by omega) ?_; (try intro _); conv => whnf) | (refine And.intro ?_ (by omega); (try intro _); conv => whnf) | (refine ⟨_, RemV.nonneg (by omega) (by omega), ?_⟩; conv => whnf))
  refine RunsS.callV (fun Ez Hz Az Sz K => qNew_fn n 1 hn (by omega) (hT.keeps ⟨K.size, K.same⟩)) ?_
  conv => whnf
  try refine goS_run tab 1000 _ _ _ _ ?_
  conv => whnf
  repeat (first | (refine And.intro (by omega) ?_; (try intro _); conv => whnf) | (refine And.intro ?_ (by omega); (try intro _); conv => whnf) | (refine ⟨_, RemV.nonneg (by omega) (by omega), ?_⟩; conv => whnf))
  refine RunsS.retU (UnwS.ret tab Tryd.func12 rfl fun Ez Hz Az Sz K => ⟨_, rfl, rfl, K.keeps⟩)
end Go.Proofs.YtgnciigjhpcdmaaDoor

namespace Go.Proofs.YtgnciigjhpcdmaaDoor
open Go Go.Fw Go.NatM Go.RatM
set_option maxRecDepth 100000
set_option maxHeartbeats 64000000

theorem resOkO {l x : List Un} (hl : l.length ≤ 9223372036854775807) (hi : UnOk l) (hx : resolveU l = .inl x) :
    FnT Tryd.prog TabT 9 1 [.buf 0] [ownU 0 l] (fun _ : Unit => True) (fun _ => .ret (.tup [.buf 1, .v (.int .i64 0)]) 2 [ownU 1 x]) :=
  (resOk hl hi hx).ofRo tabOk _ fun _ _ p hp => by rw [List.mem_singleton.1 hp]; rfl
theorem resNoO {l : List Un} {e : Int} (hl : l.length ≤ 9223372036854775807) (hi : UnOk l) (hx : resolveU l = .inr e) :
    FnT Tryd.prog TabT 9 1 [.buf 0] [ownU 0 l] (fun _ : Unit => True) (fun _ => .ret (.tup [.v (.slice none 0 0), .v (.int .i64 e)]) 1 []) :=
  (resNo hl hi hx).ofRo tabOk _ fun _ _ p hp => by cases hp
theorem resNil : FnT Tryd.prog TabT 9 0 [.v (.slice none 0 0)] [] (fun _ : Unit => True) (fun _ => .ret (.tup [.v (.slice none 0 0), .v (.int .i64 0)]) 0 []) := by
  refine FnT.of Tryd.func9 (by kernel_rfl) rfl Tryd.ntmps9 rfl fun E0 F h hT w0 cs => ?_
  conv => whnf
  refine goS_run tab 1000 _ _ _ _ ?_
  conv => whnf
  repeat (first | (refine And.intro (by omega) ?_; (try intro _); conv => whnf) | (refine And.intro ?_ (by omega); (try intro _); conv => whnf) | (refine ⟨_, RemV.nonneg (by omega) (by omega), ?_⟩; conv => whnf))
  refine RunsS.callV (fun Ez Hz Az Sz K => twins_fn [] Ro.nil) ?_
  conv => whnf
  rw [decide_eq_false (fun h => h List.nodup_nil)]
  try dsimp only
  try refine goS_run tab 1000 _ _ _ _ ?_
  conv => whnf
  repeat (first | (refine And.intro (by omega) ?_; (try intro _); conv => whnf) | (refine And.intro ?_ (by omega); (try intro _); conv => whnf) | (refine ⟨_, RemV.nonneg (by omega) (by omega), ?_⟩; conv => whnf))
  refine RunsS.callV (fun Ez Hz Az Sz K => qNew_fn 1 1 (by omega) (by omega) (tabOk.at hT K).1) ?_
  conv => whnf
  rw [newR_one]
  try dsimp only
  try refine goS_run tab 1000 _ _ _ _ ?_
  conv => whnf
  repeat (first | (refine And.intro (by omega) ?_; (try intro _); conv => whnf) | (refine And.intro ?_ (by omega); (try intro _); conv => whnf) | (refine ⟨_, RemV.nonneg (by omega) (by omega), ?_⟩; conv => whnf))
  refine RunsS.loopU ?_
  try refine goS_run tab 1000 _ _ _ _ ?_
  conv => whnf
  repeat (first | (refine And.intro (by omega) ?_; (try intro _); conv => whnf) | (refine And.intro ?_ (by omega); (try intro _); conv => whnf) | (refine ⟨_, RemV.nonneg (by omega) (by omega), ?_⟩; conv => whnf))
  try refine RunsS.retU ?_
  try refine RunsS.finU ?_
  exact UnwS.ret tab Tryd.func9 rfl (EndS.mk (()) (trivial) [] (by repeat (first | exact trivial | refine ⟨by rfl, ?_⟩)) rfl rfl (okRet rfl rfl))

def sPiece : ByteArray := ⟨#[112, 105, 101, 99, 101]⟩
def sDozen : ByteArray := ⟨#[100, 111, 122, 101, 110]⟩
def sM : ByteArray := ⟨#[109]⟩
def sGross : ByteArray := ⟨#[103, 114, 111, 115, 115]⟩
def sHalf : ByteArray := ⟨#[104, 97, 108, 102]⟩
def sA : ByteArray := ⟨#[97]⟩
def grossL : List Un := [⟨sPiece, mt, 0, 0, 0, zr⟩, ⟨sDozen, sPiece, 12, 1, 0, zr⟩, ⟨sM, mt, 0, 0, 0, zr⟩, ⟨sGross, sDozen, 12, 1, 0, zr⟩, ⟨sHalf, sPiece, 1, 2, 0, zr⟩]
abbrev rw1 (n : Int) : Rt := (newR n 1).1
def grossX : List Un := [⟨sPiece, mt, 0, 0, 0, rw1 1⟩, ⟨sDozen, sPiece, 12, 1, 0, rw1 12⟩, ⟨sM, mt, 0, 0, 2, rw1 1⟩, ⟨sGross, sDozen, 12, 1, 0, rw1 144⟩, ⟨sHalf, sPiece, 1, 2, 0, (newR 1 2).1⟩]
def ua1 : List Un := [⟨sA, sA, 1, 1, 0, zr⟩]
def ua2 : List Un := [⟨sA, mt, 0, 0, 0, zr⟩, ⟨sA, mt, 0, 0, 0, zr⟩]
def ua3 : List Un := [⟨sA, mt, 1, 1, 0, zr⟩]
instance decRtU : DecidableEq Go.RatM.Rt := fun a b => decidable_of_iff (a.neg = b.neg ∧ a.n = b.n ∧ a.d = b.d) ⟨fun h => by cases a; cases b; obtain ⟨rfl, rfl, rfl⟩ := h; rfl, fun h => by subst h; exact ⟨rfl, rfl, rfl⟩⟩
theorem uf1 : resolveU grossL = .inl grossX := by decide +kernel
theorem uf2 : resolveU ua1 = .inr 110 := by decide +kernel
theorem uf3 : resolveU ua2 = .inr 111 := by decide +kernel
theorem uf4 : resolveU ua3 = .inr 90 := by decide +kernel
theorem uf5 : convU grossX 3 1 (rw1 3) = (rw1 36, 0) := by decide +kernel
theorem uf6 : convU grossX 1 4 (rw1 1) = (rw1 24, 0) := by decide +kernel
theorem uf7 : convU grossX 0 2 (rw1 1) = (zr, 90) := by decide +kernel
theorem uf8 : convU [] 0 0 (rw1 1) = (zr, 90) := by decide +kernel
theorem uf9 : checkU grossX = 0 := by decide +kernel
theorem uf10 : checkU grossL = 90 := by decide +kernel
instance (l : List Un) : Decidable (UnOk l) := by unfold UnOk; infer_instance
theorem grossL_ok : UnOk grossL := by decide +kernel
theorem grossX_ok : UnOk grossX := by decide +kernel
theorem nil_ok : UnOk [] := fun u h => by cases h
theorem gross_fn : FnS Tryd.prog 20 0 [] [] (fun _ : Unit => True) (fun _ => .ret (.buf 0) 1 [ownU 0 grossL]) := by
  refine FnS.of Tryd.func20 (by kernel_rfl) rfl Tryd.ntmps20 rfl fun E0 F h w0 cs => ?_
  conv => whnf
  refine goS_run tab 1000 _ _ _ _ ?_
  conv => whnf
  repeat (first | (refine And.intro (by omega) ?_; (try intro _); conv => whnf) | (refine And.intro ?_ (by omega); (try intro _); conv => whnf) | (refine ⟨_, RemV.nonneg (by omega) (by omega), ?_⟩; conv => whnf))
  try refine RunsS.retU ?_
  try refine RunsS.finU ?_
  exact UnwS.ret tab Tryd.func20 rfl (EndS.mk (()) (trivial) [(0, 0)] (by repeat (first | exact trivial | refine ⟨by rfl, ?_⟩)) rfl rfl (okRet rfl rfl))
theorem saneU_fn {h : Array Obj} (hT : TabH h) : FnV Tryd.prog 7 #[] h fun r h' => r = .bool true ∧ Keeps h.size h h' := by
  have hgx : (rowsU grossX).length = 5 := rfl
  refine Fn.ofS (args := []) Tryd.func7 (by kernel_rfl) rfl Tryd.ntmps7 rfl fun w0 cs => ?_
  conv => whnf
  refine goS_run tab 1000 _ _ _ _ ?_
  conv => whnf
  repeat (first | (refine And.intro (by omega) ?_; (try intro _); conv => whnf) | (refine And.intro ?_ (by omega); (try intro _); conv => whnf) | (refine ⟨_, RemV.nonneg (by omega) (by omega), ?_⟩; conv => whnf))
  refine RunsS.callN (gross_fn) [] ?CNr1 (by repeat (first | exact trivial | refine ⟨by rfl, ?_⟩)) ?CNa1
  case CNa1 => rfl
  intro _ _
  conv => whnf
  try refine goS_run tab 1000 _ _ _ _ ?_
  conv => whnf
  repeat (first | (refine And.intro (by omega) ?_; (try intro _); conv => whnf) | (refine And.intro ?_ (by omega); (try intro _); conv => whnf) | (refine ⟨_, RemV.nonneg (by omega) (by omega), ?_⟩; conv => whnf))
  refine RunsS.callT tabOk (hT.t) (resOkO (by decide) grossL_ok uf1) [0] (by repeat (first | exact trivial | refine ⟨by rfl, ?_⟩)) ?CNa2 ?CNr2
  case CNa2 => rfl
  intro _ _
  conv => whnf
  try refine goS_run tab 1000 _ _ _ _ ?_
  conv => whnf
  repeat (first | (refine And.intro (by omega) ?_; (try intro _); conv => whnf) | (refine And.intro ?_ (by omega); (try intro _); conv => whnf) | (refine ⟨_, RemV.nonneg (by omega) (by omega), ?_⟩; conv => whnf))
  refine RunsS.callT tabOk (hT.t) (resNil) [] (by repeat (first | exact trivial | refine ⟨by rfl, ?_⟩)) ?CNa3 ?CNr3
  case CNa3 => rfl
  intro _ _
  conv => whnf
  try refine goS_run tab 1000 _ _ _ _ ?_
  conv => whnf
  repeat (first | (refine And.intro (by omega) ?_; (try intro _); conv => whnf) | (refine And.intro ?_ (by omega); (try intro _); conv => whnf) | (refine ⟨_, RemV.nonneg (by omega) (by omega), ?_⟩; conv => whnf))
  refine RunsS.callT tabOk (hT.t) (resNoO (l := ua1) (by decide) (by decide +kernel) uf2) [2] (by repeat (first | exact trivial | refine ⟨by rfl, ?_⟩)) ?CNa4 ?CNr4
  case CNa4 => rfl
  intro _ _
  conv => whnf
  try refine goS_run tab 1000 _ _ _ _ ?_
  conv => whnf
  repeat (first | (refine And.intro (by omega) ?_; (try intro _); conv => whnf) | (refine And.intro ?_ (by omega); (try intro _); conv => whnf) | (refine ⟨_, RemV.nonneg (by omega) (by omega), ?_⟩; conv => whnf))
  refine RunsS.callT tabOk (hT.t) (resNoO (l := ua2) (by decide) (by decide +kernel) uf3) [3] (by repeat (first | exact trivial | refine ⟨by rfl, ?_⟩)) ?CNa5 ?CNr5
  case CNa5 => rfl
  intro _ _
  conv => whnf
  try refine goS_run tab 1000 _ _ _ _ ?_
  conv => whnf
  repeat (first | (refine And.intro (by omega) ?_; (try intro _); conv => whnf) | (refine And.intro ?_ (by omega); (try intro _); conv => whnf) | (refine ⟨_, RemV.nonneg (by omega) (by omega), ?_⟩; conv => whnf))
  refine RunsS.callT tabOk (hT.t) (resNoO (l := ua3) (by decide) (by decide +kernel) uf4) [4] (by repeat (first | exact trivial | refine ⟨by rfl, ?_⟩)) ?CNa6 ?CNr6
  case CNa6 => rfl
  intro _ _
  conv => whnf
  try refine goS_run tab 1000 _ _ _ _ ?_
  conv => whnf
  repeat (first | (refine And.intro (by omega) ?_; (try intro _); conv => whnf) | (refine And.intro ?_ (by omega); (try intro _); conv => whnf) | (refine ⟨_, RemV.nonneg (by omega) (by omega), ?_⟩; conv => whnf))
  refine RunsS.callV (fun Ez Hz Az Sz K => whole9_fn 3 (by omega) (hT.keeps ⟨K.size, K.same⟩)) ?_
  conv => whnf
  try refine goS_run tab 1000 _ _ _ _ ?_
  conv => whnf
  repeat (first | (refine And.intro (by omega) ?_; (try intro _); conv => whnf) | (refine And.intro ?_ (by omega); (try intro _); conv => whnf) | (refine ⟨_, RemV.nonneg (by omega) (by omega), ?_⟩; conv => whnf))
  refine RunsS.callV (fun Ez Hz Az Sz K => convert_fn grossX grossX_ok (Sz.ro (b := 1) rfl) 3 1 (rw1 3) (hT.keeps ⟨K.size, K.same⟩)) ?_
  conv => whnf
  rw [uf5]
  try dsimp only
  try refine goS_run tab 1000 _ _ _ _ ?_
  conv => whnf
  repeat (first | (refine And.intro (by omega) ?_; (try intro _); conv => whnf) | (refine And.intro ?_ (by omega); (try intro _); conv => whnf) | (refine ⟨_, RemV.nonneg (by omega) (by omega), ?_⟩; conv => whnf))
  refine RunsS.callV (fun Ez Hz Az Sz K => whole9_fn 1 (by omega) (hT.keeps ⟨K.size, K.same⟩)) ?_
  conv => whnf
  try refine goS_run tab 1000 _ _ _ _ ?_
  conv => whnf
  repeat (first | (refine And.intro (by omega) ?_; (try intro _); conv => whnf) | (refine And.intro ?_ (by omega); (try intro _); conv => whnf) | (refine ⟨_, RemV.nonneg (by omega) (by omega), ?_⟩; conv => whnf))
  refine RunsS.callV (fun Ez Hz Az Sz K => convert_fn grossX grossX_ok (Sz.ro (b := 1) rfl) 1 4 (rw1 1) (hT.keeps ⟨K.size, K.same⟩)) ?_
  conv => whnf
  rw [uf6]
  try dsimp only
  try refine goS_run tab 1000 _ _ _ _ ?_
  conv => whnf
  repeat (first | (refine And.intro (by omega) ?_; (try intro _); conv => whnf) | (refine And.intro ?_ (by omega); (try intro _); conv => whnf) | (refine ⟨_, RemV.nonneg (by omega) (by omega), ?_⟩; conv => whnf))
  refine RunsS.callV (fun Ez Hz Az Sz K => whole9_fn 1 (by omega) (hT.keeps ⟨K.size, K.same⟩)) ?_
  conv => whnf
  try refine goS_run tab 1000 _ _ _ _ ?_
  conv => whnf
  repeat (first | (refine And.intro (by omega) ?_; (try intro _); conv => whnf) | (refine And.intro ?_ (by omega); (try intro _); conv => whnf) | (refine ⟨_, RemV.nonneg (by omega) (by omega), ?_⟩; conv => whnf))
  refine RunsS.callV (fun Ez Hz Az Sz K => convert_fn grossX grossX_ok (Sz.ro (b := 1) rfl) 0 2 (rw1 1) (hT.keeps ⟨K.size, K.same⟩)) ?_
  conv => whnf
  rw [uf7]
  try dsimp only
  try refine goS_run tab 1000 _ _ _ _ ?_
  conv => whnf
  repeat (first | (refine And.intro (by omega) ?_; (try intro _); conv => whnf) | (refine And.intro ?_ (by omega); (try intro _); conv => whnf) | (refine ⟨_, RemV.nonneg (by omega) (by omega), ?_⟩; conv => whnf))
  refine RunsS.callV (fun Ez Hz Az Sz K => whole9_fn 1 (by omega) (hT.keeps ⟨K.size, K.same⟩)) ?_
  conv => whnf
  try refine goS_run tab 1000 _ _ _ _ ?_
  conv => whnf
  repeat (first | (refine And.intro (by omega) ?_; (try intro _); conv => whnf) | (refine And.intro ?_ (by omega); (try intro _); conv => whnf) | (refine ⟨_, RemV.nonneg (by omega) (by omega), ?_⟩; conv => whnf))
  refine RunsS.callV (fun Ez Hz Az Sz K => convert_fn [] nil_ok Ro.nil 0 0 (rw1 1) (hT.keeps ⟨K.size, K.same⟩)) ?_
  conv => whnf
  rw [uf8]
  try dsimp only
  try refine goS_run tab 1000 _ _ _ _ ?_
  conv => whnf
  repeat (first | (refine And.intro (by omega) ?_; (try intro _); conv => whnf) | (refine And.intro ?_ (by omega); (try intro _); conv => whnf) | (refine ⟨_, RemV.nonneg (by omega) (by omega), ?_⟩; conv => whnf))
  refine RunsS.held tab (.fl 0 (.fl 1 (.fl 2 (.fl 3 (.fl 4 (.fl 5 (.fl 6 (.fl 7 (.fl 8 (.fl 9 (.fl 10 (.fl 11 (.fl 12 (.fl 13 (.fl 14 (.e1 15 [14] (.fl 16 (.fl 17 (.fl 18 (.fl 19 (.fl 20 (.fl 21 (.fl 22 (.fl 23 (.fl 24 (.fl 25 (.fl 26 (.fl 27 (.fl 28 (.fl 29 (.e1 30 [29] (.fl 31 (.fl 32 (.fl 33 (.fl 34 (.e1 35 [34] (.fl 36 (.fl 37 (.fl 38 (.fl 39 (.e1 40 [39] (.fl 41 (.fl 42 (.fl 43 (.fl 44 (.e1 45 [] (.fl 46 (.fl 47 (.fl 48 (.e1 49 [] (.e1 50 [] (.fl 51 (.fl 52 (.fl 53 .done)))))))))))))))))))))))))))))))))))))))))))))))))))))) (by kernel_rfl) ?_
  conv => whnf
  try refine goR_run tab _ _ _ _ _ _ ?_
  conv => whnf
  repeat (first | (refine And.intro (by omega) ?_; (try intro _); conv => whnf) | (refine And.intro ?_ (by omega); (try intro _); conv => whnf) | (refine And.intro (by (conv => whnf); (repeat (refine And.intro (by (conv => whnf); first | rfl | exact trivial) ?_; conv => whnf)); exact trivial) ?_; conv => whnf) | (refine ⟨_, RemV.nonneg (by omega) (by omega), ?_⟩; conv => whnf))
  try refine goS_run tab 1000 _ _ _ _ ?_
  conv => whnf
  repeat (first | (refine And.intro (by omega) ?_; (try intro _); conv => whnf) | (refine And.intro ?_ (by omega); (try intro _); conv => whnf) | (refine ⟨_, RemV.nonneg (by omega) (by omega), ?_⟩; conv => whnf))
  refine ⟨_, rowsU_get (l := grossX) (k := 3) (by decide), ?_⟩
  conv => whnf
  try (refine And.intro (by first | omega | exact Nat.le_of_ble_eq_true rfl) ?_; conv => whnf)
  try refine goR_run tab _ _ _ _ _ _ ?_
  conv => whnf
  repeat (first | (refine And.intro (by omega) ?_; (try intro _); conv => whnf) | (refine And.intro ?_ (by omega); (try intro _); conv => whnf) | (refine And.intro (by (conv => whnf); (repeat (refine And.intro (by (conv => whnf); first | rfl | exact trivial) ?_; conv => whnf)); exact trivial) ?_; conv => whnf) | (refine ⟨_, RemV.nonneg (by omega) (by omega), ?_⟩; conv => whnf))
  try refine goS_run tab 1000 _ _ _ _ ?_
  conv => whnf
  repeat (first | (refine And.intro (by omega) ?_; (try intro _); conv => whnf) | (refine And.intro ?_ (by omega); (try intro _); conv => whnf) | (refine ⟨_, RemV.nonneg (by omega) (by omega), ?_⟩; conv => whnf))
  refine And.intro (fun _ => ?_) (fun hn => absurd (rfl) hn)
  conv => whnf
  try refine goR_run tab _ _ _ _ _ _ ?_
  conv => whnf
  repeat (first | (refine And.intro (by omega) ?_; (try intro _); conv => whnf) | (refine And.intro ?_ (by omega); (try intro _); conv => whnf) | (refine And.intro (by (conv => whnf); (repeat (refine And.intro (by (conv => whnf); first | rfl | exact trivial) ?_; conv => whnf)); exact trivial) ?_; conv => whnf) | (refine ⟨_, RemV.nonneg (by omega) (by omega), ?_⟩; conv => whnf))
  try refine goS_run tab 1000 _ _ _ _ ?_
  conv => whnf
  repeat (first | (refine And.intro (by omega) ?_; (try intro _); conv => whnf) | (refine And.intro ?_ (by omega); (try intro _); conv => whnf) | (refine ⟨_, RemV.nonneg (by omega) (by omega), ?_⟩; conv => whnf))
  refine ⟨_, rowsU_get (l := grossX) (k := 3) (by decide), ?_⟩
  conv => whnf
  try (refine And.intro (by first | omega | exact Nat.le_of_ble_eq_true rfl) ?_; conv => whnf)
  try refine goR_run tab _ _ _ _ _ _ ?_
  conv => whnf
  repeat (first | (refine And.intro (by omega) ?_; (try intro _); conv => whnf) | (refine And.intro ?_ (by omega); (try intro _); conv => whnf) | (refine And.intro (by (conv => whnf); (repeat (refine And.intro (by (conv => whnf); first | rfl | exact trivial) ?_; conv => whnf)); exact trivial) ?_; conv => whnf) | (refine ⟨_, RemV.nonneg (by omega) (by omega), ?_⟩; conv => whnf))
  try refine goS_run tab 1000 _ _ _ _ ?_
  conv => whnf
  repeat (first | (refine And.intro (by omega) ?_; (try intro _); conv => whnf) | (refine And.intro ?_ (by omega); (try intro _); conv => whnf) | (refine ⟨_, RemV.nonneg (by omega) (by omega), ?_⟩; conv => whnf))
  refine EffR.callV (fun Ez Hz Az Sz K => whole9_fn 144 (by omega) (hT.keeps ⟨K.size, K.same⟩)) (by (conv => whnf); (repeat (refine And.intro (by (conv => whnf); first | rfl | exact trivial) ?_; conv => whnf)); exact trivial) ?_
  conv => whnf
  try refine goR_run tab _ _ _ _ _ _ ?_
  conv => whnf
  repeat (first | (refine And.intro (by omega) ?_; (try intro _); conv => whnf) | (refine And.intro ?_ (by omega); (try intro _); conv => whnf) | (refine And.intro (by (conv => whnf); (repeat (refine And.intro (by (conv => whnf); first | rfl | exact trivial) ?_; conv => whnf)); exact trivial) ?_; conv => whnf) | (refine ⟨_, RemV.nonneg (by omega) (by omega), ?_⟩; conv => whnf))
  try refine goS_run tab 1000 _ _ _ _ ?_
  conv => whnf
  repeat (first | (refine And.intro (by omega) ?_; (try intro _); conv => whnf) | (refine And.intro ?_ (by omega); (try intro _); conv => whnf) | (refine ⟨_, RemV.nonneg (by omega) (by omega), ?_⟩; conv => whnf))
  refine And.intro (fun _ => ?_) (fun hn => absurd (⟨rfl, rfl, rfl⟩) hn)
  conv => whnf
  try refine goR_run tab _ _ _ _ _ _ ?_
  conv => whnf
  repeat (first | (refine And.intro (by omega) ?_; (try intro _); conv => whnf) | (refine And.intro ?_ (by omega); (try intro _); conv => whnf) | (refine And.intro (by (conv => whnf); (repeat (refine And.intro (by (conv => whnf); first | rfl | exact trivial) ?_; conv => whnf)); exact trivial) ?_; conv => whnf) | (refine ⟨_, RemV.nonneg (by omega) (by omega), ?_⟩; conv => whnf))
  try refine goS_run tab 1000 _ _ _ _ ?_
  conv => whnf
  repeat (first | (refine And.intro (by omega) ?_; (try intro _); conv => whnf) | (refine And.intro ?_ (by omega); (try intro _); conv => whnf) | (refine ⟨_, RemV.nonneg (by omega) (by omega), ?_⟩; conv => whnf))
  refine ⟨_, rowsU_get (l := grossX) (k := 2) (by decide), ?_⟩
  conv => whnf
  try (refine And.intro (by first | omega | exact Nat.le_of_ble_eq_true rfl) ?_; conv => whnf)
  try refine goR_run tab _ _ _ _ _ _ ?_
  conv => whnf
  repeat (first | (refine And.intro (by omega) ?_; (try intro _); conv => whnf) | (refine And.intro ?_ (by omega); (try intro _); conv => whnf) | (refine And.intro (by (conv => whnf); (repeat (refine And.intro (by (conv => whnf); first | rfl | exact trivial) ?_; conv => whnf)); exact trivial) ?_; conv => whnf) | (refine ⟨_, RemV.nonneg (by omega) (by omega), ?_⟩; conv => whnf))
  try refine goS_run tab 1000 _ _ _ _ ?_
  conv => whnf
  repeat (first | (refine And.intro (by omega) ?_; (try intro _); conv => whnf) | (refine And.intro ?_ (by omega); (try intro _); conv => whnf) | (refine ⟨_, RemV.nonneg (by omega) (by omega), ?_⟩; conv => whnf))
  refine And.intro (fun _ => ?_) (fun hn => absurd (rfl) hn)
  conv => whnf
  try refine goR_run tab _ _ _ _ _ _ ?_
  conv => whnf
  repeat (first | (refine And.intro (by omega) ?_; (try intro _); conv => whnf) | (refine And.intro ?_ (by omega); (try intro _); conv => whnf) | (refine And.intro (by (conv => whnf); (repeat (refine And.intro (by (conv => whnf); first | rfl | exact trivial) ?_; conv => whnf)); exact trivial) ?_; conv => whnf) | (refine ⟨_, RemV.nonneg (by omega) (by omega), ?_⟩; conv => whnf))
  try refine goS_run tab 1000 _ _ _ _ ?_
  conv => whnf
  repeat (first | (refine And.intro (by omega) ?_; (try intro _); conv => whnf) | (refine And.intro ?_ (by omega); (try intro _); conv => whnf) | (refine ⟨_, RemV.nonneg (by omega) (by omega), ?_⟩; conv => whnf))
  refine ⟨_, rowsU_get (l := grossX) (k := 2) (by decide), ?_⟩
  conv => whnf
  try (refine And.intro (by first | omega | exact Nat.le_of_ble_eq_true rfl) ?_; conv => whnf)
  try refine goR_run tab _ _ _ _ _ _ ?_
  conv => whnf
  repeat (first | (refine And.intro (by omega) ?_; (try intro _); conv => whnf) | (refine And.intro ?_ (by omega); (try intro _); conv => whnf) | (refine And.intro (by (conv => whnf); (repeat (refine And.intro (by (conv => whnf); first | rfl | exact trivial) ?_; conv => whnf)); exact trivial) ?_; conv => whnf) | (refine ⟨_, RemV.nonneg (by omega) (by omega), ?_⟩; conv => whnf))
  try refine goS_run tab 1000 _ _ _ _ ?_
  conv => whnf
  repeat (first | (refine And.intro (by omega) ?_; (try intro _); conv => whnf) | (refine And.intro ?_ (by omega); (try intro _); conv => whnf) | (refine ⟨_, RemV.nonneg (by omega) (by omega), ?_⟩; conv => whnf))
  refine EffR.callV (fun Ez Hz Az Sz K => whole9_fn 1 (by omega) (hT.keeps ⟨K.size, K.same⟩)) (by (conv => whnf); (repeat (refine And.intro (by (conv => whnf); first | rfl | exact trivial) ?_; conv => whnf)); exact trivial) ?_
  conv => whnf
  try refine goR_run tab _ _ _ _ _ _ ?_
  conv => whnf
  repeat (first | (refine And.intro (by omega) ?_; (try intro _); conv => whnf) | (refine And.intro ?_ (by omega); (try intro _); conv => whnf) | (refine And.intro (by (conv => whnf); (repeat (refine And.intro (by (conv => whnf); first | rfl | exact trivial) ?_; conv => whnf)); exact trivial) ?_; conv => whnf) | (refine ⟨_, RemV.nonneg (by omega) (by omega), ?_⟩; conv => whnf))
  try refine goS_run tab 1000 _ _ _ _ ?_
  conv => whnf
  repeat (first | (refine And.intro (by omega) ?_; (try intro _); conv => whnf) | (refine And.intro ?_ (by omega); (try intro _); conv => whnf) | (refine ⟨_, RemV.nonneg (by omega) (by omega), ?_⟩; conv => whnf))
  refine And.intro (fun _ => ?_) (fun hn => absurd (⟨rfl, rfl, rfl⟩) hn)
  conv => whnf
  try refine goR_run tab _ _ _ _ _ _ ?_
  conv => whnf
  repeat (first | (refine And.intro (by omega) ?_; (try intro _); conv => whnf) | (refine And.intro ?_ (by omega); (try intro _); conv => whnf) | (refine And.intro (by (conv => whnf); (repeat (refine And.intro (by (conv => whnf); first | rfl | exact trivial) ?_; conv => whnf)); exact trivial) ?_; conv => whnf) | (refine ⟨_, RemV.nonneg (by omega) (by omega), ?_⟩; conv => whnf))
  try refine goS_run tab 1000 _ _ _ _ ?_
  conv => whnf
  repeat (first | (refine And.intro (by omega) ?_; (try intro _); conv => whnf) | (refine And.intro ?_ (by omega); (try intro _); conv => whnf) | (refine ⟨_, RemV.nonneg (by omega) (by omega), ?_⟩; conv => whnf))
  refine EffR.callV (fun Ez Hz Az Sz K => whole9_fn 36 (by omega) (hT.keeps ⟨K.size, K.same⟩)) (by (conv => whnf); (repeat (refine And.intro (by (conv => whnf); first | rfl | exact trivial) ?_; conv => whnf)); exact trivial) ?_
  conv => whnf
  try refine goR_run tab _ _ _ _ _ _ ?_
  conv => whnf
  repeat (first | (refine And.intro (by omega) ?_; (try intro _); conv => whnf) | (refine And.intro ?_ (by omega); (try intro _); conv => whnf) | (refine And.intro (by (conv => whnf); (repeat (refine And.intro (by (conv => whnf); first | rfl | exact trivial) ?_; conv => whnf)); exact trivial) ?_; conv => whnf) | (refine ⟨_, RemV.nonneg (by omega) (by omega), ?_⟩; conv => whnf))
  try refine goS_run tab 1000 _ _ _ _ ?_
  conv => whnf
  repeat (first | (refine And.intro (by omega) ?_; (try intro _); conv => whnf) | (refine And.intro ?_ (by omega); (try intro _); conv => whnf) | (refine ⟨_, RemV.nonneg (by omega) (by omega), ?_⟩; conv => whnf))
  refine And.intro (fun _ => ?_) (fun hn => absurd (⟨rfl, rfl, rfl⟩) hn)
  conv => whnf
  try refine goR_run tab _ _ _ _ _ _ ?_
  conv => whnf
  repeat (first | (refine And.intro (by omega) ?_; (try intro _); conv => whnf) | (refine And.intro ?_ (by omega); (try intro _); conv => whnf) | (refine And.intro (by (conv => whnf); (repeat (refine And.intro (by (conv => whnf); first | rfl | exact trivial) ?_; conv => whnf)); exact trivial) ?_; conv => whnf) | (refine ⟨_, RemV.nonneg (by omega) (by omega), ?_⟩; conv => whnf))
  try refine goS_run tab 1000 _ _ _ _ ?_
  conv => whnf
  repeat (first | (refine And.intro (by omega) ?_; (try intro _); conv => whnf) | (refine And.intro ?_ (by omega); (try intro _); conv => whnf) | (refine ⟨_, RemV.nonneg (by omega) (by omega), ?_⟩; conv => whnf))
  refine EffR.callV (fun Ez Hz Az Sz K => whole9_fn 24 (by omega) (hT.keeps ⟨K.size, K.same⟩)) (by (conv => whnf); (repeat (refine And.intro (by (conv => whnf); first | rfl | exact trivial) ?_; conv => whnf)); exact trivial) ?_
  conv => whnf
  try refine goR_run tab _ _ _ _ _ _ ?_
  conv => whnf
  repeat (first | (refine And.intro (by omega) ?_; (try intro _); conv => whnf) | (refine And.intro ?_ (by omega); (try intro _); conv => whnf) | (refine And.intro (by (conv => whnf); (repeat (refine And.intro (by (conv => whnf); first | rfl | exact trivial) ?_; conv => whnf)); exact trivial) ?_; conv => whnf) | (refine ⟨_, RemV.nonneg (by omega) (by omega), ?_⟩; conv => whnf))
  try refine goS_run tab 1000 _ _ _ _ ?_
  conv => whnf
  repeat (first | (refine And.intro (by omega) ?_; (try intro _); conv => whnf) | (refine And.intro ?_ (by omega); (try intro _); conv => whnf) | (refine ⟨_, RemV.nonneg (by omega) (by omega), ?_⟩; conv => whnf))
  refine And.intro (fun _ => ?_) (fun hn => absurd (⟨rfl, rfl, rfl⟩) hn)
  conv => whnf
  try refine goR_run tab _ _ _ _ _ _ ?_
  conv => whnf
  repeat (first | (refine And.intro (by omega) ?_; (try intro _); conv => whnf) | (refine And.intro ?_ (by omega); (try intro _); conv => whnf) | (refine And.intro (by (conv => whnf); (repeat (refine And.intro (by (conv => whnf); first | rfl | exact trivial) ?_; conv => whnf)); exact trivial) ?_; conv => whnf) | (refine ⟨_, RemV.nonneg (by omega) (by omega), ?_⟩; conv => whnf))
  try refine goS_run tab 1000 _ _ _ _ ?_
  conv => whnf
  repeat (first | (refine And.intro (by omega) ?_; (try intro _); conv => whnf) | (refine And.intro ?_ (by omega); (try intro _); conv => whnf) | (refine ⟨_, RemV.nonneg (by omega) (by omega), ?_⟩; conv => whnf))
  refine EffR.callV (fun Ez Hz Az Sz K => uCheck_fn grossX grossX_ok (Sz.ro (b := 1) rfl) (hT.keeps ⟨K.size, K.same⟩)) (by (conv => whnf); (repeat (refine And.intro (by (conv => whnf); first | rfl | exact trivial) ?_; conv => whnf)); exact trivial) ?_
  conv => whnf
  rw [uf9]
  try dsimp only
  try refine goR_run tab _ _ _ _ _ _ ?_
  conv => whnf
  repeat (first | (refine And.intro (by omega) ?_; (try intro _); conv => whnf) | (refine And.intro ?_ (by omega); (try intro _); conv => whnf) | (refine And.intro (by (conv => whnf); (repeat (refine And.intro (by (conv => whnf); first | rfl | exact trivial) ?_; conv => whnf)); exact trivial) ?_; conv => whnf) | (refine ⟨_, RemV.nonneg (by omega) (by omega), ?_⟩; conv => whnf))
  try refine goS_run tab 1000 _ _ _ _ ?_
  conv => whnf
  repeat (first | (refine And.intro (by omega) ?_; (try intro _); conv => whnf) | (refine And.intro ?_ (by omega); (try intro _); conv => whnf) | (refine ⟨_, RemV.nonneg (by omega) (by omega), ?_⟩; conv => whnf))
  refine EffR.callN (gross_fn) [] ?CNr7 (by repeat (first | exact trivial | refine ⟨by rfl, ?_⟩)) ?CNa7
  case CNa7 => rfl
  intro _ _
  conv => whnf
  try refine And.intro (by (conv => whnf); (repeat (refine And.intro (by (conv => whnf); first | rfl | exact trivial) ?_; conv => whnf)); exact trivial) ?_
  try refine goR_run tab _ _ _ _ _ _ ?_
  conv => whnf
  repeat (first | (refine And.intro (by omega) ?_; (try intro _); conv => whnf) | (refine And.intro ?_ (by omega); (try intro _); conv => whnf) | (refine And.intro (by (conv => whnf); (repeat (refine And.intro (by (conv => whnf); first | rfl | exact trivial) ?_; conv => whnf)); exact trivial) ?_; conv => whnf) | (refine ⟨_, RemV.nonneg (by omega) (by omega), ?_⟩; conv => whnf))
  try refine goS_run tab 1000 _ _ _ _ ?_
  conv => whnf
  repeat (first | (refine And.intro (by omega) ?_; (try intro _); conv => whnf) | (refine And.intro ?_ (by omega); (try intro _); conv => whnf) | (refine ⟨_, RemV.nonneg (by omega) (by omega), ?_⟩; conv => whnf))
  refine EffR.callV (fun Ez Hz Az Sz K => uCheck_fn grossL grossL_ok (Sz.ro (b := 9) rfl) (hT.keeps ⟨K.size, K.same⟩)) (by (conv => whnf); (repeat (refine And.intro (by (conv => whnf); first | rfl | exact trivial) ?_; conv => whnf)); exact trivial) ?_
  conv => whnf
  rw [uf10]
  try dsimp only
  try refine goR_run tab _ _ _ _ _ _ ?_
  conv => whnf
  repeat (first | (refine And.intro (by omega) ?_; (try intro _); conv => whnf) | (refine And.intro ?_ (by omega); (try intro _); conv => whnf) | (refine And.intro (by (conv => whnf); (repeat (refine And.intro (by (conv => whnf); first | rfl | exact trivial) ?_; conv => whnf)); exact trivial) ?_; conv => whnf) | (refine ⟨_, RemV.nonneg (by omega) (by omega), ?_⟩; conv => whnf))
  try refine goS_run tab 1000 _ _ _ _ ?_
  conv => whnf
  repeat (first | (refine And.intro (by omega) ?_; (try intro _); conv => whnf) | (refine And.intro ?_ (by omega); (try intro _); conv => whnf) | (refine ⟨_, RemV.nonneg (by omega) (by omega), ?_⟩; conv => whnf))
  refine RunsS.retU (UnwS.ret tab Tryd.func7 rfl fun Ez Hz Az Sz K => ⟨_, rfl, rfl, K.keeps⟩)
end Go.Proofs.YtgnciigjhpcdmaaDoor

namespace Go.Proofs.YtgnciigjhpcdmaaDoor
open Go Go.Fw Go.NatM Go.RatM
set_option maxRecDepth 100000
set_option maxHeartbeats 64000000

theorem UnOk.res {l x : List Un} (h : UnOk l) (hr : ResP l x) : UnOk x := by
  intro u hu
  obtain ⟨i, hi, rfl⟩ := List.getElem_of_mem hu
  have hi' : i < l.length := by rw [← hr.1]; exact hi
  obtain ⟨_, _, e1, e2⟩ := stepU_fields (hr.2 i hi' hi)
  rw [e1, e2]
  exact h _ (List.getElem_mem hi')
theorem rowsU_tget {x : List Un} {k j : Nat} (hj : j < k) (hx : j < x.length) : ((rowsU x).take ((k : Int)).toNat)[((j : Int)).toNat]? = some x[j].row := by
  rw [Int.toNat_natCast, Int.toNat_natCast, List.getElem?_take_of_lt hj]
  exact rowsU_get hx
theorem nodup_inj {x : List Un} (h : (x.map Un.name).Nodup) {i j : Nat} (hi : i < x.length) (hj : j < x.length) (he : x[i].name = x[j].name) : i = j := by
  have := (List.getElem_inj (h₀ := by rw [List.length_map]; exact hi) (h₁ := by rw [List.length_map]; exact hj) h).1 (by rw [List.getElem_map, List.getElem_map]; exact he)
  exact this
theorem dec_t {p : Prop} {i : Decidable p} (h : p) : @decide p i = true := decide_eq_true h
theorem ble_skip {m j : Nat} (h : j ≠ m) : Nat.ble (m + 1) j = Nat.ble (m + 1) (j + 1) := by
  apply Bool.eq_iff_iff.2
  rw [Nat.ble_eq, Nat.ble_eq]
  omega
theorem unitsResolved_fn {h : Array Obj} (l : List Un) {v : Value} (hv : Ro h v 8 (rowsU l)) (hi : UnOk l) (hT : TabH h) : FnV Tryd.prog 3 #[v] h fun r h' => r = .bool true ∧ Keeps h.size h h' := by
  have hl := rowsU_len l
  have hm := hv.len
  refine Fn.ofG (envL [v]) 1 [.buf 0] [(0, .ro (8) (rowsU l))] (fun k => k < _) Tryd.func3 (by kernel_rfl) rfl Tryd.ntmps3 rfl (fun _ hk => hk) (Sat.ros (vs := [v]) (l := [(8, rowsU l)]) ⟨hv, trivial⟩) fun w0 cs => ?_
  conv => whnf
  refine goS_run tab 1000 _ _ _ _ ?_
  conv => whnf
  repeat (first | (refine And.intro (by omega) ?_; (try intro _); conv => whnf) | (refine And.intro ?_ (by omega); (try intro _); conv => whnf) | (refine ⟨_, RemV.nonneg (by omega) (by omega), ?_⟩; conv => whnf))
  refine RunsS.callV (fun Ez Hz Az Sz K => saneU_fn (hT.keeps ⟨K.size, K.same⟩)) ?_
  conv => whnf
  try refine goS_run tab 1000 _ _ _ _ ?_
  conv => whnf
  repeat (first | (refine And.intro (by omega) ?_; (try intro _); conv => whnf) | (refine And.intro ?_ (by omega); (try intro _); conv => whnf) | (refine ⟨_, RemV.nonneg (by omega) (by omega), ?_⟩; conv => whnf))
  by_cases hf : FewU l
  · refine RunsS.callV (fun Ez Hz Az Sz K => ufew_fn l (Sz.ro (b := 0) rfl)) ?_
    conv => whnf
    rw [decide_eq_true hf]
    try dsimp only
    try refine goS_run tab 1000 _ _ _ _ ?_
    conv => whnf
    repeat (first | (refine And.intro (by omega) ?_; (try intro _); conv => whnf) | (refine And.intro ?_ (by omega); (try intro _); conv => whnf) | (refine ⟨_, RemV.nonneg (by omega) (by omega), ?_⟩; conv => whnf))
    cases hx : resolveU l with
    | inr e =>
      have he := resolveU_err hx
      refine RunsS.callT tabOk (hT.t) (resNo (by omega) hi hx) [0] (by repeat (first | exact trivial | refine ⟨by rfl, ?_⟩)) ?CNa1 ?CNr1
      case CNa1 => rfl
      intro _ _
      conv => whnf
      try refine goS_run tab 1000 _ _ _ _ ?_
      conv => whnf
      repeat (first | (refine And.intro (by omega) ?_; (try intro _); conv => whnf) | (refine And.intro ?_ (by omega); (try intro _); conv => whnf) | (refine ⟨_, RemV.nonneg (by omega) (by omega), ?_⟩; conv => whnf))
      refine RunsS.callV (fun Ez Hz Az Sz K => uCheck_fn l hi (Sz.ro (b := 0) rfl) (hT.keeps ⟨K.size, K.same⟩)) ?_
      conv => whnf
      rw [checkU_inr hx]
      try dsimp only
      try refine goS_run tab 1000 _ _ _ _ ?_
      conv => whnf
      repeat (first | (refine And.intro (by omega) ?_; (try intro _); conv => whnf) | (refine And.intro ?_ (by omega); (try intro _); conv => whnf) | (refine ⟨_, RemV.nonneg (by omega) (by omega), ?_⟩; conv => whnf))
      refine RunsS.retU (UnwS.ret tab Tryd.func3 rfl fun Ez Hz Az Sz K => ⟨_, rfl, ?_, K.keeps⟩)
      exact congrArg Value.bool (decide_eq_true rfl)
    | inl x =>
      obtain ⟨x1, x2, x3⟩ := resolveU_inl.1 hx
      have hix := hi.res x3
      have hxl := x3.1
      have hxr := rowsU_len x
      have hxx := resolveU_again hx
      refine RunsS.callT tabOk (hT.t) (resOk (by omega) hi hx) [0] (by repeat (first | exact trivial | refine ⟨by rfl, ?_⟩)) ?CNa2 ?CNr2
      case CNa2 => rfl
      intro _ _
      conv => whnf
      try refine goS_run tab 1000 _ _ _ _ ?_
      conv => whnf
      repeat (first | (refine And.intro (by omega) ?_; (try intro _); conv => whnf) | (refine And.intro ?_ (by omega); (try intro _); conv => whnf) | (refine ⟨_, RemV.nonneg (by omega) (by omega), ?_⟩; conv => whnf))
      refine RunsS.freeze 1 (fun F' h' conv hs K0 => ?_)
      have hT' : TabT F' h' := tabOk.mono _ _ _ hs (tabOk.keep _ _ _ hT.t K0)
      try refine goS_run tab 1000 _ _ _ _ ?_
      conv => whnf
      repeat (first | (refine And.intro (by omega) ?_; (try intro _); conv => whnf) | (refine And.intro ?_ (by omega); (try intro _); conv => whnf) | (refine ⟨_, RemV.nonneg (by omega) (by omega), ?_⟩; conv => whnf))
      refine RunsS.callT tabOk (hT') (resOk (by omega) hix hxx) [1] (by repeat (first | exact trivial | refine ⟨by rfl, ?_⟩)) ?CNa3 ?CNr3
      case CNa3 => rfl
      intro _ _
      conv => whnf
      try refine goS_run tab 1000 _ _ _ _ ?_
      conv => whnf
      repeat (first | (refine And.intro (by omega) ?_; (try intro _); conv => whnf) | (refine And.intro ?_ (by omega); (try intro _); conv => whnf) | (refine ⟨_, RemV.nonneg (by omega) (by omega), ?_⟩; conv => whnf))
      refine RunsS.callV (fun Ez Hz Az Sz K => uCheck_fn x hix (Sz.ro (b := 1) rfl) (tabOk.at hT' K).1) ?_
      conv => whnf
      rw [checkU_res hx]
      try dsimp only
      try refine goS_run tab 1000 _ _ _ _ ?_
      conv => whnf
      repeat (first | (refine And.intro (by omega) ?_; (try intro _); conv => whnf) | (refine And.intro ?_ (by omega); (try intro _); conv => whnf) | (refine ⟨_, RemV.nonneg (by omega) (by omega), ?_⟩; conv => whnf))
      refine RunsS.callV (fun Ez Hz Az Sz K => same_fn x x (Sz.ro (b := 1) rfl) (Sz.ro (b := 2) rfl)) ?_
      conv => whnf
      rw [decide_eq_true rfl]
      try dsimp only
      try refine goS_run tab 1000 _ _ _ _ ?_
      conv => whnf
      repeat (first | (refine And.intro (by omega) ?_; (try intro _); conv => whnf) | (refine And.intro ?_ (by omega); (try intro _); conv => whnf) | (refine ⟨_, RemV.nonneg (by omega) (by omega), ?_⟩; conv => whnf))
      refine RunsS.subR [] (RunsS.loop (fun (k : Nat) => [(64, .v (.int .i64 k)), (63, .v (.int .i64 (rowsU x).length)), (62, .buf 1), (3, .buf 1), (0, .buf 0)]) (fun (k : Nat) => [(1, .ro 8 (rowsU x)), (0, .ro 8 (rowsU l))]) 2 (fun (k : Nat) => k ≤ x.length) (fun (k : Nat) => x.length - k) ?round4 (0) ?J04) ?SS4 ?HH4
      case J04 => first | omega | trivial
      case SS4 => repeat (first | exact trivial | refine ⟨by rfl, ?_⟩)
      case HH4 => repeat (first | exact trivial | refine ⟨by rfl, ?_⟩)
      rintro k hJ back
      try dsimp only at hJ back
      conv => whnf
      try dsimp only
      refine goS_run tab 1000 _ _ _ _ ?_
      conv => whnf
      repeat (first | (refine And.intro (by omega) ?_; (try intro _); conv => whnf) | (refine And.intro ?_ (by omega); (try intro _); conv => whnf) | (refine ⟨_, RemV.nonneg (by omega) (by omega), ?_⟩; conv => whnf))
      refine ⟨fun hk => ?_, fun hk => ?_⟩ <;> conv => whnf
      · have hk : k < x.length := by omega
        have hkl : k < l.length := by omega
        obtain ⟨f1, f2, f3, f4⟩ := stepU_fields (x3.2 k hkl hk)
        conv => whnf
        repeat (first | (refine And.intro (by omega) ?_; (try intro _); conv => whnf) | (refine And.intro ?_ (by omega); (try intro _); conv => whnf) | (refine ⟨_, RemV.nonneg (by omega) (by omega), ?_⟩; conv => whnf))
        refine ⟨_, rowsU_get hk, ?_⟩
        conv => whnf
        try (refine And.intro (by first | omega | exact Nat.le_of_ble_eq_true rfl) ?_; conv => whnf)
        repeat (first | (refine And.intro (by omega) ?_; (try intro _); conv => whnf) | (refine And.intro ?_ (by omega); (try intro _); conv => whnf) | (refine ⟨_, RemV.nonneg (by omega) (by omega), ?_⟩; conv => whnf))
        refine RunsS.held tab (.fl 0 (.fl 1 (.fl 2 (.fl 3 (.fl 4 (.fl 5 (.fl 6 (.fl 7 (.fl 8 (.fl 9 (.fl 10 (.fl 11 (.fl 12 (.fl 13 (.fl 14 (.fl 15 (.fl 16 (.fl 17 (.fl 18 (.fl 19 (.fl 20 (.fl 21 (.fl 22 (.fl 23 (.fl 24 (.fl 25 (.fl 26 (.fl 27 (.fl 28 (.fl 29 (.fl 30 (.fl 31 (.fl 32 (.fl 33 (.fl 34 (.fl 35 (.fl 36 (.fl 37 .done)))))))))))))))))))))))))))))))))))))) (by kernel_rfl) ?_
        conv => whnf
        try refine goR_run tab _ _ _ _ _ _ ?_
        conv => whnf
        repeat (first | (refine And.intro (by omega) ?_; (try intro _); conv => whnf) | (refine And.intro ?_ (by omega); (try intro _); conv => whnf) | (refine And.intro (by (conv => whnf); (repeat (refine And.intro (by (conv => whnf); first | rfl | exact trivial) ?_; conv => whnf)); exact trivial) ?_; conv => whnf) | (refine ⟨_, RemV.nonneg (by omega) (by omega), ?_⟩; conv => whnf))
        try refine goS_run tab 1000 _ _ _ _ ?_
        conv => whnf
        repeat (first | (refine And.intro (by omega) ?_; (try intro _); conv => whnf) | (refine And.intro ?_ (by omega); (try intro _); conv => whnf) | (refine ⟨_, RemV.nonneg (by omega) (by omega), ?_⟩; conv => whnf))
        refine ⟨_, rowsU_get hkl, ?_⟩
        conv => whnf
        try (refine And.intro (by first | omega | exact Nat.le_of_ble_eq_true rfl) ?_; conv => whnf)
        try refine goR_run tab _ _ _ _ _ _ ?_
        conv => whnf
        repeat (first | (refine And.intro (by omega) ?_; (try intro _); conv => whnf) | (refine And.intro ?_ (by omega); (try intro _); conv => whnf) | (refine And.intro (by (conv => whnf); (repeat (refine And.intro (by (conv => whnf); first | rfl | exact trivial) ?_; conv => whnf)); exact trivial) ?_; conv => whnf) | (refine ⟨_, RemV.nonneg (by omega) (by omega), ?_⟩; conv => whnf))
        try refine goS_run tab 1000 _ _ _ _ ?_
        conv => whnf
        repeat (first | (refine And.intro (by omega) ?_; (try intro _); conv => whnf) | (refine And.intro ?_ (by omega); (try intro _); conv => whnf) | (refine ⟨_, RemV.nonneg (by omega) (by omega), ?_⟩; conv => whnf))
        refine And.intro (fun _ => ?_) (fun hn => absurd (f1) hn)
        conv => whnf
        try refine goR_run tab _ _ _ _ _ _ ?_
        conv => whnf
        repeat (first | (refine And.intro (by omega) ?_; (try intro _); conv => whnf) | (refine And.intro ?_ (by omega); (try intro _); conv => whnf) | (refine And.intro (by (conv => whnf); (repeat (refine And.intro (by (conv => whnf); first | rfl | exact trivial) ?_; conv => whnf)); exact trivial) ?_; conv => whnf) | (refine ⟨_, RemV.nonneg (by omega) (by omega), ?_⟩; conv => whnf))
        try refine goS_run tab 1000 _ _ _ _ ?_
        conv => whnf
        repeat (first | (refine And.intro (by omega) ?_; (try intro _); conv => whnf) | (refine And.intro ?_ (by omega); (try intro _); conv => whnf) | (refine ⟨_, RemV.nonneg (by omega) (by omega), ?_⟩; conv => whnf))
        refine ⟨_, rowsU_get hkl, ?_⟩
        conv => whnf
        try (refine And.intro (by first | omega | exact Nat.le_of_ble_eq_true rfl) ?_; conv => whnf)
        try refine goR_run tab _ _ _ _ _ _ ?_
        conv => whnf
        repeat (first | (refine And.intro (by omega) ?_; (try intro _); conv => whnf) | (refine And.intro ?_ (by omega); (try intro _); conv => whnf) | (refine And.intro (by (conv => whnf); (repeat (refine And.intro (by (conv => whnf); first | rfl | exact trivial) ?_; conv => whnf)); exact trivial) ?_; conv => whnf) | (refine ⟨_, RemV.nonneg (by omega) (by omega), ?_⟩; conv => whnf))
        try refine goS_run tab 1000 _ _ _ _ ?_
        conv => whnf
        repeat (first | (refine And.intro (by omega) ?_; (try intro _); conv => whnf) | (refine And.intro ?_ (by omega); (try intro _); conv => whnf) | (refine ⟨_, RemV.nonneg (by omega) (by omega), ?_⟩; conv => whnf))
        refine And.intro (fun _ => ?_) (fun hn => absurd (f2) hn)
        conv => whnf
        try refine goR_run tab _ _ _ _ _ _ ?_
        conv => whnf
        repeat (first | (refine And.intro (by omega) ?_; (try intro _); conv => whnf) | (refine And.intro ?_ (by omega); (try intro _); conv => whnf) | (refine And.intro (by (conv => whnf); (repeat (refine And.intro (by (conv => whnf); first | rfl | exact trivial) ?_; conv => whnf)); exact trivial) ?_; conv => whnf) | (refine ⟨_, RemV.nonneg (by omega) (by omega), ?_⟩; conv => whnf))
        try refine goS_run tab 1000 _ _ _ _ ?_
        conv => whnf
        repeat (first | (refine And.intro (by omega) ?_; (try intro _); conv => whnf) | (refine And.intro ?_ (by omega); (try intro _); conv => whnf) | (refine ⟨_, RemV.nonneg (by omega) (by omega), ?_⟩; conv => whnf))
        refine ⟨_, rowsU_get hkl, ?_⟩
        conv => whnf
        try (refine And.intro (by first | omega | exact Nat.le_of_ble_eq_true rfl) ?_; conv => whnf)
        try refine goR_run tab _ _ _ _ _ _ ?_
        conv => whnf
        repeat (first | (refine And.intro (by omega) ?_; (try intro _); conv => whnf) | (refine And.intro ?_ (by omega); (try intro _); conv => whnf) | (refine And.intro (by (conv => whnf); (repeat (refine And.intro (by (conv => whnf); first | rfl | exact trivial) ?_; conv => whnf)); exact trivial) ?_; conv => whnf) | (refine ⟨_, RemV.nonneg (by omega) (by omega), ?_⟩; conv => whnf))
        try refine goS_run tab 1000 _ _ _ _ ?_
        conv => whnf
        repeat (first | (refine And.intro (by omega) ?_; (try intro _); conv => whnf) | (refine And.intro ?_ (by omega); (try intro _); conv => whnf) | (refine ⟨_, RemV.nonneg (by omega) (by omega), ?_⟩; conv => whnf))
        refine ⟨_, rowsU_get hkl, ?_⟩
        conv => whnf
        try (refine And.intro (by first | omega | exact Nat.le_of_ble_eq_true rfl) ?_; conv => whnf)
        try refine goR_run tab _ _ _ _ _ _ ?_
        conv => whnf
        repeat (first | (refine And.intro (by omega) ?_; (try intro _); conv => whnf) | (refine And.intro ?_ (by omega); (try intro _); conv => whnf) | (refine And.intro (by (conv => whnf); (repeat (refine And.intro (by (conv => whnf); first | rfl | exact trivial) ?_; conv => whnf)); exact trivial) ?_; conv => whnf) | (refine ⟨_, RemV.nonneg (by omega) (by omega), ?_⟩; conv => whnf))
        try refine goS_run tab 1000 _ _ _ _ ?_
        conv => whnf
        repeat (first | (refine And.intro (by omega) ?_; (try intro _); conv => whnf) | (refine And.intro ?_ (by omega); (try intro _); conv => whnf) | (refine ⟨_, RemV.nonneg (by omega) (by omega), ?_⟩; conv => whnf))
        refine ⟨fun e0 => ?_, fun e0 => ?_⟩ <;> conv => whnf
        · obtain ⟨b1, b2⟩ := x3.base hk e0
          conv => whnf
          repeat (first | (refine And.intro (by omega) ?_; (try intro _); conv => whnf) | (refine And.intro ?_ (by omega); (try intro _); conv => whnf) | (refine ⟨_, RemV.nonneg (by omega) (by omega), ?_⟩; conv => whnf))
          refine RunsS.held tab (.fl 0 (.fl 1 (.fl 2 (.fl 3 (.fl 4 (.fl 5 (.fl 6 (.e1 7 [6] (.fl 8 (.fl 9 .done)))))))))) (by kernel_rfl) ?_
          conv => whnf
          try refine goR_run tab _ _ _ _ _ _ ?_
          conv => whnf
          repeat (first | (refine And.intro (by omega) ?_; (try intro _); conv => whnf) | (refine And.intro ?_ (by omega); (try intro _); conv => whnf) | (refine And.intro (by (conv => whnf); (repeat (refine And.intro (by (conv => whnf); first | rfl | exact trivial) ?_; conv => whnf)); exact trivial) ?_; conv => whnf) | (refine ⟨_, RemV.nonneg (by omega) (by omega), ?_⟩; conv => whnf))
          try refine goS_run tab 1000 _ _ _ _ ?_
          conv => whnf
          repeat (first | (refine And.intro (by omega) ?_; (try intro _); conv => whnf) | (refine And.intro ?_ (by omega); (try intro _); conv => whnf) | (refine ⟨_, RemV.nonneg (by omega) (by omega), ?_⟩; conv => whnf))
          refine EffR.callV (fun Ez Hz Az Sz K => whole9_fn 1 (by omega) (tabOk.at hT' K).1) (by (conv => whnf); (repeat (refine And.intro (by (conv => whnf); first | rfl | exact trivial) ?_; conv => whnf)); exact trivial) ?_
          conv => whnf
          rw [newR_one]
          try dsimp only
          try refine goR_run tab _ _ _ _ _ _ ?_
          conv => whnf
          repeat (first | (refine And.intro (by omega) ?_; (try intro _); conv => whnf) | (refine And.intro ?_ (by omega); (try intro _); conv => whnf) | (refine And.intro (by (conv => whnf); (repeat (refine And.intro (by (conv => whnf); first | rfl | exact trivial) ?_; conv => whnf)); exact trivial) ?_; conv => whnf) | (refine ⟨_, RemV.nonneg (by omega) (by omega), ?_⟩; conv => whnf))
          try refine goS_run tab 1000 _ _ _ _ ?_
          conv => whnf
          repeat (first | (refine And.intro (by omega) ?_; (try intro _); conv => whnf) | (refine And.intro ?_ (by omega); (try intro _); conv => whnf) | (refine ⟨_, RemV.nonneg (by omega) (by omega), ?_⟩; conv => whnf))
          refine And.intro (fun _ => ?_) (fun hn => absurd (b2 ▸ ⟨rfl, rfl, rfl⟩) hn)
          conv => whnf
          try refine goR_run tab _ _ _ _ _ _ ?_
          conv => whnf
          repeat (first | (refine And.intro (by omega) ?_; (try intro _); conv => whnf) | (refine And.intro ?_ (by omega); (try intro _); conv => whnf) | (refine And.intro (by (conv => whnf); (repeat (refine And.intro (by (conv => whnf); first | rfl | exact trivial) ?_; conv => whnf)); exact trivial) ?_; conv => whnf) | (refine ⟨_, RemV.nonneg (by omega) (by omega), ?_⟩; conv => whnf))
          try refine goS_run tab 1000 _ _ _ _ ?_
          conv => whnf
          repeat (first | (refine And.intro (by omega) ?_; (try intro _); conv => whnf) | (refine And.intro ?_ (by omega); (try intro _); conv => whnf) | (refine ⟨_, RemV.nonneg (by omega) (by omega), ?_⟩; conv => whnf))
          refine RunsS.subR [] (back (k + 1) ?BJ5 ?BM5) ?SS5 ?HH5
          case BJ5 => (try dsimp only); first | omega | trivial
          case BM5 => (try dsimp only); omega
          case SS5 => repeat (first | exact trivial | refine ⟨by rfl, ?_⟩)
          case HH5 => repeat (first | exact trivial | refine ⟨by rfl, ?_⟩)
        · conv => whnf
          repeat (first | (refine And.intro (by omega) ?_; (try intro _); conv => whnf) | (refine And.intro ?_ (by omega); (try intro _); conv => whnf) | (refine ⟨_, RemV.nonneg (by omega) (by omega), ?_⟩; conv => whnf))
          obtain ⟨b1, b2, m, hmk, m1, m2, m3⟩ := x3.made hk e0
          have b3 := hix x[k] (List.getElem_mem hk)
          have hsz := hf.2
          obtain ⟨q, q1, q2, q3, q4⟩ := x3.sc (k := 25) (by omega) (by omega) x[m] (List.getElem_mem _)
          have mm : mulR x[m].scale (newR x[k].n x[k].d).1 = ((mulR x[m].scale (newR x[k].n x[k].d).1).1, 0) := by
            have := mulR_new (n := x[k].n) (d := x[k].d) q2 q3 (by omega) b1 b2
            rw [← q1] at this
            rw [← this]
          have nm : newR x[k].n x[k].d = ((newR x[k].n x[k].d).1, 0) := by rw [newR_ok (by omega)]
          have hnd : (x.map Un.name).Nodup := x3.names ▸ x2
          refine RunsS.sliceTo tab (b := 1) (rows := rowsU x) (n := (k : Int)) ?_ ⟨by omega, by omega⟩
          try refine goS_run tab 1000 _ _ _ _ ?_
          conv => whnf
          repeat (first | (refine And.intro (by omega) ?_; (try intro _); conv => whnf) | (refine And.intro ?_ (by omega); (try intro _); conv => whnf) | (refine ⟨_, RemV.nonneg (by omega) (by omega), ?_⟩; conv => whnf))
          have htl : ((rowsU x).take ((k : Int)).toNat).length = k := by rw [List.length_take, hxr, Int.toNat_natCast]; omega
          have backO := back
          refine RunsS.subR [] (RunsS.loop (fun (⟨j, b⟩ : Nat × Bool) => [(124, .v (.int .i64 j)), (123, .v (.int .i64 ((rowsU x).take ((k : Int)).toNat).length)), (122, .buf 3), (9, .v (.bool b)), (8, .ptr 2 0), (7, .v (.int .i64 k)), (64, .v (.int .i64 k)), (63, .v (.int .i64 (rowsU x).length)), (62, .buf 1), (3, .buf 1), (0, .buf 0)]) (fun (⟨j, b⟩ : Nat × Bool) => [(3, .ro 8 ((rowsU x).take ((k : Int)).toNat)), unB 2 (x[k]'hk), (1, .ro 8 (rowsU x)), (0, .ro 8 (rowsU l))]) 4 (fun (⟨j, b⟩ : Nat × Bool) => j ≤ k ∧ b = Nat.ble (m + 1) j) (fun (⟨j, b⟩ : Nat × Bool) => k - j) ?round6 ((0, false)) ?J06) ?SS6 ?HH6
          case J06 => exact (⟨Nat.zero_le _, rfl⟩)
          case SS6 => repeat (first | exact trivial | refine ⟨by rfl, ?_⟩)
          case HH6 => repeat (first | exact trivial | refine ⟨by rfl, ?_⟩)
          rintro ⟨j, b⟩ hJ back
          try dsimp only at hJ back
          conv => whnf
          try dsimp only
          refine goS_run tab 1000 _ _ _ _ ?_
          conv => whnf
          repeat (first | (refine And.intro (by omega) ?_; (try intro _); conv => whnf) | (refine And.intro ?_ (by omega); (try intro _); conv => whnf) | (refine ⟨_, RemV.nonneg (by omega) (by omega), ?_⟩; conv => whnf))
          refine ⟨fun hj => ?_, fun hj => ?_⟩ <;> conv => whnf
          · have hj : j < k := by omega
            have hjx : j < x.length := by omega
            conv => whnf
            repeat (first | (refine And.intro (by omega) ?_; (try intro _); conv => whnf) | (refine And.intro ?_ (by omega); (try intro _); conv => whnf) | (refine ⟨_, RemV.nonneg (by omega) (by omega), ?_⟩; conv => whnf))
            refine ⟨_, rowsU_tget (k := k) hj hjx, ?_⟩
            conv => whnf
            try (refine And.intro (by first | omega | exact Nat.le_of_ble_eq_true rfl) ?_; conv => whnf)
            repeat (first | (refine And.intro (by omega) ?_; (try intro _); conv => whnf) | (refine And.intro ?_ (by omega); (try intro _); conv => whnf) | (refine ⟨_, RemV.nonneg (by omega) (by omega), ?_⟩; conv => whnf))
            by_cases hne : x[j].name = x[k].of_
            · have hjm : j = m := nodup_inj hnd hjx (by omega) (hne.trans m1.symm)
              subst hjm
              refine And.intro (fun _ => ?_) (fun hn => absurd (hne) hn)
              conv => whnf
              try refine goS_run tab 1000 _ _ _ _ ?_
              conv => whnf
              repeat (first | (refine And.intro (by omega) ?_; (try intro _); conv => whnf) | (refine And.intro ?_ (by omega); (try intro _); conv => whnf) | (refine ⟨_, RemV.nonneg (by omega) (by omega), ?_⟩; conv => whnf))
              refine RunsS.callV (fun Ez Hz Az Sz K => qNew_fn x[k].n x[k].d b3.1 b3.2 (tabOk.at hT' K).1) ?_
              conv => whnf
              rw [nm]
              try dsimp only
              try refine goS_run tab 1000 _ _ _ _ ?_
              conv => whnf
              repeat (first | (refine And.intro (by omega) ?_; (try intro _); conv => whnf) | (refine And.intro ?_ (by omega); (try intro _); conv => whnf) | (refine ⟨_, RemV.nonneg (by omega) (by omega), ?_⟩; conv => whnf))
              refine RunsS.callV (fun Ez Hz Az Sz K => qMul_fn x[j].scale (newR x[k].n x[k].d).1 (tabOk.at hT' K).1) ?_
              conv => whnf
              rw [mm]
              try dsimp only
              try refine goS_run tab 1000 _ _ _ _ ?_
              conv => whnf
              repeat (first | (refine And.intro (by omega) ?_; (try intro _); conv => whnf) | (refine And.intro ?_ (by omega); (try intro _); conv => whnf) | (refine ⟨_, RemV.nonneg (by omega) (by omega), ?_⟩; conv => whnf))
              rw [dec_t (⟨congrArg Rt.neg m3, congrArg Rt.n m3, congrArg Rt.d m3⟩ : x[k].scale.neg = ((mulR x[j].scale (newR x[k].n x[k].d).1).1, (0 : Int)).1.neg ∧ x[k].scale.n = ((mulR x[j].scale (newR x[k].n x[k].d).1).1, (0 : Int)).1.n ∧ x[k].scale.d = ((mulR x[j].scale (newR x[k].n x[k].d).1).1, (0 : Int)).1.d)]
              refine RunsS.subR [] (back ((j + 1, true)) ?BJ7 ?BM7) ?SS7 ?HH7
              case BJ7 => exact (⟨hj, (Nat.ble_eq_true_of_le (Nat.le_refl _)).symm⟩)
              case BM7 => (try dsimp only); omega
              case SS7 => repeat (first | exact trivial | refine ⟨by rfl, ?_⟩)
              case HH7 => repeat (first | exact trivial | refine ⟨by rfl, ?_⟩)
            · have hjm : j ≠ m := fun e => hne (by subst e; exact m1)
              refine And.intro (fun hp => absurd hp (hne)) (fun _ => ?_)
              conv => whnf
              try refine goS_run tab 1000 _ _ _ _ ?_
              conv => whnf
              repeat (first | (refine And.intro (by omega) ?_; (try intro _); conv => whnf) | (refine And.intro ?_ (by omega); (try intro _); conv => whnf) | (refine ⟨_, RemV.nonneg (by omega) (by omega), ?_⟩; conv => whnf))
              refine RunsS.subR [] (back ((j + 1, b)) ?BJ8 ?BM8) ?SS8 ?HH8
              case BJ8 => exact (⟨hj, by rw [hJ.2]; exact ble_skip hjm⟩)
              case BM8 => (try dsimp only); omega
              case SS8 => repeat (first | exact trivial | refine ⟨by rfl, ?_⟩)
              case HH8 => repeat (first | exact trivial | refine ⟨by rfl, ?_⟩)
          · have hj : j = k := by omega
            have hb : b = true := by rw [hJ.2, hj]; exact Nat.ble_eq_true_of_le hmk
            subst hb
            have back := backO
            conv => whnf
            repeat (first | (refine And.intro (by omega) ?_; (try intro _); conv => whnf) | (refine And.intro ?_ (by omega); (try intro _); conv => whnf) | (refine ⟨_, RemV.nonneg (by omega) (by omega), ?_⟩; conv => whnf))
            refine RunsS.subR [] (back (k + 1) ?BJ9 ?BM9) ?SS9 ?HH9
            case BJ9 => (try dsimp only); first | omega | trivial
            case BM9 => (try dsimp only); omega
            case SS9 => repeat (first | exact trivial | refine ⟨by rfl, ?_⟩)
            case HH9 => repeat (first | exact trivial | refine ⟨by rfl, ?_⟩)
      · conv => whnf
        repeat (first | (refine And.intro (by omega) ?_; (try intro _); conv => whnf) | (refine And.intro ?_ (by omega); (try intro _); conv => whnf) | (refine ⟨_, RemV.nonneg (by omega) (by omega), ?_⟩; conv => whnf))
        refine RunsS.retU (UnwS.ret tab Tryd.func3 rfl fun Ez Hz Az Sz K => ⟨_, rfl, rfl, (conv Hz K).keeps⟩)
  · refine RunsS.callV (fun Ez Hz Az Sz K => ufew_fn l (Sz.ro (b := 0) rfl)) ?_
    conv => whnf
    rw [decide_eq_false hf]
    try dsimp only
    try refine goS_run tab 1000 _ _ _ _ ?_
    conv => whnf
    repeat (first | (refine And.intro (by omega) ?_; (try intro _); conv => whnf) | (refine And.intro ?_ (by omega); (try intro _); conv => whnf) | (refine ⟨_, RemV.nonneg (by omega) (by omega), ?_⟩; conv => whnf))
    refine RunsS.retU (UnwS.ret tab Tryd.func3 rfl fun Ez Hz Az Sz K => ⟨_, rfl, rfl, K.keeps⟩)
end Go.Proofs.YtgnciigjhpcdmaaDoor

namespace Go.Fw
open Go Go.RowKit Go.WideShapes Go.ChangeShapes

/-- what is read of a type's cells: single cells of these kinds -/
structure FlatP (P : Program) (t : TypeId) (ks : List Sc) : Prop where
  at' : ∀ {H : Type} (enc : TypeId × Value → H) (w : World) (base : Nat) (sp : Nat → Bool) (held : Bool) (fuel : Nat) (cs : List Value) (x : DataW H × List MemPlace),
  DataW.trod enc P w base sp held fuel t cs = some x → cs.length = ks.length ∧ ∀ (i : Nat) (k : Sc) (v : Value), ks[i]? = some k → cs[i]? = some v → k.ok v
theorem FlatP.sc {P : Program} {t : TypeId} {k : Sc} (ht : P.underlying t = some k.und) : FlatP P t [k] := ⟨fun enc w base sp held fuel cs x h => by
  obtain ⟨v, rfl, hv⟩ := trod_sc ht h
  refine ⟨rfl, fun i k' v' h1 h2 => ?_⟩
  cases i with
  | zero => cases h1; cases h2; exact hv
  | succ i => simp at h1⟩
/-- a struct: for each of its cells the field that holds it -/
theorem FlatP.struct {P : Program} {t : TypeId} {fs : Array Field} {ks : List Sc} (ht : P.underlying t = some (.struct fs)) (hc : P.cellsOf t = ks.length)
    (hf : ∀ j, j < ks.length → ∃ (i : Nat) (f : Field) (kf : List Sc), fs[i]? = some f ∧ FlatP P f.type kf ∧ P.cellsOf f.type = kf.length ∧ f.offset ≤ j ∧ j - f.offset < kf.length ∧ kf[j - f.offset]? = ks[j]?) : FlatP P t ks := ⟨fun enc w base sp held fuel cs x h => by
  obtain ⟨xs, n, _, rfl, hl, hlen, hx⟩ := DataW.trod_struct ht h
  rw [hc] at hl
  refine ⟨hl, fun j k v hk hv => ?_⟩
  have hj := (List.getElem?_eq_some_iff.1 hk).1
  obtain ⟨i, f, kf, e1, e2, e3, e4, e5, e6⟩ := hf j hj
  have g := hx i f e1
  have hi : i < xs.length := by
    rw [hlen]
    exact (Array.getElem?_eq_some_iff.1 e1).1
  rw [List.getElem?_eq_getElem hi] at g
  obtain ⟨_, g2⟩ := e2.at' enc w base sp held _ _ _ g
  refine g2 (j - f.offset) k v (by rw [e6]; exact hk) ?_
  rw [List.getElem?_take_of_lt (by rw [e3]; exact e5), List.getElem?_drop, show f.offset + (j - f.offset) = j by omega]
  exact hv⟩
section
variable {H : Type} {enc : TypeId × Value → H} {P : Program} {w : World} {base : Nat} {sp : Nat → Bool} {held : Bool}
/-- an argument that is such a struct -/
theorem open_flat {t : TypeId} {fs : Array Field} {ks : List Sc} (ht : P.underlying t = some (.struct fs)) (B : FlatP P t ks) {r : Reach} {b0 : Nat} {v : Value} {d : DataW H} {ps : List MemPlace} (hval : Value.okWide P w r b0 t v) (hd : DataW.Trod enc P w base sp held t v d ps) :
    ∃ cs : List Value, v = .agg cs.toArray ∧ cs.length = ks.length ∧ ∀ (i : Nat) (k : Sc) (v : Value), ks[i]? = some k → cs[i]? = some v → k.ok v := by
  obtain ⟨cs, rfl, _⟩ := okWide_struct ht hval
  obtain ⟨fuel, hf⟩ := hd
  obtain ⟨h1, h2⟩ := B.at' _ _ _ _ _ _ _ _ hf
  exact ⟨cs.toList, by simp, h1, h2⟩
end
end Go.Fw

namespace Go.Proofs.YtgnciigjhpcdmaaDoor
open Go Go.Fw Go.ChangeShapes Go.WideShapes Go.ChangeAt Go.RowKit

theorem own : ownKnob Tryd.prog.godebug = none := by kernel_rfl
theorem gTab : Tryd.prog.globalNamed "math/bits.deBruijn64tab" = some 2 := by kernel_rfl
theorem gTabType : (Tryd.prog.globals[2]?).map (·.type) = some 110 := by kernel_rfl
theorem cellsTab : Tryd.prog.cellsOf 110 = 64 := by kernel_rfl
theorem cellsByte : Tryd.prog.cellsOf 5 = 1 := by kernel_rfl

theorem table {W : World} (h : laidMetH Tryd.prog [("math/bits.deBruijn64tab", Rows.laid_math_bits_deBruijn64tab)] W) : TabH W.heap := by
  have h1 : Lib.TabIs Tryd.prog W "math/bits.deBruijn64tab" .u8 (Go.Lib.deBruijn64tab.map fun (x : Nat) => (x : Int)) :=
    Lib.tabIs_of_head (rest := []) gTab gTabType Tryd.underlying110 Tryd.underlying5 cellsByte cellsTab h
  intro j hj
  have h2 := cellH_of (h1.cell gTab j (by simpa [Go.Lib.deBruijn64tab] using hj))
  have hl : j < Go.Lib.deBruijn64tab.length := by simpa [Go.Lib.deBruijn64tab] using hj
  have hd : (Go.Lib.deBruijn64tab.map fun (x : Nat) => (x : Int)).getD j 0 = ((Go.Lib.deBruijn64tab.getD j 0 : Nat) : Int) := by
    simp [List.getD_eq_getElem?_getD, List.getElem?_map, List.getElem?_eq_getElem hl]
  rw [hd] at h2
  exact h2

/-- The settled world, the table holding what its initialiser lays. -/
noncomputable def laidWorld (os : Os) : World :=
  { World.holding Tryd.prog os ⟨#[], #[], []⟩ with heap := (World.holding Tryd.prog os ⟨#[], #[], []⟩).heap.modify 2 fun
      | .cells _ t frozen => .cells (Go.Lib.deBruijn64tab.map fun (x : Nat) => Value.int .u8 (x : Int)).toArray t frozen
      | o => o }
end Go.Proofs.YtgnciigjhpcdmaaDoor

namespace Go.Fw
open Go Go.ChangeShapes Go.ChangeMaps Go.WideShapes Go.RowKit
section
variable {H : Type} {enc : TypeId × Value → H} {P : Program} {w : World} {base : Nat} {sp : Nat → Bool} {held : Bool} {t : TypeId} {f0 f1 f2 : Field}

/-- the type of such a struct -/
structure Bss (P : Program) (t : TypeId) (f0 f1 f2 : Field) : Prop where
  ht : P.underlying t = some (.struct #[f0, f1, f2])
  h0 : P.underlying f0.type = some .bool
  h1 : P.underlying f1.type = some .string
  h2 : P.underlying f2.type = some .string
  hc : P.cellsOf t = 3
  c0 : P.cellsOf f0.type = 1
  c1 : P.cellsOf f1.type = 1
  c2 : P.cellsOf f2.type = 1
  o0 : f0.offset = 0
  o1 : f1.offset = 1
  o2 : f2.offset = 2

theorem trod_bss (B : Bss P t f0 f1 f2) {fuel : Nat} {cs : List Value} {x : DataW H × List MemPlace} (h : DataW.trod enc P w base sp held fuel t cs = some x) :
    ∃ b s u, cs = [.bool b, .string s, .string u] ∧ x = (.agg [.lit (.bool b), .lit (.string s.data.toList), .lit (.string u.data.toList)], []) ∧ s.size ≤ maxLen ∧ u.size ≤ maxLen := by
  obtain ⟨xs, n, _, rfl, hl, hlen, hf⟩ := DataW.trod_struct B.ht h
  rw [B.hc] at hl
  match xs, hlen with
  | [y0, y1, y2], _ =>
    have g0 := hf 0 f0 rfl
    have g1 := hf 1 f1 rfl
    have g2 := hf 2 f2 rfl
    rw [B.c0, B.o0] at g0
    rw [B.c1, B.o1] at g1
    rw [B.c2, B.o2] at g2
    match cs, hl with
    | [a0, a1, a2], _ =>
      obtain ⟨b, e0, q0⟩ := DataW.trod_bool B.h0 g0
      obtain ⟨s, e1, q1, m1⟩ := DataW.trod_string B.h1 g1
      obtain ⟨u, e2, q2, m2⟩ := DataW.trod_string B.h2 g2
      simp at e0 e1 e2
      subst e0 e1 e2
      refine ⟨b, s, u, rfl, ?_, m1, m2⟩
      have r0 : y0 = (.lit (.bool b), []) := by simpa using q0
      have r1 : y1 = (.lit (.string s.data.toList), []) := by simpa using q1
      have r2 : y2 = (.lit (.string u.data.toList), []) := by simpa using q2
      subst r0 r1 r2
      simp

theorem trod_bss_mk (B : Bss P t f0 f1 f2) (m : Nat) (b : Bool) {s u : ByteArray} (hs : s.size ≤ maxLen) (hu : u.size ≤ maxLen) :
    DataW.trod enc P w base sp held (m + 2) t [.bool b, .string s, .string u] = some (.agg [.lit (.bool b), .lit (.string s.data.toList), .lit (.string u.data.toList)], []) := by
  have h := trod_struct_mk (enc := enc) (w := w) (base := base) (spare := sp) (held := held) (n := m + 1) (cs := [.bool b, .string s, .string u])
    (xs := [(.lit (.bool b), []), (.lit (.string s.data.toList), []), (.lit (.string u.data.toList), [])]) B.ht (by rw [B.hc]; rfl) (by
      simp [B.c0, B.c1, B.c2, B.o0, B.o1, B.o2, DataW.trod, B.h0, B.h1, B.h2, hs, hu])
  simpa using h

theorem open_bss (B : Bss P t f0 f1 f2) {r : Reach} {b0 : Nat} {v : Value} {d : DataW H} {ps : List MemPlace} (hval : Value.okWide P w r b0 t v) (hd : DataW.Trod enc P w base sp held t v d ps) :
    ∃ b s u, v = .agg #[.bool b, .string s, .string u] ∧ d = .agg [.lit (.bool b), .lit (.string s.data.toList), .lit (.string u.data.toList)] ∧ ps = [] ∧ s.size ≤ maxLen ∧ u.size ≤ maxLen := by
  obtain ⟨cs, rfl, _⟩ := okWide_struct B.ht hval
  obtain ⟨fuel, hf⟩ := hd
  obtain ⟨b, s, u, h1, h2, h3, h4⟩ := trod_bss B hf
  simp only [Prod.mk.injEq] at h2
  refine ⟨b, s, u, ?_, h2.1, h2.2, h3, h4⟩
  have : cs.toList = [.bool b, .string s, .string u] := h1
  rw [show cs = cs.toList.toArray by simp, this]

theorem shut_bss (B : Bss P t f0 f1 f2) (b : Bool) {s u : ByteArray} (hs : s.size ≤ maxLen) (hu : u.size ≤ maxLen) :
    DataW.Trod enc P w base sp held t (.agg #[.bool b, .string s, .string u]) (.agg [.lit (.bool b), .lit (.string s.data.toList), .lit (.string u.data.toList)]) [] :=
  ⟨2, trod_bss_mk B 0 b hs hu⟩
end
end Go.Fw

namespace Go.Proofs.YtgnciigjhpcdmaaDoor
open Go Go.Fw Go.ChangeShapes Go.WideShapes Go.ChangeAt Go.RowKit

theorem ratioB : ∃ f0 f1 f2, Bss Tryd.prog 31 f0 f1 f2 :=
  ⟨_, _, _, { ht := Tryd.underlying31, h0 := Tryd.underlying4, h1 := Tryd.underlying9, h2 := Tryd.underlying9, hc := by kernel_rfl, c0 := by kernel_rfl, c1 := by kernel_rfl, c2 := by kernel_rfl, o0 := rfl, o1 := rfl, o2 := rfl }⟩
theorem int32_wf {n : Int} (h : (Lit.int .i32 n).wf = true) : -2147483648 ≤ n ∧ n ≤ 2147483647 := by
  have h1 : IntKind.i32.min ≤ n ∧ n ≤ IntKind.i32.max := by simpa [Lit.wf] using h
  have e : IntKind.i32.min = -2147483648 := rfl
  have e2 : IntKind.i32.max = 2147483647 := rfl
  omega
end Go.Proofs.YtgnciigjhpcdmaaDoor

namespace Go.Proofs.YtgnciigjhpcdmaaDoor
open Go Go.Fw Go.RatM Go.ChangeShapes Go.WideShapes Go.ChangeAt Go.RowKit
set_option maxRecDepth 100000

theorem laidOut : laidOutB Tryd.prog = true := by kernel_rfl
theorem ratioF : FlatP Tryd.prog 31 [.b, .s, .s] :=
  FlatP.struct Tryd.underlying31 (by kernel_rfl) fun j hj => match j, hj with
    | 0, _ => ⟨0, _, [.b], rfl, FlatP.sc Tryd.underlying4, by kernel_rfl, by decide, by decide, rfl⟩
    | 1, _ => ⟨1, _, [.s], rfl, FlatP.sc Tryd.underlying9, by kernel_rfl, by decide, by decide, rfl⟩
    | 2, _ => ⟨2, _, [.s], rfl, FlatP.sc Tryd.underlying9, by kernel_rfl, by decide, by decide, rfl⟩
theorem unitF : FlatP Tryd.prog 33 [.s, .s, .i .i64, .i .i64, .i .i64, .b, .s, .s] :=
  FlatP.struct Tryd.underlying33 (by kernel_rfl) fun j hj => match j, hj with
    | 0, _ => ⟨0, _, [.s], rfl, FlatP.sc Tryd.underlying9, by kernel_rfl, by decide, by decide, rfl⟩
    | 1, _ => ⟨1, _, [.s], rfl, FlatP.sc Tryd.underlying9, by kernel_rfl, by decide, by decide, rfl⟩
    | 2, _ => ⟨2, _, [.i .i64], rfl, FlatP.sc Tryd.underlying3, by kernel_rfl, by decide, by decide, rfl⟩
    | 3, _ => ⟨3, _, [.i .i64], rfl, FlatP.sc Tryd.underlying3, by kernel_rfl, by decide, by decide, rfl⟩
    | 4, _ => ⟨4, _, [.i .i64], rfl, FlatP.sc Tryd.underlying3, by kernel_rfl, by decide, by decide, rfl⟩
    | 5, _ => ⟨5, _, [.b, .s, .s], rfl, ratioF, by kernel_rfl, by decide, by decide, rfl⟩
    | 6, _ => ⟨5, _, [.b, .s, .s], rfl, ratioF, by kernel_rfl, by decide, by decide, rfl⟩
    | 7, _ => ⟨5, _, [.b, .s, .s], rfl, ratioF, by kernel_rfl, by decide, by decide, rfl⟩
theorem int_wf' {n : Int} (h : (Lit.int .i64 n).wf = true) : -9223372036854775808 ≤ n ∧ n ≤ 9223372036854775807 := by
  have h1 : IntKind.i64.min ≤ n ∧ n ≤ 9223372036854775807 := by simpa [Lit.wf] using h
  have e : IntKind.i64.min = -9223372036854775808 := rfl
  omega
def UnOk1 (u : Un) : Prop := (-9223372036854775808 ≤ u.n ∧ u.n ≤ 9223372036854775807) ∧ (-9223372036854775808 ≤ u.d ∧ u.d ≤ 9223372036854775807)
theorem unit_row {cs : List Value} (h1 : cs.length = 8) (h2 : ∀ (i : Nat) (k : Sc) (v : Value), [Sc.s, .s, .i .i64, .i .i64, .i .i64, .b, .s, .s][i]? = some k → cs[i]? = some v → k.ok v) : ∃ u : Un, cs = u.row ∧ UnOk1 u := by
  match cs, h1 with
  | [a, b, c, d, e, f, g, i], _ =>
    obtain ⟨a, rfl, _⟩ := h2 0 _ a rfl rfl
    obtain ⟨b, rfl, _⟩ := h2 1 _ b rfl rfl
    obtain ⟨c, rfl, m1⟩ := h2 2 _ c rfl rfl
    obtain ⟨d, rfl, m2⟩ := h2 3 _ d rfl rfl
    obtain ⟨e, rfl, _⟩ := h2 4 _ e rfl rfl
    obtain ⟨f, rfl⟩ := h2 5 _ f rfl rfl
    obtain ⟨g, rfl, _⟩ := h2 6 _ g rfl rfl
    obtain ⟨i, rfl, _⟩ := h2 7 _ i rfl rfl
    exact ⟨⟨a, b, c, d, e, ⟨f, g, i⟩⟩, rfl, int_wf' m1, int_wf' m2⟩
section
variable {H : Type} {enc : TypeId × Value → H} {W : World} {v : Value} {d : DataW H} {ps : List MemPlace} {rr : Reach} {b0 : Nat}
theorem open_units (hval : Value.okWide Tryd.prog W rr b0 22 v) (hd : DataW.Trod enc Tryd.prog W 0 (fun _ => true) true 22 v d ps) : ∃ l : List Un, Ro W.heap v 8 (rowsU l) ∧ UnOk l := by
  obtain ⟨l, hl⟩ := open_rows (α := { u : Un // UnOk1 u }) (t := 22) (e := 33) (fun u => u.1.row) Tryd.underlying22 (sz := 8) (by kernel_rfl) (by decide) (fun a => ⟨rfl, fun u hu => by
    simp only [Un.row, List.mem_cons, List.not_mem_nil, or_false] at hu
    rcases hu with rfl | rfl | rfl | rfl | rfl | rfl | rfl | rfl <;> rfl⟩) hval (fun fuel cs x hx => by
      obtain ⟨h1, h2⟩ := unitF.at' _ _ _ _ _ _ _ _ hx
      obtain ⟨u, e, hu⟩ := unit_row h1 h2
      exact ⟨⟨u, hu⟩, e⟩) hd
  refine ⟨l.map Subtype.val, ?_, fun u hu => ?_⟩
  · have : rowsU (l.map Subtype.val) = l.map fun u => u.1.row := by simp [rowsU]
    rw [this]; exact hl
  · obtain ⟨a, _, rfl⟩ := List.mem_map.1 hu
    exact a.2
theorem open_unit {base : Nat} {sp : Nat → Bool} {held : Bool} (hval : Value.okWide Tryd.prog W rr b0 33 v) (hd : DataW.Trod enc Tryd.prog W base sp held 33 v d ps) : ∃ u : Un, v = u.v ∧ UnOk1 u := by
  obtain ⟨cs, rfl, h1, h2⟩ := open_flat Tryd.underlying33 unitF hval hd
  obtain ⟨u, rfl, hu⟩ := unit_row h1 h2
  exact ⟨u, rfl, hu⟩
end
end Go.Proofs.YtgnciigjhpcdmaaDoor
