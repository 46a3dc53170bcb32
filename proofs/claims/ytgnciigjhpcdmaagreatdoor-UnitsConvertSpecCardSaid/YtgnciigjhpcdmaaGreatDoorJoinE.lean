/- Texts of this seat, joined: Package ratios: New. Package ratios: Compare. Package ratios: whole, Floor, Ceil, Sum. Package ratios: Sum. The reference of package ratios. The statements about layer 7: their helpers. The statements about layer 7: the chapter's examples. The reference of package ratios: amount, New, whole, Floor, Ceil, Sum. Rows whose arguments are only read: the law returns true; slices opened as rows of cells. Rows whose arguments are flat structs, or slices of such. Package units: what it computes; plain. Package units: between, twins, what is meant by a name. Package units: what is found, twins, the number that is meant. Package units: the number that is meant; equality of lists. Package units: fold, with Mul. Package units: what resolved units are; plain. Package units: Resolve. Package units: Resolve's two ways; equality of lists. Package units: Convert. The statements about layer 9: few, same, resolved. The statements about layer 9: the chapter's examples. The statement UnitsResolved. The reference of layer 9: find, fits, Resolve. -/
import Derived.Test.YtgnciigjhpcdmaaGreatDoorJoinD
import Derived.Deep.Slices
import Derived.WideKeyArgs
import Derived.OpenShut
import Derived.WideShapes
import Derived.ChangeArms
set_option linter.unusedVariables false
set_option linter.unusedSimpArgs false
namespace Go.Proofs.YtgnciigjhpcdmaaGreatDoor
open Go Go.Fw Go.NatM Go.RatM
set_option maxRecDepth 100000
set_option maxHeartbeats 16000000

theorem newDN {h : Array Obj} {p q : Value} : FnD Tryz.prog 33 #[p, q] .returning h fun e u' h' => e = .returned (tup []) ∧ u' = .returning ∧ h' = h := by
  refine FnD.of (args := [p, q]) Tryz.func33 (by kernel_rfl) rfl Tryz.ntmps33 rfl fun w0 c0 cs => ?_
  refine go_run tab 1000 _ _ ?_
  conv => whnf
  refine Runs.recoverN ?_
  try refine go_run tab 1000 _ _ ?_
  conv => whnf
  refine Runs.eff (eff_neNil Tryz.underlying20) ?_
  rintro _ h ⟨rfl, rfl⟩
  try refine go_run tab 1000 _ _ ?_
  conv => whnf
  exact Runs.finU (Unw.retD tab Tryz.func33 (vs := []) trivial ⟨rfl, rfl, rfl⟩)

theorem newDP {h : Array Obj} {B b6 b7 : Nat} {cs6 cs7 : Array Value} {e7 : TypeId} (A6 : At h b6 cs6 31) (h6 : cs6.size = 3) (A7 : At h b7 cs7 e7) (h7 : cs7.size = 1) (hne : b6 ≠ b7) (hB6 : B ≤ b6) (hB7 : B ≤ b7) :
    FnD Tryz.prog 33 #[.pointer (some ⟨b6, 0, none⟩), .pointer (some ⟨b7, 0, none⟩)] (.panicking lim) h fun e u' h' =>
      e = .returned (tup []) ∧ u' = .panicking limR ∧ At h' b6 zcells 31 ∧ At h' b7 #[.int .i64 2] e7 ∧ Keeps B h h' := by
  refine FnD.of (args := [.pointer (some ⟨b6, 0, none⟩), .pointer (some ⟨b7, 0, none⟩)]) Tryz.func33 (by kernel_rfl) rfl Tryz.ntmps33 rfl fun w0 c0 cs => ?_
  refine go_run tab 1000 _ _ ?_
  conv => whnf
  refine Runs.recoverP ?_
  try refine go_run tab 1000 _ _ ?_
  conv => whnf
  refine Runs.eff (eff_buildA built_zero) ?_
  rintro _ h ⟨rfl, rfl⟩
  try refine go_run tab 1000 _ _ ?_
  conv => whnf
  refine Runs.callV (reason_fn) ?_
  rintro _ h1 ⟨rfl, k1⟩
  try refine go_run tab 1000 _ _ ?_
  conv => whnf
  have B6 := k1.at A6 A6.lt
  have B7 := k1.at A7 A7.lt
  have l6 := A6.lt
  have l7 := A7.lt
  refine Runs.eff (eff_storeS tab B6 (us := zcells) (hlt := h6)) ?_
  rintro _ h2 P2
  try refine go_run tab 1000 _ _ ?_
  conv => whnf
  have C7 := P2.at B7 (Ne.symm hne)
  obtain ⟨v7, hv7⟩ : ∃ v7, cs7 = #[v7] := by
    obtain ⟨l⟩ := cs7
    match l, h7 with
    | [v], _ => exact ⟨v, rfl⟩
  subst hv7
  refine Runs.eff (eff_storeB tab C7) ?_
  rintro _ h3 P3
  try refine go_run tab 1000 _ _ ?_
  conv => whnf
  refine Runs.finU (Unw.retD tab Tryz.func33 (vs := []) trivial ⟨rfl, rfl, P3.at P2.blk hne, P3.blk, ?_⟩)
  exact ((k1.mono (by omega)).trans (P2.keeps.mono hB6)).trans (P3.keeps.mono hB7)

theorem qNew_fn {h : Array Obj} (n d : Int) (hn : -9223372036854775808 ≤ n ∧ n ≤ 9223372036854775807) (hd : -9223372036854775808 ≤ d ∧ d ≤ 9223372036854775807) (hT : TabH h) :
    FnV Tryz.prog 17 #[.int .i64 n, .int .i64 d] h fun r h' => r = rev (newR n d) ∧ Keeps h.size h h' := by
  have fit1 : ∀ V : Nat, V ≤ 9223372036854775808 → nb V ≤ 8 := fun V hV => nb_le (by have : (256 : Nat) ^ 8 = 18446744073709551616 := by decide
                                                                                     omega)
  refine Fn.of (args := [.int .i64 n, .int .i64 d]) Tryz.func17 (by kernel_rfl) rfl Tryz.ntmps17 rfl fun w0 cs => ?_
  refine go_run tab 1000 _ _ ?_
  conv => whnf
  refine Runs.eff (eff_allocN tab) ?_
  rintro _ h1 ⟨rfl, N1⟩
  try refine go_run tab 1000 _ _ ?_
  conv => whnf
  refine Runs.eff (eff_allocN tab) ?_
  rintro _ h2 ⟨rfl, N2⟩
  try refine go_run tab 1000 _ _ ?_
  conv => whnf
  have s1 := N1.size
  have s2 := N2.size
  have A1 := N2.at N1.blk
  have A2 := N2.blk
  have k2 := N1.keeps.trans (N2.keeps.mono (by omega))
  refine ⟨fun z => ?_, fun z => ?_⟩ <;> conv => whnf
  · conv => whnf
    refine Runs.eff (eff_buildA built_zero) ?_
    rintro _ h2 ⟨rfl, rfl⟩
    try refine go_run tab 1000 _ _ ?_
    conv => whnf
    refine Runs.eff (eff_storeS tab (us := zcells) A1) ?_
    rintro _ h3 P3
    try refine go_run tab 1000 _ _ ?_
    conv => whnf
    refine Runs.eff (eff_storeB tab (P3.at A2 (by omega))) ?_
    rintro _ h4 P4
    try refine go_run tab 1000 _ _ ?_
    conv => whnf
    refine Runs.retA tab Tryz.func17 (vs := [.agg zcells, .int .i64 71]) (⟨⟨_, _, rfl, .inr ⟨_, _, rfl, rfl, rfl, cellsH_of_at (P4.at P3.blk (by omega)), rfl⟩⟩, ⟨_, _, rfl, .inl ⟨rfl, by rw [P4.blk.cell]; rfl⟩⟩, trivial⟩) ?_
    exact ⟨_, rfl, by unfold newR; rw [if_pos z]; rfl, (k2.trans (P3.keeps.mono (by omega))).trans (P4.keeps.mono (by omega))⟩
  · try refine go_run tab 1000 _ _ ?_
    conv => whnf
    refine Runs.deferU ?_
    try refine go_run tab 1000 _ _ ?_
    conv => whnf
    refine Runs.callV (amount_fn n hn) ?_
    rintro _ h3 ⟨rfl, k3⟩
    have q3 := k3.size
    try refine go_run tab 1000 _ _ ?_
    conv => whnf
    refine Runs.callV (amount_fn d hd) ?_
    rintro _ h4 ⟨rfl, k4⟩
    have q4 := k4.size
    have kk4 := k3.trans (k4.mono (by omega))
    try refine go_run tab 1000 _ _ ?_
    conv => whnf
    refine Runs.eff (eff_buildA (built_number _ _ _)) ?_
    rintro _ h4 ⟨rfl, rfl⟩
    try refine go_run tab 1000 _ _ ?_
    conv => whnf
    have f1 := fit1 n.natAbs (by omega)
    have f2 := fit1 d.natAbs (by omega)
    have hl : FnV Tryz.prog 36 #[.agg #[.bool (!(decide (n < 0) == decide (d < 0))), .string (enc n.natAbs), .string (enc d.natAbs)]] h4 fun r h' => r = nv (newQ n d) ∧ Keeps h4.size h4 h' :=
      lowest_fn ⟨decide (n < 0) != decide (d < 0), n.natAbs, d.natAbs⟩ (by show d.natAbs ≠ 0; omega) (by show nb n.natAbs ≤ 256; omega) (by show nb d.natAbs ≤ 256; omega) ((hT.keeps k2).keeps kk4)
    refine Runs.callV (hl) ?_
    rintro _ h5 ⟨rfl, k5⟩
    have q5 := k5.size
    have kk5 := kk4.trans (k5.mono (by omega))
    try refine go_run tab 1000 _ _ ?_
    conv => whnf
    refine Runs.eff (eff_storeS tab (us := #[.bool (newQ n d).neg, .string (enc (newQ n d).n), .string (enc (newQ n d).d)]) (kk5.at A1 A1.lt)) ?_
    rintro _ h6 P6
    try refine go_run tab 1000 _ _ ?_
    conv => whnf
    refine Runs.eff (eff_storeB tab (P6.at (kk5.at A2 A2.lt) (by omega))) ?_
    rintro _ h7 P7
    try refine go_run tab 1000 _ _ ?_
    conv => whnf
    refine Runs.retU ?_
    refine Unw.defer (args := #[]) newDN (by simp) (fun _ _ hh => by cases hh.1) ?_ (fun _ _ _ hh => by cases hh.1)
    rintro v u' h12 ⟨_, rfl, rfl⟩
    show Unw _ _ .returning _ _
    exact Unw.retA tab Tryz.func17 (vs := [.agg #[.bool (newQ n d).neg, .string (enc (newQ n d).n), .string (enc (newQ n d).d)], .int .i64 0]) ⟨⟨_, _, rfl, .inr ⟨_, _, rfl, rfl, rfl, cellsH_of_at (P7.at P6.blk (by omega)), rfl⟩⟩, ⟨_, _, rfl, .inl ⟨rfl, by rw [P7.blk.cell]; rfl⟩⟩, trivial⟩ ⟨_, rfl, by rw [newR_ok z]; rfl, ((k2.trans (kk5.mono (by omega))).trans (P6.keeps.mono (by omega))).trans (P7.keeps.mono (by omega))⟩
end Go.Proofs.YtgnciigjhpcdmaaGreatDoor

namespace Go.Proofs.YtgnciigjhpcdmaaGreatDoor
open Go Go.Fw Go.NatM Go.RatM
set_option maxRecDepth 100000
set_option maxHeartbeats 16000000

def iev2 (p : Int × Int) : Value := .tuple #[.int .i64 p.1, .int .i64 p.2]
end Go.Proofs.YtgnciigjhpcdmaaGreatDoor

namespace Go.Proofs.YtgnciigjhpcdmaaGreatDoor
open Go Go.Fw Go.NatM Go.RatM
set_option maxRecDepth 100000
set_option maxHeartbeats 16000000

end Go.Proofs.YtgnciigjhpcdmaaGreatDoor

namespace Go.Proofs.YtgnciigjhpcdmaaGreatDoor
open Go Go.Fw Go.NatM Go.RatM
set_option maxRecDepth 100000
set_option maxHeartbeats 16000000

/-- a ratio's cells -/
def rcells (a : Rt) : List Value := [.bool a.neg, .string a.n, .string a.d]
def rowsR (l : List Rt) : List (List Value) := l.map rcells

theorem rowsR_len (l : List Rt) : (rowsR l).length = l.length := by simp [rowsR]
theorem rowsR_get {l : List Rt} {k : Nat} (hk : k < l.length) : (rowsR l)[((k : Int)).toNat]? = some (rcells l[k]) := by simp [rowsR, hk]

theorem all_take {α : Type} {p : α → Prop} {l : List α} {k : Nat} (hk : k < l.length) (h : ∀ a ∈ l.take k, p a) (hp : p l[k]) : ∀ a ∈ l.take (k + 1), p a := fun a ha => by
  rw [List.take_add_one, List.getElem?_eq_getElem hk] at ha
  simp only [Option.toList, List.mem_append, List.mem_singleton] at ha
  rcases ha with ha | ha
  · exact h a ha
  · rw [ha]; exact hp

end Go.Proofs.YtgnciigjhpcdmaaGreatDoor

namespace Go.Proofs.YtgnciigjhpcdmaaGreatDoor
open Go Go.Fw Go.NatM Go.RatM
set_option maxRecDepth 100000
set_option maxHeartbeats 16000000

theorem kp {P : Program} {f : FuncId} {args : Array Value} {h : Array Obj} {X : Value} (H : FnV P f args h fun r h' => r = X ∧ h' = h) : FnV P f args h fun r h' => r = X ∧ Keeps h.size h h' :=
  H.mono fun _ _ ⟨e, hk⟩ => ⟨e, hk ▸ Keeps.refl _ _⟩

theorem okR_parts {s : Bool} {n d : ByteArray} (e1 : chk [n] = 0) (e2 : chk [d] = 0) : (natv d = 0 ↔ d = ⟨#[]⟩) ∧ (natv n = 0 ↔ n = ⟨#[]⟩) ∧ gcdS n d = (enc (Nat.gcd (natv n) (natv d)), 0) := by
  have c1 := chk_zero e1 (s := n) (by simp)
  have c2 := chk_zero e2 (s := d) (by simp)
  have z : ∀ {x : ByteArray}, Canon x → (natv x = 0 ↔ x = ⟨#[]⟩) := fun {x} hx => ⟨fun e => Classical.byContradiction fun hne => natv_ne hx (fun e => hne (size_mt.2 e)) e, fun e => by rw [e]; rfl⟩
  refine ⟨z c2.1, z c1.1, ?_⟩
  have := gcd_e (A := natv n) (C := natv d) (by rw [nb_natv c1.1]; exact c1.2) (by rw [nb_natv c2.1]; exact c2.2)
  rw [enc_natv c1.1, enc_natv c2.1] at this
  exact this
theorem enc_one_iff {k : Nat} : (enc k = ⟨#[1]⟩) ↔ k = 1 := by rw [← enc_one, enc_eq]

theorem rqCheck_fn {h : Array Obj} (a : Rt) : FnV Tryz.prog 40 #[a.v] h fun r h' => r = .int .i64 (chkR a) ∧ Keeps h.size h h' := by
  obtain ⟨s, n, d⟩ := a
  obtain ⟨r, hr⟩ : ∃ r, r = chkR ⟨s, n, d⟩ := ⟨_, rfl⟩
  rw [← hr]
  unfold chkR at hr
  refine Fn.ofS (args := [.agg #[.bool s, .string n, .string d]]) Tryz.func40 (by kernel_rfl) rfl Tryz.ntmps40 rfl fun w0 cs => ?_
  conv => whnf
  refine goS_run tab 1000 _ _ _ _ ?_
  conv => whnf
  repeat (first | (refine And.intro (by omega) ?_; (try intro _); conv => whnf) | (refine And.intro ?_ (by omega); (try intro _); conv => whnf) | (refine ⟨_, RemV.nonneg (by omega) (by omega), ?_⟩; conv => whnf))
  refine RunsS.callV (fun Ez Hz Az Sz K => kp (rCheck_fn n)) ?_
  conv => whnf
  try refine goS_run tab 1000 _ _ _ _ ?_
  conv => whnf
  repeat (first | (refine And.intro (by omega) ?_; (try intro _); conv => whnf) | (refine And.intro ?_ (by omega); (try intro _); conv => whnf) | (refine ⟨_, RemV.nonneg (by omega) (by omega), ?_⟩; conv => whnf))
  refine ⟨fun e1 => ?_, fun e1 => ?_⟩ <;> conv => whnf
  rotate_left
  · conv => whnf
    repeat (first | (refine And.intro (by omega) ?_; (try intro _); conv => whnf) | (refine And.intro ?_ (by omega); (try intro _); conv => whnf) | (refine ⟨_, RemV.nonneg (by omega) (by omega), ?_⟩; conv => whnf))
    rw [if_neg (fun o => e1 o.1)] at hr
    subst hr
    refine RunsS.retU (UnwS.ret tab Tryz.func40 rfl fun Ez Hz Az Sz K => ⟨_, rfl, rfl, K.keeps⟩)
  · conv => whnf
    repeat (first | (refine And.intro (by omega) ?_; (try intro _); conv => whnf) | (refine And.intro ?_ (by omega); (try intro _); conv => whnf) | (refine ⟨_, RemV.nonneg (by omega) (by omega), ?_⟩; conv => whnf))
    refine RunsS.callV (fun Ez Hz Az Sz K => kp (rCheck_fn d)) ?_
    conv => whnf
    try refine goS_run tab 1000 _ _ _ _ ?_
    conv => whnf
    repeat (first | (refine And.intro (by omega) ?_; (try intro _); conv => whnf) | (refine And.intro ?_ (by omega); (try intro _); conv => whnf) | (refine ⟨_, RemV.nonneg (by omega) (by omega), ?_⟩; conv => whnf))
    refine ⟨fun e2 => ?_, fun e2 => ?_⟩ <;> conv => whnf
    rotate_left
    · conv => whnf
      repeat (first | (refine And.intro (by omega) ?_; (try intro _); conv => whnf) | (refine And.intro ?_ (by omega); (try intro _); conv => whnf) | (refine ⟨_, RemV.nonneg (by omega) (by omega), ?_⟩; conv => whnf))
      rw [if_neg (fun o => e2 o.2.1)] at hr
      subst hr
      refine RunsS.retU (UnwS.ret tab Tryz.func40 rfl fun Ez Hz Az Sz K => ⟨_, rfl, rfl, K.keeps⟩)
    · conv => whnf
      repeat (first | (refine And.intro (by omega) ?_; (try intro _); conv => whnf) | (refine And.intro ?_ (by omega); (try intro _); conv => whnf) | (refine ⟨_, RemV.nonneg (by omega) (by omega), ?_⟩; conv => whnf))
      obtain ⟨zd, zn, eg⟩ := okR_parts (s := s) e1 e2
      refine ⟨fun e3 => ?_, fun e3 => ?_⟩ <;> conv => whnf
      · conv => whnf
        repeat (first | (refine And.intro (by omega) ?_; (try intro _); conv => whnf) | (refine And.intro ?_ (by omega); (try intro _); conv => whnf) | (refine ⟨_, RemV.nonneg (by omega) (by omega), ?_⟩; conv => whnf))
        rw [if_neg (fun o => o.2.2.1 (zd.2 e3))] at hr
        subst hr
        refine RunsS.retU (UnwS.ret tab Tryz.func40 rfl fun Ez Hz Az Sz K => ⟨_, rfl, rfl, K.keeps⟩)
      · cases s
        · conv => whnf
          repeat (first | (refine And.intro (by omega) ?_; (try intro _); conv => whnf) | (refine And.intro ?_ (by omega); (try intro _); conv => whnf) | (refine ⟨_, RemV.nonneg (by omega) (by omega), ?_⟩; conv => whnf))
          refine RunsS.callV (fun Ez Hz Az Sz K => rGcd_fn n d) ?_
          conv => whnf
          rw [eg]
          try dsimp only
          try refine goS_run tab 1000 _ _ _ _ ?_
          conv => whnf
          repeat (first | (refine And.intro (by omega) ?_; (try intro _); conv => whnf) | (refine And.intro ?_ (by omega); (try intro _); conv => whnf) | (refine ⟨_, RemV.nonneg (by omega) (by omega), ?_⟩; conv => whnf))
          refine ⟨fun e4 => ?_, fun e4 => ?_⟩ <;> conv => whnf
          rotate_left
          · conv => whnf
            repeat (first | (refine And.intro (by omega) ?_; (try intro _); conv => whnf) | (refine And.intro ?_ (by omega); (try intro _); conv => whnf) | (refine ⟨_, RemV.nonneg (by omega) (by omega), ?_⟩; conv => whnf))
            rw [if_neg (fun o => e4 (enc_one_iff.2 o.2.2.2.1))] at hr
            subst hr
            refine RunsS.retU (UnwS.ret tab Tryz.func40 rfl fun Ez Hz Az Sz K => ⟨_, rfl, rfl, K.keeps⟩)
          · conv => whnf
            repeat (first | (refine And.intro (by omega) ?_; (try intro _); conv => whnf) | (refine And.intro ?_ (by omega); (try intro _); conv => whnf) | (refine ⟨_, RemV.nonneg (by omega) (by omega), ?_⟩; conv => whnf))
            rw [if_pos ⟨e1, e2, fun e => e3 (zd.1 e), enc_one_iff.1 e4, fun o => by cases o.1⟩] at hr
            subst hr
            refine RunsS.retU (UnwS.ret tab Tryz.func40 rfl fun Ez Hz Az Sz K => ⟨_, rfl, rfl, K.keeps⟩)
        · conv => whnf
          repeat (first | (refine And.intro (by omega) ?_; (try intro _); conv => whnf) | (refine And.intro ?_ (by omega); (try intro _); conv => whnf) | (refine ⟨_, RemV.nonneg (by omega) (by omega), ?_⟩; conv => whnf))
          refine ⟨fun e5 => ?_, fun e5 => ?_⟩ <;> conv => whnf
          · conv => whnf
            repeat (first | (refine And.intro (by omega) ?_; (try intro _); conv => whnf) | (refine And.intro ?_ (by omega); (try intro _); conv => whnf) | (refine ⟨_, RemV.nonneg (by omega) (by omega), ?_⟩; conv => whnf))
            rw [if_neg (fun o => o.2.2.2.2 ⟨rfl, zn.2 e5⟩)] at hr
            subst hr
            refine RunsS.retU (UnwS.ret tab Tryz.func40 rfl fun Ez Hz Az Sz K => ⟨_, rfl, rfl, K.keeps⟩)
          · conv => whnf
            repeat (first | (refine And.intro (by omega) ?_; (try intro _); conv => whnf) | (refine And.intro ?_ (by omega); (try intro _); conv => whnf) | (refine ⟨_, RemV.nonneg (by omega) (by omega), ?_⟩; conv => whnf))
            refine RunsS.callV (fun Ez Hz Az Sz K => rGcd_fn n d) ?_
            conv => whnf
            rw [eg]
            try dsimp only
            try refine goS_run tab 1000 _ _ _ _ ?_
            conv => whnf
            repeat (first | (refine And.intro (by omega) ?_; (try intro _); conv => whnf) | (refine And.intro ?_ (by omega); (try intro _); conv => whnf) | (refine ⟨_, RemV.nonneg (by omega) (by omega), ?_⟩; conv => whnf))
            refine ⟨fun e4 => ?_, fun e4 => ?_⟩ <;> conv => whnf
            rotate_left
            · conv => whnf
              repeat (first | (refine And.intro (by omega) ?_; (try intro _); conv => whnf) | (refine And.intro ?_ (by omega); (try intro _); conv => whnf) | (refine ⟨_, RemV.nonneg (by omega) (by omega), ?_⟩; conv => whnf))
              rw [if_neg (fun o => e4 (enc_one_iff.2 o.2.2.2.1))] at hr
              subst hr
              refine RunsS.retU (UnwS.ret tab Tryz.func40 rfl fun Ez Hz Az Sz K => ⟨_, rfl, rfl, K.keeps⟩)
            · conv => whnf
              repeat (first | (refine And.intro (by omega) ?_; (try intro _); conv => whnf) | (refine And.intro ?_ (by omega); (try intro _); conv => whnf) | (refine ⟨_, RemV.nonneg (by omega) (by omega), ?_⟩; conv => whnf))
              rw [if_pos ⟨e1, e2, fun e => e3 (zd.1 e), enc_one_iff.1 e4, fun o => e5 (zn.1 o.2)⟩] at hr
              subst hr
              refine RunsS.retU (UnwS.ret tab Tryz.func40 rfl fun Ez Hz Az Sz K => ⟨_, rfl, rfl, K.keeps⟩)

theorem rqlowest_fn {h : Array Obj} (s : Bool) {n d : Nat} (hd : d ≠ 0) (fn : nb n ≤ 256) (fd : nb d ≤ 256) : FnV Tryz.prog 38 #[.bool s, .string (enc n), .string (enc d)] h fun r h' => r = (encQ (low s n d)).v ∧ Keeps h.size h h' := by
  refine Fn.ofS (args := [.bool s, .string (enc n), .string (enc d)]) Tryz.func38 (by kernel_rfl) rfl Tryz.ntmps38 rfl fun w0 cs => ?_
  conv => whnf
  refine goS_run tab 1000 _ _ _ _ ?_
  conv => whnf
  repeat (first | (refine And.intro (by omega) ?_; (try intro _); conv => whnf) | (refine And.intro ?_ (by omega); (try intro _); conv => whnf) | (refine ⟨_, RemV.nonneg (by omega) (by omega), ?_⟩; conv => whnf))
  have hg : 0 < Nat.gcd n d := Nat.gcd_pos_of_pos_right _ (Nat.pos_of_ne_zero hd)
  have fg : nb (Nat.gcd n d) ≤ 256 := Nat.le_trans (nb_mono (Nat.gcd_le_right _ (Nat.pos_of_ne_zero hd))) fd
  refine ⟨fun e1 => ?_, fun e1 => ?_⟩ <;> conv => whnf
  · have e1 : n = 0 := enc_mt.1 e1
    subst e1
    conv => whnf
    repeat (first | (refine And.intro (by omega) ?_; (try intro _); conv => whnf) | (refine And.intro ?_ (by omega); (try intro _); conv => whnf) | (refine ⟨_, RemV.nonneg (by omega) (by omega), ?_⟩; conv => whnf))
    refine RunsS.retU (UnwS.ret tab Tryz.func38 rfl fun Ez Hz Az Sz K => ⟨_, rfl, ?_, K.keeps⟩)
    have : low s 0 d = ⟨false, 0, 1⟩ := by simp [low, Nat.div_self (Nat.pos_of_ne_zero hd)]
    rw [this]
    show Value.agg #[.bool false, .string ⟨#[]⟩, .string ⟨#[1]⟩] = (encQ ⟨false, 0, 1⟩).v
    rw [← enc_one]; rfl
  · have e1 : n ≠ 0 := fun e => e1 (by rw [e]; rfl)
    conv => whnf
    repeat (first | (refine And.intro (by omega) ?_; (try intro _); conv => whnf) | (refine And.intro ?_ (by omega); (try intro _); conv => whnf) | (refine ⟨_, RemV.nonneg (by omega) (by omega), ?_⟩; conv => whnf))
    refine RunsS.callV (fun Ez Hz Az Sz K => rGcd_fn (enc n) (enc d)) ?_
    conv => whnf
    rw [gcd_e fn fd]
    try dsimp only
    try refine goS_run tab 1000 _ _ _ _ ?_
    conv => whnf
    repeat (first | (refine And.intro (by omega) ?_; (try intro _); conv => whnf) | (refine And.intro ?_ (by omega); (try intro _); conv => whnf) | (refine ⟨_, RemV.nonneg (by omega) (by omega), ?_⟩; conv => whnf))
    refine RunsS.callV (fun Ez Hz Az Sz K => rDiv_fn (enc n) (enc (Nat.gcd n d))) ?_
    conv => whnf
    rw [div_e fn fg, if_neg (Nat.ne_of_gt hg)]
    try dsimp only
    try refine goS_run tab 1000 _ _ _ _ ?_
    conv => whnf
    repeat (first | (refine And.intro (by omega) ?_; (try intro _); conv => whnf) | (refine And.intro ?_ (by omega); (try intro _); conv => whnf) | (refine ⟨_, RemV.nonneg (by omega) (by omega), ?_⟩; conv => whnf))
    refine RunsS.callV (fun Ez Hz Az Sz K => rDiv_fn (enc d) (enc (Nat.gcd n d))) ?_
    conv => whnf
    rw [div_e fd fg, if_neg (Nat.ne_of_gt hg)]
    try dsimp only
    try refine goS_run tab 1000 _ _ _ _ ?_
    conv => whnf
    repeat (first | (refine And.intro (by omega) ?_; (try intro _); conv => whnf) | (refine And.intro ?_ (by omega); (try intro _); conv => whnf) | (refine ⟨_, RemV.nonneg (by omega) (by omega), ?_⟩; conv => whnf))
    refine RunsS.retU (UnwS.ret tab Tryz.func38 rfl fun Ez Hz Az Sz K => ⟨_, rfl, ?_, K.keeps⟩)
    show Value.agg #[.bool s, .string (enc (n / Nat.gcd n d)), .string (enc (d / Nat.gcd n d))] = (encQ ⟨s && !Nat.beq n 0, n / Nat.gcd n d, d / Nat.gcd n d⟩).v
    rw [beq0 e1, Bool.not_false, Bool.and_true]; rfl

theorem rqMul_fn {h : Array Obj} (a b : Rt) : FnV Tryz.prog 27 #[a.v, b.v] h fun r h' => r = rev (mulR a b) ∧ Keeps h.size h h' := by
  obtain ⟨r, hr⟩ : ∃ r, r = mulR a b := ⟨_, rfl⟩
  rw [← hr]
  obtain ⟨s, n, d⟩ := a
  obtain ⟨t, m, e⟩ := b
  unfold mulR opR at hr
  refine Fn.ofS (args := [.agg #[.bool s, .string n, .string d], .agg #[.bool t, .string m, .string e]]) Tryz.func27 (by kernel_rfl) rfl Tryz.ntmps27 rfl fun w0 cs => ?_
  conv => whnf
  refine goS_run tab 1000 _ _ _ _ ?_
  conv => whnf
  repeat (first | (refine And.intro (by omega) ?_; (try intro _); conv => whnf) | (refine And.intro ?_ (by omega); (try intro _); conv => whnf) | (refine ⟨_, RemV.nonneg (by omega) (by omega), ?_⟩; conv => whnf))
  refine RunsS.callV (fun Ez Hz Az Sz K => rqCheck_fn ⟨s, n, d⟩) ?_
  conv => whnf
  try refine goS_run tab 1000 _ _ _ _ ?_
  conv => whnf
  repeat (first | (refine And.intro (by omega) ?_; (try intro _); conv => whnf) | (refine And.intro ?_ (by omega); (try intro _); conv => whnf) | (refine ⟨_, RemV.nonneg (by omega) (by omega), ?_⟩; conv => whnf))
  refine ⟨fun o1 => ?_, fun o1 => ?_⟩ <;> conv => whnf
  rotate_left
  · conv => whnf
    repeat (first | (refine And.intro (by omega) ?_; (try intro _); conv => whnf) | (refine And.intro ?_ (by omega); (try intro _); conv => whnf) | (refine ⟨_, RemV.nonneg (by omega) (by omega), ?_⟩; conv => whnf))
    rw [if_neg (fun o => o1 (chkR_zero.2 o.1))] at hr
    subst hr
    refine RunsS.retU (UnwS.ret tab Tryz.func27 rfl fun Ez Hz Az Sz K => ⟨_, rfl, rfl, K.keeps⟩)
  · conv => whnf
    repeat (first | (refine And.intro (by omega) ?_; (try intro _); conv => whnf) | (refine And.intro ?_ (by omega); (try intro _); conv => whnf) | (refine ⟨_, RemV.nonneg (by omega) (by omega), ?_⟩; conv => whnf))
    refine RunsS.callV (fun Ez Hz Az Sz K => rqCheck_fn ⟨t, m, e⟩) ?_
    conv => whnf
    try refine goS_run tab 1000 _ _ _ _ ?_
    conv => whnf
    repeat (first | (refine And.intro (by omega) ?_; (try intro _); conv => whnf) | (refine And.intro ?_ (by omega); (try intro _); conv => whnf) | (refine ⟨_, RemV.nonneg (by omega) (by omega), ?_⟩; conv => whnf))
    refine ⟨fun o2 => ?_, fun o2 => ?_⟩ <;> conv => whnf
    rotate_left
    · conv => whnf
      repeat (first | (refine And.intro (by omega) ?_; (try intro _); conv => whnf) | (refine And.intro ?_ (by omega); (try intro _); conv => whnf) | (refine ⟨_, RemV.nonneg (by omega) (by omega), ?_⟩; conv => whnf))
      rw [if_neg (fun o => o2 (chkR_zero.2 o.2))] at hr
      subst hr
      refine RunsS.retU (UnwS.ret tab Tryz.func27 rfl fun Ez Hz Az Sz K => ⟨_, rfl, rfl, K.keeps⟩)
    · rw [if_pos ⟨chkR_zero.1 o1, chkR_zero.1 o2⟩] at hr
      obtain ⟨⟨s, N, D⟩, ea, oka, la⟩ := okR_of (chkR_zero.1 o1)
      obtain ⟨⟨t, M, E⟩, eb, okb, lb⟩ := okR_of (chkR_zero.1 o2)
      rw [ea, eb, dec_enc, dec_enc] at hr
      cases ea
      cases eb
      unfold mulL at hr
      dsimp only at hr
      have hde : D * E ≠ 0 := Nat.mul_ne_zero oka.1 okb.1
      by_cases f1 : fits (N * M) <;> by_cases f2 : fits (D * E)
      · rw [if_pos ⟨f1, f2⟩] at hr
        subst hr
        conv => whnf
        repeat (first | (refine And.intro (by omega) ?_; (try intro _); conv => whnf) | (refine And.intro ?_ (by omega); (try intro _); conv => whnf) | (refine ⟨_, RemV.nonneg (by omega) (by omega), ?_⟩; conv => whnf))
        refine RunsS.callV (fun Ez Hz Az Sz K => rMul_fn (enc N) (enc M)) ?_
        conv => whnf
        rw [mul_e la.1 lb.1, short_e f1]
        try dsimp only
        try refine goS_run tab 1000 _ _ _ _ ?_
        conv => whnf
        repeat (first | (refine And.intro (by omega) ?_; (try intro _); conv => whnf) | (refine And.intro ?_ (by omega); (try intro _); conv => whnf) | (refine ⟨_, RemV.nonneg (by omega) (by omega), ?_⟩; conv => whnf))
        refine RunsS.callV (fun Ez Hz Az Sz K => rMul_fn (enc D) (enc E)) ?_
        conv => whnf
        rw [mul_e la.2 lb.2, short_e f2]
        try dsimp only
        try refine goS_run tab 1000 _ _ _ _ ?_
        conv => whnf
        repeat (first | (refine And.intro (by omega) ?_; (try intro _); conv => whnf) | (refine And.intro ?_ (by omega); (try intro _); conv => whnf) | (refine ⟨_, RemV.nonneg (by omega) (by omega), ?_⟩; conv => whnf))
        cases s <;> cases t
        all_goals
          conv => whnf
          repeat (first | (refine And.intro (by omega) ?_; (try intro _); conv => whnf) | (refine And.intro ?_ (by omega); (try intro _); conv => whnf) | (refine ⟨_, RemV.nonneg (by omega) (by omega), ?_⟩; conv => whnf))
          refine RunsS.callV (fun Ez Hz Az Sz K => rqlowest_fn _ hde f1 f2) ?_
          conv => whnf
          try refine goS_run tab 1000 _ _ _ _ ?_
          conv => whnf
          repeat (first | (refine And.intro (by omega) ?_; (try intro _); conv => whnf) | (refine And.intro ?_ (by omega); (try intro _); conv => whnf) | (refine ⟨_, RemV.nonneg (by omega) (by omega), ?_⟩; conv => whnf))
          refine RunsS.retU (UnwS.ret tab Tryz.func27 rfl fun Ez Hz Az Sz K => ⟨_, rfl, rfl, K.keeps⟩)
      · rw [if_neg (fun o => f2 o.2)] at hr
        subst hr
        conv => whnf
        repeat (first | (refine And.intro (by omega) ?_; (try intro _); conv => whnf) | (refine And.intro ?_ (by omega); (try intro _); conv => whnf) | (refine ⟨_, RemV.nonneg (by omega) (by omega), ?_⟩; conv => whnf))
        refine RunsS.callV (fun Ez Hz Az Sz K => rMul_fn (enc N) (enc M)) ?_
        conv => whnf
        rw [mul_e la.1 lb.1, short_e f1]
        try dsimp only
        try refine goS_run tab 1000 _ _ _ _ ?_
        conv => whnf
        repeat (first | (refine And.intro (by omega) ?_; (try intro _); conv => whnf) | (refine And.intro ?_ (by omega); (try intro _); conv => whnf) | (refine ⟨_, RemV.nonneg (by omega) (by omega), ?_⟩; conv => whnf))
        refine RunsS.callV (fun Ez Hz Az Sz K => rMul_fn (enc D) (enc E)) ?_
        conv => whnf
        rw [mul_e la.2 lb.2, short_big f2]
        try dsimp only
        try refine goS_run tab 1000 _ _ _ _ ?_
        conv => whnf
        repeat (first | (refine And.intro (by omega) ?_; (try intro _); conv => whnf) | (refine And.intro ?_ (by omega); (try intro _); conv => whnf) | (refine ⟨_, RemV.nonneg (by omega) (by omega), ?_⟩; conv => whnf))
        refine RunsS.retU (UnwS.ret tab Tryz.func27 rfl fun Ez Hz Az Sz K => ⟨_, rfl, rfl, K.keeps⟩)
      · rw [if_neg (fun o => f1 o.1)] at hr
        subst hr
        conv => whnf
        repeat (first | (refine And.intro (by omega) ?_; (try intro _); conv => whnf) | (refine And.intro ?_ (by omega); (try intro _); conv => whnf) | (refine ⟨_, RemV.nonneg (by omega) (by omega), ?_⟩; conv => whnf))
        refine RunsS.callV (fun Ez Hz Az Sz K => rMul_fn (enc N) (enc M)) ?_
        conv => whnf
        rw [mul_e la.1 lb.1, short_big f1]
        try dsimp only
        try refine goS_run tab 1000 _ _ _ _ ?_
        conv => whnf
        repeat (first | (refine And.intro (by omega) ?_; (try intro _); conv => whnf) | (refine And.intro ?_ (by omega); (try intro _); conv => whnf) | (refine ⟨_, RemV.nonneg (by omega) (by omega), ?_⟩; conv => whnf))
        refine RunsS.callV (fun Ez Hz Az Sz K => rMul_fn (enc D) (enc E)) ?_
        conv => whnf
        rw [mul_e la.2 lb.2, short_e f2]
        try dsimp only
        try refine goS_run tab 1000 _ _ _ _ ?_
        conv => whnf
        repeat (first | (refine And.intro (by omega) ?_; (try intro _); conv => whnf) | (refine And.intro ?_ (by omega); (try intro _); conv => whnf) | (refine ⟨_, RemV.nonneg (by omega) (by omega), ?_⟩; conv => whnf))
        refine RunsS.retU (UnwS.ret tab Tryz.func27 rfl fun Ez Hz Az Sz K => ⟨_, rfl, rfl, K.keeps⟩)
      · rw [if_neg (fun o => f1 o.1)] at hr
        subst hr
        conv => whnf
        repeat (first | (refine And.intro (by omega) ?_; (try intro _); conv => whnf) | (refine And.intro ?_ (by omega); (try intro _); conv => whnf) | (refine ⟨_, RemV.nonneg (by omega) (by omega), ?_⟩; conv => whnf))
        refine RunsS.callV (fun Ez Hz Az Sz K => rMul_fn (enc N) (enc M)) ?_
        conv => whnf
        rw [mul_e la.1 lb.1, short_big f1]
        try dsimp only
        try refine goS_run tab 1000 _ _ _ _ ?_
        conv => whnf
        repeat (first | (refine And.intro (by omega) ?_; (try intro _); conv => whnf) | (refine And.intro ?_ (by omega); (try intro _); conv => whnf) | (refine ⟨_, RemV.nonneg (by omega) (by omega), ?_⟩; conv => whnf))
        refine RunsS.callV (fun Ez Hz Az Sz K => rMul_fn (enc D) (enc E)) ?_
        conv => whnf
        rw [mul_e la.2 lb.2, short_big f2]
        try dsimp only
        try refine goS_run tab 1000 _ _ _ _ ?_
        conv => whnf
        repeat (first | (refine And.intro (by omega) ?_; (try intro _); conv => whnf) | (refine And.intro ?_ (by omega); (try intro _); conv => whnf) | (refine ⟨_, RemV.nonneg (by omega) (by omega), ?_⟩; conv => whnf))
        refine RunsS.retU (UnwS.ret tab Tryz.func27 rfl fun Ez Hz Az Sz K => ⟨_, rfl, rfl, K.keeps⟩)

theorem rqDiv_fn {h : Array Obj} (a b : Rt) : FnV Tryz.prog 30 #[a.v, b.v] h fun r h' => r = rev (divR a b) ∧ Keeps h.size h h' := by
  obtain ⟨r, hr⟩ : ∃ r, r = divR a b := ⟨_, rfl⟩
  rw [← hr]
  obtain ⟨s, n, d⟩ := a
  obtain ⟨t, m, e⟩ := b
  unfold divR at hr
  refine Fn.ofS (args := [.agg #[.bool s, .string n, .string d], .agg #[.bool t, .string m, .string e]]) Tryz.func30 (by kernel_rfl) rfl Tryz.ntmps30 rfl fun w0 cs => ?_
  conv => whnf
  refine goS_run tab 1000 _ _ _ _ ?_
  conv => whnf
  repeat (first | (refine And.intro (by omega) ?_; (try intro _); conv => whnf) | (refine And.intro ?_ (by omega); (try intro _); conv => whnf) | (refine ⟨_, RemV.nonneg (by omega) (by omega), ?_⟩; conv => whnf))
  refine RunsS.callV (fun Ez Hz Az Sz K => rqCheck_fn ⟨s, n, d⟩) ?_
  conv => whnf
  try refine goS_run tab 1000 _ _ _ _ ?_
  conv => whnf
  repeat (first | (refine And.intro (by omega) ?_; (try intro _); conv => whnf) | (refine And.intro ?_ (by omega); (try intro _); conv => whnf) | (refine ⟨_, RemV.nonneg (by omega) (by omega), ?_⟩; conv => whnf))
  refine ⟨fun o1 => ?_, fun o1 => ?_⟩ <;> conv => whnf
  rotate_left
  · conv => whnf
    repeat (first | (refine And.intro (by omega) ?_; (try intro _); conv => whnf) | (refine And.intro ?_ (by omega); (try intro _); conv => whnf) | (refine ⟨_, RemV.nonneg (by omega) (by omega), ?_⟩; conv => whnf))
    rw [if_neg (fun o => o1 (chkR_zero.2 o.1))] at hr
    subst hr
    refine RunsS.retU (UnwS.ret tab Tryz.func30 rfl fun Ez Hz Az Sz K => ⟨_, rfl, rfl, K.keeps⟩)
  · conv => whnf
    repeat (first | (refine And.intro (by omega) ?_; (try intro _); conv => whnf) | (refine And.intro ?_ (by omega); (try intro _); conv => whnf) | (refine ⟨_, RemV.nonneg (by omega) (by omega), ?_⟩; conv => whnf))
    refine RunsS.callV (fun Ez Hz Az Sz K => rqCheck_fn ⟨t, m, e⟩) ?_
    conv => whnf
    try refine goS_run tab 1000 _ _ _ _ ?_
    conv => whnf
    repeat (first | (refine And.intro (by omega) ?_; (try intro _); conv => whnf) | (refine And.intro ?_ (by omega); (try intro _); conv => whnf) | (refine ⟨_, RemV.nonneg (by omega) (by omega), ?_⟩; conv => whnf))
    refine ⟨fun o2 => ?_, fun o2 => ?_⟩ <;> conv => whnf
    rotate_left
    · conv => whnf
      repeat (first | (refine And.intro (by omega) ?_; (try intro _); conv => whnf) | (refine And.intro ?_ (by omega); (try intro _); conv => whnf) | (refine ⟨_, RemV.nonneg (by omega) (by omega), ?_⟩; conv => whnf))
      rw [if_neg (fun o => o2 (chkR_zero.2 o.2))] at hr
      subst hr
      refine RunsS.retU (UnwS.ret tab Tryz.func30 rfl fun Ez Hz Az Sz K => ⟨_, rfl, rfl, K.keeps⟩)
    · rw [if_pos ⟨chkR_zero.1 o1, chkR_zero.1 o2⟩] at hr
      obtain ⟨⟨s, N, D⟩, ea, oka, la⟩ := okR_of (chkR_zero.1 o1)
      obtain ⟨⟨t, M, E⟩, eb, okb, lb⟩ := okR_of (chkR_zero.1 o2)
      rw [ea, eb, dec_enc, dec_enc] at hr
      cases ea
      cases eb
      unfold mulL invQ at hr
      simp only [encQ, natv_enc] at hr
      conv => whnf
      repeat (first | (refine And.intro (by omega) ?_; (try intro _); conv => whnf) | (refine And.intro ?_ (by omega); (try intro _); conv => whnf) | (refine ⟨_, RemV.nonneg (by omega) (by omega), ?_⟩; conv => whnf))
      refine ⟨fun hm => ?_, fun hm => ?_⟩ <;> conv => whnf
      · rw [if_pos (enc_mt.1 hm)] at hr
        subst hr
        conv => whnf
        repeat (first | (refine And.intro (by omega) ?_; (try intro _); conv => whnf) | (refine And.intro ?_ (by omega); (try intro _); conv => whnf) | (refine ⟨_, RemV.nonneg (by omega) (by omega), ?_⟩; conv => whnf))
        refine RunsS.retU (UnwS.ret tab Tryz.func30 rfl fun Ez Hz Az Sz K => ⟨_, rfl, rfl, K.keeps⟩)
      · have hM : M ≠ 0 := fun e => hm (enc_mt.2 e)
        rw [if_neg hM] at hr
        have hde : D * M ≠ 0 := Nat.mul_ne_zero oka.1 hM
        by_cases f1 : fits (N * E) <;> by_cases f2 : fits (D * M)
        · rw [if_pos ⟨f1, f2⟩] at hr
          subst hr
          conv => whnf
          repeat (first | (refine And.intro (by omega) ?_; (try intro _); conv => whnf) | (refine And.intro ?_ (by omega); (try intro _); conv => whnf) | (refine ⟨_, RemV.nonneg (by omega) (by omega), ?_⟩; conv => whnf))
          refine RunsS.callV (fun Ez Hz Az Sz K => rMul_fn (enc N) (enc E)) ?_
          conv => whnf
          rw [mul_e la.1 lb.2, short_e f1]
          try dsimp only
          try refine goS_run tab 1000 _ _ _ _ ?_
          conv => whnf
          repeat (first | (refine And.intro (by omega) ?_; (try intro _); conv => whnf) | (refine And.intro ?_ (by omega); (try intro _); conv => whnf) | (refine ⟨_, RemV.nonneg (by omega) (by omega), ?_⟩; conv => whnf))
          refine RunsS.callV (fun Ez Hz Az Sz K => rMul_fn (enc D) (enc M)) ?_
          conv => whnf
          rw [mul_e la.2 lb.1, short_e f2]
          try dsimp only
          try refine goS_run tab 1000 _ _ _ _ ?_
          conv => whnf
          repeat (first | (refine And.intro (by omega) ?_; (try intro _); conv => whnf) | (refine And.intro ?_ (by omega); (try intro _); conv => whnf) | (refine ⟨_, RemV.nonneg (by omega) (by omega), ?_⟩; conv => whnf))
          cases s <;> cases t
          all_goals
            conv => whnf
            repeat (first | (refine And.intro (by omega) ?_; (try intro _); conv => whnf) | (refine And.intro ?_ (by omega); (try intro _); conv => whnf) | (refine ⟨_, RemV.nonneg (by omega) (by omega), ?_⟩; conv => whnf))
            refine RunsS.callV (fun Ez Hz Az Sz K => rqlowest_fn _ hde f1 f2) ?_
            conv => whnf
            try refine goS_run tab 1000 _ _ _ _ ?_
            conv => whnf
            repeat (first | (refine And.intro (by omega) ?_; (try intro _); conv => whnf) | (refine And.intro ?_ (by omega); (try intro _); conv => whnf) | (refine ⟨_, RemV.nonneg (by omega) (by omega), ?_⟩; conv => whnf))
            refine RunsS.retU (UnwS.ret tab Tryz.func30 rfl fun Ez Hz Az Sz K => ⟨_, rfl, rfl, K.keeps⟩)
        · rw [if_neg (fun o => f2 o.2)] at hr
          subst hr
          conv => whnf
          repeat (first | (refine And.intro (by omega) ?_; (try intro _); conv => whnf) | (refine And.intro ?_ (by omega); (try intro _); conv => whnf) | (refine ⟨_, RemV.nonneg (by omega) (by omega), ?_⟩; conv => whnf))
          refine RunsS.callV (fun Ez Hz Az Sz K => rMul_fn (enc N) (enc E)) ?_
          conv => whnf
          rw [mul_e la.1 lb.2, short_e f1]
          try dsimp only
          try refine goS_run tab 1000 _ _ _ _ ?_
          conv => whnf
          repeat (first | (refine And.intro (by omega) ?_; (try intro _); conv => whnf) | (refine And.intro ?_ (by omega); (try intro _); conv => whnf) | (refine ⟨_, RemV.nonneg (by omega) (by omega), ?_⟩; conv => whnf))
          refine RunsS.callV (fun Ez Hz Az Sz K => rMul_fn (enc D) (enc M)) ?_
          conv => whnf
          rw [mul_e la.2 lb.1, short_big f2]
          try dsimp only
          try refine goS_run tab 1000 _ _ _ _ ?_
          conv => whnf
          repeat (first | (refine And.intro (by omega) ?_; (try intro _); conv => whnf) | (refine And.intro ?_ (by omega); (try intro _); conv => whnf) | (refine ⟨_, RemV.nonneg (by omega) (by omega), ?_⟩; conv => whnf))
          refine RunsS.retU (UnwS.ret tab Tryz.func30 rfl fun Ez Hz Az Sz K => ⟨_, rfl, rfl, K.keeps⟩)
        · rw [if_neg (fun o => f1 o.1)] at hr
          subst hr
          conv => whnf
          repeat (first | (refine And.intro (by omega) ?_; (try intro _); conv => whnf) | (refine And.intro ?_ (by omega); (try intro _); conv => whnf) | (refine ⟨_, RemV.nonneg (by omega) (by omega), ?_⟩; conv => whnf))
          refine RunsS.callV (fun Ez Hz Az Sz K => rMul_fn (enc N) (enc E)) ?_
          conv => whnf
          rw [mul_e la.1 lb.2, short_big f1]
          try dsimp only
          try refine goS_run tab 1000 _ _ _ _ ?_
          conv => whnf
          repeat (first | (refine And.intro (by omega) ?_; (try intro _); conv => whnf) | (refine And.intro ?_ (by omega); (try intro _); conv => whnf) | (refine ⟨_, RemV.nonneg (by omega) (by omega), ?_⟩; conv => whnf))
          refine RunsS.callV (fun Ez Hz Az Sz K => rMul_fn (enc D) (enc M)) ?_
          conv => whnf
          rw [mul_e la.2 lb.1, short_e f2]
          try dsimp only
          try refine goS_run tab 1000 _ _ _ _ ?_
          conv => whnf
          repeat (first | (refine And.intro (by omega) ?_; (try intro _); conv => whnf) | (refine And.intro ?_ (by omega); (try intro _); conv => whnf) | (refine ⟨_, RemV.nonneg (by omega) (by omega), ?_⟩; conv => whnf))
          refine RunsS.retU (UnwS.ret tab Tryz.func30 rfl fun Ez Hz Az Sz K => ⟨_, rfl, rfl, K.keeps⟩)
        · rw [if_neg (fun o => f1 o.1)] at hr
          subst hr
          conv => whnf
          repeat (first | (refine And.intro (by omega) ?_; (try intro _); conv => whnf) | (refine And.intro ?_ (by omega); (try intro _); conv => whnf) | (refine ⟨_, RemV.nonneg (by omega) (by omega), ?_⟩; conv => whnf))
          refine RunsS.callV (fun Ez Hz Az Sz K => rMul_fn (enc N) (enc E)) ?_
          conv => whnf
          rw [mul_e la.1 lb.2, short_big f1]
          try dsimp only
          try refine goS_run tab 1000 _ _ _ _ ?_
          conv => whnf
          repeat (first | (refine And.intro (by omega) ?_; (try intro _); conv => whnf) | (refine And.intro ?_ (by omega); (try intro _); conv => whnf) | (refine ⟨_, RemV.nonneg (by omega) (by omega), ?_⟩; conv => whnf))
          refine RunsS.callV (fun Ez Hz Az Sz K => rMul_fn (enc D) (enc M)) ?_
          conv => whnf
          rw [mul_e la.2 lb.1, short_big f2]
          try dsimp only
          try refine goS_run tab 1000 _ _ _ _ ?_
          conv => whnf
          repeat (first | (refine And.intro (by omega) ?_; (try intro _); conv => whnf) | (refine And.intro ?_ (by omega); (try intro _); conv => whnf) | (refine ⟨_, RemV.nonneg (by omega) (by omega), ?_⟩; conv => whnf))
          refine RunsS.retU (UnwS.ret tab Tryz.func30 rfl fun Ez Hz Az Sz K => ⟨_, rfl, rfl, K.keeps⟩)

end Go.Proofs.YtgnciigjhpcdmaaGreatDoor

namespace Go.Proofs.YtgnciigjhpcdmaaGreatDoor
open Go Go.Fw Go.NatM Go.RatM
set_option maxRecDepth 100000
set_option maxHeartbeats 16000000

def ratioV (neg : Bool) (n d : Int) : Rt := ⟨neg, if 0 < n then strI [n] else NatM.mt, strI [d]⟩
end Go.Proofs.YtgnciigjhpcdmaaGreatDoor

namespace Go.Proofs.YtgnciigjhpcdmaaGreatDoor
open Go Go.Fw Go.NatM Go.RatM
set_option maxRecDepth 100000
set_option maxHeartbeats 16000000
deriving instance DecidableEq for Go.RatM.Rt
theorem sf1 : newR 4 (-6) = (ratioV true 2 3, 0) := by decide +kernel
theorem sf2 : newR 0 (-5) = (ratioV false 0 1, 0) := by decide +kernel
theorem sf0 : newR 5 0 = (zr, 71) := by decide +kernel
theorem sf3 : addR (ratioV false 1 6) (ratioV false 1 10) = (ratioV false 4 15, 0) := by decide +kernel
theorem sf4 : mulR (ratioV true 2 3) (ratioV false 3 4) = (ratioV true 1 2, 0) := by decide +kernel
theorem sf5 : divR (ratioV false 1 2) (ratioV true 2 3) = (ratioV true 3 4, 0) := by decide +kernel
theorem sf6 : divR (ratioV true 2 3) (ratioV false 0 1) = (zr, 71) := by decide +kernel
theorem sf7 : cmpR (ratioV true 1 2) (ratioV false 0 1) = (-1, 0) := by decide +kernel
theorem sf8 : wholeR (ratioV true 1 2) false = (-1, 0) := by decide +kernel
theorem sf9 : wholeR (ratioV true 1 2) true = (0, 0) := by decide +kernel
theorem sf10 : wholeR (ratioV false 7 2) false = (3, 0) := by decide +kernel
theorem sf11 : wholeR (ratioV false 7 2) true = (4, 0) := by decide +kernel
theorem sf12 : sumR [] = (ratioV false 0 1, 0) := by decide +kernel
theorem sf13 : chkR zr = 70 := by decide +kernel
theorem sf14 : chkR (ratioV false 2 4) = 70 := by decide +kernel

def rc (a : Rt) : List SV := [.v (.bool a.neg), .v (.string a.n), .v (.string a.d)]
end Go.Proofs.YtgnciigjhpcdmaaGreatDoor

namespace Go.Proofs.YtgnciigjhpcdmaaGreatDoor
open Go Go.Fw Go.NatM Go.RatM
set_option maxRecDepth 100000
set_option maxHeartbeats 16000000

theorem p8 : (256 : Nat) ^ 8 = 18446744073709551616 := by decide
theorem p9 : (256 : Nat) ^ 9 = 4722366482869645213696 := by decide
theorem rqamount_fn {h : Array Obj} (n : Int) (hn : -9223372036854775808 ≤ n ∧ n ≤ 9223372036854775807) : FnV Tryz.prog 39 #[.int .i64 n] h fun r h' => r = .string (enc n.natAbs) ∧ Keeps h.size h h' := by
  have fit1 : ∀ V : Nat, V ≤ 9223372036854775808 → nb V ≤ 8 := fun V hV => nb_le (by rw [p8]; omega)
  have f1 := fit1 (n.natAbs - 1) (by omega)
  have f2 := fit1 1 (by omega)
  have f3 := fit1 (n.natAbs - 1 + 1) (by omega)
  refine Fn.ofS (args := [.int .i64 n]) Tryz.func39 (by kernel_rfl) rfl Tryz.ntmps39 rfl fun w0 cs => ?_
  conv => whnf
  refine goS_run tab 1000 _ _ _ _ ?_
  conv => whnf
  repeat (first | (refine And.intro (by omega) ?_; (try intro _); conv => whnf) | (refine And.intro ?_ (by omega); (try intro _); conv => whnf) | (refine ⟨_, RemV.nonneg (by omega) (by omega), ?_⟩; conv => whnf))
  refine ⟨fun h0 => ?_, fun h0 => ?_⟩ <;> conv => whnf
  · conv => whnf
    repeat (first | (refine And.intro (by omega) ?_; (try intro _); conv => whnf) | (refine And.intro ?_ (by omega); (try intro _); conv => whnf) | (refine ⟨_, RemV.nonneg (by omega) (by omega), ?_⟩; conv => whnf))
    have e1 : ofS n = (enc n.natAbs, 0) := by unfold ofS; rw [if_neg (by omega), show n.toNat = n.natAbs by omega]
    refine RunsS.callV (fun Ez Hz Az Sz K => rOf_fn n hn.2) ?_
    conv => whnf
    rw [e1]
    try dsimp only
    try refine goS_run tab 1000 _ _ _ _ ?_
    conv => whnf
    repeat (first | (refine And.intro (by omega) ?_; (try intro _); conv => whnf) | (refine And.intro ?_ (by omega); (try intro _); conv => whnf) | (refine ⟨_, RemV.nonneg (by omega) (by omega), ?_⟩; conv => whnf))
    refine RunsS.retU (UnwS.ret tab Tryz.func39 rfl fun Ez Hz Az Sz K => ⟨_, rfl, rfl, K.keeps⟩)
  · conv => whnf
    repeat (first | (refine And.intro (by omega) ?_; (try intro _); conv => whnf) | (refine And.intro ?_ (by omega); (try intro _); conv => whnf) | (refine ⟨_, RemV.nonneg (by omega) (by omega), ?_⟩; conv => whnf))
    have e1 : ofS (0 - (n + 1)) = (enc (n.natAbs - 1), 0) := by unfold ofS; rw [if_neg (by omega), show (0 - (n + 1)).toNat = n.natAbs - 1 by omega]
    have e2 : addS (enc (n.natAbs - 1)) ⟨#[1]⟩ = (enc n.natAbs, 0) := by
      rw [← enc_one, add_e (by omega) (by omega), short_e (by omega), show n.natAbs - 1 + 1 = n.natAbs by omega]
    refine RunsS.callV (fun Ez Hz Az Sz K => rOf_fn (0 - (n + 1)) (by omega)) ?_
    conv => whnf
    rw [e1]
    try dsimp only
    try refine goS_run tab 1000 _ _ _ _ ?_
    conv => whnf
    repeat (first | (refine And.intro (by omega) ?_; (try intro _); conv => whnf) | (refine And.intro ?_ (by omega); (try intro _); conv => whnf) | (refine ⟨_, RemV.nonneg (by omega) (by omega), ?_⟩; conv => whnf))
    refine RunsS.callV (fun Ez Hz Az Sz K => rAdd_fn (enc (n.natAbs - 1)) ⟨#[1]⟩) ?_
    conv => whnf
    rw [e2]
    try dsimp only
    try refine goS_run tab 1000 _ _ _ _ ?_
    conv => whnf
    repeat (first | (refine And.intro (by omega) ?_; (try intro _); conv => whnf) | (refine And.intro ?_ (by omega); (try intro _); conv => whnf) | (refine ⟨_, RemV.nonneg (by omega) (by omega), ?_⟩; conv => whnf))
    refine RunsS.retU (UnwS.ret tab Tryz.func39 rfl fun Ez Hz Az Sz K => ⟨_, rfl, rfl, K.keeps⟩)

theorem rqNew_fn {h : Array Obj} (n d : Int) (hn : -9223372036854775808 ≤ n ∧ n ≤ 9223372036854775807) (hd : -9223372036854775808 ≤ d ∧ d ≤ 9223372036854775807) :
    FnV Tryz.prog 26 #[.int .i64 n, .int .i64 d] h fun r h' => r = rev (newR n d) ∧ Keeps h.size h h' := by
  have fit1 : ∀ V : Nat, V ≤ 9223372036854775808 → nb V ≤ 256 := fun V hV => Nat.le_trans (nb_le (m := 8) (by rw [p8]; omega)) (by omega)
  have f1 := fit1 n.natAbs (by omega)
  have f2 := fit1 d.natAbs (by omega)
  obtain ⟨r, hr⟩ : ∃ r, r = newR n d := ⟨_, rfl⟩
  rw [← hr]
  unfold newR at hr
  refine Fn.ofS (args := [.int .i64 n, .int .i64 d]) Tryz.func26 (by kernel_rfl) rfl Tryz.ntmps26 rfl fun w0 cs => ?_
  conv => whnf
  refine goS_run tab 1000 _ _ _ _ ?_
  conv => whnf
  repeat (first | (refine And.intro (by omega) ?_; (try intro _); conv => whnf) | (refine And.intro ?_ (by omega); (try intro _); conv => whnf) | (refine ⟨_, RemV.nonneg (by omega) (by omega), ?_⟩; conv => whnf))
  refine ⟨fun hz => ?_, fun hz => ?_⟩ <;> conv => whnf
  · conv => whnf
    repeat (first | (refine And.intro (by omega) ?_; (try intro _); conv => whnf) | (refine And.intro ?_ (by omega); (try intro _); conv => whnf) | (refine ⟨_, RemV.nonneg (by omega) (by omega), ?_⟩; conv => whnf))
    rw [if_pos hz] at hr
    subst hr
    refine RunsS.retU (UnwS.ret tab Tryz.func26 rfl fun Ez Hz Az Sz K => ⟨_, rfl, rfl, K.keeps⟩)
  · rw [if_neg hz] at hr
    conv => whnf
    repeat (first | (refine And.intro (by omega) ?_; (try intro _); conv => whnf) | (refine And.intro ?_ (by omega); (try intro _); conv => whnf) | (refine ⟨_, RemV.nonneg (by omega) (by omega), ?_⟩; conv => whnf))
    refine RunsS.callV (fun Ez Hz Az Sz K => rqamount_fn n hn) ?_
    conv => whnf
    try refine goS_run tab 1000 _ _ _ _ ?_
    conv => whnf
    repeat (first | (refine And.intro (by omega) ?_; (try intro _); conv => whnf) | (refine And.intro ?_ (by omega); (try intro _); conv => whnf) | (refine ⟨_, RemV.nonneg (by omega) (by omega), ?_⟩; conv => whnf))
    refine RunsS.callV (fun Ez Hz Az Sz K => rqamount_fn d hd) ?_
    conv => whnf
    try refine goS_run tab 1000 _ _ _ _ ?_
    conv => whnf
    repeat (first | (refine And.intro (by omega) ?_; (try intro _); conv => whnf) | (refine And.intro ?_ (by omega); (try intro _); conv => whnf) | (refine ⟨_, RemV.nonneg (by omega) (by omega), ?_⟩; conv => whnf))
    subst hr
    refine RunsS.callV (fun Ez Hz Az Sz K => rqlowest_fn (n := n.natAbs) (d := d.natAbs) (decide (n < 0) != decide (d < 0)) (by omega) f1 f2) ?_
    conv => whnf
    try refine goS_run tab 1000 _ _ _ _ ?_
    conv => whnf
    repeat (first | (refine And.intro (by omega) ?_; (try intro _); conv => whnf) | (refine And.intro ?_ (by omega); (try intro _); conv => whnf) | (refine ⟨_, RemV.nonneg (by omega) (by omega), ?_⟩; conv => whnf))
    refine RunsS.retU (UnwS.ret tab Tryz.func26 rfl fun Ez Hz Az Sz K => ⟨_, rfl, rfl, K.keeps⟩)

end Go.Proofs.YtgnciigjhpcdmaaGreatDoor

namespace Go.Fw
open Go Go.RowKit Go.WideShapes Go.ChangeShapes
section
variable {H : Type} {enc : TypeId × Value → H} {P : Program}

theorem trodAll_stays (hl : laidOutB P = true) {W W' : World} {sp : Nat → Bool} : ∀ {ts : List TypeId} {vs : List Value} {ds : List (DataW H)} {ps : List MemPlace},
    (∀ t ∈ ts, P.readableRec t = true ∧ t < P.types.size) → DataW.TrodAll enc P W 0 (fun _ => true) true ts vs ds ps → (∀ p ∈ ps, W.sameAt W' p) → (∀ p ∈ ps, sp p.block = true) → DataW.TrodAll enc P W' 0 sp true ts vs ds ps
  | [], vs, ds, ps, _, h, _, _ => by
    obtain ⟨rfl, rfl, rfl⟩ := trodAll_nil h
    exact trodAll_mk0
  | t :: ts, vs, ds, ps, hr, h, hs, hsp => by
    obtain ⟨v, vs', d, ds', p, q, rfl, rfl, rfl, h1, h2⟩ := trodAll_cons h
    have h0 := hr t (List.mem_cons_self ..)
    exact trodAll_cons_mk (WideElems.Trod_stays hl h0.1 h0.2 h1 (fun x hx => hs x (List.mem_append_left _ hx)) (fun x hx => hsp x (List.mem_append_left _ hx)))
      (trodAll_stays hl (fun x hx => hr x (List.mem_cons_of_mem _ hx)) h2 (fun x hx => hs x (List.mem_append_right _ hx)) (fun x hx => hsp x (List.mem_append_right _ hx)))

/-- the types may be read -/
def readTs (P : Program) (ts : List TypeId) : Bool := ts.all fun t => P.readableRec t && decide (t < P.types.size)
theorem readTs_ok {ts : List TypeId} (h : readTs P ts = true) : ∀ t ∈ ts, P.readableRec t = true ∧ t < P.types.size := fun t ht => by
  have := List.all_eq_true.1 h t ht
  simpa using this

/-- a law that answers true and turns nothing below the old end -/
theorem post_true {f : Func} {s : ChangeSpec} {apart fresh handsOn again : Bool} {W W' : World} {args : Array Value} {ds gs : List (DataW H)} {before : List MemPlace} {tb : TypeId}
    (hl : laidOutB P = true) (hr : readTs P f.params.toList = true) (ht : P.underlying tb = some .bool) (hres : f.resultTypes = #[tb])
    (hW : DataW.Whole enc P f.params.toList s.vars apart W args.toList ds gs before) (hv : s.vars = [])
    (hs : ∀ n, ds.length = n → (s.fn H (ds ++ [])).results = [.lit (.bool true)] ∧ (s.fn H (ds ++ [])).args = ds ∧ (s.fn H (ds ++ [])).vars = []) (hb : Below W.heap.size W W') :
    s.post enc P f apart fresh handsOn again W args (.bool true) W' := by
  have hW' := hW
  obtain ⟨p, q, hA, hV, rfl, _, _⟩ := hW
  rw [hv] at hV
  obtain ⟨rfl, rfl⟩ := trodVars_none hV
  obtain ⟨h1, h2, h3⟩ := hs _ rfl
  have hlt : ∀ x ∈ p, x.block < W.heap.size := fun x hx => hW'.lt x (List.mem_append_left _ hx)
  refine post_of_below (pa := p) (pv := []) hW' (fun _ _ _ => ?_) (fun sp hsp => ?_) (fun _ _ => ?_) rfl hb ?_
  · rw [h1, hres]
    exact trodAll_cons_mk (shut_bool ht _) trodAll_mk0
  · rw [h2]
    exact trodAll_stays hl (readTs_ok hr) hA (fun x hx => hb.same (hlt x hx)) (fun x hx => hsp x (by simpa using hx))
  · rw [h3, hv]; rfl
  · exact ok_one hres rfl (okWide_bool_mk ht _)

theorem cellsH_flat {h : Array Obj} {g sz : Nat} : ∀ {rows : List (List Value)} {o : Nat}, (∀ r ∈ rows, r.length = sz) → (∀ i r, rows[i]? = some r → CellsH h g (o + i * sz) r) → CellsH h g o rows.flatten
  | [], o, _, _ => fun j v hv => by simp at hv
  | r :: rs, o, hl, H => fun j v hv => by
    rw [List.flatten_cons] at hv
    have hr := hl r (List.mem_cons_self ..)
    by_cases hj : j < r.length
    · rw [List.getElem?_append_left hj] at hv
      have := H 0 r rfl
      rw [Nat.zero_mul] at this
      exact this j v hv
    · rw [List.getElem?_append_right (by omega)] at hv
      have := cellsH_flat (rows := rs) (o := o + sz) (fun x hx => hl x (List.mem_cons_of_mem _ hx)) (fun i x hx => by
        have := H (i + 1) x hx
        rw [Nat.add_mul, Nat.one_mul] at this
        rw [show o + sz + i * sz = o + (i * sz + sz) by omega]
        exact this) (j - r.length) v hv
      rw [show o + j = o + sz + (j - r.length) by omega]
      exact this

theorem list_lt {α : Type} {p : Nat → α → Prop} : ∀ {n : Nat}, (∀ i, i < n → ∃ a, p i a) → ∃ l : List α, l.length = n ∧ ∀ i (h : i < l.length), p i l[i]
  | 0, _ => ⟨[], rfl, fun _ h => absurd h (Nat.not_lt_zero _)⟩
  | n + 1, H => by
    obtain ⟨l, hl, hp⟩ := list_lt (n := n) (fun i hi => H i (by omega))
    obtain ⟨a, ha⟩ := H n (by omega)
    refine ⟨l ++ [a], by simp [hl], fun i hi => ?_⟩
    by_cases h : i < l.length
    · rw [List.getElem_append_left h]; exact hp i h
    · have : i = n := by simp at hi; omega
      subst this
      rw [List.getElem_append_right (by omega)]
      simpa [hl] using ha

/-- an argument that is a slice, as rows of cells -/
theorem open_rows {α : Type} (f : α → List Value) {sz : Nat} {t e : TypeId} {W : World} {v : Value} {d : DataW H} {ps : List MemPlace} (ht : P.underlying t = some (.slice e)) (hc : P.cellsOf e = sz) (hz : 0 < sz)
    (hf : ∀ a, (f a).length = sz ∧ ∀ u ∈ f a, u.oneCell' = true) {rr : Reach} {b0 : Nat} (hval : Value.okWide P W rr b0 t v)
    (hx : ∀ fuel cs x, DataW.trod enc P W 0 (fun _ => true) true fuel e cs = some x → ∃ a, cs = f a)
    (hd : DataW.Trod enc P W 0 (fun _ => true) true t v d ps) : ∃ l : List α, Ro W.heap v sz (l.map f) := by
  obtain ⟨a, len, cap, rfl⟩ := okWide_slice ht hval
  obtain ⟨fuel, hfu⟩ := hd
  have hcs : (Value.slice a len cap).cells.toList = [.slice a len cap] := rfl
  rw [hcs] at hfu
  rcases Deep.open_slice ht hfu with ⟨h0, _⟩ | ⟨a, len, cap, m, n, D, Pl, h1, hb, hlc, hm, hmm, _, hcell⟩
  · simp at h0
    obtain ⟨rfl, rfl, rfl⟩ := h0
    exact ⟨[], Ro.nil⟩
  · simp at h1
    obtain ⟨rfl, rfl, rfl⟩ := h1
    have hlm : len ≤ m := by rw [hmm]; simpa using hlc
    have each : ∀ i, i < len → ∃ b : α, W.cells? 0 (a.add (i * P.cellsOf e)) (P.cellsOf e) = some (f b) := fun i hi => by
      obtain ⟨cs', e1, e2⟩ := hcell i (by omega)
      obtain ⟨b, rfl⟩ := hx _ _ _ e2
      exact ⟨b, e1⟩
    obtain ⟨l, hl, hp⟩ := list_lt each
    refine ⟨l, fun r hr => ?_, ⟨by rw [List.length_map, hl]; have : maxLen ≤ 9223372036854775807 := by decide
                                   omega, hlc⟩, some a, cap, by rw [List.length_map, hl], ?_⟩
    · obtain ⟨b, _, rfl⟩ := List.mem_map.1 hr
      exact hf b
    · by_cases h0 : l = []
      · exact .inl (by rw [h0]; rfl)
      · have hpos : 0 < l.length := List.length_pos_iff.2 h0
        have first := World.cells?_some (hp 0 hpos)
        have c0 := first.2.2 0 (by rw [hc]; exact hz)
        have hspot : a.spot = none ∧ a.block < W.heap.size := by
          rw [Nat.zero_mul] at c0
          have e0 : (a.add 0).add 0 = a := rfl
          rw [e0, List.getElem?_eq_getElem (by rw [(hf _).1]; exact hz)] at c0
          unfold World.cell? at c0
          split at c0
          · rename_i hh
            refine ⟨?_, (Array.getElem?_eq_some_iff.1 hh).1⟩
            cases hs : a.spot with
            | none => rfl
            | some k => rw [hs] at c0; simp at c0
          · cases c0
        obtain ⟨g, o, s⟩ := a
        obtain ⟨rfl, hg⟩ := hspot
        refine .inr ⟨g, o, rfl, hg, cellsH_flat (sz := sz) (fun r hr => ?_) (fun i r hr j u hu => ?_)⟩
        · obtain ⟨b, _, rfl⟩ := List.mem_map.1 hr
          exact (hf b).1
        · rw [List.getElem?_map] at hr
          obtain ⟨b, hb', rfl⟩ := Option.map_eq_some_iff.1 hr
          obtain ⟨hi, rfl⟩ := List.getElem?_eq_some_iff.1 hb'
          have hj : j < P.cellsOf e := by rw [hc, ← (hf l[i]).1]; exact (List.getElem?_eq_some_iff.1 hu).1
          have := (World.cells?_some (hp i hi)).2.2 j hj
          rw [hu] at this
          refine cellH_of ?_
          rw [← this, Deep.add_add]
          congr 1
          unfold Addr.add
          rw [hc]
          split
          · rename_i hh; rw [Nat.add_assoc, hh, Nat.add_zero]
          · rw [Nat.add_assoc]
end
end Go.Fw

namespace Go.Fw
open Go Go.RowKit Go.WideShapes Go.ChangeShapes
section
variable {H : Type} {enc : TypeId × Value → H} {P : Program} {w : World} {base : Nat} {sp : Nat → Bool} {held : Bool}

/-- kinds of single cells -/
inductive Sc where
  | b
  | s
  | i (k : IntKind)
def Sc.ok : Sc → Value → Prop
  | .b, v => ∃ x, v = .bool x
  | .s, v => ∃ x : ByteArray, v = .string x ∧ x.size ≤ maxLen
  | .i k, v => ∃ n, v = .int k n ∧ (Lit.int k n).wf = true
def Sc.und : Sc → TypeDesc
  | .b => .bool
  | .s => .string
  | .i k => .int k
/-- a struct whose fields are single cells of these kinds -/
structure Flat (P : Program) (t : TypeId) (fs : Array Field) (ks : List Sc) : Prop where
  ht : P.underlying t = some (.struct fs)
  hn : fs.size = ks.length
  hc : P.cellsOf t = ks.length
  hf : ∀ i, i < ks.length → ∃ f k, fs[i]? = some f ∧ ks[i]? = some k ∧ P.underlying f.type = some k.und ∧ P.cellsOf f.type = 1 ∧ f.offset = i

theorem trod_sc {t : TypeId} {k : Sc} (ht : P.underlying t = some k.und) {fuel : Nat} {cs : List Value} {x : DataW H × List MemPlace} (h : DataW.trod enc P w base sp held fuel t cs = some x) : ∃ v, cs = [v] ∧ k.ok v := by
  cases k with
  | b => obtain ⟨b, e, _⟩ := DataW.trod_bool ht h; exact ⟨_, e, b, rfl⟩
  | s => obtain ⟨s, e, _, m⟩ := DataW.trod_string ht h; exact ⟨_, e, s, rfl, m⟩
  | i k => obtain ⟨n, e, _, m⟩ := DataW.trod_int ht h; exact ⟨_, e, n, rfl, m⟩
theorem trod_flat {t : TypeId} {fs : Array Field} {ks : List Sc} (B : Flat P t fs ks) {fuel : Nat} {cs : List Value} {x : DataW H × List MemPlace} (h : DataW.trod enc P w base sp held fuel t cs = some x) :
    cs.length = ks.length ∧ ∀ (i : Nat) (k : Sc) (v : Value), ks[i]? = some k → cs[i]? = some v → k.ok v := by
  obtain ⟨xs, n, _, rfl, hl, hlen, hf⟩ := DataW.trod_struct B.ht h
  rw [B.hc] at hl
  refine ⟨hl, fun i k v hk hv => ?_⟩
  have hi := (List.getElem?_eq_some_iff.1 hk).1
  obtain ⟨f, k', e1, e2, e3, e4, e5⟩ := B.hf i hi
  rw [hk] at e2
  cases e2
  have g := hf i f e1
  have hx : i < xs.length := by rw [hlen, B.hn]; exact hi
  rw [List.getElem?_eq_getElem hx] at g
  obtain ⟨u, g1, g2⟩ := trod_sc e3 g
  rw [e4, e5] at g1
  have : v = u := by
    have h1 := congrArg (fun l => l[0]?) g1
    simp only [List.getElem?_take, List.getElem?_drop, Nat.add_zero, List.getElem?_cons_zero, Nat.zero_lt_one, if_true, hv] at h1
    exact Option.some.inj h1
  rw [this]; exact g2
end
theorem sc_int {k : IntKind} {v : Value} (h : (Sc.i k).ok v) : ∃ n, v = .int k n ∧ (Lit.int k n).wf = true := h
end Go.Fw

namespace Go.RatM
open Go Go.Fw Go.NatM

structure Un where
  name : ByteArray
  of_ : ByteArray
  n : Int
  d : Int
  base : Int
  scale : Rt
def Un.row (u : Un) : List Value := [.string u.name, .string u.of_, .int .i64 u.n, .int .i64 u.d, .int .i64 u.base, .bool u.scale.neg, .string u.scale.n, .string u.scale.d]
def Un.v (u : Un) : Value := .agg u.row.toArray
theorem Un.ext8 {u v : Un} (h : u.name = v.name ∧ u.of_ = v.of_ ∧ u.n = v.n ∧ u.d = v.d ∧ u.base = v.base ∧ u.scale.neg = v.scale.neg ∧ u.scale.n = v.scale.n ∧ u.scale.d = v.scale.d) : u = v := by
  obtain ⟨a, b, c, d, e, ⟨f, g, i⟩⟩ := u
  obtain ⟨a', b', c', d', e', ⟨f', g', i'⟩⟩ := v
  obtain ⟨rfl, rfl, rfl, rfl, rfl, rfl, rfl, rfl⟩ := h
  rfl
theorem Un.ext8_iff {u v : Un} : u = v ↔ (u.name = v.name ∧ u.of_ = v.of_ ∧ u.n = v.n ∧ u.d = v.d ∧ u.base = v.base ∧ u.scale.neg = v.scale.neg ∧ u.scale.n = v.scale.n ∧ u.scale.d = v.scale.d) :=
  ⟨fun e => by subst e; simp, Un.ext8⟩
instance : DecidableEq Un := fun _ _ => decidable_of_iff _ Un.ext8_iff.symm
def rowsU (l : List Un) : List (List Value) := l.map Un.row
theorem rowsU_len (l : List Un) : (rowsU l).length = l.length := by simp [rowsU]
theorem rowsU_get {l : List Un} {k : Nat} (hk : k < l.length) : (rowsU l)[k]? = some l[k].row := by simp [rowsU, hk]

/-- the number of the first unit with a name; -1: there is none -/
def findI (l : List Un) (nm : ByteArray) : Int := match l.findIdx? (fun u => decide (u.name = nm)) with
  | some k => k
  | none => -1
theorem findI_none {l : List Un} {nm : ByteArray} : findI l nm = -1 ↔ ∀ u ∈ l, u.name ≠ nm := by
  unfold findI
  cases h : l.findIdx? (fun u => decide (u.name = nm)) with
  | none =>
    rw [List.findIdx?_eq_none_iff] at h
    simpa using h
  | some k =>
    rw [List.findIdx?_eq_some_iff_getElem] at h
    obtain ⟨hk, h1, _⟩ := h
    constructor
    · intro e; dsimp only at e; omega
    · intro e
      exact absurd (by simpa using h1) (e _ (List.getElem_mem hk))
theorem findI_some {l : List Un} {nm : ByteArray} {k : Nat} : findI l nm = k ↔ ∃ hk : k < l.length, l[k].name = nm ∧ ∀ j (hj : j < k), l[j].name ≠ nm := by
  unfold findI
  cases h : l.findIdx? (fun u => decide (u.name = nm)) with
  | none =>
    rw [List.findIdx?_eq_none_iff] at h
    constructor
    · intro e; dsimp only at e; omega
    · rintro ⟨hk, h1, _⟩
      have := h _ (List.getElem_mem hk)
      simp [h1] at this
  | some m =>
    rw [List.findIdx?_eq_some_iff_getElem] at h
    obtain ⟨hm, h1, h2⟩ := h
    simp only [decide_eq_true_eq] at h1
    constructor
    · intro e
      dsimp only at e
      obtain rfl : m = k := by omega
      refine ⟨hm, h1, fun j hj => ?_⟩
      have := h2 j hj
      simpa using this
    · rintro ⟨hk, g1, g2⟩
      dsimp only
      rcases Nat.lt_trichotomy m k with h | h | h
      · exact absurd h1 (g2 m h)
      · omega
      · have := h2 k h
        simp [g1] at this

def one1 : Rt := encQ oq
abbrev btw (n : Int) : Prop := 1 ≤ n ∧ n ≤ 1000000
/-- the unit, resolved -/
def Un.re (u : Un) (b : Int) (s : Rt) : Un := ⟨u.name, u.of_, u.n, u.d, b, s⟩
/-- one unit more -/
def stepU (x : List Un) (u : Un) : Un ⊕ Int :=
  if u.of_ = NatM.mt then (if u.n = 0 ∧ u.d = 0 then .inl (u.re x.length one1) else .inr 90)
  else if btw u.n ∧ btw u.d then
    match x[(findI x u.of_).toNat]? with
    | some v => if findI x u.of_ < 0 then .inr 110 else .inl (u.re v.base (mulR v.scale (newR u.n u.d).1).1)
    | none => .inr 110
  else .inr 90
def resU : List Un → List Un → List Un ⊕ Int
  | [], x => .inl x
  | u :: l, x => match stepU x u with
    | .inl v => resU l (x ++ [v])
    | .inr e => .inr e
def resolveU (l : List Un) : List Un ⊕ Int :=
  if 32 < l.length then .inr 90 else if ¬ (l.map Un.name).Nodup then .inr 111 else resU l []
def checkU (l : List Un) : Int := match resolveU l with
  | .inr e => e
  | .inl x => if x = l then 0 else 90
def convU (l : List Un) (a b : Int) (r : Rt) : Rt × Int :=
  if checkU l ≠ 0 then (zr', checkU l) else
  match l[a.toNat]?, l[b.toNat]? with
  | some u, some v => if a < 0 ∨ b < 0 ∨ u.base ≠ v.base then (zr', 90) else
      if (mulR r u.scale).2 ≠ 0 then (zr', (mulR r u.scale).2) else divR (mulR r u.scale).1 v.scale
  | _, _ => (zr', 90)
where zr' : Rt := ⟨false, NatM.mt, NatM.mt⟩

/-- a scale of at most k bytes -/
def Sc1 (k : Nat) (u : Un) : Prop := ∃ q : Q, u.scale = encQ q ∧ q.Ok ∧ q.le k ∧ 0 < q.val
theorem Sc1.mono {k m : Nat} {u : Un} (h : Sc1 k u) (hk : k ≤ m) : Sc1 m u := by
  obtain ⟨q, h1, h2, h3, h4⟩ := h
  exact ⟨q, h1, h2, h3.mono hk, h4⟩
theorem newQ_pos {n d : Int} (hn : btw n) (hd : btw d) : (newQ n d).Ok ∧ (newQ n d).le 3 ∧ 0 < (newQ n d).val := by
  refine ⟨newQ_ok (by omega), newQ_le (by have : (256 : Nat) ^ 3 = 16777216 := by decide
                                          omega) (by have : (256 : Nat) ^ 3 = 16777216 := by decide
                                                     omega), ?_⟩
  rw [newQ_val (by omega)]
  have h1 : (0 : Rat) < (n : Rat) := by
    have := (Rat.intCast_lt_intCast (a := 0) (b := n)).2 (by omega)
    simpa using this
  have h2 : (0 : Rat) < (d : Rat) := by
    have := (Rat.intCast_lt_intCast (a := 0) (b := d)).2 (by omega)
    simpa using this
  exact Rat.mul_pos h1 (Rat.inv_pos.2 h2)
theorem stepU_sc {x : List Un} {u v : Un} {k : Nat} (hk : k + 3 ≤ 256) (hk1 : 1 ≤ k) (hx : ∀ w ∈ x, Sc1 k w) (h : stepU x u = .inl v) : Sc1 (k + 3) v := by
  unfold stepU at h
  split at h
  · split at h
    · cases h
      exact ⟨oq, rfl, oq_ok, oq_le.mono (by omega), by rw [oq_val]; decide⟩
    · cases h
  · split at h
    · rename_i hb
      split at h
      · rename_i w hw
        split at h
        · cases h
        · cases h
          obtain ⟨q, h1, h2, h3, h4⟩ := hx w (List.mem_of_getElem? hw)
          obtain ⟨n1, n2, n3⟩ := newQ_pos hb.1 hb.2
          obtain ⟨c, c1, c2, c3, c4⟩ := mulR_ok h2 n1 h3 n2 hk
          refine ⟨c, ?_, c2, c3, by rw [c4]; exact Rat.mul_pos h4 n3⟩
          show (mulR w.scale (newR u.n u.d).1).1 = _
          rw [h1, newR_ok (by omega), c1]
      · cases h
    · cases h
theorem resU_sc : ∀ {l x y : List Un} {k : Nat}, k + 3 * l.length ≤ 256 → 1 ≤ k → (∀ w ∈ x, Sc1 k w) → resU l x = .inl y → ∀ w ∈ y, Sc1 (k + 3 * l.length) w
  | [], x, y, k, _, _, hx, h => by cases h; exact hx
  | u :: l, x, y, k, hk, h1, hx, h => by
    simp only [List.length_cons] at hk
    simp only [resU] at h
    split at h
    · rename_i v hv
      have hs := stepU_sc (by omega) h1 hx hv
      have := resU_sc (k := k + 3) (by omega) (by omega) (fun w hw => ?_) h
      · simpa [Nat.mul_add, Nat.add_assoc, Nat.add_comm, Nat.add_left_comm] using this
      · rcases List.mem_append.1 hw with hw | hw
        · exact (hx w hw).mono (by omega)
        · rw [List.mem_singleton.1 hw]; exact hs
    · cases h
end Go.RatM

namespace Go.Proofs.YtgnciigjhpcdmaaGreatDoor
open Go Go.Fw Go.RatM
set_option maxRecDepth 100000
set_option maxHeartbeats 16000000

theorem between_fn {h : Array Obj} (n : Int) : FnV Tryz.prog 21 #[.int .i64 n] h fun r h' => r = .bool (decide (btw n)) ∧ Keeps h.size h h' := by
  refine Fn.ofS (args := [.int .i64 n]) Tryz.func21 (by kernel_rfl) rfl Tryz.ntmps21 rfl fun w0 cs => ?_
  conv => whnf
  refine goS_run tab 1000 _ _ _ _ ?_
  conv => whnf
  repeat (first | (refine And.intro (by omega) ?_; (try intro _); conv => whnf) | (refine And.intro ?_ (by omega); (try intro _); conv => whnf) | (refine ⟨_, RemV.nonneg (by omega) (by omega), ?_⟩; conv => whnf))
  repeat' (refine And.intro (fun hs => ?_) (fun hs => ?_) <;> (conv => whnf))
  all_goals (
    refine RunsS.retU (UnwS.ret tab Tryz.func21 rfl fun Ez Hz Az Sz K => ⟨_, rfl, ?_, K.keeps⟩)
    first | exact congrArg Value.bool (decide_eq_true (by omega)).symm | exact congrArg Value.bool (decide_eq_false (by omega)).symm | exact congrArg Value.bool (decide_eq_decide.2 (by omega))
  )
def unB (b : Nat) (u : Un) : Nat × Fw.Blk := (b, .cells 37 (toV u.row))
theorem twins1_fn (v u : Un) : FnS Tryz.prog 32 1 [.agg (toV v.row), .ptr 0 0] [unB 0 u] (fun _ : Unit => True) (fun _ => .ret (.v (.bool (decide (v.name = u.name)))) 1 [unB 0 u]) := by
  refine FnS.of Tryz.func32 (by kernel_rfl) rfl Tryz.ntmps32 rfl fun E0 F h w0 cs => ?_
  conv => whnf
  refine goS_run tab 1000 _ _ _ _ ?_
  conv => whnf
  repeat (first | (refine And.intro (by omega) ?_; (try intro _); conv => whnf) | (refine And.intro ?_ (by omega); (try intro _); conv => whnf) | (refine ⟨_, RemV.nonneg (by omega) (by omega), ?_⟩; conv => whnf))
  try refine RunsS.retU ?_
  try refine RunsS.finU ?_
  exact UnwS.ret tab Tryz.func32 rfl (EndS.mk (()) (trivial) [] (by repeat (first | exact trivial | refine ⟨by rfl, ?_⟩)) rfl rfl (okRet rfl rfl))
abbrev strB (b : Nat) (s : ByteArray) : Nat × Fw.Blk := (b, .cells 9 [.v (.string s)])
theorem meant1_fn (v : Un) (s : ByteArray) : FnS Tryz.prog 20 1 [.agg (toV v.row), .ptr 0 0] [strB 0 s] (fun _ : Unit => True) (fun _ => .ret (.v (.bool (decide (v.name = s)))) 1 [strB 0 s]) := by
  refine FnS.of Tryz.func20 (by kernel_rfl) rfl Tryz.ntmps20 rfl fun E0 F h w0 cs => ?_
  conv => whnf
  refine goS_run tab 1000 _ _ _ _ ?_
  conv => whnf
  repeat (first | (refine And.intro (by omega) ?_; (try intro _); conv => whnf) | (refine And.intro ?_ (by omega); (try intro _); conv => whnf) | (refine ⟨_, RemV.nonneg (by omega) (by omega), ?_⟩; conv => whnf))
  try refine RunsS.retU ?_
  try refine RunsS.finU ?_
  exact UnwS.ret tab Tryz.func20 rfl (EndS.mk (()) (trivial) [] (by repeat (first | exact trivial | refine ⟨by rfl, ?_⟩)) rfl rfl (okRet rfl rfl))

theorem idxT_fn (l : List Un) (hl : l.length ≤ 9223372036854775807) (u : Un) : FnS Tryz.prog 19 2 [.buf 0, .fn (.func 32) [] [.ptr 1 0]] [(0, .ro 8 (rowsU l)), unB 1 u] (fun _ : Unit => True)
    (fun _ => .ret (.v (.int .i64 (findI l u.name))) 2 [unB 1 u]) := by
  have hlr := rowsU_len l
  obtain ⟨r, hr⟩ : ∃ r, r = findI l u.name := ⟨_, rfl⟩
  rw [← hr]
  refine FnS.of Tryz.func19 (by kernel_rfl) rfl Tryz.ntmps19 rfl fun E0 F h w0 cs => ?_
  conv => whnf
  refine goS_run tab 1000 _ _ _ _ ?_
  conv => whnf
  repeat (first | (refine And.intro (by omega) ?_; (try intro _); conv => whnf) | (refine And.intro ?_ (by omega); (try intro _); conv => whnf) | (refine ⟨_, RemV.nonneg (by omega) (by omega), ?_⟩; conv => whnf))
  refine RunsS.subR [] (RunsS.loop (fun (k : Nat) => [(8, .v (.int .i64 k)), (7, .v (.int .i64 (rowsU l).length)), (0, .buf 0), (1, .fn (.func 32) [] [.ptr 1 0])]) (fun (k : Nat) => [(0, .ro 8 (rowsU l)), unB 1 u]) 2 (fun (k : Nat) => k ≤ l.length ∧ ∀ j (hj : j < k) (hjl : j < l.length), l[j].name ≠ u.name) (fun (k : Nat) => l.length - k) ?round1 (0) ?J01) ?SS1 ?HH1
  case J01 => exact (⟨Nat.zero_le _, fun j hj => absurd hj (Nat.not_lt_zero _)⟩)
  case SS1 => repeat (first | exact trivial | refine ⟨by rfl, ?_⟩)
  case HH1 => repeat (first | exact trivial | refine ⟨by rfl, ?_⟩)
  rintro k hJ back
  try dsimp only at hJ back
  conv => whnf
  try dsimp only
  refine goS_run tab 1000 _ _ _ _ ?_
  conv => whnf
  repeat (first | (refine And.intro (by omega) ?_; (try intro _); conv => whnf) | (refine And.intro ?_ (by omega); (try intro _); conv => whnf) | (refine ⟨_, RemV.nonneg (by omega) (by omega), ?_⟩; conv => whnf))
  refine ⟨fun hk => ?_, fun hk => ?_⟩ <;> conv => whnf
  · have hk : k < l.length := by omega
    conv => whnf
    repeat (first | (refine And.intro (by omega) ?_; (try intro _); conv => whnf) | (refine And.intro ?_ (by omega); (try intro _); conv => whnf) | (refine ⟨_, RemV.nonneg (by omega) (by omega), ?_⟩; conv => whnf))
    refine ⟨_, rowsU_get hk, ?_⟩
    conv => whnf
    try (refine And.intro (by first | omega | exact Nat.le_of_ble_eq_true rfl) ?_; conv => whnf)
    repeat (first | (refine And.intro (by omega) ?_; (try intro _); conv => whnf) | (refine And.intro ?_ (by omega); (try intro _); conv => whnf) | (refine ⟨_, RemV.nonneg (by omega) (by omega), ?_⟩; conv => whnf))
    have C := twins1_fn l[k] u
    by_cases hn : l[k].name = u.name
    · rw [decide_eq_true hn] at C
      refine RunsS.callN (C) [1] ?CNr2 (by repeat (first | exact trivial | refine ⟨by rfl, ?_⟩)) ?CNa2
      case CNa2 => rfl
      intro _ _
      conv => whnf
      try refine goS_run tab 1000 _ _ _ _ ?_
      conv => whnf
      repeat (first | (refine And.intro (by omega) ?_; (try intro _); conv => whnf) | (refine And.intro ?_ (by omega); (try intro _); conv => whnf) | (refine ⟨_, RemV.nonneg (by omega) (by omega), ?_⟩; conv => whnf))
      have : r = k := by rw [hr]; exact findI_some.2 ⟨hk, hn, fun j hj => hJ.2 j hj (by omega)⟩
      rw [this]
      try refine RunsS.retU ?_
      try refine RunsS.finU ?_
      exact UnwS.ret tab Tryz.func19 rfl (EndS.mk (()) (trivial) [] (by repeat (first | exact trivial | refine ⟨by rfl, ?_⟩)) rfl rfl (okRet rfl rfl))
    · rw [decide_eq_false hn] at C
      refine RunsS.callN (C) [1] ?CNr3 (by repeat (first | exact trivial | refine ⟨by rfl, ?_⟩)) ?CNa3
      case CNa3 => rfl
      intro _ _
      conv => whnf
      try refine goS_run tab 1000 _ _ _ _ ?_
      conv => whnf
      repeat (first | (refine And.intro (by omega) ?_; (try intro _); conv => whnf) | (refine And.intro ?_ (by omega); (try intro _); conv => whnf) | (refine ⟨_, RemV.nonneg (by omega) (by omega), ?_⟩; conv => whnf))
      refine RunsS.subR [] (back (k + 1) ?BJ4 ?BM4) ?SS4 ?HH4
      case BJ4 => exact (⟨hk, fun j hj hjl => (Nat.lt_succ_iff_lt_or_eq.1 hj).elim (fun hj => hJ.2 j hj hjl) (fun e => by subst e; exact hn)⟩)
      case BM4 => (try dsimp only); omega
      case SS4 => repeat (first | exact trivial | refine ⟨by rfl, ?_⟩)
      case HH4 => repeat (first | exact trivial | refine ⟨by rfl, ?_⟩)
  · conv => whnf
    repeat (first | (refine And.intro (by omega) ?_; (try intro _); conv => whnf) | (refine And.intro ?_ (by omega); (try intro _); conv => whnf) | (refine ⟨_, RemV.nonneg (by omega) (by omega), ?_⟩; conv => whnf))
    have : r = -1 := by
      rw [hr, findI_none]
      intro w hw
      obtain ⟨j, hj, rfl⟩ := List.getElem_of_mem hw
      exact hJ.2 j (by omega) hj
    rw [this]
    try refine RunsS.retU ?_
    try refine RunsS.finU ?_
    exact UnwS.ret tab Tryz.func19 rfl (EndS.mk (()) (trivial) [] (by repeat (first | exact trivial | refine ⟨by rfl, ?_⟩)) rfl rfl (okRet rfl rfl))
end Go.Proofs.YtgnciigjhpcdmaaGreatDoor

namespace Go.Proofs.YtgnciigjhpcdmaaGreatDoor
open Go Go.Fw Go.RatM
set_option maxRecDepth 100000
set_option maxHeartbeats 16000000

theorem contT_fn (l : List Un) (hl : l.length ≤ 9223372036854775807) (u : Un) : FnS Tryz.prog 31 2 [.buf 0, .fn (.func 32) [] [.ptr 1 0]] [(0, .ro 8 (rowsU l)), unB 1 u] (fun _ : Unit => True)
    (fun _ => .ret (.v (.bool (decide (0 ≤ findI l u.name)))) 2 [unB 1 u]) := by
  have C := idxT_fn l hl u
  obtain ⟨r, hr⟩ : ∃ r, r = findI l u.name := ⟨_, rfl⟩
  rw [← hr] at C ⊢
  refine FnS.of Tryz.func31 (by kernel_rfl) rfl Tryz.ntmps31 rfl fun E0 F h w0 cs => ?_
  conv => whnf
  refine goS_run tab 1000 _ _ _ _ ?_
  conv => whnf
  repeat (first | (refine And.intro (by omega) ?_; (try intro _); conv => whnf) | (refine And.intro ?_ (by omega); (try intro _); conv => whnf) | (refine ⟨_, RemV.nonneg (by omega) (by omega), ?_⟩; conv => whnf))
  refine RunsS.callN (C) [0, 1] ?CNr1 (by repeat (first | exact trivial | refine ⟨by rfl, ?_⟩)) ?CNa1
  case CNa1 => rfl
  intro _ _
  conv => whnf
  try refine goS_run tab 1000 _ _ _ _ ?_
  conv => whnf
  repeat (first | (refine And.intro (by omega) ?_; (try intro _); conv => whnf) | (refine And.intro ?_ (by omega); (try intro _); conv => whnf) | (refine ⟨_, RemV.nonneg (by omega) (by omega), ?_⟩; conv => whnf))
  try refine RunsS.retU ?_
  try refine RunsS.finU ?_
  exact UnwS.ret tab Tryz.func31 rfl (EndS.mk (()) (trivial) [] (by repeat (first | exact trivial | refine ⟨by rfl, ?_⟩)) rfl rfl (okRet rfl rfl))
theorem rowsU_take (l : List Un) (k : Nat) : rowsU (l.take k) = (rowsU l).take k := by simp [rowsU, List.map_take]
theorem findI_neg {l : List Un} {nm : ByteArray} (h : findI l nm < 0) : ∀ u ∈ l, u.name ≠ nm := by
  refine findI_none.1 ?_
  unfold findI at h ⊢
  split at h
  · omega
  · rfl
theorem findI_nonneg {l : List Un} {nm : ByteArray} (h : 0 ≤ findI l nm) : ∃ k : Nat, findI l nm = k ∧ ∃ hk : k < l.length, l[k].name = nm ∧ ∀ j (hj : j < k), l[j].name ≠ nm := by
  obtain ⟨k, hk⟩ : ∃ k : Nat, findI l nm = k := ⟨(findI l nm).toNat, by omega⟩
  exact ⟨k, hk, findI_some.1 hk⟩
theorem nodup_succ {l : List Un} {k : Nat} (hk : k < l.length) (h : ((l.take k).map Un.name).Nodup) (hn : findI (l.take k) l[k].name < 0) : ((l.take (k + 1)).map Un.name).Nodup := by
  rw [List.take_add_one, List.getElem?_eq_getElem hk, List.map_append]
  refine List.nodup_append.2 ⟨h, by simp, ?_⟩
  intro a ha b hb e
  obtain ⟨u, hu, rfl⟩ := List.mem_map.1 ha
  simp only [Option.toList, List.map_cons, List.map_nil, List.mem_singleton] at hb
  exact findI_neg hn u hu (e.trans hb)
theorem not_nodup {l : List Un} {k : Nat} (hk : k < l.length) (hn : 0 ≤ findI (l.take k) l[k].name) : ¬ (l.map Un.name).Nodup := by
  intro h
  obtain ⟨j, _, hj, hnm, _⟩ := findI_nonneg hn
  rw [List.length_take] at hj
  rw [List.getElem_take] at hnm
  have h1 := (List.pairwise_iff_getElem.1 h) j k (by rw [List.length_map]; omega) (by rw [List.length_map]; omega) (by omega)
  simp only [List.getElem_map] at h1
  exact h1 hnm
theorem twins_fn {h : Array Obj} (l : List Un) {v : Value} (hv : Ro h v 8 (rowsU l)) : FnV Tryz.prog 16 #[v] h fun r h' => r = .bool (decide (¬ (l.map Un.name).Nodup)) ∧ Keeps h.size h h' := by
  have hl := rowsU_len l
  have hm := hv.len
  obtain ⟨r, hr⟩ : ∃ r, r = decide (¬ (l.map Un.name).Nodup) := ⟨_, rfl⟩
  rw [← hr]
  refine Fn.ofG (envL [v]) 1 [.buf 0] [(0, .ro (8) (rowsU l))] (fun k => k < _) Tryz.func16 (by kernel_rfl) rfl Tryz.ntmps16 rfl (fun _ hk => hk) (Sat.ros (vs := [v]) (l := [(8, rowsU l)]) ⟨hv, trivial⟩) fun w0 cs => ?_
  conv => whnf
  refine goS_run tab 1000 _ _ _ _ ?_
  conv => whnf
  repeat (first | (refine And.intro (by omega) ?_; (try intro _); conv => whnf) | (refine And.intro ?_ (by omega); (try intro _); conv => whnf) | (refine ⟨_, RemV.nonneg (by omega) (by omega), ?_⟩; conv => whnf))
  refine RunsS.subR [] (RunsS.loop (fun (k : Nat) => [(7, .v (.int .i64 k)), (6, .v (.int .i64 (rowsU l).length)), (5, .buf 0), (0, .buf 0)]) (fun (k : Nat) => [(0, .ro 8 (rowsU l))]) 1 (fun (k : Nat) => k ≤ l.length ∧ ((l.take k).map Un.name).Nodup) (fun (k : Nat) => l.length - k) ?round2 (0) ?J02) ?SS2 ?HH2
  case J02 => exact (⟨Nat.zero_le _, by simp⟩)
  case SS2 => repeat (first | exact trivial | refine ⟨by rfl, ?_⟩)
  case HH2 => repeat (first | exact trivial | refine ⟨by rfl, ?_⟩)
  rintro k hJ back
  try dsimp only at hJ back
  conv => whnf
  try dsimp only
  refine goS_run tab 1000 _ _ _ _ ?_
  conv => whnf
  repeat (first | (refine And.intro (by omega) ?_; (try intro _); conv => whnf) | (refine And.intro ?_ (by omega); (try intro _); conv => whnf) | (refine ⟨_, RemV.nonneg (by omega) (by omega), ?_⟩; conv => whnf))
  refine ⟨fun hk => ?_, fun hk => ?_⟩ <;> conv => whnf
  · have hk : k < l.length := by omega
    conv => whnf
    repeat (first | (refine And.intro (by omega) ?_; (try intro _); conv => whnf) | (refine And.intro ?_ (by omega); (try intro _); conv => whnf) | (refine ⟨_, RemV.nonneg (by omega) (by omega), ?_⟩; conv => whnf))
    refine ⟨_, rowsU_get hk, ?_⟩
    conv => whnf
    try (refine And.intro (by first | omega | exact Nat.le_of_ble_eq_true rfl) ?_; conv => whnf)
    repeat (first | (refine And.intro (by omega) ?_; (try intro _); conv => whnf) | (refine And.intro ?_ (by omega); (try intro _); conv => whnf) | (refine ⟨_, RemV.nonneg (by omega) (by omega), ?_⟩; conv => whnf))
    refine RunsS.sliceTo tab (b := 0) (rows := rowsU l) (n := (k : Int)) ?_ ⟨by omega, by omega⟩
    try refine goS_run tab 1000 _ _ _ _ ?_
    conv => whnf
    repeat (first | (refine And.intro (by omega) ?_; (try intro _); conv => whnf) | (refine And.intro ?_ (by omega); (try intro _); conv => whnf) | (refine ⟨_, RemV.nonneg (by omega) (by omega), ?_⟩; conv => whnf))
    have C := contT_fn (l.take k) (by rw [List.length_take]; omega) l[k]
    rw [rowsU_take] at C
    by_cases hn : 0 ≤ findI (l.take k) l[k].name
    · rw [decide_eq_true hn] at C
      refine RunsS.callN (C) [2, 1] ?CNr3 (by repeat (first | exact trivial | refine ⟨by rfl, ?_⟩)) ?CNa3
      case CNa3 => rfl
      intro _ _
      conv => whnf
      try refine goS_run tab 1000 _ _ _ _ ?_
      conv => whnf
      repeat (first | (refine And.intro (by omega) ?_; (try intro _); conv => whnf) | (refine And.intro ?_ (by omega); (try intro _); conv => whnf) | (refine ⟨_, RemV.nonneg (by omega) (by omega), ?_⟩; conv => whnf))
      have : r = true := by rw [hr]; exact decide_eq_true (not_nodup hk hn)
      rw [this]
      refine RunsS.retU (UnwS.ret tab Tryz.func16 rfl fun Ez Hz Az Sz K => ⟨_, rfl, rfl, K.keeps⟩)
    · rw [decide_eq_false hn] at C
      refine RunsS.callN (C) [2, 1] ?CNr4 (by repeat (first | exact trivial | refine ⟨by rfl, ?_⟩)) ?CNa4
      case CNa4 => rfl
      intro _ _
      conv => whnf
      try refine goS_run tab 1000 _ _ _ _ ?_
      conv => whnf
      repeat (first | (refine And.intro (by omega) ?_; (try intro _); conv => whnf) | (refine And.intro ?_ (by omega); (try intro _); conv => whnf) | (refine ⟨_, RemV.nonneg (by omega) (by omega), ?_⟩; conv => whnf))
      refine RunsS.subR [] (back (k + 1) ?BJ5 ?BM5) ?SS5 ?HH5
      case BJ5 => exact (⟨hk, nodup_succ hk hJ.2 (by omega)⟩)
      case BM5 => (try dsimp only); omega
      case SS5 => repeat (first | exact trivial | refine ⟨by rfl, ?_⟩)
      case HH5 => repeat (first | exact trivial | refine ⟨by rfl, ?_⟩)
  · conv => whnf
    repeat (first | (refine And.intro (by omega) ?_; (try intro _); conv => whnf) | (refine And.intro ?_ (by omega); (try intro _); conv => whnf) | (refine ⟨_, RemV.nonneg (by omega) (by omega), ?_⟩; conv => whnf))
    have hk : k = l.length := by omega
    have hnd := hJ.2
    rw [hk, List.take_length] at hnd
    have : r = false := by rw [hr]; exact decide_eq_false (fun h => h hnd)
    rw [this]
    refine RunsS.retU (UnwS.ret tab Tryz.func16 rfl fun Ez Hz Az Sz K => ⟨_, rfl, rfl, K.keeps⟩)
end Go.Proofs.YtgnciigjhpcdmaaGreatDoor

namespace Go.Proofs.YtgnciigjhpcdmaaGreatDoor
open Go Go.Fw Go.RatM
set_option maxRecDepth 100000
set_option maxHeartbeats 16000000

abbrev ownU (b : Nat) (l : List Un) : Nat × Fw.Blk := (b, .own 37 8 (rowsU l))
abbrev cellU (b : Nat) (x : SV) : Nat × Fw.Blk := (b, .cells 22 [x])
theorem idxM_fn (l : List Un) (hl : l.length ≤ 9223372036854775807) (s : ByteArray) : FnS Tryz.prog 19 2 [.buf 0, .fn (.func 20) [] [.ptr 1 0]] [ownU 0 l, strB 1 s] (fun _ : Unit => True)
    (fun _ => .ret (.v (.int .i64 (findI l s))) 2 [ownU 0 l, strB 1 s]) := by
  have hlr := rowsU_len l
  obtain ⟨r, hr⟩ : ∃ r, r = findI l s := ⟨_, rfl⟩
  rw [← hr]
  refine FnS.of Tryz.func19 (by kernel_rfl) rfl Tryz.ntmps19 rfl fun E0 F h w0 cs => ?_
  conv => whnf
  refine goS_run tab 1000 _ _ _ _ ?_
  conv => whnf
  repeat (first | (refine And.intro (by omega) ?_; (try intro _); conv => whnf) | (refine And.intro ?_ (by omega); (try intro _); conv => whnf) | (refine ⟨_, RemV.nonneg (by omega) (by omega), ?_⟩; conv => whnf))
  refine RunsS.subR [] (RunsS.loop (fun (k : Nat) => [(8, .v (.int .i64 k)), (7, .v (.int .i64 (rowsU l).length)), (0, .buf 0), (1, .fn (.func 20) [] [.ptr 1 0])]) (fun (k : Nat) => [ownU 0 l, strB 1 s]) 2 (fun (k : Nat) => k ≤ l.length ∧ ∀ j (hj : j < k) (hjl : j < l.length), l[j].name ≠ s) (fun (k : Nat) => l.length - k) ?round1 (0) ?J01) ?SS1 ?HH1
  case J01 => exact (⟨Nat.zero_le _, fun j hj => absurd hj (Nat.not_lt_zero _)⟩)
  case SS1 => repeat (first | exact trivial | refine ⟨by rfl, ?_⟩)
  case HH1 => repeat (first | exact trivial | refine ⟨by rfl, ?_⟩)
  rintro k hJ back
  try dsimp only at hJ back
  conv => whnf
  try dsimp only
  refine goS_run tab 1000 _ _ _ _ ?_
  conv => whnf
  repeat (first | (refine And.intro (by omega) ?_; (try intro _); conv => whnf) | (refine And.intro ?_ (by omega); (try intro _); conv => whnf) | (refine ⟨_, RemV.nonneg (by omega) (by omega), ?_⟩; conv => whnf))
  refine ⟨fun hk => ?_, fun hk => ?_⟩ <;> conv => whnf
  · have hk : k < l.length := by omega
    conv => whnf
    repeat (first | (refine And.intro (by omega) ?_; (try intro _); conv => whnf) | (refine And.intro ?_ (by omega); (try intro _); conv => whnf) | (refine ⟨_, RemV.nonneg (by omega) (by omega), ?_⟩; conv => whnf))
    refine ⟨_, rowsU_get hk, ?_⟩
    conv => whnf
    try (refine And.intro (by first | omega | exact Nat.le_of_ble_eq_true rfl) ?_; conv => whnf)
    repeat (first | (refine And.intro (by omega) ?_; (try intro _); conv => whnf) | (refine And.intro ?_ (by omega); (try intro _); conv => whnf) | (refine ⟨_, RemV.nonneg (by omega) (by omega), ?_⟩; conv => whnf))
    have C := meant1_fn l[k] s
    by_cases hn : l[k].name = s
    · rw [decide_eq_true hn] at C
      refine RunsS.callN (C) [1] ?CNr2 (by repeat (first | exact trivial | refine ⟨by rfl, ?_⟩)) ?CNa2
      case CNa2 => rfl
      intro _ _
      conv => whnf
      try refine goS_run tab 1000 _ _ _ _ ?_
      conv => whnf
      repeat (first | (refine And.intro (by omega) ?_; (try intro _); conv => whnf) | (refine And.intro ?_ (by omega); (try intro _); conv => whnf) | (refine ⟨_, RemV.nonneg (by omega) (by omega), ?_⟩; conv => whnf))
      have : r = k := by rw [hr]; exact findI_some.2 ⟨hk, hn, fun j hj => hJ.2 j hj (by omega)⟩
      rw [this]
      try refine RunsS.retU ?_
      try refine RunsS.finU ?_
      exact UnwS.ret tab Tryz.func19 rfl (EndS.mk (()) (trivial) [] (by repeat (first | exact trivial | refine ⟨by rfl, ?_⟩)) rfl rfl (okRet rfl rfl))
    · rw [decide_eq_false hn] at C
      refine RunsS.callN (C) [1] ?CNr3 (by repeat (first | exact trivial | refine ⟨by rfl, ?_⟩)) ?CNa3
      case CNa3 => rfl
      intro _ _
      conv => whnf
      try refine goS_run tab 1000 _ _ _ _ ?_
      conv => whnf
      repeat (first | (refine And.intro (by omega) ?_; (try intro _); conv => whnf) | (refine And.intro ?_ (by omega); (try intro _); conv => whnf) | (refine ⟨_, RemV.nonneg (by omega) (by omega), ?_⟩; conv => whnf))
      refine RunsS.subR [] (back (k + 1) ?BJ4 ?BM4) ?SS4 ?HH4
      case BJ4 => exact (⟨hk, fun j hj hjl => (Nat.lt_succ_iff_lt_or_eq.1 hj).elim (fun hj => hJ.2 j hj hjl) (fun e => by subst e; exact hn)⟩)
      case BM4 => (try dsimp only); omega
      case SS4 => repeat (first | exact trivial | refine ⟨by rfl, ?_⟩)
      case HH4 => repeat (first | exact trivial | refine ⟨by rfl, ?_⟩)
  · conv => whnf
    repeat (first | (refine And.intro (by omega) ?_; (try intro _); conv => whnf) | (refine And.intro ?_ (by omega); (try intro _); conv => whnf) | (refine ⟨_, RemV.nonneg (by omega) (by omega), ?_⟩; conv => whnf))
    have : r = -1 := by
      rw [hr, findI_none]
      intro w hw
      obtain ⟨j, hj, rfl⟩ := List.getElem_of_mem hw
      exact hJ.2 j (by omega) hj
    rw [this]
    try refine RunsS.retU ?_
    try refine RunsS.finU ?_
    exact UnwS.ret tab Tryz.func19 rfl (EndS.mk (()) (trivial) [] (by repeat (first | exact trivial | refine ⟨by rfl, ?_⟩)) rfl rfl (okRet rfl rfl))
theorem meant_fn (l : List Un) (hl : l.length ≤ 9223372036854775807) (s : ByteArray) : FnS Tryz.prog 18 2 [.v (.string s), .ptr 0 0] [cellU 0 (.buf 1), ownU 1 l] (fun _ : Unit => True)
    (fun _ => .ret (.v (.int .i64 (findI l s))) 2 [cellU 0 (.buf 1), ownU 1 l]) := by
  have C := idxM_fn l hl s
  refine FnS.of Tryz.func18 (by kernel_rfl) rfl Tryz.ntmps18 rfl fun E0 F h w0 cs => ?_
  conv => whnf
  refine goS_run tab 1000 _ _ _ _ ?_
  conv => whnf
  repeat (first | (refine And.intro (by omega) ?_; (try intro _); conv => whnf) | (refine And.intro ?_ (by omega); (try intro _); conv => whnf) | (refine ⟨_, RemV.nonneg (by omega) (by omega), ?_⟩; conv => whnf))
  refine RunsS.callN (C) [1, 2] ?CNr5 (by repeat (first | exact trivial | refine ⟨by rfl, ?_⟩)) ?CNa5
  case CNa5 => rfl
  intro _ _
  conv => whnf
  try refine goS_run tab 1000 _ _ _ _ ?_
  conv => whnf
  repeat (first | (refine And.intro (by omega) ?_; (try intro _); conv => whnf) | (refine And.intro ?_ (by omega); (try intro _); conv => whnf) | (refine ⟨_, RemV.nonneg (by omega) (by omega), ?_⟩; conv => whnf))
  try refine RunsS.retU ?_
  try refine RunsS.finU ?_
  exact UnwS.ret tab Tryz.func18 rfl (EndS.mk (()) (trivial) [] (by repeat (first | exact trivial | refine ⟨by rfl, ?_⟩)) rfl rfl (okRet rfl rfl))
end Go.Proofs.YtgnciigjhpcdmaaGreatDoor

namespace Go.Proofs.YtgnciigjhpcdmaaGreatDoor
open Go Go.Fw Go.NatM Go.RatM
set_option maxRecDepth 100000
set_option maxHeartbeats 16000000

def TabT (F : Nat → Prop) (h : Array Obj) : Prop := TabH h ∧ F 2
theorem tabOk : TOk TabT := by
  refine ⟨fun F F' h hs hT => ⟨hT.1, hs _ hT.2⟩, fun F h h' hT K => ⟨fun j hj => ?_, hT.2⟩⟩
  rw [← hT.1 j hj]
  unfold cellH
  rw [K.same _ hT.2]
theorem TabH.t {h : Array Obj} (hT : TabH h) : TabT (fun k => k < h.size) h := ⟨hT, cellH_lt (hT 0 (by decide))⟩

def foldM : List Rt → Rt → Rt × Int
  | [], a => (a, 0)
  | b :: l, a => if (mulR a b).2 = 0 then foldM l (mulR a b).1 else mulR a b
theorem fold_fn {h : Array Obj} (l : List Rt) (a : Rt) {v : Value} (hv : Ro h v 3 (rowsR l)) (hT : TabH h) : FnV Tryz.prog 22 #[v, a.v, .func (.func 23) #[] #[]] h fun r h' => r = rev (foldM l a) ∧ Keeps h.size h h' := by
  have hl := rowsR_len l
  have hm := hv.len
  obtain ⟨r, hr⟩ : ∃ r, r = foldM l a := ⟨_, rfl⟩
  rw [← hr]
  refine Fn.ofG (envL [v]) 1 [.buf 0, .agg [.v (.bool a.neg), .v (.string a.n), .v (.string a.d)], .fn (.func 23) [] []] [(0, .ro (3) (rowsR l))] (fun k => k < _) Tryz.func22 (by kernel_rfl) rfl Tryz.ntmps22 rfl (fun _ hk => hk) (Sat.ros (vs := [v]) (l := [(3, rowsR l)]) ⟨hv, trivial⟩) fun w0 cs => ?_
  conv => whnf
  refine goS_run tab 1000 _ _ _ _ ?_
  conv => whnf
  repeat (first | (refine And.intro (by omega) ?_; (try intro _); conv => whnf) | (refine And.intro ?_ (by omega); (try intro _); conv => whnf) | (refine ⟨_, RemV.nonneg (by omega) (by omega), ?_⟩; conv => whnf))
  refine RunsS.subR [] (RunsS.loop (fun (⟨k, acc⟩ : Nat × Rt) => [(13, .v (.int .i64 k)), (12, .v (.int .i64 (rowsR l).length)), (11, .buf 0), (6, .ptr 2 0), (4, .ptr 1 0), (2, .fn (.func 23) [] [])]) (fun (⟨k, acc⟩ : Nat × Rt) => [(2, .cells 31 [.v (.bool false), .v (.string ⟨#[]⟩), .v (.string ⟨#[]⟩)]), (1, .cells 31 [.v (.bool acc.neg), .v (.string acc.n), .v (.string acc.d)]), (0, .ro 3 (rowsR l))]) 3 (fun (⟨k, acc⟩ : Nat × Rt) => k ≤ l.length ∧ r = foldM (l.drop k) acc) (fun (⟨k, acc⟩ : Nat × Rt) => l.length - k) ?round1 ((0, a)) ?J01) ?SS1 ?HH1
  case J01 => exact (⟨Nat.zero_le _, hr⟩)
  case SS1 => repeat (first | exact trivial | refine ⟨by rfl, ?_⟩)
  case HH1 => repeat (first | exact trivial | refine ⟨by rfl, ?_⟩)
  rintro ⟨k, acc⟩ hJ back
  try dsimp only at hJ back
  conv => whnf
  try dsimp only
  refine goS_run tab 1000 _ _ _ _ ?_
  conv => whnf
  repeat (first | (refine And.intro (by omega) ?_; (try intro _); conv => whnf) | (refine And.intro ?_ (by omega); (try intro _); conv => whnf) | (refine ⟨_, RemV.nonneg (by omega) (by omega), ?_⟩; conv => whnf))
  refine ⟨fun hk => ?_, fun hk => ?_⟩ <;> conv => whnf
  · have hk : k < l.length := by omega
    have hd : l.drop k = l[k] :: l.drop (k + 1) := List.drop_eq_getElem_cons hk
    have hJ2 := hJ.2
    rw [hd] at hJ2
    unfold foldM at hJ2
    conv => whnf
    repeat (first | (refine And.intro (by omega) ?_; (try intro _); conv => whnf) | (refine And.intro ?_ (by omega); (try intro _); conv => whnf) | (refine ⟨_, RemV.nonneg (by omega) (by omega), ?_⟩; conv => whnf))
    refine ⟨_, rowsR_get hk, ?_⟩
    conv => whnf
    try (refine And.intro (by first | omega | exact Nat.le_of_ble_eq_true rfl) ?_; conv => whnf)
    repeat (first | (refine And.intro (by omega) ?_; (try intro _); conv => whnf) | (refine And.intro ?_ (by omega); (try intro _); conv => whnf) | (refine ⟨_, RemV.nonneg (by omega) (by omega), ?_⟩; conv => whnf))
    refine RunsS.callV (fun Ez Hz Az Sz K => qMul_fn acc l[k] (hT.keeps ⟨K.size, K.same⟩)) ?_
    conv => whnf
    try refine goS_run tab 1000 _ _ _ _ ?_
    conv => whnf
    repeat (first | (refine And.intro (by omega) ?_; (try intro _); conv => whnf) | (refine And.intro ?_ (by omega); (try intro _); conv => whnf) | (refine ⟨_, RemV.nonneg (by omega) (by omega), ?_⟩; conv => whnf))
    refine ⟨fun o1 => ?_, fun o1 => ?_⟩ <;> conv => whnf
    · conv => whnf
      repeat (first | (refine And.intro (by omega) ?_; (try intro _); conv => whnf) | (refine And.intro ?_ (by omega); (try intro _); conv => whnf) | (refine ⟨_, RemV.nonneg (by omega) (by omega), ?_⟩; conv => whnf))
      rw [if_pos o1] at hJ2
      refine RunsS.subR [] (back ((k + 1, (mulR acc l[k]).1)) ?BJ2 ?BM2) ?SS2 ?HH2
      case BJ2 => exact (⟨hk, hJ2⟩)
      case BM2 => (try dsimp only); omega
      case SS2 => repeat (first | exact trivial | refine ⟨by rfl, ?_⟩)
      case HH2 => repeat (first | exact trivial | refine ⟨by rfl, ?_⟩)
    · conv => whnf
      repeat (first | (refine And.intro (by omega) ?_; (try intro _); conv => whnf) | (refine And.intro ?_ (by omega); (try intro _); conv => whnf) | (refine ⟨_, RemV.nonneg (by omega) (by omega), ?_⟩; conv => whnf))
      rw [if_neg o1] at hJ2
      rw [hJ2]
      refine RunsS.retU (UnwS.ret tab Tryz.func22 rfl fun Ez Hz Az Sz K => ⟨_, rfl, rfl, K.keeps⟩)
  · have hk : k = l.length := by omega
    have hJ2 := hJ.2
    rw [hk, List.drop_length] at hJ2
    conv => whnf
    repeat (first | (refine And.intro (by omega) ?_; (try intro _); conv => whnf) | (refine And.intro ?_ (by omega); (try intro _); conv => whnf) | (refine ⟨_, RemV.nonneg (by omega) (by omega), ?_⟩; conv => whnf))
    rw [hJ2]
    refine RunsS.retU (UnwS.ret tab Tryz.func22 rfl fun Ez Hz Az Sz K => ⟨_, rfl, rfl, K.keeps⟩)
end Go.Proofs.YtgnciigjhpcdmaaGreatDoor

namespace Go.RatM
open Go Go.Fw Go.NatM

theorem stepU_again {x : List Un} {u v : Un} (h : stepU x u = .inl v) : stepU x v = .inl v := by
  have key : ∃ b s, v = u.re b s := by
    unfold stepU at h
    split at h
    · split at h
      · cases h; exact ⟨_, _, rfl⟩
      · cases h
    · split at h
      · split at h
        · split at h
          · cases h
          · cases h; exact ⟨_, _, rfl⟩
        · cases h
      · cases h
  obtain ⟨b, s, rfl⟩ := key
  exact h
theorem stepU_fields {x : List Un} {u v : Un} (h : stepU x u = .inl v) : v.name = u.name ∧ v.of_ = u.of_ ∧ v.n = u.n ∧ v.d = u.d := by
  unfold stepU at h
  split at h
  · split at h
    · cases h; exact ⟨rfl, rfl, rfl, rfl⟩
    · cases h
  · split at h
    · split at h
      · split at h
        · cases h
        · cases h; exact ⟨rfl, rfl, rfl, rfl⟩
      · cases h
    · cases h
theorem resU_iff : ∀ {l x y : List Un}, resU l x = .inl y ↔ ∃ z, y = x ++ z ∧ z.length = l.length ∧ ∀ i (h : i < l.length) (h' : i < z.length), stepU (x ++ z.take i) l[i] = .inl z[i]
  | [], x, y => by
    constructor
    · intro h
      cases h
      exact ⟨[], by simp, rfl, fun i h => absurd h (by simp)⟩
    · rintro ⟨z, rfl, hz, _⟩
      have : z = [] := List.eq_nil_of_length_eq_zero hz
      subst this
      simp [resU]
  | u :: l, x, y => by
    constructor
    · intro h
      simp only [resU] at h
      split at h
      · rename_i v hv
        obtain ⟨z, rfl, hz, hs⟩ := resU_iff.1 h
        refine ⟨v :: z, by simp, by simp [hz], ?_⟩
        intro i hi hi'
        cases i with
        | zero => simpa using hv
        | succ i =>
          have := hs i (by simpa using hi) (by simpa using hi')
          simpa using this
      · cases h
    · rintro ⟨z, rfl, hz, hs⟩
      cases z with
      | nil => simp at hz
      | cons v z =>
        have h0 := hs 0 (by simp) (by simp)
        simp only [List.take_zero, List.append_nil, List.getElem_cons_zero] at h0
        simp only [resU, h0]
        refine resU_iff.2 ⟨z, by simp, by simpa using hz, ?_⟩
        intro i hi hi'
        have := hs (i + 1) (by simpa using hi) (by simpa using hi')
        simpa using this
/-- x are the units l, resolved -/
def ResP (l x : List Un) : Prop := x.length = l.length ∧ ∀ i (h : i < l.length) (h' : i < x.length), stepU (x.take i) l[i] = .inl x[i]
theorem resU_nil {l x : List Un} : resU l [] = .inl x ↔ ResP l x := by
  rw [resU_iff]
  constructor
  · rintro ⟨z, e, h1, h2⟩
    rw [List.nil_append] at e
    subst e
    exact ⟨h1, by simpa using h2⟩
  · rintro ⟨h1, h2⟩
    exact ⟨x, rfl, h1, by simpa using h2⟩
theorem ResP.again {l x : List Un} (h : ResP l x) : ResP x x := ⟨rfl, fun i hi hi' => stepU_again (h.2 i (by rw [← h.1]; exact hi) hi')⟩
theorem ResP.names {l x : List Un} (h : ResP l x) : x.map Un.name = l.map Un.name := by
  refine List.ext_getElem (by rw [List.length_map, List.length_map, h.1]) fun i h1 h2 => ?_
  rw [List.length_map] at h1 h2
  rw [List.getElem_map, List.getElem_map]
  exact (stepU_fields (h.2 i h2 h1)).1
theorem resolveU_inl {l x : List Un} : resolveU l = .inl x ↔ l.length ≤ 32 ∧ (l.map Un.name).Nodup ∧ ResP l x := by
  unfold resolveU
  by_cases h1 : 32 < l.length
  · rw [if_pos h1]
    exact ⟨(fun h => by cases h), fun h => absurd h.1 (by omega)⟩
  · rw [if_neg h1]
    by_cases h2 : (l.map Un.name).Nodup
    · rw [if_neg (fun h => h h2), resU_nil]
      exact ⟨fun h => ⟨by omega, h2, h⟩, fun h => h.2.2⟩
    · rw [if_pos h2]
      exact ⟨(fun h => by cases h), fun h => absurd h.2.1 h2⟩
theorem resolveU_again {l x : List Un} (h : resolveU l = .inl x) : resolveU x = .inl x := by
  obtain ⟨h1, h2, h3⟩ := resolveU_inl.1 h
  exact resolveU_inl.2 ⟨by rw [h3.1]; exact h1, by rw [h3.names]; exact h2, h3.again⟩
theorem checkU_res {l x : List Un} (h : resolveU l = .inl x) : checkU x = 0 := by
  unfold checkU
  rw [resolveU_again h]
  exact if_pos rfl
theorem checkU_inr {l : List Un} {e : Int} (h : resolveU l = .inr e) : checkU l = e := by
  unfold checkU
  rw [h]
/-- what is known of each unit -/
theorem ResP.base {l x : List Un} (h : ResP l x) {i : Nat} (hi : i < x.length) (he : x[i].of_ = NatM.mt) : x[i].base = i ∧ x[i].scale = one1 := by
  have hi' : i < l.length := by rw [← h.1]; exact hi
  have hs := h.2 i hi' hi
  have e1 := (stepU_fields hs).2.1
  unfold stepU at hs
  rw [if_pos (e1 ▸ he)] at hs
  split at hs
  · have hs := Sum.inl.inj hs
    rw [← hs]
    refine ⟨?_, rfl⟩
    show ((x.take i).length : Int) = i
    rw [List.length_take]
    omega
  · cases hs
theorem ResP.made {l x : List Un} (h : ResP l x) {i : Nat} (hi : i < x.length) (he : x[i].of_ ≠ NatM.mt) : btw x[i].n ∧ btw x[i].d ∧ ∃ j, ∃ hj : j < i, x[j].name = x[i].of_ ∧ x[i].base = x[j].base ∧ x[i].scale = (mulR x[j].scale (newR x[i].n x[i].d).1).1 := by
  have hi' : i < l.length := by rw [← h.1]; exact hi
  have hs := h.2 i hi' hi
  obtain ⟨_, e1, e2, e3⟩ := stepU_fields hs
  unfold stepU at hs
  rw [if_neg (e1 ▸ he)] at hs
  split at hs
  · rename_i hb
    split at hs
    · rename_i v hv
      split at hs
      · cases hs
      · rename_i hf
        have hs := Sum.inl.inj hs
        obtain ⟨j, hj⟩ : ∃ j : Nat, findI (x.take i) l[i].of_ = j := ⟨(findI (x.take i) l[i].of_).toNat, by omega⟩
        rw [hj, Int.toNat_natCast] at hv
        obtain ⟨hj1, hj2, _⟩ := findI_some.1 hj
        rw [List.length_take] at hj1
        have hv2 := (List.getElem?_eq_some_iff.1 hv).2
        rw [List.getElem_take] at hv2 hj2
        refine ⟨e2 ▸ hb.1, e3 ▸ hb.2, j, by omega, by rw [e1]; exact hj2, ?_, ?_⟩
        · rw [← hs, hv2]; rfl
        · have : x[i].scale = (l[i].re v.base (mulR v.scale (newR l[i].n l[i].d).1).1).scale := by rw [hs]
          rw [this, e2, e3, hv2]; rfl
    · cases hs
  · cases hs
theorem ResP.sc {l x : List Un} (h : ResP l x) {k : Nat} (hk : 1 + 3 * l.length ≤ k) (h2 : k ≤ 256) : ∀ u ∈ x, Sc1 k u := by
  intro u hu
  exact (resU_sc (k := 1) (by omega) (by omega) (fun w hw => by cases hw) (resU_nil.2 h) u hu).mono hk
end Go.RatM

namespace Go.Proofs.YtgnciigjhpcdmaaGreatDoor
open Go Go.Fw Go.NatM Go.RatM
set_option maxRecDepth 100000
set_option maxHeartbeats 64000000

def resO : List Un ⊕ Int → OutS
  | .inl x => .ret (.tup [.buf 1, .v (.int .i64 0)]) 2 [ownU 1 x]
  | .inr e => .ret (.tup [.v (.slice none 0 0), .v (.int .i64 e)]) 1 []

def scOk (x : List Un) : Prop := ∀ w ∈ x, Sc1 (1 + 3 * x.length) w
theorem scOk.nil : scOk [] := fun w hw => by cases hw
theorem scOk.step {x : List Un} {u v : Un} (hx : scOk x) (hl : x.length < 32) (h : stepU x u = .inl v) : scOk (x ++ [v]) := by
  intro w hw
  have hs := stepU_sc (k := 1 + 3 * x.length) (by omega) (by omega) hx h
  have hle : (x ++ [v]).length = x.length + 1 := by simp
  rw [hle]
  rcases List.mem_append.1 hw with hw | hw
  · exact (hx w hw).mono (by omega)
  · rw [List.mem_singleton.1 hw]; exact hs.mono (by omega)
theorem mulR_one {q : Q} {k : Nat} (ok : q.Ok) (hk : q.le k) (h : k ≤ 255) : mulR one1 (encQ q) = (encQ q, 0) := by
  obtain ⟨c, c1, c2, c3, c4⟩ := mulR_ok oq_ok ok oq_le hk (by omega)
  have : c = q := Q.inj c2 ok (by rw [c4, oq_val]; grind)
  subst this
  exact c1
theorem mulR_new {q : Q} {k : Nat} {n d : Int} (ok : q.Ok) (hk : q.le k) (h : k + 3 ≤ 256) (hn : btw n) (hd : btw d) : (mulR (encQ q) (newR n d).1).2 = 0 := by
  obtain ⟨n1, n2, n3⟩ := newQ_pos hn hd
  obtain ⟨c, c1, c2, c3, c4⟩ := mulR_ok ok n1 hk n2 h
  rw [newR_ok (by omega), c1]
theorem foldM_two {q : Q} {k : Nat} {n d : Int} (ok : q.Ok) (hk : q.le k) (h : k + 3 ≤ 256) (hn : btw n) (hd : btw d) : foldM [encQ q, (newR n d).1] one1 = ((mulR (encQ q) (newR n d).1).1, 0) := by
  have h1 := mulR_new ok hk h hn hd
  unfold foldM
  rw [mulR_one ok hk (by omega), if_pos rfl]
  unfold foldM
  rw [if_pos h1]
  rfl
abbrev rtB (b : Nat) (a : Rt) : Nat × Fw.Blk := (b, .cells 31 [.v (.bool a.neg), .v (.string a.n), .v (.string a.d)])
theorem rowsU_app (x : List Un) (v : Un) : rowsU x ++ [v.row] = rowsU (x ++ [v]) := by simp [rowsU]
theorem foldM_nil : foldM [] one1 = (one1, 0) := rfl
theorem newR_one : newR 1 1 = (one1, 0) := (newR_ok (by decide)).trans (by rw [show newQ 1 1 = oq from rfl]; rfl)

theorem resolve_fn (l : List Un) (hl : l.length ≤ 9223372036854775807) (hi : ∀ u ∈ l, (-9223372036854775808 ≤ u.n ∧ u.n ≤ 9223372036854775807) ∧ (-9223372036854775808 ≤ u.d ∧ u.d ≤ 9223372036854775807)) :
    FnT Tryz.prog TabT 7 1 [.buf 0] [(0, .ro 8 (rowsU l))] (fun _ : Unit => True) (fun _ => resO (resolveU l)) := by
  have hlr := rowsU_len l
  obtain ⟨r, hr⟩ : ∃ r, r = resolveU l := ⟨_, rfl⟩
  rw [← hr]
  unfold resolveU at hr
  refine FnT.of Tryz.func7 (by kernel_rfl) rfl Tryz.ntmps7 rfl fun E0 F h hT w0 cs => ?_
  conv => whnf
  refine goS_run tab 1000 _ _ _ _ ?_
  conv => whnf
  repeat (first | (refine And.intro (by omega) ?_; (try intro _); conv => whnf) | (refine And.intro ?_ (by omega); (try intro _); conv => whnf) | (refine ⟨_, RemV.nonneg (by omega) (by omega), ?_⟩; conv => whnf))
  refine ⟨fun h1 => ?_, fun h1 => ?_⟩ <;> conv => whnf
  · rw [if_pos (by omega)] at hr
    subst hr
    conv => whnf
    repeat (first | (refine And.intro (by omega) ?_; (try intro _); conv => whnf) | (refine And.intro ?_ (by omega); (try intro _); conv => whnf) | (refine ⟨_, RemV.nonneg (by omega) (by omega), ?_⟩; conv => whnf))
    try refine RunsS.retU ?_
    try refine RunsS.finU ?_
    exact UnwS.ret tab Tryz.func7 rfl (EndS.mk (()) (trivial) [] (by repeat (first | exact trivial | refine ⟨by rfl, ?_⟩)) rfl rfl (okRet rfl rfl))
  · rw [if_neg (by omega)] at hr
    have h1 : l.length ≤ 32 := by omega
    conv => whnf
    repeat (first | (refine And.intro (by omega) ?_; (try intro _); conv => whnf) | (refine And.intro ?_ (by omega); (try intro _); conv => whnf) | (refine ⟨_, RemV.nonneg (by omega) (by omega), ?_⟩; conv => whnf))
    by_cases hn : (l.map Un.name).Nodup
    · rw [if_neg (fun h => h hn)] at hr
      refine RunsS.callV (fun Ez Hz Az Sz K => twins_fn l (Sz.ro (b := 0) rfl)) ?_
      conv => whnf
      rw [decide_eq_false (fun h => h hn)]
      try dsimp only
      try refine goS_run tab 1000 _ _ _ _ ?_
      conv => whnf
      repeat (first | (refine And.intro (by omega) ?_; (try intro _); conv => whnf) | (refine And.intro ?_ (by omega); (try intro _); conv => whnf) | (refine ⟨_, RemV.nonneg (by omega) (by omega), ?_⟩; conv => whnf))
      refine RunsS.callV (fun Ez Hz Az Sz K => qNew_fn 1 1 (by omega) (by omega) (tabOk.at hT K).1) ?_
      conv => whnf
      rw [newR_one]
      try dsimp only
      try refine goS_run tab 1000 _ _ _ _ ?_
      conv => whnf
      repeat (first | (refine And.intro (by omega) ?_; (try intro _); conv => whnf) | (refine And.intro ?_ (by omega); (try intro _); conv => whnf) | (refine ⟨_, RemV.nonneg (by omega) (by omega), ?_⟩; conv => whnf))
      refine RunsS.subR (nx' := 3) (l' := [(25, .v (.int .i64 0)), (24, .v (.int .i64 (rowsU l).length)), (23, .buf 0), (6, .fn (.func 18) [] [.ptr 1 0]), (4, .ptr 2 0), (3, .v (.int .i64 0)), (2, .ptr 1 0)]) (H' := [rtB 2 one1, cellU 1 (.v (.slice none 0 0)), (0, .ro 8 (rowsU l))]) [] ?_ (by repeat (first | exact trivial | refine ⟨by rfl, ?_⟩)) (by repeat (first | exact trivial | refine ⟨by rfl, ?_⟩))
      refine RunsS.nilOwn (l' := [(25, .v (.int .i64 0)), (24, .v (.int .i64 (rowsU l).length)), (23, .buf 0), (6, .fn (.func 18) [] [.ptr 1 0]), (4, .ptr 2 0), (3, .v (.int .i64 0)), (2, .ptr 1 0)]) (H' := [rtB 2 one1, cellU 1 (.buf 3), (0, .ro 8 (rowsU l))]) 37 8 ?_ (by rfl) (by rfl) (by rfl)
      refine RunsS.subR [] (RunsS.loop (fun (⟨k, x⟩ : Nat × List Un) => [(25, .v (.int .i64 k)), (24, .v (.int .i64 (rowsU l).length)), (23, .buf 0), (6, .fn (.func 18) [] [.ptr 1 0]), (4, .ptr 2 0), (3, .v (.int .i64 0)), (2, .ptr 1 0)]) (fun (⟨k, x⟩ : Nat × List Un) => [ownU 3 x, rtB 2 one1, cellU 1 (.buf 3), (0, .ro 8 (rowsU l))]) 4 (fun (⟨k, x⟩ : Nat × List Un) => k ≤ l.length ∧ x.length = k ∧ scOk x ∧ r = resU (l.drop k) x) (fun (⟨k, x⟩ : Nat × List Un) => l.length - k) ?round1 ((0, [])) ?J01) ?SS1 ?HH1
      case J01 => exact (⟨Nat.zero_le _, rfl, scOk.nil, hr⟩)
      case SS1 => repeat (first | exact trivial | refine ⟨by rfl, ?_⟩)
      case HH1 => repeat (first | exact trivial | refine ⟨by rfl, ?_⟩)
      rintro ⟨k, x⟩ hJ back
      try dsimp only at hJ back
      conv => whnf
      try dsimp only
      refine goS_run tab 1000 _ _ _ _ ?_
      conv => whnf
      repeat (first | (refine And.intro (by omega) ?_; (try intro _); conv => whnf) | (refine And.intro ?_ (by omega); (try intro _); conv => whnf) | (refine ⟨_, RemV.nonneg (by omega) (by omega), ?_⟩; conv => whnf))
      refine ⟨fun hk => ?_, fun hk => ?_⟩ <;> conv => whnf
      · have hk : k < l.length := by omega
        have hd : l.drop k = l[k] :: l.drop (k + 1) := List.drop_eq_getElem_cons hk
        obtain ⟨hJ1, hJ2, hJ3, hJ4⟩ := hJ
        rw [hd] at hJ4
        simp only [resU] at hJ4
        conv => whnf
        repeat (first | (refine And.intro (by omega) ?_; (try intro _); conv => whnf) | (refine And.intro ?_ (by omega); (try intro _); conv => whnf) | (refine ⟨_, RemV.nonneg (by omega) (by omega), ?_⟩; conv => whnf))
        refine ⟨_, rowsU_get hk, ?_⟩
        conv => whnf
        try (refine And.intro (by first | omega | exact Nat.le_of_ble_eq_true rfl) ?_; conv => whnf)
        repeat (first | (refine And.intro (by omega) ?_; (try intro _); conv => whnf) | (refine And.intro ?_ (by omega); (try intro _); conv => whnf) | (refine ⟨_, RemV.nonneg (by omega) (by omega), ?_⟩; conv => whnf))
        refine ⟨fun e0 => ?_, fun e0 => ?_⟩ <;> conv => whnf
        · have st : stepU x l[k] = if l[k].n = 0 ∧ l[k].d = 0 then .inl (l[k].re k one1) else .inr 90 := by
            unfold stepU
            rw [if_pos e0, hJ2]
          by_cases hz : l[k].n = 0 ∧ l[k].d = 0
          · rw [if_pos hz] at st
            rw [st] at hJ4
            conv => whnf
            repeat (first | (refine And.intro (by omega) ?_; (try intro _); conv => whnf) | (refine And.intro ?_ (by omega); (try intro _); conv => whnf) | (refine ⟨_, RemV.nonneg (by omega) (by omega), ?_⟩; conv => whnf))
            refine RunsS.callV (fun Ez Hz Az Sz K => fold_fn [] one1 Ro.nil (tabOk.at hT K).1) ?_
            conv => whnf
            rw [foldM_nil]
            try dsimp only
            try refine goS_run tab 1000 _ _ _ _ ?_
            conv => whnf
            repeat (first | (refine And.intro (by omega) ?_; (try intro _); conv => whnf) | (refine And.intro ?_ (by omega); (try intro _); conv => whnf) | (refine ⟨_, RemV.nonneg (by omega) (by omega), ?_⟩; conv => whnf))
            refine And.intro (appOb (by rw [rowsU_len]; omega)) ?_
            conv => whnf
            try refine goS_run tab 1000 _ _ _ _ ?_
            conv => whnf
            repeat (first | (refine And.intro (by omega) ?_; (try intro _); conv => whnf) | (refine And.intro ?_ (by omega); (try intro _); conv => whnf) | (refine ⟨_, RemV.nonneg (by omega) (by omega), ?_⟩; conv => whnf))
            refine RunsS.rowsEq (6) (rowsU_app x (l[k].re k one1)) ?_
            conv => whnf
            refine RunsS.subR [(3, 6)] (back ((k + 1, x ++ [(l[k].re k one1)])) ?BJ2 ?BM2) ?SS2 ?HH2
            case BJ2 => exact (⟨hk, by rw [List.length_append, hJ2]; rfl, hJ3.step (by omega) st, hJ4⟩)
            case BM2 => (try dsimp only); omega
            case SS2 => repeat (first | exact trivial | refine ⟨by rfl, ?_⟩)
            case HH2 => repeat (first | exact trivial | refine ⟨by rfl, ?_⟩)
          · rw [if_neg hz] at st
            rw [st] at hJ4
            subst hJ4
            by_cases hz1 : l[k].n = 0
            · have hz2 : l[k].d ≠ 0 := fun e => hz ⟨hz1, e⟩
              conv => whnf
              repeat (first | (refine And.intro (by omega) ?_; (try intro _); conv => whnf) | (refine And.intro ?_ (by omega); (try intro _); conv => whnf) | (refine ⟨_, RemV.nonneg (by omega) (by omega), ?_⟩; conv => whnf))
              try refine RunsS.retU ?_
              try refine RunsS.finU ?_
              exact UnwS.ret tab Tryz.func7 rfl (EndS.mk (()) (trivial) [] (by repeat (first | exact trivial | refine ⟨by rfl, ?_⟩)) rfl rfl (okRet rfl rfl))
            · conv => whnf
              repeat (first | (refine And.intro (by omega) ?_; (try intro _); conv => whnf) | (refine And.intro ?_ (by omega); (try intro _); conv => whnf) | (refine ⟨_, RemV.nonneg (by omega) (by omega), ?_⟩; conv => whnf))
              try refine RunsS.retU ?_
              try refine RunsS.finU ?_
              exact UnwS.ret tab Tryz.func7 rfl (EndS.mk (()) (trivial) [] (by repeat (first | exact trivial | refine ⟨by rfl, ?_⟩)) rfl rfl (okRet rfl rfl))
        · conv => whnf
          repeat (first | (refine And.intro (by omega) ?_; (try intro _); conv => whnf) | (refine And.intro ?_ (by omega); (try intro _); conv => whnf) | (refine ⟨_, RemV.nonneg (by omega) (by omega), ?_⟩; conv => whnf))
          have hi' := hi l[k] (List.getElem_mem hk)
          by_cases b1 : btw l[k].n
          · refine RunsS.callV (fun Ez Hz Az Sz K => between_fn l[k].n) ?_
            conv => whnf
            rw [decide_eq_true b1]
            try dsimp only
            try refine goS_run tab 1000 _ _ _ _ ?_
            conv => whnf
            repeat (first | (refine And.intro (by omega) ?_; (try intro _); conv => whnf) | (refine And.intro ?_ (by omega); (try intro _); conv => whnf) | (refine ⟨_, RemV.nonneg (by omega) (by omega), ?_⟩; conv => whnf))
            by_cases b2 : btw l[k].d
            · refine RunsS.callV (fun Ez Hz Az Sz K => between_fn l[k].d) ?_
              conv => whnf
              rw [decide_eq_true b2]
              try dsimp only
              try refine goS_run tab 1000 _ _ _ _ ?_
              conv => whnf
              repeat (first | (refine And.intro (by omega) ?_; (try intro _); conv => whnf) | (refine And.intro ?_ (by omega); (try intro _); conv => whnf) | (refine ⟨_, RemV.nonneg (by omega) (by omega), ?_⟩; conv => whnf))
              by_cases hf : findI x l[k].of_ < 0
              · have st : stepU x l[k] = .inr 110 := by
                  unfold stepU
                  rw [if_neg e0, if_pos ⟨b1, b2⟩]
                  split
                  · rw [if_pos hf]
                  · rfl
                rw [st] at hJ4
                subst hJ4
                refine RunsS.callN (meant_fn x (by omega) l[k].of_) [1, 3] ?CNr3 (by repeat (first | exact trivial | refine ⟨by rfl, ?_⟩)) ?CNa3
                case CNa3 => rfl
                intro _ _
                conv => whnf
                try refine goS_run tab 1000 _ _ _ _ ?_
                conv => whnf
                repeat (first | (refine And.intro (by omega) ?_; (try intro _); conv => whnf) | (refine And.intro ?_ (by omega); (try intro _); conv => whnf) | (refine ⟨_, RemV.nonneg (by omega) (by omega), ?_⟩; conv => whnf))
                try refine RunsS.retU ?_
                try refine RunsS.finU ?_
                exact UnwS.ret tab Tryz.func7 rfl (EndS.mk (()) (trivial) [] (by repeat (first | exact trivial | refine ⟨by rfl, ?_⟩)) rfl rfl (okRet rfl rfl))
              · obtain ⟨j, hj, hj1, hj2⟩ := findI_nonneg (l := x) (nm := l[k].of_) (by omega)
                have st : stepU x l[k] = .inl (l[k].re x[j].base (mulR x[j].scale (newR l[k].n l[k].d).1).1) := by
                  unfold stepU
                  rw [if_neg e0, if_pos ⟨b1, b2⟩, hj, Int.toNat_natCast, List.getElem?_eq_getElem hj1]
                  exact if_neg (by omega)
                rw [st] at hJ4
                obtain ⟨q, q1, q2, q3, q4⟩ := hJ3 x[j] (List.getElem_mem hj1)
                have fm : foldM [x[j].scale, (newR l[k].n l[k].d).1] one1 = ((mulR x[j].scale (newR l[k].n l[k].d).1).1, 0) := by rw [q1]; exact foldM_two q2 q3 (by omega) b1 b2
                have nm : newR l[k].n l[k].d = ((newR l[k].n l[k].d).1, 0) := by rw [newR_ok (by omega)]
                have C := meant_fn x (by omega) l[k].of_
                rw [hj] at C
                have hxr := rowsU_len x
                refine RunsS.callN (C) [1, 3] ?CNr4 (by repeat (first | exact trivial | refine ⟨by rfl, ?_⟩)) ?CNa4
                case CNa4 => rfl
                intro _ _
                conv => whnf
                try refine goS_run tab 1000 _ _ _ _ ?_
                conv => whnf
                repeat (first | (refine And.intro (by omega) ?_; (try intro _); conv => whnf) | (refine And.intro ?_ (by omega); (try intro _); conv => whnf) | (refine ⟨_, RemV.nonneg (by omega) (by omega), ?_⟩; conv => whnf))
                refine RunsS.callV (fun Ez Hz Az Sz K => qNew_fn l[k].n l[k].d hi'.1 hi'.2 (tabOk.at hT K).1) ?_
                conv => whnf
                rw [nm]
                try dsimp only
                try refine goS_run tab 1000 _ _ _ _ ?_
                conv => whnf
                repeat (first | (refine And.intro (by omega) ?_; (try intro _); conv => whnf) | (refine And.intro ?_ (by omega); (try intro _); conv => whnf) | (refine ⟨_, RemV.nonneg (by omega) (by omega), ?_⟩; conv => whnf))
                refine ⟨_, rowsU_get hj1, ?_⟩
                conv => whnf
                try (refine And.intro (by first | omega | exact Nat.le_of_ble_eq_true rfl) ?_; conv => whnf)
                repeat (first | (refine And.intro (by omega) ?_; (try intro _); conv => whnf) | (refine And.intro ?_ (by omega); (try intro _); conv => whnf) | (refine ⟨_, RemV.nonneg (by omega) (by omega), ?_⟩; conv => whnf))
                refine RunsS.held tab (.fl 0 (.fl 1 (.fl 2 (.fl 3 (.fl 4 (.fl 5 (.e1 6 [] (.fl 7 .done)))))))) (by kernel_rfl) ?_
                conv => whnf
                try refine goR_run tab _ _ _ _ _ _ ?_
                conv => whnf
                repeat (first | (refine And.intro (by omega) ?_; (try intro _); conv => whnf) | (refine And.intro ?_ (by omega); (try intro _); conv => whnf) | (refine And.intro (by (conv => whnf); (repeat (refine And.intro (by (conv => whnf); first | rfl | exact trivial) ?_; conv => whnf)); exact trivial) ?_; conv => whnf) | (refine ⟨_, RemV.nonneg (by omega) (by omega), ?_⟩; conv => whnf))
                try refine goS_run tab 1000 _ _ _ _ ?_
                conv => whnf
                repeat (first | (refine And.intro (by omega) ?_; (try intro _); conv => whnf) | (refine And.intro ?_ (by omega); (try intro _); conv => whnf) | (refine ⟨_, RemV.nonneg (by omega) (by omega), ?_⟩; conv => whnf))
                refine ⟨_, rowsU_get hj1, ?_⟩
                conv => whnf
                try (refine And.intro (by first | omega | exact Nat.le_of_ble_eq_true rfl) ?_; conv => whnf)
                try refine goR_run tab _ _ _ _ _ _ ?_
                conv => whnf
                repeat (first | (refine And.intro (by omega) ?_; (try intro _); conv => whnf) | (refine And.intro ?_ (by omega); (try intro _); conv => whnf) | (refine And.intro (by (conv => whnf); (repeat (refine And.intro (by (conv => whnf); first | rfl | exact trivial) ?_; conv => whnf)); exact trivial) ?_; conv => whnf) | (refine ⟨_, RemV.nonneg (by omega) (by omega), ?_⟩; conv => whnf))
                try refine goS_run tab 1000 _ _ _ _ ?_
                conv => whnf
                repeat (first | (refine And.intro (by omega) ?_; (try intro _); conv => whnf) | (refine And.intro ?_ (by omega); (try intro _); conv => whnf) | (refine ⟨_, RemV.nonneg (by omega) (by omega), ?_⟩; conv => whnf))
                refine RunsS.callV (fun Ez Hz Az Sz K => fold_fn [x[j].scale, (newR l[k].n l[k].d).1] one1 (Sz.ro (b := 6) rfl) (tabOk.at hT K).1) ?_
                conv => whnf
                rw [fm]
                try dsimp only
                try refine goS_run tab 1000 _ _ _ _ ?_
                conv => whnf
                repeat (first | (refine And.intro (by omega) ?_; (try intro _); conv => whnf) | (refine And.intro ?_ (by omega); (try intro _); conv => whnf) | (refine ⟨_, RemV.nonneg (by omega) (by omega), ?_⟩; conv => whnf))
                refine And.intro (appOb (by rw [rowsU_len]; omega)) ?_
                conv => whnf
                try refine goS_run tab 1000 _ _ _ _ ?_
                conv => whnf
                repeat (first | (refine And.intro (by omega) ?_; (try intro _); conv => whnf) | (refine And.intro ?_ (by omega); (try intro _); conv => whnf) | (refine ⟨_, RemV.nonneg (by omega) (by omega), ?_⟩; conv => whnf))
                refine RunsS.rowsEq (8) (rowsU_app x (l[k].re x[j].base (mulR x[j].scale (newR l[k].n l[k].d).1).1)) ?_
                conv => whnf
                refine RunsS.subR [(3, 8)] (back ((k + 1, x ++ [l[k].re x[j].base (mulR x[j].scale (newR l[k].n l[k].d).1).1])) ?BJ5 ?BM5) ?SS5 ?HH5
                case BJ5 => exact (⟨hk, by rw [List.length_append, hJ2]; rfl, hJ3.step (by omega) st, hJ4⟩)
                case BM5 => (try dsimp only); omega
                case SS5 => repeat (first | exact trivial | refine ⟨by rfl, ?_⟩)
                case HH5 => repeat (first | exact trivial | refine ⟨by rfl, ?_⟩)
            · have st : stepU x l[k] = .inr 90 := by
                unfold stepU
                rw [if_neg e0, if_neg fun h => b2 h.2]
              rw [st] at hJ4
              subst hJ4
              refine RunsS.callV (fun Ez Hz Az Sz K => between_fn l[k].d) ?_
              conv => whnf
              rw [decide_eq_false b2]
              try dsimp only
              try refine goS_run tab 1000 _ _ _ _ ?_
              conv => whnf
              repeat (first | (refine And.intro (by omega) ?_; (try intro _); conv => whnf) | (refine And.intro ?_ (by omega); (try intro _); conv => whnf) | (refine ⟨_, RemV.nonneg (by omega) (by omega), ?_⟩; conv => whnf))
              try refine RunsS.retU ?_
              try refine RunsS.finU ?_
              exact UnwS.ret tab Tryz.func7 rfl (EndS.mk (()) (trivial) [] (by repeat (first | exact trivial | refine ⟨by rfl, ?_⟩)) rfl rfl (okRet rfl rfl))
          · have st : stepU x l[k] = .inr 90 := by
              unfold stepU
              rw [if_neg e0, if_neg fun h => b1 h.1]
            rw [st] at hJ4
            subst hJ4
            refine RunsS.callV (fun Ez Hz Az Sz K => between_fn l[k].n) ?_
            conv => whnf
            rw [decide_eq_false b1]
            try dsimp only
            try refine goS_run tab 1000 _ _ _ _ ?_
            conv => whnf
            repeat (first | (refine And.intro (by omega) ?_; (try intro _); conv => whnf) | (refine And.intro ?_ (by omega); (try intro _); conv => whnf) | (refine ⟨_, RemV.nonneg (by omega) (by omega), ?_⟩; conv => whnf))
            try refine RunsS.retU ?_
            try refine RunsS.finU ?_
            exact UnwS.ret tab Tryz.func7 rfl (EndS.mk (()) (trivial) [] (by repeat (first | exact trivial | refine ⟨by rfl, ?_⟩)) rfl rfl (okRet rfl rfl))
      · have hk : k = l.length := by omega
        have hJ4 := hJ.2.2.2
        rw [hk, List.drop_length] at hJ4
        have hJ4 : r = .inl x := hJ4
        conv => whnf
        repeat (first | (refine And.intro (by omega) ?_; (try intro _); conv => whnf) | (refine And.intro ?_ (by omega); (try intro _); conv => whnf) | (refine ⟨_, RemV.nonneg (by omega) (by omega), ?_⟩; conv => whnf))
        rw [hJ4]
        try refine RunsS.retU ?_
        try refine RunsS.finU ?_
        exact UnwS.ret tab Tryz.func7 rfl (EndS.mk (()) (trivial) [(1, 3)] (by repeat (first | exact trivial | refine ⟨by rfl, ?_⟩)) rfl rfl (okRet rfl rfl))
    · rw [if_pos hn] at hr
      subst hr
      refine RunsS.callV (fun Ez Hz Az Sz K => twins_fn l (Sz.ro (b := 0) rfl)) ?_
      conv => whnf
      rw [decide_eq_true hn]
      try dsimp only
      try refine goS_run tab 1000 _ _ _ _ ?_
      conv => whnf
      repeat (first | (refine And.intro (by omega) ?_; (try intro _); conv => whnf) | (refine And.intro ?_ (by omega); (try intro _); conv => whnf) | (refine ⟨_, RemV.nonneg (by omega) (by omega), ?_⟩; conv => whnf))
      try refine RunsS.retU ?_
      try refine RunsS.finU ?_
      exact UnwS.ret tab Tryz.func7 rfl (EndS.mk (()) (trivial) [] (by repeat (first | exact trivial | refine ⟨by rfl, ?_⟩)) rfl rfl (okRet rfl rfl))
end Go.Proofs.YtgnciigjhpcdmaaGreatDoor

namespace Go.Proofs.YtgnciigjhpcdmaaGreatDoor
open Go Go.Fw Go.NatM Go.RatM
set_option maxRecDepth 100000
set_option maxHeartbeats 64000000

def UnOk (l : List Un) : Prop := ∀ u ∈ l, (-9223372036854775808 ≤ u.n ∧ u.n ≤ 9223372036854775807) ∧ (-9223372036854775808 ≤ u.d ∧ u.d ≤ 9223372036854775807)
theorem resOk {l x : List Un} (hl : l.length ≤ 9223372036854775807) (hi : UnOk l) (hx : resolveU l = .inl x) :
    FnT Tryz.prog TabT 7 1 [.buf 0] [(0, .ro 8 (rowsU l))] (fun _ : Unit => True) (fun _ => .ret (.tup [.buf 1, .v (.int .i64 0)]) 2 [ownU 1 x]) := by
  have := resolve_fn l hl hi
  rw [hx] at this
  exact this
theorem resNo {l : List Un} {e : Int} (hl : l.length ≤ 9223372036854775807) (hi : UnOk l) (hx : resolveU l = .inr e) :
    FnT Tryz.prog TabT 7 1 [.buf 0] [(0, .ro 8 (rowsU l))] (fun _ : Unit => True) (fun _ => .ret (.tup [.v (.slice none 0 0), .v (.int .i64 e)]) 1 []) := by
  have := resolve_fn l hl hi
  rw [hx] at this
  exact this
theorem take_eq_succ {a b : List Un} {k : Nat} (ha : k < a.length) (hb : k < b.length) (h : a.take k = b.take k) (he : a[k] = b[k]) : a.take (k + 1) = b.take (k + 1) := by
  rw [List.take_add_one, List.take_add_one, h, List.getElem?_eq_getElem ha, List.getElem?_eq_getElem hb, he]
theorem equal_fn {h : Array Obj} (a b : List Un) {va vb : Value} (hva : Ro h va 8 (rowsU a)) (hvb : Ro h vb 8 (rowsU b)) : FnV Tryz.prog 28 #[va, vb] h fun r h' => r = .bool (decide (a = b)) ∧ Keeps h.size h h' := by
  have hla := rowsU_len a
  have hlb := rowsU_len b
  have hma := hva.len
  have hmb := hvb.len
  obtain ⟨r, hr⟩ : ∃ r, r = decide (a = b) := ⟨_, rfl⟩
  rw [← hr]
  refine Fn.ofG (envL [va, vb]) 2 [.buf 0, .buf 1] [(0, .ro (8) (rowsU a)), (1, .ro (8) (rowsU b))] (fun k => k < _) Tryz.func28 (by kernel_rfl) rfl Tryz.ntmps28 rfl (fun _ hk => hk) (Sat.ros (vs := [va, vb]) (l := [(8, rowsU a), (8, rowsU b)]) ⟨hva, hvb, trivial⟩) fun w0 cs => ?_
  conv => whnf
  refine goS_run tab 1000 _ _ _ _ ?_
  conv => whnf
  repeat (first | (refine And.intro (by omega) ?_; (try intro _); conv => whnf) | (refine And.intro ?_ (by omega); (try intro _); conv => whnf) | (refine ⟨_, RemV.nonneg (by omega) (by omega), ?_⟩; conv => whnf))
  refine ⟨fun h1 => ?_, fun h1 => ?_⟩ <;> conv => whnf
  · have h1 : a.length = b.length := by omega
    conv => whnf
    repeat (first | (refine And.intro (by omega) ?_; (try intro _); conv => whnf) | (refine And.intro ?_ (by omega); (try intro _); conv => whnf) | (refine ⟨_, RemV.nonneg (by omega) (by omega), ?_⟩; conv => whnf))
    refine RunsS.subR [] (RunsS.loop (fun (k : Nat) => [(13, .v (.int .i64 k)), (12, .v (.int .i64 (rowsU a).length)), (11, .buf 0), (0, .buf 0), (1, .buf 1)]) (fun (k : Nat) => [(0, .ro 8 (rowsU a)), (1, .ro 8 (rowsU b))]) 2 (fun (k : Nat) => k ≤ a.length ∧ a.take k = b.take k) (fun (k : Nat) => a.length - k) ?round1 (0) ?J01) ?SS1 ?HH1
    case J01 => exact (⟨Nat.zero_le _, rfl⟩)
    case SS1 => repeat (first | exact trivial | refine ⟨by rfl, ?_⟩)
    case HH1 => repeat (first | exact trivial | refine ⟨by rfl, ?_⟩)
    rintro k hJ back
    try dsimp only at hJ back
    conv => whnf
    try dsimp only
    refine goS_run tab 1000 _ _ _ _ ?_
    conv => whnf
    repeat (first | (refine And.intro (by omega) ?_; (try intro _); conv => whnf) | (refine And.intro ?_ (by omega); (try intro _); conv => whnf) | (refine ⟨_, RemV.nonneg (by omega) (by omega), ?_⟩; conv => whnf))
    refine ⟨fun hk => ?_, fun hk => ?_⟩ <;> conv => whnf
    · have hk : k < a.length := by omega
      have hkb : k < b.length := by omega
      conv => whnf
      repeat (first | (refine And.intro (by omega) ?_; (try intro _); conv => whnf) | (refine And.intro ?_ (by omega); (try intro _); conv => whnf) | (refine ⟨_, RemV.nonneg (by omega) (by omega), ?_⟩; conv => whnf))
      refine RunsS.held tab (.fl 0 (.fl 1 (.fl 2 (.fl 3 (.fl 4 (.fl 5 (.fl 6 (.fl 7 (.fl 8 .done))))))))) (by kernel_rfl) ?_
      conv => whnf
      try refine goR_run tab _ _ _ _ _ _ ?_
      conv => whnf
      repeat (first | (refine And.intro (by omega) ?_; (try intro _); conv => whnf) | (refine And.intro ?_ (by omega); (try intro _); conv => whnf) | (refine And.intro (by (conv => whnf); (repeat (refine And.intro (by (conv => whnf); first | rfl | exact trivial) ?_; conv => whnf)); exact trivial) ?_; conv => whnf) | (refine ⟨_, RemV.nonneg (by omega) (by omega), ?_⟩; conv => whnf))
      try refine goS_run tab 1000 _ _ _ _ ?_
      conv => whnf
      repeat (first | (refine And.intro (by omega) ?_; (try intro _); conv => whnf) | (refine And.intro ?_ (by omega); (try intro _); conv => whnf) | (refine ⟨_, RemV.nonneg (by omega) (by omega), ?_⟩; conv => whnf))
      refine ⟨_, rowsU_get hk, ?_⟩
      conv => whnf
      try (refine And.intro (by first | omega | exact Nat.le_of_ble_eq_true rfl) ?_; conv => whnf)
      try refine goR_run tab _ _ _ _ _ _ ?_
      conv => whnf
      repeat (first | (refine And.intro (by omega) ?_; (try intro _); conv => whnf) | (refine And.intro ?_ (by omega); (try intro _); conv => whnf) | (refine And.intro (by (conv => whnf); (repeat (refine And.intro (by (conv => whnf); first | rfl | exact trivial) ?_; conv => whnf)); exact trivial) ?_; conv => whnf) | (refine ⟨_, RemV.nonneg (by omega) (by omega), ?_⟩; conv => whnf))
      try refine goS_run tab 1000 _ _ _ _ ?_
      conv => whnf
      repeat (first | (refine And.intro (by omega) ?_; (try intro _); conv => whnf) | (refine And.intro ?_ (by omega); (try intro _); conv => whnf) | (refine ⟨_, RemV.nonneg (by omega) (by omega), ?_⟩; conv => whnf))
      refine ⟨_, rowsU_get hkb, ?_⟩
      conv => whnf
      try (refine And.intro (by first | omega | exact Nat.le_of_ble_eq_true rfl) ?_; conv => whnf)
      try refine goR_run tab _ _ _ _ _ _ ?_
      conv => whnf
      repeat (first | (refine And.intro (by omega) ?_; (try intro _); conv => whnf) | (refine And.intro ?_ (by omega); (try intro _); conv => whnf) | (refine And.intro (by (conv => whnf); (repeat (refine And.intro (by (conv => whnf); first | rfl | exact trivial) ?_; conv => whnf)); exact trivial) ?_; conv => whnf) | (refine ⟨_, RemV.nonneg (by omega) (by omega), ?_⟩; conv => whnf))
      try refine goS_run tab 1000 _ _ _ _ ?_
      conv => whnf
      repeat (first | (refine And.intro (by omega) ?_; (try intro _); conv => whnf) | (refine And.intro ?_ (by omega); (try intro _); conv => whnf) | (refine ⟨_, RemV.nonneg (by omega) (by omega), ?_⟩; conv => whnf))
      refine ⟨fun he => ?_, fun he => ?_⟩ <;> conv => whnf
      · try refine goR_run tab _ _ _ _ _ _ ?_
        conv => whnf
        repeat (first | (refine And.intro (by omega) ?_; (try intro _); conv => whnf) | (refine And.intro ?_ (by omega); (try intro _); conv => whnf) | (refine And.intro (by (conv => whnf); (repeat (refine And.intro (by (conv => whnf); first | rfl | exact trivial) ?_; conv => whnf)); exact trivial) ?_; conv => whnf) | (refine ⟨_, RemV.nonneg (by omega) (by omega), ?_⟩; conv => whnf))
        try refine goS_run tab 1000 _ _ _ _ ?_
        conv => whnf
        repeat (first | (refine And.intro (by omega) ?_; (try intro _); conv => whnf) | (refine And.intro ?_ (by omega); (try intro _); conv => whnf) | (refine ⟨_, RemV.nonneg (by omega) (by omega), ?_⟩; conv => whnf))
        refine RunsS.subR [] (back (k + 1) ?BJ2 ?BM2) ?SS2 ?HH2
        case BJ2 => exact (⟨hk, take_eq_succ hk hkb hJ.2 (Un.ext8 he)⟩)
        case BM2 => (try dsimp only); omega
        case SS2 => repeat (first | exact trivial | refine ⟨by rfl, ?_⟩)
        case HH2 => repeat (first | exact trivial | refine ⟨by rfl, ?_⟩)
      · try refine goR_run tab _ _ _ _ _ _ ?_
        conv => whnf
        repeat (first | (refine And.intro (by omega) ?_; (try intro _); conv => whnf) | (refine And.intro ?_ (by omega); (try intro _); conv => whnf) | (refine And.intro (by (conv => whnf); (repeat (refine And.intro (by (conv => whnf); first | rfl | exact trivial) ?_; conv => whnf)); exact trivial) ?_; conv => whnf) | (refine ⟨_, RemV.nonneg (by omega) (by omega), ?_⟩; conv => whnf))
        try refine goS_run tab 1000 _ _ _ _ ?_
        conv => whnf
        repeat (first | (refine And.intro (by omega) ?_; (try intro _); conv => whnf) | (refine And.intro ?_ (by omega); (try intro _); conv => whnf) | (refine ⟨_, RemV.nonneg (by omega) (by omega), ?_⟩; conv => whnf))
        have : r = false := by
          rw [hr]
          refine decide_eq_false fun e => he ?_
          subst e
          exact Un.ext8_iff.1 rfl
        rw [this]
        refine RunsS.retU (UnwS.ret tab Tryz.func28 rfl fun Ez Hz Az Sz K => ⟨_, rfl, rfl, K.keeps⟩)
    · have hk : k = a.length := by omega
      have h2 := hJ.2
      rw [hk, List.take_length, h1, List.take_length] at h2
      have : r = true := by rw [hr]; exact decide_eq_true h2
      conv => whnf
      repeat (first | (refine And.intro (by omega) ?_; (try intro _); conv => whnf) | (refine And.intro ?_ (by omega); (try intro _); conv => whnf) | (refine ⟨_, RemV.nonneg (by omega) (by omega), ?_⟩; conv => whnf))
      rw [this]
      refine RunsS.retU (UnwS.ret tab Tryz.func28 rfl fun Ez Hz Az Sz K => ⟨_, rfl, rfl, K.keeps⟩)
  · have : r = false := by rw [hr]; exact decide_eq_false (fun e => h1 (by rw [e]))
    rw [this]
    conv => whnf
    repeat (first | (refine And.intro (by omega) ?_; (try intro _); conv => whnf) | (refine And.intro ?_ (by omega); (try intro _); conv => whnf) | (refine ⟨_, RemV.nonneg (by omega) (by omega), ?_⟩; conv => whnf))
    refine RunsS.retU (UnwS.ret tab Tryz.func28 rfl fun Ez Hz Az Sz K => ⟨_, rfl, rfl, K.keeps⟩)
theorem resU_err : ∀ {l x : List Un} {e : Int}, resU l x = .inr e → e = 90 ∨ e = 110
  | [], x, e, h => by cases h
  | u :: l, x, e, h => by
    simp only [resU] at h
    split at h
    · exact resU_err h
    · rename_i e' he
      cases h
      unfold stepU at he
      split at he
      · split at he <;> cases he
        exact .inl rfl
      · split at he
        · split at he
          · split at he <;> cases he
            exact .inr rfl
          · cases he; exact .inr rfl
        · cases he; exact .inl rfl
theorem resolveU_err {l : List Un} {e : Int} (h : resolveU l = .inr e) : e = 90 ∨ e = 110 ∨ e = 111 := by
  unfold resolveU at h
  split at h
  · cases h; exact .inl rfl
  · split at h
    · cases h; exact .inr (.inr rfl)
    · have := resU_err h; omega
theorem uCheck_fn {h : Array Obj} (l : List Un) (hi : UnOk l) {v : Value} (hv : Ro h v 8 (rowsU l)) (hT : TabH h) : FnV Tryz.prog 10 #[v] h fun r h' => r = .int .i64 (checkU l) ∧ Keeps h.size h h' := by
  have hl := rowsU_len l
  have hm := hv.len
  refine Fn.ofG (envL [v]) 1 [.buf 0] [(0, .ro (8) (rowsU l))] (fun k => k < _) Tryz.func10 (by kernel_rfl) rfl Tryz.ntmps10 rfl (fun _ hk => hk) (Sat.ros (vs := [v]) (l := [(8, rowsU l)]) ⟨hv, trivial⟩) fun w0 cs => ?_
  conv => whnf
  refine goS_run tab 1000 _ _ _ _ ?_
  conv => whnf
  repeat (first | (refine And.intro (by omega) ?_; (try intro _); conv => whnf) | (refine And.intro ?_ (by omega); (try intro _); conv => whnf) | (refine ⟨_, RemV.nonneg (by omega) (by omega), ?_⟩; conv => whnf))
  cases hx : resolveU l with
  | inr e =>
    have he := resolveU_err hx
    have : checkU l = e := by unfold checkU; rw [hx]
    rw [this]
    refine RunsS.callT tabOk (hT.t) (resNo (by omega) hi hx) [0] (by repeat (first | exact trivial | refine ⟨by rfl, ?_⟩)) ?CNa3 ?CNr3
    case CNa3 => rfl
    intro _ _
    conv => whnf
    try refine goS_run tab 1000 _ _ _ _ ?_
    conv => whnf
    repeat (first | (refine And.intro (by omega) ?_; (try intro _); conv => whnf) | (refine And.intro ?_ (by omega); (try intro _); conv => whnf) | (refine ⟨_, RemV.nonneg (by omega) (by omega), ?_⟩; conv => whnf))
    refine RunsS.retU (UnwS.ret tab Tryz.func10 rfl fun Ez Hz Az Sz K => ⟨_, rfl, rfl, K.keeps⟩)
  | inl x =>
    have hc : checkU l = if x = l then 0 else 90 := by unfold checkU; rw [hx]
    rw [hc]
    refine RunsS.callT tabOk (hT.t) (resOk (by omega) hi hx) [0] (by repeat (first | exact trivial | refine ⟨by rfl, ?_⟩)) ?CNa4 ?CNr4
    case CNa4 => rfl
    intro _ _
    conv => whnf
    try refine goS_run tab 1000 _ _ _ _ ?_
    conv => whnf
    repeat (first | (refine And.intro (by omega) ?_; (try intro _); conv => whnf) | (refine And.intro ?_ (by omega); (try intro _); conv => whnf) | (refine ⟨_, RemV.nonneg (by omega) (by omega), ?_⟩; conv => whnf))
    by_cases he : x = l
    · refine RunsS.callV (fun Ez Hz Az Sz K => equal_fn x l (Sz.ro (b := 1) rfl) (Sz.ro (b := 0) rfl)) ?_
      conv => whnf
      rw [decide_eq_true he]
      try dsimp only
      try refine goS_run tab 1000 _ _ _ _ ?_
      conv => whnf
      repeat (first | (refine And.intro (by omega) ?_; (try intro _); conv => whnf) | (refine And.intro ?_ (by omega); (try intro _); conv => whnf) | (refine ⟨_, RemV.nonneg (by omega) (by omega), ?_⟩; conv => whnf))
      rw [if_pos he]
      refine RunsS.retU (UnwS.ret tab Tryz.func10 rfl fun Ez Hz Az Sz K => ⟨_, rfl, rfl, K.keeps⟩)
    · refine RunsS.callV (fun Ez Hz Az Sz K => equal_fn x l (Sz.ro (b := 1) rfl) (Sz.ro (b := 0) rfl)) ?_
      conv => whnf
      rw [decide_eq_false he]
      try dsimp only
      try refine goS_run tab 1000 _ _ _ _ ?_
      conv => whnf
      repeat (first | (refine And.intro (by omega) ?_; (try intro _); conv => whnf) | (refine And.intro ?_ (by omega); (try intro _); conv => whnf) | (refine ⟨_, RemV.nonneg (by omega) (by omega), ?_⟩; conv => whnf))
      rw [if_neg he]
      refine RunsS.retU (UnwS.ret tab Tryz.func10 rfl fun Ez Hz Az Sz K => ⟨_, rfl, rfl, K.keeps⟩)
end Go.Proofs.YtgnciigjhpcdmaaGreatDoor

namespace Go.Proofs.YtgnciigjhpcdmaaGreatDoor
open Go Go.Fw Go.NatM Go.RatM
set_option maxRecDepth 100000
set_option maxHeartbeats 64000000

theorem convU_bad {l : List Un} {a b : Int} {r : Rt} (h : checkU l ≠ 0) : convU l a b r = (zr, checkU l) := if_pos h
theorem convU_out {l : List Un} {a b : Int} {r : Rt} (h : checkU l = 0) (ho : a < 0 ∨ (l.length : Int) ≤ a ∨ b < 0 ∨ (l.length : Int) ≤ b) : convU l a b r = (zr, 90) := by
  unfold convU
  rw [if_neg (fun e => e h)]
  split
  · rename_i u v hu hv
    have h1 := (List.getElem?_eq_some_iff.1 hu).1
    have h2 := (List.getElem?_eq_some_iff.1 hv).1
    exact if_pos (by omega)
  · rfl
theorem convU_in {l : List Un} {i j : Nat} {r : Rt} (h : checkU l = 0) (hi : i < l.length) (hj : j < l.length) : convU l i j r =
    if l[i].base ≠ l[j].base then (zr, 90) else if (mulR r l[i].scale).2 ≠ 0 then (zr, (mulR r l[i].scale).2) else divR (mulR r l[i].scale).1 l[j].scale := by
  unfold convU
  rw [if_neg (fun e => e h), Int.toNat_natCast, Int.toNat_natCast, List.getElem?_eq_getElem hi, List.getElem?_eq_getElem hj]
  dsimp only
  by_cases hb : l[i].base ≠ l[j].base
  · rw [if_pos (.inr (.inr hb)), if_pos hb]
    rfl
  · rw [if_neg (by omega), if_neg hb]
    rfl
theorem convert_fn {h : Array Obj} (l : List Un) (hi : UnOk l) {v : Value} (hv : Ro h v 8 (rowsU l)) (a b : Int) (r : Rt) (hT : TabH h) : FnV Tryz.prog 12 #[v, .int .i64 a, .int .i64 b, r.v] h fun y h' => y = rev (convU l a b r) ∧ Keeps h.size h h' := by
  have hl := rowsU_len l
  have hm := hv.len
  obtain ⟨y, hy⟩ : ∃ y, y = convU l a b r := ⟨_, rfl⟩
  rw [← hy]
  refine Fn.ofG (envL [v]) 1 [.buf 0, .v (.int .i64 a), .v (.int .i64 b), .agg [.v (.bool r.neg), .v (.string r.n), .v (.string r.d)]] [(0, .ro (8) (rowsU l))] (fun k => k < _) Tryz.func12 (by kernel_rfl) rfl Tryz.ntmps12 rfl (fun _ hk => hk) (Sat.ros (vs := [v]) (l := [(8, rowsU l)]) ⟨hv, trivial⟩) fun w0 cs => ?_
  conv => whnf
  refine goS_run tab 1000 _ _ _ _ ?_
  conv => whnf
  repeat (first | (refine And.intro (by omega) ?_; (try intro _); conv => whnf) | (refine And.intro ?_ (by omega); (try intro _); conv => whnf) | (refine ⟨_, RemV.nonneg (by omega) (by omega), ?_⟩; conv => whnf))
  by_cases hc : checkU l = 0
  · refine RunsS.callV (fun Ez Hz Az Sz K => uCheck_fn l hi (Sz.ro (b := 0) rfl) (hT.keeps ⟨K.size, K.same⟩)) ?_
    conv => whnf
    rw [hc]
    try dsimp only
    try refine goS_run tab 1000 _ _ _ _ ?_
    conv => whnf
    repeat (first | (refine And.intro (by omega) ?_; (try intro _); conv => whnf) | (refine And.intro ?_ (by omega); (try intro _); conv => whnf) | (refine ⟨_, RemV.nonneg (by omega) (by omega), ?_⟩; conv => whnf))
    by_cases ho : a < 0 ∨ (l.length : Int) ≤ a ∨ b < 0 ∨ (l.length : Int) ≤ b
    · rw [convU_out hc ho] at hy
      subst hy
      refine RunsS.held tab (.fl 0 (.fl 1 (.fl 2 (.fl 3 (.fl 4 (.fl 5 (.fl 6 (.fl 7 (.fl 8 (.fl 9 (.fl 10 (.fl 11 (.fl 12 (.fl 13 (.fl 14 (.fl 15 (.fl 16 (.fl 17 (.fl 18 (.fl 19 (.fl 20 (.fl 21 (.fl 22 (.fl 23 (.fl 24 (.fl 25 (.fl 26 (.fl 27 (.fl 28 (.fl 29 (.fl 30 .done))))))))))))))))))))))))))))))) (by kernel_rfl) ?_
      conv => whnf
      try refine goR_run tab _ _ _ _ _ _ ?_
      conv => whnf
      repeat (first | (refine And.intro (by omega) ?_; (try intro _); conv => whnf) | (refine And.intro ?_ (by omega); (try intro _); conv => whnf) | (refine And.intro (by (conv => whnf); (repeat (refine And.intro (by (conv => whnf); first | rfl | exact trivial) ?_; conv => whnf)); exact trivial) ?_; conv => whnf) | (refine ⟨_, RemV.nonneg (by omega) (by omega), ?_⟩; conv => whnf))
      try refine goS_run tab 1000 _ _ _ _ ?_
      conv => whnf
      repeat (first | (refine And.intro (by omega) ?_; (try intro _); conv => whnf) | (refine And.intro ?_ (by omega); (try intro _); conv => whnf) | (refine ⟨_, RemV.nonneg (by omega) (by omega), ?_⟩; conv => whnf))
      by_cases o1 : a < 0
      · try refine goR_run tab _ _ _ _ _ _ ?_
        conv => whnf
        repeat (first | (refine And.intro (by omega) ?_; (try intro _); conv => whnf) | (refine And.intro ?_ (by omega); (try intro _); conv => whnf) | (refine And.intro (by (conv => whnf); (repeat (refine And.intro (by (conv => whnf); first | rfl | exact trivial) ?_; conv => whnf)); exact trivial) ?_; conv => whnf) | (refine ⟨_, RemV.nonneg (by omega) (by omega), ?_⟩; conv => whnf))
        try refine goS_run tab 1000 _ _ _ _ ?_
        conv => whnf
        repeat (first | (refine And.intro (by omega) ?_; (try intro _); conv => whnf) | (refine And.intro ?_ (by omega); (try intro _); conv => whnf) | (refine ⟨_, RemV.nonneg (by omega) (by omega), ?_⟩; conv => whnf))
        refine RunsS.retU (UnwS.ret tab Tryz.func12 rfl fun Ez Hz Az Sz K => ⟨_, rfl, rfl, K.keeps⟩)
      by_cases o2 : (l.length : Int) ≤ a
      · try refine goR_run tab _ _ _ _ _ _ ?_
        conv => whnf
        repeat (first | (refine And.intro (by omega) ?_; (try intro _); conv => whnf) | (refine And.intro ?_ (by omega); (try intro _); conv => whnf) | (refine And.intro (by (conv => whnf); (repeat (refine And.intro (by (conv => whnf); first | rfl | exact trivial) ?_; conv => whnf)); exact trivial) ?_; conv => whnf) | (refine ⟨_, RemV.nonneg (by omega) (by omega), ?_⟩; conv => whnf))
        try refine goS_run tab 1000 _ _ _ _ ?_
        conv => whnf
        repeat (first | (refine And.intro (by omega) ?_; (try intro _); conv => whnf) | (refine And.intro ?_ (by omega); (try intro _); conv => whnf) | (refine ⟨_, RemV.nonneg (by omega) (by omega), ?_⟩; conv => whnf))
        refine RunsS.retU (UnwS.ret tab Tryz.func12 rfl fun Ez Hz Az Sz K => ⟨_, rfl, rfl, K.keeps⟩)
      by_cases o3 : b < 0
      · try refine goR_run tab _ _ _ _ _ _ ?_
        conv => whnf
        repeat (first | (refine And.intro (by omega) ?_; (try intro _); conv => whnf) | (refine And.intro ?_ (by omega); (try intro _); conv => whnf) | (refine And.intro (by (conv => whnf); (repeat (refine And.intro (by (conv => whnf); first | rfl | exact trivial) ?_; conv => whnf)); exact trivial) ?_; conv => whnf) | (refine ⟨_, RemV.nonneg (by omega) (by omega), ?_⟩; conv => whnf))
        try refine goS_run tab 1000 _ _ _ _ ?_
        conv => whnf
        repeat (first | (refine And.intro (by omega) ?_; (try intro _); conv => whnf) | (refine And.intro ?_ (by omega); (try intro _); conv => whnf) | (refine ⟨_, RemV.nonneg (by omega) (by omega), ?_⟩; conv => whnf))
        refine RunsS.retU (UnwS.ret tab Tryz.func12 rfl fun Ez Hz Az Sz K => ⟨_, rfl, rfl, K.keeps⟩)
      · try refine goR_run tab _ _ _ _ _ _ ?_
        conv => whnf
        repeat (first | (refine And.intro (by omega) ?_; (try intro _); conv => whnf) | (refine And.intro ?_ (by omega); (try intro _); conv => whnf) | (refine And.intro (by (conv => whnf); (repeat (refine And.intro (by (conv => whnf); first | rfl | exact trivial) ?_; conv => whnf)); exact trivial) ?_; conv => whnf) | (refine ⟨_, RemV.nonneg (by omega) (by omega), ?_⟩; conv => whnf))
        try refine goS_run tab 1000 _ _ _ _ ?_
        conv => whnf
        repeat (first | (refine And.intro (by omega) ?_; (try intro _); conv => whnf) | (refine And.intro ?_ (by omega); (try intro _); conv => whnf) | (refine ⟨_, RemV.nonneg (by omega) (by omega), ?_⟩; conv => whnf))
        refine RunsS.retU (UnwS.ret tab Tryz.func12 rfl fun Ez Hz Az Sz K => ⟨_, rfl, rfl, K.keeps⟩)
    · obtain ⟨i, rfl⟩ : ∃ i : Nat, a = i := ⟨a.toNat, by omega⟩
      obtain ⟨j, rfl⟩ : ∃ j : Nat, b = j := ⟨b.toNat, by omega⟩
      have i1 : i < l.length := by omega
      have j1 : j < l.length := by omega
      rw [convU_in hc i1 j1] at hy
      refine RunsS.held tab (.fl 0 (.fl 1 (.fl 2 (.fl 3 (.fl 4 (.fl 5 (.fl 6 (.fl 7 (.fl 8 (.fl 9 (.fl 10 (.fl 11 (.fl 12 (.fl 13 (.fl 14 (.fl 15 (.fl 16 (.fl 17 (.fl 18 (.fl 19 (.fl 20 (.fl 21 (.fl 22 (.fl 23 (.fl 24 (.fl 25 (.fl 26 (.fl 27 (.fl 28 (.fl 29 (.fl 30 .done))))))))))))))))))))))))))))))) (by kernel_rfl) ?_
      conv => whnf
      try refine goR_run tab _ _ _ _ _ _ ?_
      conv => whnf
      repeat (first | (refine And.intro (by omega) ?_; (try intro _); conv => whnf) | (refine And.intro ?_ (by omega); (try intro _); conv => whnf) | (refine And.intro (by (conv => whnf); (repeat (refine And.intro (by (conv => whnf); first | rfl | exact trivial) ?_; conv => whnf)); exact trivial) ?_; conv => whnf) | (refine ⟨_, RemV.nonneg (by omega) (by omega), ?_⟩; conv => whnf))
      try refine goS_run tab 1000 _ _ _ _ ?_
      conv => whnf
      repeat (first | (refine And.intro (by omega) ?_; (try intro _); conv => whnf) | (refine And.intro ?_ (by omega); (try intro _); conv => whnf) | (refine ⟨_, RemV.nonneg (by omega) (by omega), ?_⟩; conv => whnf))
      refine ⟨_, rowsU_get i1, ?_⟩
      conv => whnf
      try (refine And.intro (by first | omega | exact Nat.le_of_ble_eq_true rfl) ?_; conv => whnf)
      try refine goR_run tab _ _ _ _ _ _ ?_
      conv => whnf
      repeat (first | (refine And.intro (by omega) ?_; (try intro _); conv => whnf) | (refine And.intro ?_ (by omega); (try intro _); conv => whnf) | (refine And.intro (by (conv => whnf); (repeat (refine And.intro (by (conv => whnf); first | rfl | exact trivial) ?_; conv => whnf)); exact trivial) ?_; conv => whnf) | (refine ⟨_, RemV.nonneg (by omega) (by omega), ?_⟩; conv => whnf))
      try refine goS_run tab 1000 _ _ _ _ ?_
      conv => whnf
      repeat (first | (refine And.intro (by omega) ?_; (try intro _); conv => whnf) | (refine And.intro ?_ (by omega); (try intro _); conv => whnf) | (refine ⟨_, RemV.nonneg (by omega) (by omega), ?_⟩; conv => whnf))
      refine ⟨_, rowsU_get j1, ?_⟩
      conv => whnf
      try (refine And.intro (by first | omega | exact Nat.le_of_ble_eq_true rfl) ?_; conv => whnf)
      try refine goR_run tab _ _ _ _ _ _ ?_
      conv => whnf
      repeat (first | (refine And.intro (by omega) ?_; (try intro _); conv => whnf) | (refine And.intro ?_ (by omega); (try intro _); conv => whnf) | (refine And.intro (by (conv => whnf); (repeat (refine And.intro (by (conv => whnf); first | rfl | exact trivial) ?_; conv => whnf)); exact trivial) ?_; conv => whnf) | (refine ⟨_, RemV.nonneg (by omega) (by omega), ?_⟩; conv => whnf))
      try refine goS_run tab 1000 _ _ _ _ ?_
      conv => whnf
      repeat (first | (refine And.intro (by omega) ?_; (try intro _); conv => whnf) | (refine And.intro ?_ (by omega); (try intro _); conv => whnf) | (refine ⟨_, RemV.nonneg (by omega) (by omega), ?_⟩; conv => whnf))
      refine ⟨fun hb => ?_, fun hb => ?_⟩ <;> conv => whnf
      · try refine goR_run tab _ _ _ _ _ _ ?_
        conv => whnf
        repeat (first | (refine And.intro (by omega) ?_; (try intro _); conv => whnf) | (refine And.intro ?_ (by omega); (try intro _); conv => whnf) | (refine And.intro (by (conv => whnf); (repeat (refine And.intro (by (conv => whnf); first | rfl | exact trivial) ?_; conv => whnf)); exact trivial) ?_; conv => whnf) | (refine ⟨_, RemV.nonneg (by omega) (by omega), ?_⟩; conv => whnf))
        try refine goS_run tab 1000 _ _ _ _ ?_
        conv => whnf
        repeat (first | (refine And.intro (by omega) ?_; (try intro _); conv => whnf) | (refine And.intro ?_ (by omega); (try intro _); conv => whnf) | (refine ⟨_, RemV.nonneg (by omega) (by omega), ?_⟩; conv => whnf))
        refine RunsS.held tab (.fl 0 (.fl 1 (.fl 2 (.fl 3 (.fl 4 (.fl 5 (.e1 6 [] (.fl 7 (.fl 8 (.fl 9 (.e1 10 [] (.fl 11 .done)))))))))))) (by kernel_rfl) ?_
        conv => whnf
        try refine goR_run tab _ _ _ _ _ _ ?_
        conv => whnf
        repeat (first | (refine And.intro (by omega) ?_; (try intro _); conv => whnf) | (refine And.intro ?_ (by omega); (try intro _); conv => whnf) | (refine And.intro (by (conv => whnf); (repeat (refine And.intro (by (conv => whnf); first | rfl | exact trivial) ?_; conv => whnf)); exact trivial) ?_; conv => whnf) | (refine ⟨_, RemV.nonneg (by omega) (by omega), ?_⟩; conv => whnf))
        try refine goS_run tab 1000 _ _ _ _ ?_
        conv => whnf
        repeat (first | (refine And.intro (by omega) ?_; (try intro _); conv => whnf) | (refine And.intro ?_ (by omega); (try intro _); conv => whnf) | (refine ⟨_, RemV.nonneg (by omega) (by omega), ?_⟩; conv => whnf))
        refine ⟨_, rowsU_get i1, ?_⟩
        conv => whnf
        try (refine And.intro (by first | omega | exact Nat.le_of_ble_eq_true rfl) ?_; conv => whnf)
        try refine goR_run tab _ _ _ _ _ _ ?_
        conv => whnf
        repeat (first | (refine And.intro (by omega) ?_; (try intro _); conv => whnf) | (refine And.intro ?_ (by omega); (try intro _); conv => whnf) | (refine And.intro (by (conv => whnf); (repeat (refine And.intro (by (conv => whnf); first | rfl | exact trivial) ?_; conv => whnf)); exact trivial) ?_; conv => whnf) | (refine ⟨_, RemV.nonneg (by omega) (by omega), ?_⟩; conv => whnf))
        try refine goS_run tab 1000 _ _ _ _ ?_
        conv => whnf
        repeat (first | (refine And.intro (by omega) ?_; (try intro _); conv => whnf) | (refine And.intro ?_ (by omega); (try intro _); conv => whnf) | (refine ⟨_, RemV.nonneg (by omega) (by omega), ?_⟩; conv => whnf))
        refine EffR.callV (fun Ez Hz Az Sz K => qMul_fn r l[i].scale (hT.keeps ⟨K.size, K.same⟩)) (by (conv => whnf); (repeat (refine And.intro (by (conv => whnf); first | rfl | exact trivial) ?_; conv => whnf)); exact trivial) ?_
        conv => whnf
        try refine goR_run tab _ _ _ _ _ _ ?_
        conv => whnf
        repeat (first | (refine And.intro (by omega) ?_; (try intro _); conv => whnf) | (refine And.intro ?_ (by omega); (try intro _); conv => whnf) | (refine And.intro (by (conv => whnf); (repeat (refine And.intro (by (conv => whnf); first | rfl | exact trivial) ?_; conv => whnf)); exact trivial) ?_; conv => whnf) | (refine ⟨_, RemV.nonneg (by omega) (by omega), ?_⟩; conv => whnf))
        try refine goS_run tab 1000 _ _ _ _ ?_
        conv => whnf
        repeat (first | (refine And.intro (by omega) ?_; (try intro _); conv => whnf) | (refine And.intro ?_ (by omega); (try intro _); conv => whnf) | (refine ⟨_, RemV.nonneg (by omega) (by omega), ?_⟩; conv => whnf))
        rw [if_neg (fun e => e hb)] at hy
        refine ⟨fun hm => ?_, fun hm => ?_⟩ <;> conv => whnf
        · try refine goR_run tab _ _ _ _ _ _ ?_
          conv => whnf
          repeat (first | (refine And.intro (by omega) ?_; (try intro _); conv => whnf) | (refine And.intro ?_ (by omega); (try intro _); conv => whnf) | (refine And.intro (by (conv => whnf); (repeat (refine And.intro (by (conv => whnf); first | rfl | exact trivial) ?_; conv => whnf)); exact trivial) ?_; conv => whnf) | (refine ⟨_, RemV.nonneg (by omega) (by omega), ?_⟩; conv => whnf))
          try refine goS_run tab 1000 _ _ _ _ ?_
          conv => whnf
          repeat (first | (refine And.intro (by omega) ?_; (try intro _); conv => whnf) | (refine And.intro ?_ (by omega); (try intro _); conv => whnf) | (refine ⟨_, RemV.nonneg (by omega) (by omega), ?_⟩; conv => whnf))
          rw [if_neg (fun e => e hm)] at hy
          refine RunsS.held tab (.fl 0 (.fl 1 (.fl 2 (.fl 3 (.fl 4 (.fl 5 (.e1 6 [] (.fl 7 (.fl 8 (.e1 9 [] (.fl 10 .done))))))))))) (by kernel_rfl) ?_
          conv => whnf
          try refine goR_run tab _ _ _ _ _ _ ?_
          conv => whnf
          repeat (first | (refine And.intro (by omega) ?_; (try intro _); conv => whnf) | (refine And.intro ?_ (by omega); (try intro _); conv => whnf) | (refine And.intro (by (conv => whnf); (repeat (refine And.intro (by (conv => whnf); first | rfl | exact trivial) ?_; conv => whnf)); exact trivial) ?_; conv => whnf) | (refine ⟨_, RemV.nonneg (by omega) (by omega), ?_⟩; conv => whnf))
          try refine goS_run tab 1000 _ _ _ _ ?_
          conv => whnf
          repeat (first | (refine And.intro (by omega) ?_; (try intro _); conv => whnf) | (refine And.intro ?_ (by omega); (try intro _); conv => whnf) | (refine ⟨_, RemV.nonneg (by omega) (by omega), ?_⟩; conv => whnf))
          refine ⟨_, rowsU_get j1, ?_⟩
          conv => whnf
          try (refine And.intro (by first | omega | exact Nat.le_of_ble_eq_true rfl) ?_; conv => whnf)
          try refine goR_run tab _ _ _ _ _ _ ?_
          conv => whnf
          repeat (first | (refine And.intro (by omega) ?_; (try intro _); conv => whnf) | (refine And.intro ?_ (by omega); (try intro _); conv => whnf) | (refine And.intro (by (conv => whnf); (repeat (refine And.intro (by (conv => whnf); first | rfl | exact trivial) ?_; conv => whnf)); exact trivial) ?_; conv => whnf) | (refine ⟨_, RemV.nonneg (by omega) (by omega), ?_⟩; conv => whnf))
          try refine goS_run tab 1000 _ _ _ _ ?_
          conv => whnf
          repeat (first | (refine And.intro (by omega) ?_; (try intro _); conv => whnf) | (refine And.intro ?_ (by omega); (try intro _); conv => whnf) | (refine ⟨_, RemV.nonneg (by omega) (by omega), ?_⟩; conv => whnf))
          refine EffR.callV (fun Ez Hz Az Sz K => qDiv_fn (mulR r l[i].scale).1 l[j].scale (hT.keeps ⟨K.size, K.same⟩)) (by (conv => whnf); (repeat (refine And.intro (by (conv => whnf); first | rfl | exact trivial) ?_; conv => whnf)); exact trivial) ?_
          conv => whnf
          try refine goR_run tab _ _ _ _ _ _ ?_
          conv => whnf
          repeat (first | (refine And.intro (by omega) ?_; (try intro _); conv => whnf) | (refine And.intro ?_ (by omega); (try intro _); conv => whnf) | (refine And.intro (by (conv => whnf); (repeat (refine And.intro (by (conv => whnf); first | rfl | exact trivial) ?_; conv => whnf)); exact trivial) ?_; conv => whnf) | (refine ⟨_, RemV.nonneg (by omega) (by omega), ?_⟩; conv => whnf))
          try refine goS_run tab 1000 _ _ _ _ ?_
          conv => whnf
          repeat (first | (refine And.intro (by omega) ?_; (try intro _); conv => whnf) | (refine And.intro ?_ (by omega); (try intro _); conv => whnf) | (refine ⟨_, RemV.nonneg (by omega) (by omega), ?_⟩; conv => whnf))
          subst hy
          refine RunsS.retU (UnwS.ret tab Tryz.func12 rfl fun Ez Hz Az Sz K => ⟨_, rfl, rfl, K.keeps⟩)
        · try refine goR_run tab _ _ _ _ _ _ ?_
          conv => whnf
          repeat (first | (refine And.intro (by omega) ?_; (try intro _); conv => whnf) | (refine And.intro ?_ (by omega); (try intro _); conv => whnf) | (refine And.intro (by (conv => whnf); (repeat (refine And.intro (by (conv => whnf); first | rfl | exact trivial) ?_; conv => whnf)); exact trivial) ?_; conv => whnf) | (refine ⟨_, RemV.nonneg (by omega) (by omega), ?_⟩; conv => whnf))
          try refine goS_run tab 1000 _ _ _ _ ?_
          conv => whnf
          repeat (first | (refine And.intro (by omega) ?_; (try intro _); conv => whnf) | (refine And.intro ?_ (by omega); (try intro _); conv => whnf) | (refine ⟨_, RemV.nonneg (by omega) (by omega), ?_⟩; conv => whnf))
          rw [if_pos hm] at hy
          subst hy
          refine RunsS.retU (UnwS.ret tab Tryz.func12 rfl fun Ez Hz Az Sz K => ⟨_, rfl, rfl, K.keeps⟩)
      · try refine goR_run tab _ _ _ _ _ _ ?_
        conv => whnf
        repeat (first | (refine And.intro (by omega) ?_; (try intro _); conv => whnf) | (refine And.intro ?_ (by omega); (try intro _); conv => whnf) | (refine And.intro (by (conv => whnf); (repeat (refine And.intro (by (conv => whnf); first | rfl | exact trivial) ?_; conv => whnf)); exact trivial) ?_; conv => whnf) | (refine ⟨_, RemV.nonneg (by omega) (by omega), ?_⟩; conv => whnf))
        try refine goS_run tab 1000 _ _ _ _ ?_
        conv => whnf
        repeat (first | (refine And.intro (by omega) ?_; (try intro _); conv => whnf) | (refine And.intro ?_ (by omega); (try intro _); conv => whnf) | (refine ⟨_, RemV.nonneg (by omega) (by omega), ?_⟩; conv => whnf))
        rw [if_pos hb] at hy
        subst hy
        refine RunsS.retU (UnwS.ret tab Tryz.func12 rfl fun Ez Hz Az Sz K => ⟨_, rfl, rfl, K.keeps⟩)
  · rw [convU_bad hc] at hy
    subst hy
    refine RunsS.callV (fun Ez Hz Az Sz K => uCheck_fn l hi (Sz.ro (b := 0) rfl) (hT.keeps ⟨K.size, K.same⟩)) ?_
    conv => whnf
    try refine goS_run tab 1000 _ _ _ _ ?_
    conv => whnf
    repeat (first | (refine And.intro (by omega) ?_; (try intro _); conv => whnf) | (refine And.intro ?_ (by omega); (try intro _); conv => whnf) | (refine ⟨_, RemV.nonneg (by omega) (by omega), ?_⟩; conv => whnf))
    refine RunsS.retU (UnwS.ret tab Tryz.func12 rfl fun Ez Hz Az Sz K => ⟨_, rfl, rfl, K.keeps⟩)
end Go.Proofs.YtgnciigjhpcdmaaGreatDoor

namespace Go.Proofs.YtgnciigjhpcdmaaGreatDoor
open Go Go.Fw Go.NatM Go.RatM
set_option maxRecDepth 100000
set_option maxHeartbeats 64000000

abbrev FewS (a : Rt) : Prop := (a.n.size : Int) ≤ 40 ∧ (a.d.size : Int) ≤ 40
def FewU (l : List Un) : Prop := (∀ u ∈ l, FewS u.scale) ∧ l.length ≤ 8
instance (l : List Un) : Decidable (FewU l) := by unfold FewU; infer_instance
theorem ufew_fn {h : Array Obj} (l : List Un) {v : Value} (hv : Ro h v 8 (rowsU l)) : FnV Tryz.prog 6 #[v] h fun r h' => r = .bool (decide (FewU l)) ∧ Keeps h.size h h' := by
  have hl := rowsU_len l
  have hm := hv.len
  obtain ⟨r, hr⟩ : ∃ r, r = decide (FewU l) := ⟨_, rfl⟩
  rw [← hr]
  refine Fn.ofG (envL [v]) 1 [.buf 0] [(0, .ro (8) (rowsU l))] (fun k => k < _) Tryz.func6 (by kernel_rfl) rfl Tryz.ntmps6 rfl (fun _ hk => hk) (Sat.ros (vs := [v]) (l := [(8, rowsU l)]) ⟨hv, trivial⟩) fun w0 cs => ?_
  conv => whnf
  refine goS_run tab 1000 _ _ _ _ ?_
  conv => whnf
  repeat (first | (refine And.intro (by omega) ?_; (try intro _); conv => whnf) | (refine And.intro ?_ (by omega); (try intro _); conv => whnf) | (refine ⟨_, RemV.nonneg (by omega) (by omega), ?_⟩; conv => whnf))
  refine RunsS.subR [] (RunsS.loop (fun (k : Nat) => [(3, .v (.int .i64 k)), (0, .buf 0)]) (fun (k : Nat) => [(0, .ro 8 (rowsU l))]) 1 (fun (k : Nat) => k ≤ l.length ∧ ∀ j (hj : j < k) (hjl : j < l.length), FewS l[j].scale) (fun (k : Nat) => l.length - k) ?round1 (0) ?J01) ?SS1 ?HH1
  case J01 => exact (⟨Nat.zero_le _, fun j hj => absurd hj (Nat.not_lt_zero _)⟩)
  case SS1 => repeat (first | exact trivial | refine ⟨by rfl, ?_⟩)
  case HH1 => repeat (first | exact trivial | refine ⟨by rfl, ?_⟩)
  rintro k hJ back
  try dsimp only at hJ back
  conv => whnf
  try dsimp only
  refine goS_run tab 1000 _ _ _ _ ?_
  conv => whnf
  repeat (first | (refine And.intro (by omega) ?_; (try intro _); conv => whnf) | (refine And.intro ?_ (by omega); (try intro _); conv => whnf) | (refine ⟨_, RemV.nonneg (by omega) (by omega), ?_⟩; conv => whnf))
  refine ⟨fun hk => ?_, fun hk => ?_⟩ <;> conv => whnf
  · have hk : k < l.length := by omega
    conv => whnf
    repeat (first | (refine And.intro (by omega) ?_; (try intro _); conv => whnf) | (refine And.intro ?_ (by omega); (try intro _); conv => whnf) | (refine ⟨_, RemV.nonneg (by omega) (by omega), ?_⟩; conv => whnf))
    refine ⟨_, rowsU_get hk, ?_⟩
    conv => whnf
    try (refine And.intro (by first | omega | exact Nat.le_of_ble_eq_true rfl) ?_; conv => whnf)
    repeat (first | (refine And.intro (by omega) ?_; (try intro _); conv => whnf) | (refine And.intro ?_ (by omega); (try intro _); conv => whnf) | (refine ⟨_, RemV.nonneg (by omega) (by omega), ?_⟩; conv => whnf))
    by_cases hf : FewS l[k].scale
    · have f1 := hf.1
      have f2 := hf.2
      conv => whnf
      repeat (first | (refine And.intro (by omega) ?_; (try intro _); conv => whnf) | (refine And.intro ?_ (by omega); (try intro _); conv => whnf) | (refine ⟨_, RemV.nonneg (by omega) (by omega), ?_⟩; conv => whnf))
      refine ⟨_, rowsU_get hk, ?_⟩
      conv => whnf
      try (refine And.intro (by first | omega | exact Nat.le_of_ble_eq_true rfl) ?_; conv => whnf)
      repeat (first | (refine And.intro (by omega) ?_; (try intro _); conv => whnf) | (refine And.intro ?_ (by omega); (try intro _); conv => whnf) | (refine ⟨_, RemV.nonneg (by omega) (by omega), ?_⟩; conv => whnf))
      intro _
      conv => whnf
      repeat (first | (refine And.intro (by omega) ?_; (try intro _); conv => whnf) | (refine And.intro ?_ (by omega); (try intro _); conv => whnf) | (refine ⟨_, RemV.nonneg (by omega) (by omega), ?_⟩; conv => whnf))
      refine RunsS.subR [] (back (k + 1) ?BJ2 ?BM2) ?SS2 ?HH2
      case BJ2 => exact (⟨hk, fun j hj hjl => (Nat.lt_succ_iff_lt_or_eq.1 hj).elim (fun hj => hJ.2 j hj hjl) (fun e => by subst e; exact hf)⟩)
      case BM2 => (try dsimp only); omega
      case SS2 => repeat (first | exact trivial | refine ⟨by rfl, ?_⟩)
      case HH2 => repeat (first | exact trivial | refine ⟨by rfl, ?_⟩)
    · have : r = false := by rw [hr]; exact decide_eq_false fun h => hf (h.1 _ (List.getElem_mem hk))
      rw [this]
      by_cases h1 : (l[k].scale.n.size : Int) ≤ 40
      · have h2 : ¬ (l[k].scale.d.size : Int) ≤ 40 := fun e => hf ⟨h1, e⟩
        conv => whnf
        repeat (first | (refine And.intro (by omega) ?_; (try intro _); conv => whnf) | (refine And.intro ?_ (by omega); (try intro _); conv => whnf) | (refine ⟨_, RemV.nonneg (by omega) (by omega), ?_⟩; conv => whnf))
        refine ⟨_, rowsU_get hk, ?_⟩
        conv => whnf
        try (refine And.intro (by first | omega | exact Nat.le_of_ble_eq_true rfl) ?_; conv => whnf)
        repeat (first | (refine And.intro (by omega) ?_; (try intro _); conv => whnf) | (refine And.intro ?_ (by omega); (try intro _); conv => whnf) | (refine ⟨_, RemV.nonneg (by omega) (by omega), ?_⟩; conv => whnf))
        refine RunsS.retU (UnwS.ret tab Tryz.func6 rfl fun Ez Hz Az Sz K => ⟨_, rfl, rfl, K.keeps⟩)
      · conv => whnf
        repeat (first | (refine And.intro (by omega) ?_; (try intro _); conv => whnf) | (refine And.intro ?_ (by omega); (try intro _); conv => whnf) | (refine ⟨_, RemV.nonneg (by omega) (by omega), ?_⟩; conv => whnf))
        refine RunsS.retU (UnwS.ret tab Tryz.func6 rfl fun Ez Hz Az Sz K => ⟨_, rfl, rfl, K.keeps⟩)
  · conv => whnf
    repeat (first | (refine And.intro (by omega) ?_; (try intro _); conv => whnf) | (refine And.intro ?_ (by omega); (try intro _); conv => whnf) | (refine ⟨_, RemV.nonneg (by omega) (by omega), ?_⟩; conv => whnf))
    refine RunsS.retU (UnwS.ret tab Tryz.func6 rfl fun Ez Hz Az Sz K => ⟨_, rfl, ?_, K.keeps⟩)
    refine congrArg Value.bool ?_
    have hall : ∀ u ∈ l, FewS u.scale := by
      intro u hu
      obtain ⟨j, hj, rfl⟩ := List.getElem_of_mem hu
      exact hJ.2 j (by omega) hj
    rw [hr]
    refine decide_eq_decide.2 ⟨fun h => ⟨hall, by omega⟩, fun h => by have := h.2; omega⟩
theorem same_fn {h : Array Obj} (a b : List Un) {va vb : Value} (hva : Ro h va 8 (rowsU a)) (hvb : Ro h vb 8 (rowsU b)) : FnV Tryz.prog 9 #[va, vb] h fun r h' => r = .bool (decide (a = b)) ∧ Keeps h.size h h' := by
  have hla := rowsU_len a
  have hlb := rowsU_len b
  have hma := hva.len
  have hmb := hvb.len
  obtain ⟨r, hr⟩ : ∃ r, r = decide (a = b) := ⟨_, rfl⟩
  rw [← hr]
  refine Fn.ofG (envL [va, vb]) 2 [.buf 0, .buf 1] [(0, .ro (8) (rowsU a)), (1, .ro (8) (rowsU b))] (fun k => k < _) Tryz.func9 (by kernel_rfl) rfl Tryz.ntmps9 rfl (fun _ hk => hk) (Sat.ros (vs := [va, vb]) (l := [(8, rowsU a), (8, rowsU b)]) ⟨hva, hvb, trivial⟩) fun w0 cs => ?_
  conv => whnf
  refine goS_run tab 1000 _ _ _ _ ?_
  conv => whnf
  repeat (first | (refine And.intro (by omega) ?_; (try intro _); conv => whnf) | (refine And.intro ?_ (by omega); (try intro _); conv => whnf) | (refine ⟨_, RemV.nonneg (by omega) (by omega), ?_⟩; conv => whnf))
  refine ⟨fun h1 => ?_, fun h1 => ?_⟩ <;> conv => whnf
  · have h1 : a.length = b.length := by omega
    conv => whnf
    repeat (first | (refine And.intro (by omega) ?_; (try intro _); conv => whnf) | (refine And.intro ?_ (by omega); (try intro _); conv => whnf) | (refine ⟨_, RemV.nonneg (by omega) (by omega), ?_⟩; conv => whnf))
    refine RunsS.subR [] (RunsS.loop (fun (k : Nat) => [(5, .v (.int .i64 k)), (0, .buf 0), (1, .buf 1)]) (fun (k : Nat) => [(0, .ro 8 (rowsU a)), (1, .ro 8 (rowsU b))]) 2 (fun (k : Nat) => k ≤ a.length ∧ a.take k = b.take k) (fun (k : Nat) => a.length - k) ?round3 (0) ?J03) ?SS3 ?HH3
    case J03 => exact (⟨Nat.zero_le _, rfl⟩)
    case SS3 => repeat (first | exact trivial | refine ⟨by rfl, ?_⟩)
    case HH3 => repeat (first | exact trivial | refine ⟨by rfl, ?_⟩)
    rintro k hJ back
    try dsimp only at hJ back
    conv => whnf
    try dsimp only
    refine goS_run tab 1000 _ _ _ _ ?_
    conv => whnf
    repeat (first | (refine And.intro (by omega) ?_; (try intro _); conv => whnf) | (refine And.intro ?_ (by omega); (try intro _); conv => whnf) | (refine ⟨_, RemV.nonneg (by omega) (by omega), ?_⟩; conv => whnf))
    refine ⟨fun hk => ?_, fun hk => ?_⟩ <;> conv => whnf
    · have hk : k < a.length := by omega
      have hkb : k < b.length := by omega
      conv => whnf
      repeat (first | (refine And.intro (by omega) ?_; (try intro _); conv => whnf) | (refine And.intro ?_ (by omega); (try intro _); conv => whnf) | (refine ⟨_, RemV.nonneg (by omega) (by omega), ?_⟩; conv => whnf))
      refine RunsS.held tab (.fl 0 (.fl 1 (.fl 2 (.fl 3 (.fl 4 (.fl 5 (.fl 6 (.fl 7 (.fl 8 .done))))))))) (by kernel_rfl) ?_
      conv => whnf
      try refine goR_run tab _ _ _ _ _ _ ?_
      conv => whnf
      repeat (first | (refine And.intro (by omega) ?_; (try intro _); conv => whnf) | (refine And.intro ?_ (by omega); (try intro _); conv => whnf) | (refine And.intro (by (conv => whnf); (repeat (refine And.intro (by (conv => whnf); first | rfl | exact trivial) ?_; conv => whnf)); exact trivial) ?_; conv => whnf) | (refine ⟨_, RemV.nonneg (by omega) (by omega), ?_⟩; conv => whnf))
      try refine goS_run tab 1000 _ _ _ _ ?_
      conv => whnf
      repeat (first | (refine And.intro (by omega) ?_; (try intro _); conv => whnf) | (refine And.intro ?_ (by omega); (try intro _); conv => whnf) | (refine ⟨_, RemV.nonneg (by omega) (by omega), ?_⟩; conv => whnf))
      refine ⟨_, rowsU_get hk, ?_⟩
      conv => whnf
      try (refine And.intro (by first | omega | exact Nat.le_of_ble_eq_true rfl) ?_; conv => whnf)
      try refine goR_run tab _ _ _ _ _ _ ?_
      conv => whnf
      repeat (first | (refine And.intro (by omega) ?_; (try intro _); conv => whnf) | (refine And.intro ?_ (by omega); (try intro _); conv => whnf) | (refine And.intro (by (conv => whnf); (repeat (refine And.intro (by (conv => whnf); first | rfl | exact trivial) ?_; conv => whnf)); exact trivial) ?_; conv => whnf) | (refine ⟨_, RemV.nonneg (by omega) (by omega), ?_⟩; conv => whnf))
      try refine goS_run tab 1000 _ _ _ _ ?_
      conv => whnf
      repeat (first | (refine And.intro (by omega) ?_; (try intro _); conv => whnf) | (refine And.intro ?_ (by omega); (try intro _); conv => whnf) | (refine ⟨_, RemV.nonneg (by omega) (by omega), ?_⟩; conv => whnf))
      refine ⟨_, rowsU_get hkb, ?_⟩
      conv => whnf
      try (refine And.intro (by first | omega | exact Nat.le_of_ble_eq_true rfl) ?_; conv => whnf)
      try refine goR_run tab _ _ _ _ _ _ ?_
      conv => whnf
      repeat (first | (refine And.intro (by omega) ?_; (try intro _); conv => whnf) | (refine And.intro ?_ (by omega); (try intro _); conv => whnf) | (refine And.intro (by (conv => whnf); (repeat (refine And.intro (by (conv => whnf); first | rfl | exact trivial) ?_; conv => whnf)); exact trivial) ?_; conv => whnf) | (refine ⟨_, RemV.nonneg (by omega) (by omega), ?_⟩; conv => whnf))
      try refine goS_run tab 1000 _ _ _ _ ?_
      conv => whnf
      repeat (first | (refine And.intro (by omega) ?_; (try intro _); conv => whnf) | (refine And.intro ?_ (by omega); (try intro _); conv => whnf) | (refine ⟨_, RemV.nonneg (by omega) (by omega), ?_⟩; conv => whnf))
      refine ⟨fun he => ?_, fun he => ?_⟩ <;> conv => whnf
      · try refine goR_run tab _ _ _ _ _ _ ?_
        conv => whnf
        repeat (first | (refine And.intro (by omega) ?_; (try intro _); conv => whnf) | (refine And.intro ?_ (by omega); (try intro _); conv => whnf) | (refine And.intro (by (conv => whnf); (repeat (refine And.intro (by (conv => whnf); first | rfl | exact trivial) ?_; conv => whnf)); exact trivial) ?_; conv => whnf) | (refine ⟨_, RemV.nonneg (by omega) (by omega), ?_⟩; conv => whnf))
        try refine goS_run tab 1000 _ _ _ _ ?_
        conv => whnf
        repeat (first | (refine And.intro (by omega) ?_; (try intro _); conv => whnf) | (refine And.intro ?_ (by omega); (try intro _); conv => whnf) | (refine ⟨_, RemV.nonneg (by omega) (by omega), ?_⟩; conv => whnf))
        refine RunsS.subR [] (back (k + 1) ?BJ4 ?BM4) ?SS4 ?HH4
        case BJ4 => exact (⟨hk, take_eq_succ hk hkb hJ.2 (Un.ext8 he)⟩)
        case BM4 => (try dsimp only); omega
        case SS4 => repeat (first | exact trivial | refine ⟨by rfl, ?_⟩)
        case HH4 => repeat (first | exact trivial | refine ⟨by rfl, ?_⟩)
      · try refine goR_run tab _ _ _ _ _ _ ?_
        conv => whnf
        repeat (first | (refine And.intro (by omega) ?_; (try intro _); conv => whnf) | (refine And.intro ?_ (by omega); (try intro _); conv => whnf) | (refine And.intro (by (conv => whnf); (repeat (refine And.intro (by (conv => whnf); first | rfl | exact trivial) ?_; conv => whnf)); exact trivial) ?_; conv => whnf) | (refine ⟨_, RemV.nonneg (by omega) (by omega), ?_⟩; conv => whnf))
        try refine goS_run tab 1000 _ _ _ _ ?_
        conv => whnf
        repeat (first | (refine And.intro (by omega) ?_; (try intro _); conv => whnf) | (refine And.intro ?_ (by omega); (try intro _); conv => whnf) | (refine ⟨_, RemV.nonneg (by omega) (by omega), ?_⟩; conv => whnf))
        have : r = false := by
          rw [hr]
          refine decide_eq_false fun e => he ?_
          subst e
          exact Un.ext8_iff.1 rfl
        rw [this]
        refine RunsS.retU (UnwS.ret tab Tryz.func9 rfl fun Ez Hz Az Sz K => ⟨_, rfl, rfl, K.keeps⟩)
    · have hk : k = a.length := by omega
      have h2 := hJ.2
      rw [hk, List.take_length, h1, List.take_length] at h2
      have : r = true := by rw [hr]; exact decide_eq_true h2
      conv => whnf
      repeat (first | (refine And.intro (by omega) ?_; (try intro _); conv => whnf) | (refine And.intro ?_ (by omega); (try intro _); conv => whnf) | (refine ⟨_, RemV.nonneg (by omega) (by omega), ?_⟩; conv => whnf))
      rw [this]
      refine RunsS.retU (UnwS.ret tab Tryz.func9 rfl fun Ez Hz Az Sz K => ⟨_, rfl, rfl, K.keeps⟩)
  · have : r = false := by rw [hr]; exact decide_eq_false (fun e => h1 (by rw [e]))
    rw [this]
    conv => whnf
    repeat (first | (refine And.intro (by omega) ?_; (try intro _); conv => whnf) | (refine And.intro ?_ (by omega); (try intro _); conv => whnf) | (refine ⟨_, RemV.nonneg (by omega) (by omega), ?_⟩; conv => whnf))
    refine RunsS.retU (UnwS.ret tab Tryz.func9 rfl fun Ez Hz Az Sz K => ⟨_, rfl, rfl, K.keeps⟩)
def resdU (l : List Un) (r : Rt) : Option (List Un) := if FewU l ∧ FewS r then match resolveU l with
  | .inl x => some x
  | .inr _ => none
  else none
abbrev rtS (a : Rt) : SV := .agg [.v (.bool a.neg), .v (.string a.n), .v (.string a.d)]
def resdO : Option (List Un) → OutS
  | some x => .ret (.tup [.buf 1, .v (.bool true)]) 2 [ownU 1 x]
  | none => .ret (.tup [.v (.slice none 0 0), .v (.bool false)]) 1 []
theorem whole9_fn {h : Array Obj} (n : Int) (hn : -9223372036854775808 ≤ n ∧ n ≤ 9223372036854775807) (hT : TabH h) : FnV Tryz.prog 15 #[.int .i64 n] h fun r h' => r = (newR n 1).1.v ∧ Keeps h.size h h' := by
  refine Fn.ofS (args := [.int .i64 n]) Tryz.func15 (by kernel_rfl) rfl Tryz.ntmps15 rfl fun w0 cs => ?_
  conv => whnf
  refine goS_run tab 1000 _ _ _ _ ?_
  conv => whnf
  repeat (first | (refine And.intro (by omega) ?_; (try intro _); conv => whnf) | (refine And.intro ?_ (by omega); (try intro _); conv => whnf) | (refine ⟨_, RemV.nonneg (by omega) (by omega), ?_⟩; conv => whnf))
  refine RunsS.callV (fun Ez Hz Az Sz K => qNew_fn n 1 hn (by omega) (hT.keeps ⟨K.size, K.same⟩)) ?_
  conv => whnf
  try refine goS_run tab 1000 _ _ _ _ ?_
  conv => whnf
  repeat (first | (refine And.intro (by omega) ?_; (try intro _); conv => whnf) | (refine And.intro ?_ (by omega); (try intro _); conv => whnf) | (refine ⟨_, RemV.nonneg (by omega) (by omega), ?_⟩; conv => whnf))
  refine RunsS.retU (UnwS.ret tab Tryz.func15 rfl fun Ez Hz Az Sz K => ⟨_, rfl, rfl, K.keeps⟩)
end Go.Proofs.YtgnciigjhpcdmaaGreatDoor

namespace Go.Proofs.YtgnciigjhpcdmaaGreatDoor
open Go Go.Fw Go.NatM Go.RatM
set_option maxRecDepth 100000
set_option maxHeartbeats 64000000

theorem resOkO {l x : List Un} (hl : l.length ≤ 9223372036854775807) (hi : UnOk l) (hx : resolveU l = .inl x) :
    FnT Tryz.prog TabT 7 1 [.buf 0] [ownU 0 l] (fun _ : Unit => True) (fun _ => .ret (.tup [.buf 1, .v (.int .i64 0)]) 2 [ownU 1 x]) :=
  (resOk hl hi hx).ofRo tabOk _ fun _ _ p hp => by rw [List.mem_singleton.1 hp]; rfl
theorem resNoO {l : List Un} {e : Int} (hl : l.length ≤ 9223372036854775807) (hi : UnOk l) (hx : resolveU l = .inr e) :
    FnT Tryz.prog TabT 7 1 [.buf 0] [ownU 0 l] (fun _ : Unit => True) (fun _ => .ret (.tup [.v (.slice none 0 0), .v (.int .i64 e)]) 1 []) :=
  (resNo hl hi hx).ofRo tabOk _ fun _ _ p hp => by cases hp
theorem resNil : FnT Tryz.prog TabT 7 0 [.v (.slice none 0 0)] [] (fun _ : Unit => True) (fun _ => .ret (.tup [.v (.slice none 0 0), .v (.int .i64 0)]) 0 []) := by
  refine FnT.of Tryz.func7 (by kernel_rfl) rfl Tryz.ntmps7 rfl fun E0 F h hT w0 cs => ?_
  conv => whnf
  refine goS_run tab 1000 _ _ _ _ ?_
  conv => whnf
  repeat (first | (refine And.intro (by omega) ?_; (try intro _); conv => whnf) | (refine And.intro ?_ (by omega); (try intro _); conv => whnf) | (refine ⟨_, RemV.nonneg (by omega) (by omega), ?_⟩; conv => whnf))
  refine RunsS.callV (fun Ez Hz Az Sz K => twins_fn [] Ro.nil) ?_
  conv => whnf
  rw [decide_eq_false (fun h => h List.nodup_nil)]
  try dsimp only
  try refine goS_run tab 1000 _ _ _ _ ?_
  conv => whnf
  repeat (first | (refine And.intro (by omega) ?_; (try intro _); conv => whnf) | (refine And.intro ?_ (by omega); (try intro _); conv => whnf) | (refine ⟨_, RemV.nonneg (by omega) (by omega), ?_⟩; conv => whnf))
  refine RunsS.callV (fun Ez Hz Az Sz K => qNew_fn 1 1 (by omega) (by omega) (tabOk.at hT K).1) ?_
  conv => whnf
  rw [newR_one]
  try dsimp only
  try refine goS_run tab 1000 _ _ _ _ ?_
  conv => whnf
  repeat (first | (refine And.intro (by omega) ?_; (try intro _); conv => whnf) | (refine And.intro ?_ (by omega); (try intro _); conv => whnf) | (refine ⟨_, RemV.nonneg (by omega) (by omega), ?_⟩; conv => whnf))
  refine RunsS.loopU ?_
  try refine goS_run tab 1000 _ _ _ _ ?_
  conv => whnf
  repeat (first | (refine And.intro (by omega) ?_; (try intro _); conv => whnf) | (refine And.intro ?_ (by omega); (try intro _); conv => whnf) | (refine ⟨_, RemV.nonneg (by omega) (by omega), ?_⟩; conv => whnf))
  try refine RunsS.retU ?_
  try refine RunsS.finU ?_
  exact UnwS.ret tab Tryz.func7 rfl (EndS.mk (()) (trivial) [] (by repeat (first | exact trivial | refine ⟨by rfl, ?_⟩)) rfl rfl (okRet rfl rfl))

def sPiece : ByteArray := ⟨#[112, 105, 101, 99, 101]⟩
def sDozen : ByteArray := ⟨#[100, 111, 122, 101, 110]⟩
def sM : ByteArray := ⟨#[109]⟩
def sGross : ByteArray := ⟨#[103, 114, 111, 115, 115]⟩
def sHalf : ByteArray := ⟨#[104, 97, 108, 102]⟩
def sA : ByteArray := ⟨#[97]⟩
def grossL : List Un := [⟨sPiece, mt, 0, 0, 0, zr⟩, ⟨sDozen, sPiece, 12, 1, 0, zr⟩, ⟨sM, mt, 0, 0, 0, zr⟩, ⟨sGross, sDozen, 12, 1, 0, zr⟩, ⟨sHalf, sPiece, 1, 2, 0, zr⟩]
abbrev rw1 (n : Int) : Rt := (newR n 1).1
def grossX : List Un := [⟨sPiece, mt, 0, 0, 0, rw1 1⟩, ⟨sDozen, sPiece, 12, 1, 0, rw1 12⟩, ⟨sM, mt, 0, 0, 2, rw1 1⟩, ⟨sGross, sDozen, 12, 1, 0, rw1 144⟩, ⟨sHalf, sPiece, 1, 2, 0, (newR 1 2).1⟩]
def ua1 : List Un := [⟨sA, sA, 1, 1, 0, zr⟩]
def ua2 : List Un := [⟨sA, mt, 0, 0, 0, zr⟩, ⟨sA, mt, 0, 0, 0, zr⟩]
def ua3 : List Un := [⟨sA, mt, 1, 1, 0, zr⟩]
instance decRtU : DecidableEq Go.RatM.Rt := fun a b => decidable_of_iff (a.neg = b.neg ∧ a.n = b.n ∧ a.d = b.d) ⟨fun h => by cases a; cases b; obtain ⟨rfl, rfl, rfl⟩ := h; rfl, fun h => by subst h; exact ⟨rfl, rfl, rfl⟩⟩
theorem uf1 : resolveU grossL = .inl grossX := by decide +kernel
theorem uf2 : resolveU ua1 = .inr 110 := by decide +kernel
theorem uf3 : resolveU ua2 = .inr 111 := by decide +kernel
theorem uf4 : resolveU ua3 = .inr 90 := by decide +kernel
theorem uf5 : convU grossX 3 1 (rw1 3) = (rw1 36, 0) := by decide +kernel
theorem uf6 : convU grossX 1 4 (rw1 1) = (rw1 24, 0) := by decide +kernel
theorem uf7 : convU grossX 0 2 (rw1 1) = (zr, 90) := by decide +kernel
theorem uf8 : convU [] 0 0 (rw1 1) = (zr, 90) := by decide +kernel
theorem uf9 : checkU grossX = 0 := by decide +kernel
theorem uf10 : checkU grossL = 90 := by decide +kernel
instance (l : List Un) : Decidable (UnOk l) := by unfold UnOk; infer_instance
theorem grossL_ok : UnOk grossL := by decide +kernel
theorem grossX_ok : UnOk grossX := by decide +kernel
theorem nil_ok : UnOk [] := fun u h => by cases h
theorem gross_fn : FnS Tryz.prog 14 0 [] [] (fun _ : Unit => True) (fun _ => .ret (.buf 0) 1 [ownU 0 grossL]) := by
  refine FnS.of Tryz.func14 (by kernel_rfl) rfl Tryz.ntmps14 rfl fun E0 F h w0 cs => ?_
  conv => whnf
  refine goS_run tab 1000 _ _ _ _ ?_
  conv => whnf
  repeat (first | (refine And.intro (by omega) ?_; (try intro _); conv => whnf) | (refine And.intro ?_ (by omega); (try intro _); conv => whnf) | (refine ⟨_, RemV.nonneg (by omega) (by omega), ?_⟩; conv => whnf))
  try refine RunsS.retU ?_
  try refine RunsS.finU ?_
  exact UnwS.ret tab Tryz.func14 rfl (EndS.mk (()) (trivial) [(0, 0)] (by repeat (first | exact trivial | refine ⟨by rfl, ?_⟩)) rfl rfl (okRet rfl rfl))
theorem saneU_fn {h : Array Obj} (hT : TabH h) : FnV Tryz.prog 5 #[] h fun r h' => r = .bool true ∧ Keeps h.size h h' := by
  have hgx : (rowsU grossX).length = 5 := rfl
  refine Fn.ofS (args := []) Tryz.func5 (by kernel_rfl) rfl Tryz.ntmps5 rfl fun w0 cs => ?_
  conv => whnf
  refine goS_run tab 1000 _ _ _ _ ?_
  conv => whnf
  repeat (first | (refine And.intro (by omega) ?_; (try intro _); conv => whnf) | (refine And.intro ?_ (by omega); (try intro _); conv => whnf) | (refine ⟨_, RemV.nonneg (by omega) (by omega), ?_⟩; conv => whnf))
  refine RunsS.callN (gross_fn) [] ?CNr1 (by repeat (first | exact trivial | refine ⟨by rfl, ?_⟩)) ?CNa1
  case CNa1 => rfl
  intro _ _
  conv => whnf
  try refine goS_run tab 1000 _ _ _ _ ?_
  conv => whnf
  repeat (first | (refine And.intro (by omega) ?_; (try intro _); conv => whnf) | (refine And.intro ?_ (by omega); (try intro _); conv => whnf) | (refine ⟨_, RemV.nonneg (by omega) (by omega), ?_⟩; conv => whnf))
  refine RunsS.callT tabOk (hT.t) (resOkO (by decide) grossL_ok uf1) [0] (by repeat (first | exact trivial | refine ⟨by rfl, ?_⟩)) ?CNa2 ?CNr2
  case CNa2 => rfl
  intro _ _
  conv => whnf
  try refine goS_run tab 1000 _ _ _ _ ?_
  conv => whnf
  repeat (first | (refine And.intro (by omega) ?_; (try intro _); conv => whnf) | (refine And.intro ?_ (by omega); (try intro _); conv => whnf) | (refine ⟨_, RemV.nonneg (by omega) (by omega), ?_⟩; conv => whnf))
  refine RunsS.callT tabOk (hT.t) (resNil) [] (by repeat (first | exact trivial | refine ⟨by rfl, ?_⟩)) ?CNa3 ?CNr3
  case CNa3 => rfl
  intro _ _
  conv => whnf
  try refine goS_run tab 1000 _ _ _ _ ?_
  conv => whnf
  repeat (first | (refine And.intro (by omega) ?_; (try intro _); conv => whnf) | (refine And.intro ?_ (by omega); (try intro _); conv => whnf) | (refine ⟨_, RemV.nonneg (by omega) (by omega), ?_⟩; conv => whnf))
  refine RunsS.callT tabOk (hT.t) (resNoO (l := ua1) (by decide) (by decide +kernel) uf2) [2] (by repeat (first | exact trivial | refine ⟨by rfl, ?_⟩)) ?CNa4 ?CNr4
  case CNa4 => rfl
  intro _ _
  conv => whnf
  try refine goS_run tab 1000 _ _ _ _ ?_
  conv => whnf
  repeat (first | (refine And.intro (by omega) ?_; (try intro _); conv => whnf) | (refine And.intro ?_ (by omega); (try intro _); conv => whnf) | (refine ⟨_, RemV.nonneg (by omega) (by omega), ?_⟩; conv => whnf))
  refine RunsS.callT tabOk (hT.t) (resNoO (l := ua2) (by decide) (by decide +kernel) uf3) [3] (by repeat (first | exact trivial | refine ⟨by rfl, ?_⟩)) ?CNa5 ?CNr5
  case CNa5 => rfl
  intro _ _
  conv => whnf
  try refine goS_run tab 1000 _ _ _ _ ?_
  conv => whnf
  repeat (first | (refine And.intro (by omega) ?_; (try intro _); conv => whnf) | (refine And.intro ?_ (by omega); (try intro _); conv => whnf) | (refine ⟨_, RemV.nonneg (by omega) (by omega), ?_⟩; conv => whnf))
  refine RunsS.callT tabOk (hT.t) (resNoO (l := ua3) (by decide) (by decide +kernel) uf4) [4] (by repeat (first | exact trivial | refine ⟨by rfl, ?_⟩)) ?CNa6 ?CNr6
  case CNa6 => rfl
  intro _ _
  conv => whnf
  try refine goS_run tab 1000 _ _ _ _ ?_
  conv => whnf
  repeat (first | (refine And.intro (by omega) ?_; (try intro _); conv => whnf) | (refine And.intro ?_ (by omega); (try intro _); conv => whnf) | (refine ⟨_, RemV.nonneg (by omega) (by omega), ?_⟩; conv => whnf))
  refine RunsS.callV (fun Ez Hz Az Sz K => whole9_fn 3 (by omega) (hT.keeps ⟨K.size, K.same⟩)) ?_
  conv => whnf
  try refine goS_run tab 1000 _ _ _ _ ?_
  conv => whnf
  repeat (first | (refine And.intro (by omega) ?_; (try intro _); conv => whnf) | (refine And.intro ?_ (by omega); (try intro _); conv => whnf) | (refine ⟨_, RemV.nonneg (by omega) (by omega), ?_⟩; conv => whnf))
  refine RunsS.callV (fun Ez Hz Az Sz K => convert_fn grossX grossX_ok (Sz.ro (b := 1) rfl) 3 1 (rw1 3) (hT.keeps ⟨K.size, K.same⟩)) ?_
  conv => whnf
  rw [uf5]
  try dsimp only
  try refine goS_run tab 1000 _ _ _ _ ?_
  conv => whnf
  repeat (first | (refine And.intro (by omega) ?_; (try intro _); conv => whnf) | (refine And.intro ?_ (by omega); (try intro _); conv => whnf) | (refine ⟨_, RemV.nonneg (by omega) (by omega), ?_⟩; conv => whnf))
  refine RunsS.callV (fun Ez Hz Az Sz K => whole9_fn 1 (by omega) (hT.keeps ⟨K.size, K.same⟩)) ?_
  conv => whnf
  try refine goS_run tab 1000 _ _ _ _ ?_
  conv => whnf
  repeat (first | (refine And.intro (by omega) ?_; (try intro _); conv => whnf) | (refine And.intro ?_ (by omega); (try intro _); conv => whnf) | (refine ⟨_, RemV.nonneg (by omega) (by omega), ?_⟩; conv => whnf))
  refine RunsS.callV (fun Ez Hz Az Sz K => convert_fn grossX grossX_ok (Sz.ro (b := 1) rfl) 1 4 (rw1 1) (hT.keeps ⟨K.size, K.same⟩)) ?_
  conv => whnf
  rw [uf6]
  try dsimp only
  try refine goS_run tab 1000 _ _ _ _ ?_
  conv => whnf
  repeat (first | (refine And.intro (by omega) ?_; (try intro _); conv => whnf) | (refine And.intro ?_ (by omega); (try intro _); conv => whnf) | (refine ⟨_, RemV.nonneg (by omega) (by omega), ?_⟩; conv => whnf))
  refine RunsS.callV (fun Ez Hz Az Sz K => whole9_fn 1 (by omega) (hT.keeps ⟨K.size, K.same⟩)) ?_
  conv => whnf
  try refine goS_run tab 1000 _ _ _ _ ?_
  conv => whnf
  repeat (first | (refine And.intro (by omega) ?_; (try intro _); conv => whnf) | (refine And.intro ?_ (by omega); (try intro _); conv => whnf) | (refine ⟨_, RemV.nonneg (by omega) (by omega), ?_⟩; conv => whnf))
  refine RunsS.callV (fun Ez Hz Az Sz K => convert_fn grossX grossX_ok (Sz.ro (b := 1) rfl) 0 2 (rw1 1) (hT.keeps ⟨K.size, K.same⟩)) ?_
  conv => whnf
  rw [uf7]
  try dsimp only
  try refine goS_run tab 1000 _ _ _ _ ?_
  conv => whnf
  repeat (first | (refine And.intro (by omega) ?_; (try intro _); conv => whnf) | (refine And.intro ?_ (by omega); (try intro _); conv => whnf) | (refine ⟨_, RemV.nonneg (by omega) (by omega), ?_⟩; conv => whnf))
  refine RunsS.callV (fun Ez Hz Az Sz K => whole9_fn 1 (by omega) (hT.keeps ⟨K.size, K.same⟩)) ?_
  conv => whnf
  try refine goS_run tab 1000 _ _ _ _ ?_
  conv => whnf
  repeat (first | (refine And.intro (by omega) ?_; (try intro _); conv => whnf) | (refine And.intro ?_ (by omega); (try intro _); conv => whnf) | (refine ⟨_, RemV.nonneg (by omega) (by omega), ?_⟩; conv => whnf))
  refine RunsS.callV (fun Ez Hz Az Sz K => convert_fn [] nil_ok Ro.nil 0 0 (rw1 1) (hT.keeps ⟨K.size, K.same⟩)) ?_
  conv => whnf
  rw [uf8]
  try dsimp only
  try refine goS_run tab 1000 _ _ _ _ ?_
  conv => whnf
  repeat (first | (refine And.intro (by omega) ?_; (try intro _); conv => whnf) | (refine And.intro ?_ (by omega); (try intro _); conv => whnf) | (refine ⟨_, RemV.nonneg (by omega) (by omega), ?_⟩; conv => whnf))
  refine RunsS.held tab (.fl 0 (.fl 1 (.fl 2 (.fl 3 (.fl 4 (.fl 5 (.fl 6 (.fl 7 (.fl 8 (.fl 9 (.fl 10 (.fl 11 (.fl 12 (.fl 13 (.fl 14 (.e1 15 [14] (.fl 16 (.fl 17 (.fl 18 (.fl 19 (.fl 20 (.fl 21 (.fl 22 (.fl 23 (.fl 24 (.fl 25 (.fl 26 (.fl 27 (.fl 28 (.fl 29 (.e1 30 [29] (.fl 31 (.fl 32 (.fl 33 (.fl 34 (.e1 35 [34] (.fl 36 (.fl 37 (.fl 38 (.fl 39 (.e1 40 [39] (.fl 41 (.fl 42 (.fl 43 (.fl 44 (.e1 45 [] (.fl 46 (.fl 47 (.fl 48 (.e1 49 [] (.e1 50 [] (.fl 51 (.fl 52 (.fl 53 .done)))))))))))))))))))))))))))))))))))))))))))))))))))))) (by kernel_rfl) ?_
  conv => whnf
  try refine goR_run tab _ _ _ _ _ _ ?_
  conv => whnf
  repeat (first | (refine And.intro (by omega) ?_; (try intro _); conv => whnf) | (refine And.intro ?_ (by omega); (try intro _); conv => whnf) | (refine And.intro (by (conv => whnf); (repeat (refine And.intro (by (conv => whnf); first | rfl | exact trivial) ?_; conv => whnf)); exact trivial) ?_; conv => whnf) | (refine ⟨_, RemV.nonneg (by omega) (by omega), ?_⟩; conv => whnf))
  try refine goS_run tab 1000 _ _ _ _ ?_
  conv => whnf
  repeat (first | (refine And.intro (by omega) ?_; (try intro _); conv => whnf) | (refine And.intro ?_ (by omega); (try intro _); conv => whnf) | (refine ⟨_, RemV.nonneg (by omega) (by omega), ?_⟩; conv => whnf))
  refine ⟨_, rowsU_get (l := grossX) (k := 3) (by decide), ?_⟩
  conv => whnf
  try (refine And.intro (by first | omega | exact Nat.le_of_ble_eq_true rfl) ?_; conv => whnf)
  try refine goR_run tab _ _ _ _ _ _ ?_
  conv => whnf
  repeat (first | (refine And.intro (by omega) ?_; (try intro _); conv => whnf) | (refine And.intro ?_ (by omega); (try intro _); conv => whnf) | (refine And.intro (by (conv => whnf); (repeat (refine And.intro (by (conv => whnf); first | rfl | exact trivial) ?_; conv => whnf)); exact trivial) ?_; conv => whnf) | (refine ⟨_, RemV.nonneg (by omega) (by omega), ?_⟩; conv => whnf))
  try refine goS_run tab 1000 _ _ _ _ ?_
  conv => whnf
  repeat (first | (refine And.intro (by omega) ?_; (try intro _); conv => whnf) | (refine And.intro ?_ (by omega); (try intro _); conv => whnf) | (refine ⟨_, RemV.nonneg (by omega) (by omega), ?_⟩; conv => whnf))
  refine And.intro (fun _ => ?_) (fun hn => absurd (rfl) hn)
  conv => whnf
  try refine goR_run tab _ _ _ _ _ _ ?_
  conv => whnf
  repeat (first | (refine And.intro (by omega) ?_; (try intro _); conv => whnf) | (refine And.intro ?_ (by omega); (try intro _); conv => whnf) | (refine And.intro (by (conv => whnf); (repeat (refine And.intro (by (conv => whnf); first | rfl | exact trivial) ?_; conv => whnf)); exact trivial) ?_; conv => whnf) | (refine ⟨_, RemV.nonneg (by omega) (by omega), ?_⟩; conv => whnf))
  try refine goS_run tab 1000 _ _ _ _ ?_
  conv => whnf
  repeat (first | (refine And.intro (by omega) ?_; (try intro _); conv => whnf) | (refine And.intro ?_ (by omega); (try intro _); conv => whnf) | (refine ⟨_, RemV.nonneg (by omega) (by omega), ?_⟩; conv => whnf))
  refine ⟨_, rowsU_get (l := grossX) (k := 3) (by decide), ?_⟩
  conv => whnf
  try (refine And.intro (by first | omega | exact Nat.le_of_ble_eq_true rfl) ?_; conv => whnf)
  try refine goR_run tab _ _ _ _ _ _ ?_
  conv => whnf
  repeat (first | (refine And.intro (by omega) ?_; (try intro _); conv => whnf) | (refine And.intro ?_ (by omega); (try intro _); conv => whnf) | (refine And.intro (by (conv => whnf); (repeat (refine And.intro (by (conv => whnf); first | rfl | exact trivial) ?_; conv => whnf)); exact trivial) ?_; conv => whnf) | (refine ⟨_, RemV.nonneg (by omega) (by omega), ?_⟩; conv => whnf))
  try refine goS_run tab 1000 _ _ _ _ ?_
  conv => whnf
  repeat (first | (refine And.intro (by omega) ?_; (try intro _); conv => whnf) | (refine And.intro ?_ (by omega); (try intro _); conv => whnf) | (refine ⟨_, RemV.nonneg (by omega) (by omega), ?_⟩; conv => whnf))
  refine EffR.callV (fun Ez Hz Az Sz K => whole9_fn 144 (by omega) (hT.keeps ⟨K.size, K.same⟩)) (by (conv => whnf); (repeat (refine And.intro (by (conv => whnf); first | rfl | exact trivial) ?_; conv => whnf)); exact trivial) ?_
  conv => whnf
  try refine goR_run tab _ _ _ _ _ _ ?_
  conv => whnf
  repeat (first | (refine And.intro (by omega) ?_; (try intro _); conv => whnf) | (refine And.intro ?_ (by omega); (try intro _); conv => whnf) | (refine And.intro (by (conv => whnf); (repeat (refine And.intro (by (conv => whnf); first | rfl | exact trivial) ?_; conv => whnf)); exact trivial) ?_; conv => whnf) | (refine ⟨_, RemV.nonneg (by omega) (by omega), ?_⟩; conv => whnf))
  try refine goS_run tab 1000 _ _ _ _ ?_
  conv => whnf
  repeat (first | (refine And.intro (by omega) ?_; (try intro _); conv => whnf) | (refine And.intro ?_ (by omega); (try intro _); conv => whnf) | (refine ⟨_, RemV.nonneg (by omega) (by omega), ?_⟩; conv => whnf))
  refine And.intro (fun _ => ?_) (fun hn => absurd (⟨rfl, rfl, rfl⟩) hn)
  conv => whnf
  try refine goR_run tab _ _ _ _ _ _ ?_
  conv => whnf
  repeat (first | (refine And.intro (by omega) ?_; (try intro _); conv => whnf) | (refine And.intro ?_ (by omega); (try intro _); conv => whnf) | (refine And.intro (by (conv => whnf); (repeat (refine And.intro (by (conv => whnf); first | rfl | exact trivial) ?_; conv => whnf)); exact trivial) ?_; conv => whnf) | (refine ⟨_, RemV.nonneg (by omega) (by omega), ?_⟩; conv => whnf))
  try refine goS_run tab 1000 _ _ _ _ ?_
  conv => whnf
  repeat (first | (refine And.intro (by omega) ?_; (try intro _); conv => whnf) | (refine And.intro ?_ (by omega); (try intro _); conv => whnf) | (refine ⟨_, RemV.nonneg (by omega) (by omega), ?_⟩; conv => whnf))
  refine ⟨_, rowsU_get (l := grossX) (k := 2) (by decide), ?_⟩
  conv => whnf
  try (refine And.intro (by first | omega | exact Nat.le_of_ble_eq_true rfl) ?_; conv => whnf)
  try refine goR_run tab _ _ _ _ _ _ ?_
  conv => whnf
  repeat (first | (refine And.intro (by omega) ?_; (try intro _); conv => whnf) | (refine And.intro ?_ (by omega); (try intro _); conv => whnf) | (refine And.intro (by (conv => whnf); (repeat (refine And.intro (by (conv => whnf); first | rfl | exact trivial) ?_; conv => whnf)); exact trivial) ?_; conv => whnf) | (refine ⟨_, RemV.nonneg (by omega) (by omega), ?_⟩; conv => whnf))
  try refine goS_run tab 1000 _ _ _ _ ?_
  conv => whnf
  repeat (first | (refine And.intro (by omega) ?_; (try intro _); conv => whnf) | (refine And.intro ?_ (by omega); (try intro _); conv => whnf) | (refine ⟨_, RemV.nonneg (by omega) (by omega), ?_⟩; conv => whnf))
  refine And.intro (fun _ => ?_) (fun hn => absurd (rfl) hn)
  conv => whnf
  try refine goR_run tab _ _ _ _ _ _ ?_
  conv => whnf
  repeat (first | (refine And.intro (by omega) ?_; (try intro _); conv => whnf) | (refine And.intro ?_ (by omega); (try intro _); conv => whnf) | (refine And.intro (by (conv => whnf); (repeat (refine And.intro (by (conv => whnf); first | rfl | exact trivial) ?_; conv => whnf)); exact trivial) ?_; conv => whnf) | (refine ⟨_, RemV.nonneg (by omega) (by omega), ?_⟩; conv => whnf))
  try refine goS_run tab 1000 _ _ _ _ ?_
  conv => whnf
  repeat (first | (refine And.intro (by omega) ?_; (try intro _); conv => whnf) | (refine And.intro ?_ (by omega); (try intro _); conv => whnf) | (refine ⟨_, RemV.nonneg (by omega) (by omega), ?_⟩; conv => whnf))
  refine ⟨_, rowsU_get (l := grossX) (k := 2) (by decide), ?_⟩
  conv => whnf
  try (refine And.intro (by first | omega | exact Nat.le_of_ble_eq_true rfl) ?_; conv => whnf)
  try refine goR_run tab _ _ _ _ _ _ ?_
  conv => whnf
  repeat (first | (refine And.intro (by omega) ?_; (try intro _); conv => whnf) | (refine And.intro ?_ (by omega); (try intro _); conv => whnf) | (refine And.intro (by (conv => whnf); (repeat (refine And.intro (by (conv => whnf); first | rfl | exact trivial) ?_; conv => whnf)); exact trivial) ?_; conv => whnf) | (refine ⟨_, RemV.nonneg (by omega) (by omega), ?_⟩; conv => whnf))
  try refine goS_run tab 1000 _ _ _ _ ?_
  conv => whnf
  repeat (first | (refine And.intro (by omega) ?_; (try intro _); conv => whnf) | (refine And.intro ?_ (by omega); (try intro _); conv => whnf) | (refine ⟨_, RemV.nonneg (by omega) (by omega), ?_⟩; conv => whnf))
  refine EffR.callV (fun Ez Hz Az Sz K => whole9_fn 1 (by omega) (hT.keeps ⟨K.size, K.same⟩)) (by (conv => whnf); (repeat (refine And.intro (by (conv => whnf); first | rfl | exact trivial) ?_; conv => whnf)); exact trivial) ?_
  conv => whnf
  try refine goR_run tab _ _ _ _ _ _ ?_
  conv => whnf
  repeat (first | (refine And.intro (by omega) ?_; (try intro _); conv => whnf) | (refine And.intro ?_ (by omega); (try intro _); conv => whnf) | (refine And.intro (by (conv => whnf); (repeat (refine And.intro (by (conv => whnf); first | rfl | exact trivial) ?_; conv => whnf)); exact trivial) ?_; conv => whnf) | (refine ⟨_, RemV.nonneg (by omega) (by omega), ?_⟩; conv => whnf))
  try refine goS_run tab 1000 _ _ _ _ ?_
  conv => whnf
  repeat (first | (refine And.intro (by omega) ?_; (try intro _); conv => whnf) | (refine And.intro ?_ (by omega); (try intro _); conv => whnf) | (refine ⟨_, RemV.nonneg (by omega) (by omega), ?_⟩; conv => whnf))
  refine And.intro (fun _ => ?_) (fun hn => absurd (⟨rfl, rfl, rfl⟩) hn)
  conv => whnf
  try refine goR_run tab _ _ _ _ _ _ ?_
  conv => whnf
  repeat (first | (refine And.intro (by omega) ?_; (try intro _); conv => whnf) | (refine And.intro ?_ (by omega); (try intro _); conv => whnf) | (refine And.intro (by (conv => whnf); (repeat (refine And.intro (by (conv => whnf); first | rfl | exact trivial) ?_; conv => whnf)); exact trivial) ?_; conv => whnf) | (refine ⟨_, RemV.nonneg (by omega) (by omega), ?_⟩; conv => whnf))
  try refine goS_run tab 1000 _ _ _ _ ?_
  conv => whnf
  repeat (first | (refine And.intro (by omega) ?_; (try intro _); conv => whnf) | (refine And.intro ?_ (by omega); (try intro _); conv => whnf) | (refine ⟨_, RemV.nonneg (by omega) (by omega), ?_⟩; conv => whnf))
  refine EffR.callV (fun Ez Hz Az Sz K => whole9_fn 36 (by omega) (hT.keeps ⟨K.size, K.same⟩)) (by (conv => whnf); (repeat (refine And.intro (by (conv => whnf); first | rfl | exact trivial) ?_; conv => whnf)); exact trivial) ?_
  conv => whnf
  try refine goR_run tab _ _ _ _ _ _ ?_
  conv => whnf
  repeat (first | (refine And.intro (by omega) ?_; (try intro _); conv => whnf) | (refine And.intro ?_ (by omega); (try intro _); conv => whnf) | (refine And.intro (by (conv => whnf); (repeat (refine And.intro (by (conv => whnf); first | rfl | exact trivial) ?_; conv => whnf)); exact trivial) ?_; conv => whnf) | (refine ⟨_, RemV.nonneg (by omega) (by omega), ?_⟩; conv => whnf))
  try refine goS_run tab 1000 _ _ _ _ ?_
  conv => whnf
  repeat (first | (refine And.intro (by omega) ?_; (try intro _); conv => whnf) | (refine And.intro ?_ (by omega); (try intro _); conv => whnf) | (refine ⟨_, RemV.nonneg (by omega) (by omega), ?_⟩; conv => whnf))
  refine And.intro (fun _ => ?_) (fun hn => absurd (⟨rfl, rfl, rfl⟩) hn)
  conv => whnf
  try refine goR_run tab _ _ _ _ _ _ ?_
  conv => whnf
  repeat (first | (refine And.intro (by omega) ?_; (try intro _); conv => whnf) | (refine And.intro ?_ (by omega); (try intro _); conv => whnf) | (refine And.intro (by (conv => whnf); (repeat (refine And.intro (by (conv => whnf); first | rfl | exact trivial) ?_; conv => whnf)); exact trivial) ?_; conv => whnf) | (refine ⟨_, RemV.nonneg (by omega) (by omega), ?_⟩; conv => whnf))
  try refine goS_run tab 1000 _ _ _ _ ?_
  conv => whnf
  repeat (first | (refine And.intro (by omega) ?_; (try intro _); conv => whnf) | (refine And.intro ?_ (by omega); (try intro _); conv => whnf) | (refine ⟨_, RemV.nonneg (by omega) (by omega), ?_⟩; conv => whnf))
  refine EffR.callV (fun Ez Hz Az Sz K => whole9_fn 24 (by omega) (hT.keeps ⟨K.size, K.same⟩)) (by (conv => whnf); (repeat (refine And.intro (by (conv => whnf); first | rfl | exact trivial) ?_; conv => whnf)); exact trivial) ?_
  conv => whnf
  try refine goR_run tab _ _ _ _ _ _ ?_
  conv => whnf
  repeat (first | (refine And.intro (by omega) ?_; (try intro _); conv => whnf) | (refine And.intro ?_ (by omega); (try intro _); conv => whnf) | (refine And.intro (by (conv => whnf); (repeat (refine And.intro (by (conv => whnf); first | rfl | exact trivial) ?_; conv => whnf)); exact trivial) ?_; conv => whnf) | (refine ⟨_, RemV.nonneg (by omega) (by omega), ?_⟩; conv => whnf))
  try refine goS_run tab 1000 _ _ _ _ ?_
  conv => whnf
  repeat (first | (refine And.intro (by omega) ?_; (try intro _); conv => whnf) | (refine And.intro ?_ (by omega); (try intro _); conv => whnf) | (refine ⟨_, RemV.nonneg (by omega) (by omega), ?_⟩; conv => whnf))
  refine And.intro (fun _ => ?_) (fun hn => absurd (⟨rfl, rfl, rfl⟩) hn)
  conv => whnf
  try refine goR_run tab _ _ _ _ _ _ ?_
  conv => whnf
  repeat (first | (refine And.intro (by omega) ?_; (try intro _); conv => whnf) | (refine And.intro ?_ (by omega); (try intro _); conv => whnf) | (refine And.intro (by (conv => whnf); (repeat (refine And.intro (by (conv => whnf); first | rfl | exact trivial) ?_; conv => whnf)); exact trivial) ?_; conv => whnf) | (refine ⟨_, RemV.nonneg (by omega) (by omega), ?_⟩; conv => whnf))
  try refine goS_run tab 1000 _ _ _ _ ?_
  conv => whnf
  repeat (first | (refine And.intro (by omega) ?_; (try intro _); conv => whnf) | (refine And.intro ?_ (by omega); (try intro _); conv => whnf) | (refine ⟨_, RemV.nonneg (by omega) (by omega), ?_⟩; conv => whnf))
  refine EffR.callV (fun Ez Hz Az Sz K => uCheck_fn grossX grossX_ok (Sz.ro (b := 1) rfl) (hT.keeps ⟨K.size, K.same⟩)) (by (conv => whnf); (repeat (refine And.intro (by (conv => whnf); first | rfl | exact trivial) ?_; conv => whnf)); exact trivial) ?_
  conv => whnf
  rw [uf9]
  try dsimp only
  try refine goR_run tab _ _ _ _ _ _ ?_
  conv => whnf
  repeat (first | (refine And.intro (by omega) ?_; (try intro _); conv => whnf) | (refine And.intro ?_ (by omega); (try intro _); conv => whnf) | (refine And.intro (by (conv => whnf); (repeat (refine And.intro (by (conv => whnf); first | rfl | exact trivial) ?_; conv => whnf)); exact trivial) ?_; conv => whnf) | (refine ⟨_, RemV.nonneg (by omega) (by omega), ?_⟩; conv => whnf))
  try refine goS_run tab 1000 _ _ _ _ ?_
  conv => whnf
  repeat (first | (refine And.intro (by omega) ?_; (try intro _); conv => whnf) | (refine And.intro ?_ (by omega); (try intro _); conv => whnf) | (refine ⟨_, RemV.nonneg (by omega) (by omega), ?_⟩; conv => whnf))
  refine EffR.callN (gross_fn) [] ?CNr7 (by repeat (first | exact trivial | refine ⟨by rfl, ?_⟩)) ?CNa7
  case CNa7 => rfl
  intro _ _
  conv => whnf
  try refine And.intro (by (conv => whnf); (repeat (refine And.intro (by (conv => whnf); first | rfl | exact trivial) ?_; conv => whnf)); exact trivial) ?_
  try refine goR_run tab _ _ _ _ _ _ ?_
  conv => whnf
  repeat (first | (refine And.intro (by omega) ?_; (try intro _); conv => whnf) | (refine And.intro ?_ (by omega); (try intro _); conv => whnf) | (refine And.intro (by (conv => whnf); (repeat (refine And.intro (by (conv => whnf); first | rfl | exact trivial) ?_; conv => whnf)); exact trivial) ?_; conv => whnf) | (refine ⟨_, RemV.nonneg (by omega) (by omega), ?_⟩; conv => whnf))
  try refine goS_run tab 1000 _ _ _ _ ?_
  conv => whnf
  repeat (first | (refine And.intro (by omega) ?_; (try intro _); conv => whnf) | (refine And.intro ?_ (by omega); (try intro _); conv => whnf) | (refine ⟨_, RemV.nonneg (by omega) (by omega), ?_⟩; conv => whnf))
  refine EffR.callV (fun Ez Hz Az Sz K => uCheck_fn grossL grossL_ok (Sz.ro (b := 9) rfl) (hT.keeps ⟨K.size, K.same⟩)) (by (conv => whnf); (repeat (refine And.intro (by (conv => whnf); first | rfl | exact trivial) ?_; conv => whnf)); exact trivial) ?_
  conv => whnf
  rw [uf10]
  try dsimp only
  try refine goR_run tab _ _ _ _ _ _ ?_
  conv => whnf
  repeat (first | (refine And.intro (by omega) ?_; (try intro _); conv => whnf) | (refine And.intro ?_ (by omega); (try intro _); conv => whnf) | (refine And.intro (by (conv => whnf); (repeat (refine And.intro (by (conv => whnf); first | rfl | exact trivial) ?_; conv => whnf)); exact trivial) ?_; conv => whnf) | (refine ⟨_, RemV.nonneg (by omega) (by omega), ?_⟩; conv => whnf))
  try refine goS_run tab 1000 _ _ _ _ ?_
  conv => whnf
  repeat (first | (refine And.intro (by omega) ?_; (try intro _); conv => whnf) | (refine And.intro ?_ (by omega); (try intro _); conv => whnf) | (refine ⟨_, RemV.nonneg (by omega) (by omega), ?_⟩; conv => whnf))
  refine RunsS.retU (UnwS.ret tab Tryz.func5 rfl fun Ez Hz Az Sz K => ⟨_, rfl, rfl, K.keeps⟩)
end Go.Proofs.YtgnciigjhpcdmaaGreatDoor

namespace Go.Proofs.YtgnciigjhpcdmaaGreatDoor
open Go Go.Fw Go.NatM Go.RatM
set_option maxRecDepth 100000
set_option maxHeartbeats 64000000

theorem UnOk.res {l x : List Un} (h : UnOk l) (hr : ResP l x) : UnOk x := by
  intro u hu
  obtain ⟨i, hi, rfl⟩ := List.getElem_of_mem hu
  have hi' : i < l.length := by rw [← hr.1]; exact hi
  obtain ⟨_, _, e1, e2⟩ := stepU_fields (hr.2 i hi' hi)
  rw [e1, e2]
  exact h _ (List.getElem_mem hi')
theorem rowsU_tget {x : List Un} {k j : Nat} (hj : j < k) (hx : j < x.length) : ((rowsU x).take ((k : Int)).toNat)[((j : Int)).toNat]? = some x[j].row := by
  rw [Int.toNat_natCast, Int.toNat_natCast, List.getElem?_take_of_lt hj]
  exact rowsU_get hx
theorem nodup_inj {x : List Un} (h : (x.map Un.name).Nodup) {i j : Nat} (hi : i < x.length) (hj : j < x.length) (he : x[i].name = x[j].name) : i = j := by
  have := (List.getElem_inj (h₀ := by rw [List.length_map]; exact hi) (h₁ := by rw [List.length_map]; exact hj) h).1 (by rw [List.getElem_map, List.getElem_map]; exact he)
  exact this
theorem dec_t {p : Prop} {i : Decidable p} (h : p) : @decide p i = true := decide_eq_true h
theorem ble_skip {m j : Nat} (h : j ≠ m) : Nat.ble (m + 1) j = Nat.ble (m + 1) (j + 1) := by
  apply Bool.eq_iff_iff.2
  rw [Nat.ble_eq, Nat.ble_eq]
  omega
end Go.Proofs.YtgnciigjhpcdmaaGreatDoor

namespace Go.Proofs.YtgnciigjhpcdmaaGreatDoor
open Go Go.Fw Go.NatM Go.RatM
set_option maxRecDepth 100000
set_option maxHeartbeats 64000000

theorem nodup_find {l : List Un} : (l.map Un.name).Nodup ↔ ∀ k (hk : k < l.length), findI l l[k].name = k := by
  constructor
  · intro h k hk
    refine findI_some.2 ⟨hk, rfl, fun j hj e => ?_⟩
    have := (List.pairwise_iff_getElem.1 h) j k (by rw [List.length_map]; omega) (by rw [List.length_map]; omega) hj
    simp only [List.getElem_map] at this
    exact this e
  · intro h
    refine List.pairwise_iff_getElem.2 fun i j hi hj hij e => ?_
    rw [List.length_map] at hi hj
    rw [List.getElem_map, List.getElem_map] at e
    have h1 := h i hi
    have h2 := h j hj
    rw [← e, h1] at h2
    omega
theorem findI_names : ∀ {x y : List Un} (nm : ByteArray), x.map Un.name = y.map Un.name → findI x nm = findI y nm := by
  have key : ∀ (x : List Un) (nm : ByteArray), findI x nm = match (x.map Un.name).findIdx? (fun s => decide (s = nm)) with | some k => (k : Int) | none => -1 := fun x nm => by
    unfold findI
    rw [List.findIdx?_map]
    rfl
  intro x y nm h
  rw [key, key, h]
theorem findI_take {l : List Un} {i : Nat} (nm : ByteArray) (hi : i ≤ l.length) : findI (l.take i) nm = if findI l nm < i then findI l nm else -1 := by
  by_cases h : findI l nm < 0
  · have h1 := findI_neg h
    rw [findI_none.2 h1, findI_none.2 fun u hu => h1 u (List.mem_of_mem_take hu)]
    exact (if_pos (by omega)).symm
  · obtain ⟨k, hk, hk1, hk2, hk3⟩ := findI_nonneg (l := l) (nm := nm) (by omega)
    rw [hk]
    by_cases hik : k < i
    · rw [if_pos (by omega)]
      refine findI_some.2 ⟨by rw [List.length_take]; omega, by rw [List.getElem_take]; exact hk2, fun j hj => ?_⟩
      rw [List.getElem_take]
      exact hk3 j hj
    · rw [if_neg (by omega)]
      refine findI_none.2 fun u hu e => ?_
      obtain ⟨j, hj, rfl⟩ := List.getElem_of_mem hu
      rw [List.length_take] at hj
      rw [List.getElem_take] at e
      exact hk3 j (by omega) e
theorem rfind_fn {h : Array Obj} (l : List Un) {v : Value} (hv : Ro h v 8 (rowsU l)) (s : ByteArray) : FnV Tryz.prog 24 #[v, .string s] h fun r h' => r = .int .i64 (findI l s) ∧ Keeps h.size h h' := by
  have hl := rowsU_len l
  have hm := hv.len
  obtain ⟨r, hr⟩ : ∃ r, r = findI l s := ⟨_, rfl⟩
  rw [← hr]
  refine Fn.ofG (envL [v]) 1 [.buf 0, .v (.string s)] [(0, .ro (8) (rowsU l))] (fun k => k < _) Tryz.func24 (by kernel_rfl) rfl Tryz.ntmps24 rfl (fun _ hk => hk) (Sat.ros (vs := [v]) (l := [(8, rowsU l)]) ⟨hv, trivial⟩) fun w0 cs => ?_
  conv => whnf
  refine goS_run tab 1000 _ _ _ _ ?_
  conv => whnf
  repeat (first | (refine And.intro (by omega) ?_; (try intro _); conv => whnf) | (refine And.intro ?_ (by omega); (try intro _); conv => whnf) | (refine ⟨_, RemV.nonneg (by omega) (by omega), ?_⟩; conv => whnf))
  refine RunsS.subR [] (RunsS.loop (fun (k : Nat) => [(5, .v (.int .i64 k)), (0, .buf 0), (1, .v (.string s))]) (fun (k : Nat) => [(0, .ro 8 (rowsU l))]) 1 (fun (k : Nat) => k ≤ l.length ∧ ∀ j (hj : j < k) (hjl : j < l.length), l[j].name ≠ s) (fun (k : Nat) => l.length - k) ?round1 (0) ?J01) ?SS1 ?HH1
  case J01 => exact (⟨Nat.zero_le _, fun j hj => absurd hj (Nat.not_lt_zero _)⟩)
  case SS1 => repeat (first | exact trivial | refine ⟨by rfl, ?_⟩)
  case HH1 => repeat (first | exact trivial | refine ⟨by rfl, ?_⟩)
  rintro k hJ back
  try dsimp only at hJ back
  conv => whnf
  try dsimp only
  refine goS_run tab 1000 _ _ _ _ ?_
  conv => whnf
  repeat (first | (refine And.intro (by omega) ?_; (try intro _); conv => whnf) | (refine And.intro ?_ (by omega); (try intro _); conv => whnf) | (refine ⟨_, RemV.nonneg (by omega) (by omega), ?_⟩; conv => whnf))
  refine ⟨fun hk => ?_, fun hk => ?_⟩ <;> conv => whnf
  · have hk : k < l.length := by omega
    conv => whnf
    repeat (first | (refine And.intro (by omega) ?_; (try intro _); conv => whnf) | (refine And.intro ?_ (by omega); (try intro _); conv => whnf) | (refine ⟨_, RemV.nonneg (by omega) (by omega), ?_⟩; conv => whnf))
    refine ⟨_, rowsU_get hk, ?_⟩
    conv => whnf
    try (refine And.intro (by first | omega | exact Nat.le_of_ble_eq_true rfl) ?_; conv => whnf)
    repeat (first | (refine And.intro (by omega) ?_; (try intro _); conv => whnf) | (refine And.intro ?_ (by omega); (try intro _); conv => whnf) | (refine ⟨_, RemV.nonneg (by omega) (by omega), ?_⟩; conv => whnf))
    refine ⟨fun hn => ?_, fun hn => ?_⟩ <;> conv => whnf
    · conv => whnf
      repeat (first | (refine And.intro (by omega) ?_; (try intro _); conv => whnf) | (refine And.intro ?_ (by omega); (try intro _); conv => whnf) | (refine ⟨_, RemV.nonneg (by omega) (by omega), ?_⟩; conv => whnf))
      have : r = k := by rw [hr]; exact findI_some.2 ⟨hk, hn, fun j hj => hJ.2 j hj (by omega)⟩
      rw [this]
      refine RunsS.retU (UnwS.ret tab Tryz.func24 rfl fun Ez Hz Az Sz K => ⟨_, rfl, rfl, K.keeps⟩)
    · conv => whnf
      repeat (first | (refine And.intro (by omega) ?_; (try intro _); conv => whnf) | (refine And.intro ?_ (by omega); (try intro _); conv => whnf) | (refine ⟨_, RemV.nonneg (by omega) (by omega), ?_⟩; conv => whnf))
      refine RunsS.subR [] (back (k + 1) ?BJ2 ?BM2) ?SS2 ?HH2
      case BJ2 => exact (⟨hk, fun j hj hjl => (Nat.lt_succ_iff_lt_or_eq.1 hj).elim (fun hj => hJ.2 j hj hjl) (fun e => by subst e; exact hn)⟩)
      case BM2 => (try dsimp only); omega
      case SS2 => repeat (first | exact trivial | refine ⟨by rfl, ?_⟩)
      case HH2 => repeat (first | exact trivial | refine ⟨by rfl, ?_⟩)
  · conv => whnf
    repeat (first | (refine And.intro (by omega) ?_; (try intro _); conv => whnf) | (refine And.intro ?_ (by omega); (try intro _); conv => whnf) | (refine ⟨_, RemV.nonneg (by omega) (by omega), ?_⟩; conv => whnf))
    have : r = -1 := by
      rw [hr, findI_none]
      intro w hw
      obtain ⟨j, hj, rfl⟩ := List.getElem_of_mem hw
      exact hJ.2 j (by omega) hj
    rw [this]
    refine RunsS.retU (UnwS.ret tab Tryz.func24 rfl fun Ez Hz Az Sz K => ⟨_, rfl, rfl, K.keeps⟩)
def FitU (u : Un) : Prop := if u.of_ = NatM.mt then u.n = 0 ∧ u.d = 0 else btw u.n ∧ btw u.d
instance (u : Un) : Decidable (FitU u) := by unfold FitU; infer_instance
theorem rfits_fn {h : Array Obj} (u : Un) : FnV Tryz.prog 25 #[u.v] h fun r h' => r = .bool (decide (FitU u)) ∧ Keeps h.size h h' := by
  obtain ⟨r, hr⟩ : ∃ r, r = decide (FitU u) := ⟨_, rfl⟩
  rw [← hr]
  refine Fn.ofS (args := [u.v]) Tryz.func25 (by kernel_rfl) rfl Tryz.ntmps25 rfl fun w0 cs => ?_
  conv => whnf
  refine goS_run tab 1000 _ _ _ _ ?_
  conv => whnf
  repeat (first | (refine And.intro (by omega) ?_; (try intro _); conv => whnf) | (refine And.intro ?_ (by omega); (try intro _); conv => whnf) | (refine ⟨_, RemV.nonneg (by omega) (by omega), ?_⟩; conv => whnf))
  refine ⟨fun h0 => ?_, fun h0 => ?_⟩ <;> conv => whnf
  · conv => whnf
    repeat (first | (refine And.intro (by omega) ?_; (try intro _); conv => whnf) | (refine And.intro ?_ (by omega); (try intro _); conv => whnf) | (refine ⟨_, RemV.nonneg (by omega) (by omega), ?_⟩; conv => whnf))
    have e : FitU u ↔ (u.n = 0 ∧ u.d = 0) := by unfold FitU; rw [if_pos h0]
    by_cases h1 : u.n = 0
    · by_cases h2 : u.d = 0
      · conv => whnf
        repeat (first | (refine And.intro (by omega) ?_; (try intro _); conv => whnf) | (refine And.intro ?_ (by omega); (try intro _); conv => whnf) | (refine ⟨_, RemV.nonneg (by omega) (by omega), ?_⟩; conv => whnf))
        have : r = true := by rw [hr]; exact decide_eq_true (e.2 ⟨h1, h2⟩)
        rw [this]
        refine RunsS.retU (UnwS.ret tab Tryz.func25 rfl fun Ez Hz Az Sz K => ⟨_, rfl, ?_, K.keeps⟩)
        exact congrArg Value.bool (decide_eq_true h2)
      · conv => whnf
        repeat (first | (refine And.intro (by omega) ?_; (try intro _); conv => whnf) | (refine And.intro ?_ (by omega); (try intro _); conv => whnf) | (refine ⟨_, RemV.nonneg (by omega) (by omega), ?_⟩; conv => whnf))
        have : r = false := by rw [hr]; exact decide_eq_false (fun h => h2 (e.1 h).2)
        rw [this]
        refine RunsS.retU (UnwS.ret tab Tryz.func25 rfl fun Ez Hz Az Sz K => ⟨_, rfl, ?_, K.keeps⟩)
        exact congrArg Value.bool (decide_eq_false h2)
    · conv => whnf
      repeat (first | (refine And.intro (by omega) ?_; (try intro _); conv => whnf) | (refine And.intro ?_ (by omega); (try intro _); conv => whnf) | (refine ⟨_, RemV.nonneg (by omega) (by omega), ?_⟩; conv => whnf))
      have : r = false := by rw [hr]; exact decide_eq_false (fun h => h1 (e.1 h).1)
      rw [this]
      refine RunsS.retU (UnwS.ret tab Tryz.func25 rfl fun Ez Hz Az Sz K => ⟨_, rfl, rfl, K.keeps⟩)
  · conv => whnf
    repeat (first | (refine And.intro (by omega) ?_; (try intro _); conv => whnf) | (refine And.intro ?_ (by omega); (try intro _); conv => whnf) | (refine ⟨_, RemV.nonneg (by omega) (by omega), ?_⟩; conv => whnf))
    have e : FitU u ↔ (btw u.n ∧ btw u.d) := by unfold FitU; rw [if_neg h0]
    by_cases h1 : btw u.n ∧ btw u.d
    · have : r = true := by rw [hr]; exact decide_eq_true (e.2 h1)
      rw [this]
      conv => whnf
      repeat (first | (refine And.intro (by omega) ?_; (try intro _); conv => whnf) | (refine And.intro ?_ (by omega); (try intro _); conv => whnf) | (refine ⟨_, RemV.nonneg (by omega) (by omega), ?_⟩; conv => whnf))
      refine RunsS.retU (UnwS.ret tab Tryz.func25 rfl fun Ez Hz Az Sz K => ⟨_, rfl, ?_, K.keeps⟩)
      first | rfl | exact congrArg Value.bool (decide_eq_true (by omega))
    · have : r = false := by rw [hr]; exact decide_eq_false (fun h => h1 (e.1 h))
      rw [this]
      by_cases k1 : 1 ≤ u.n
      · by_cases k2 : u.n ≤ 1000000
        · by_cases k3 : 1 ≤ u.d
          · conv => whnf
            repeat (first | (refine And.intro (by omega) ?_; (try intro _); conv => whnf) | (refine And.intro ?_ (by omega); (try intro _); conv => whnf) | (refine ⟨_, RemV.nonneg (by omega) (by omega), ?_⟩; conv => whnf))
            refine RunsS.retU (UnwS.ret tab Tryz.func25 rfl fun Ez Hz Az Sz K => ⟨_, rfl, ?_, K.keeps⟩)
            first | rfl | exact congrArg Value.bool (decide_eq_false (by omega))
          · conv => whnf
            repeat (first | (refine And.intro (by omega) ?_; (try intro _); conv => whnf) | (refine And.intro ?_ (by omega); (try intro _); conv => whnf) | (refine ⟨_, RemV.nonneg (by omega) (by omega), ?_⟩; conv => whnf))
            refine RunsS.retU (UnwS.ret tab Tryz.func25 rfl fun Ez Hz Az Sz K => ⟨_, rfl, rfl, K.keeps⟩)
        · conv => whnf
          repeat (first | (refine And.intro (by omega) ?_; (try intro _); conv => whnf) | (refine And.intro ?_ (by omega); (try intro _); conv => whnf) | (refine ⟨_, RemV.nonneg (by omega) (by omega), ?_⟩; conv => whnf))
          refine RunsS.retU (UnwS.ret tab Tryz.func25 rfl fun Ez Hz Az Sz K => ⟨_, rfl, rfl, K.keeps⟩)
      · conv => whnf
        repeat (first | (refine And.intro (by omega) ?_; (try intro _); conv => whnf) | (refine And.intro ?_ (by omega); (try intro _); conv => whnf) | (refine ⟨_, RemV.nonneg (by omega) (by omega), ?_⟩; conv => whnf))
        refine RunsS.retU (UnwS.ret tab Tryz.func25 rfl fun Ez Hz Az Sz K => ⟨_, rfl, rfl, K.keeps⟩)
theorem rResolve_fn (l : List Un) (hl : l.length ≤ 9223372036854775807) (hi : UnOk l) :
    FnS Tryz.prog 8 1 [.buf 0] [(0, .ro 8 (rowsU l))] (fun _ : Unit => True) (fun _ => resO (resolveU l)) := by
  have hlr := rowsU_len l
  obtain ⟨r, hr⟩ : ∃ r, r = resolveU l := ⟨_, rfl⟩
  rw [← hr]
  unfold resolveU at hr
  refine FnS.of Tryz.func8 (by kernel_rfl) rfl Tryz.ntmps8 rfl fun E0 F h w0 cs => ?_
  conv => whnf
  refine goS_run tab 1000 _ _ _ _ ?_
  conv => whnf
  repeat (first | (refine And.intro (by omega) ?_; (try intro _); conv => whnf) | (refine And.intro ?_ (by omega); (try intro _); conv => whnf) | (refine ⟨_, RemV.nonneg (by omega) (by omega), ?_⟩; conv => whnf))
  refine ⟨fun h1 => ?_, fun h1 => ?_⟩ <;> conv => whnf
  · rw [if_pos (by omega)] at hr
    subst hr
    conv => whnf
    repeat (first | (refine And.intro (by omega) ?_; (try intro _); conv => whnf) | (refine And.intro ?_ (by omega); (try intro _); conv => whnf) | (refine ⟨_, RemV.nonneg (by omega) (by omega), ?_⟩; conv => whnf))
    try refine RunsS.retU ?_
    try refine RunsS.finU ?_
    exact UnwS.ret tab Tryz.func8 rfl (EndS.mk (()) (trivial) [] (by repeat (first | exact trivial | refine ⟨by rfl, ?_⟩)) rfl rfl (okRet rfl rfl))
  · rw [if_neg (by omega)] at hr
    have h1 : l.length ≤ 32 := by omega
    conv => whnf
    repeat (first | (refine And.intro (by omega) ?_; (try intro _); conv => whnf) | (refine And.intro ?_ (by omega); (try intro _); conv => whnf) | (refine ⟨_, RemV.nonneg (by omega) (by omega), ?_⟩; conv => whnf))
    refine RunsS.subR [] (RunsS.loop (fun (k : Nat) => [(4, .v (.int .i64 k)), (0, .buf 0)]) (fun (k : Nat) => [(0, .ro 8 (rowsU l))]) 1 (fun (k : Nat) => k ≤ l.length ∧ ∀ j (hj : j < k) (hjl : j < l.length), findI l l[j].name = j) (fun (k : Nat) => l.length - k) ?round3 (0) ?J03) ?SS3 ?HH3
    case J03 => exact (⟨Nat.zero_le _, fun j hj => absurd hj (Nat.not_lt_zero _)⟩)
    case SS3 => repeat (first | exact trivial | refine ⟨by rfl, ?_⟩)
    case HH3 => repeat (first | exact trivial | refine ⟨by rfl, ?_⟩)
    rintro k hJ back
    try dsimp only at hJ back
    conv => whnf
    try dsimp only
    refine goS_run tab 1000 _ _ _ _ ?_
    conv => whnf
    repeat (first | (refine And.intro (by omega) ?_; (try intro _); conv => whnf) | (refine And.intro ?_ (by omega); (try intro _); conv => whnf) | (refine ⟨_, RemV.nonneg (by omega) (by omega), ?_⟩; conv => whnf))
    refine ⟨fun hk => ?_, fun hk => ?_⟩ <;> conv => whnf
    · have hk : k < l.length := by omega
      conv => whnf
      repeat (first | (refine And.intro (by omega) ?_; (try intro _); conv => whnf) | (refine And.intro ?_ (by omega); (try intro _); conv => whnf) | (refine ⟨_, RemV.nonneg (by omega) (by omega), ?_⟩; conv => whnf))
      refine ⟨_, rowsU_get hk, ?_⟩
      conv => whnf
      try (refine And.intro (by first | omega | exact Nat.le_of_ble_eq_true rfl) ?_; conv => whnf)
      repeat (first | (refine And.intro (by omega) ?_; (try intro _); conv => whnf) | (refine And.intro ?_ (by omega); (try intro _); conv => whnf) | (refine ⟨_, RemV.nonneg (by omega) (by omega), ?_⟩; conv => whnf))
      refine RunsS.callV (fun Ez Hz Az Sz K => rfind_fn l (Sz.ro (b := 0) rfl) l[k].name) ?_
      conv => whnf
      try refine goS_run tab 1000 _ _ _ _ ?_
      conv => whnf
      repeat (first | (refine And.intro (by omega) ?_; (try intro _); conv => whnf) | (refine And.intro ?_ (by omega); (try intro _); conv => whnf) | (refine ⟨_, RemV.nonneg (by omega) (by omega), ?_⟩; conv => whnf))
      refine ⟨fun hn => ?_, fun hn => ?_⟩ <;> conv => whnf
      · conv => whnf
        repeat (first | (refine And.intro (by omega) ?_; (try intro _); conv => whnf) | (refine And.intro ?_ (by omega); (try intro _); conv => whnf) | (refine ⟨_, RemV.nonneg (by omega) (by omega), ?_⟩; conv => whnf))
        refine RunsS.subR [] (back (k + 1) ?BJ4 ?BM4) ?SS4 ?HH4
        case BJ4 => exact (⟨hk, fun j hj hjl => (Nat.lt_succ_iff_lt_or_eq.1 hj).elim (fun hj => hJ.2 j hj hjl) (fun e => by subst e; exact hn)⟩)
        case BM4 => (try dsimp only); omega
        case SS4 => repeat (first | exact trivial | refine ⟨by rfl, ?_⟩)
        case HH4 => repeat (first | exact trivial | refine ⟨by rfl, ?_⟩)
      · conv => whnf
        repeat (first | (refine And.intro (by omega) ?_; (try intro _); conv => whnf) | (refine And.intro ?_ (by omega); (try intro _); conv => whnf) | (refine ⟨_, RemV.nonneg (by omega) (by omega), ?_⟩; conv => whnf))
        rw [if_pos (fun h => hn (nodup_find.1 h k hk))] at hr
        subst hr
        try refine RunsS.retU ?_
        try refine RunsS.finU ?_
        exact UnwS.ret tab Tryz.func8 rfl (EndS.mk (()) (trivial) [] (by repeat (first | exact trivial | refine ⟨by rfl, ?_⟩)) rfl rfl (okRet rfl rfl))
    · have hn : (l.map Un.name).Nodup := nodup_find.2 fun j hj => hJ.2 j (by omega) hj
      rw [if_neg (fun h => h hn)] at hr
      clear hJ back
      conv => whnf
      repeat (first | (refine And.intro (by omega) ?_; (try intro _); conv => whnf) | (refine And.intro ?_ (by omega); (try intro _); conv => whnf) | (refine ⟨_, RemV.nonneg (by omega) (by omega), ?_⟩; conv => whnf))
      refine RunsS.subR [] (RunsS.loop (fun (⟨k, x⟩ : Nat × List Un) => [(6, .v (.int .i64 k)), (5, .buf 1), (0, .buf 0)]) (fun (⟨k, x⟩ : Nat × List Un) => [ownU 1 x, (0, .ro 8 (rowsU l))]) 2 (fun (⟨k, x⟩ : Nat × List Un) => k ≤ l.length ∧ x.length = k ∧ scOk x ∧ r = resU (l.drop k) x ∧ x.map Un.name = (l.take k).map Un.name) (fun (⟨k, x⟩ : Nat × List Un) => l.length - k) ?round5 ((0, [])) ?J05) ?SS5 ?HH5
      case J05 => exact (⟨Nat.zero_le _, rfl, scOk.nil, hr, by simp⟩)
      case SS5 => repeat (first | exact trivial | refine ⟨by rfl, ?_⟩)
      case HH5 => repeat (first | exact trivial | refine ⟨by rfl, ?_⟩)
      rintro ⟨k, x⟩ hJ back
      try dsimp only at hJ back
      conv => whnf
      try dsimp only
      refine goS_run tab 1000 _ _ _ _ ?_
      conv => whnf
      repeat (first | (refine And.intro (by omega) ?_; (try intro _); conv => whnf) | (refine And.intro ?_ (by omega); (try intro _); conv => whnf) | (refine ⟨_, RemV.nonneg (by omega) (by omega), ?_⟩; conv => whnf))
      refine ⟨fun hk => ?_, fun hk => ?_⟩ <;> conv => whnf
      · have hk : k < l.length := by omega
        have hd : l.drop k = l[k] :: l.drop (k + 1) := List.drop_eq_getElem_cons hk
        obtain ⟨hJ1, hJ2, hJ3, hJ4, hJ5⟩ := hJ
        rw [hd] at hJ4
        simp only [resU] at hJ4
        have hxr := rowsU_len x
        have nx : ∀ v : Un, v.name = l[k].name → (x ++ [v]).map Un.name = (l.take (k + 1)).map Un.name := fun v hv => by
          rw [List.map_append, hJ5, List.take_add_one, List.getElem?_eq_getElem hk, List.map_append]
          simp [hv]
        conv => whnf
        repeat (first | (refine And.intro (by omega) ?_; (try intro _); conv => whnf) | (refine And.intro ?_ (by omega); (try intro _); conv => whnf) | (refine ⟨_, RemV.nonneg (by omega) (by omega), ?_⟩; conv => whnf))
        refine ⟨_, rowsU_get hk, ?_⟩
        conv => whnf
        try (refine And.intro (by first | omega | exact Nat.le_of_ble_eq_true rfl) ?_; conv => whnf)
        repeat (first | (refine And.intro (by omega) ?_; (try intro _); conv => whnf) | (refine And.intro ?_ (by omega); (try intro _); conv => whnf) | (refine ⟨_, RemV.nonneg (by omega) (by omega), ?_⟩; conv => whnf))
        by_cases hf : FitU l[k]
        · refine RunsS.callV (fun Ez Hz Az Sz K => rfits_fn l[k]) ?_
          conv => whnf
          rw [decide_eq_true hf]
          try dsimp only
          try refine goS_run tab 1000 _ _ _ _ ?_
          conv => whnf
          repeat (first | (refine And.intro (by omega) ?_; (try intro _); conv => whnf) | (refine And.intro ?_ (by omega); (try intro _); conv => whnf) | (refine ⟨_, RemV.nonneg (by omega) (by omega), ?_⟩; conv => whnf))
          refine RunsS.callV (fun Ez Hz Az Sz K => rqNew_fn 1 1 (by omega) (by omega)) ?_
          conv => whnf
          rw [newR_one]
          try dsimp only
          try refine goS_run tab 1000 _ _ _ _ ?_
          conv => whnf
          repeat (first | (refine And.intro (by omega) ?_; (try intro _); conv => whnf) | (refine And.intro ?_ (by omega); (try intro _); conv => whnf) | (refine ⟨_, RemV.nonneg (by omega) (by omega), ?_⟩; conv => whnf))
          refine ⟨fun e0 => ?_, fun e0 => ?_⟩ <;> conv => whnf
          · have st : stepU x l[k] = .inl (l[k].re k one1) := by
              unfold stepU
              unfold FitU at hf
              rw [if_pos e0] at hf
              rw [if_pos e0, hJ2, if_pos hf]
            rw [st] at hJ4
            conv => whnf
            repeat (first | (refine And.intro (by omega) ?_; (try intro _); conv => whnf) | (refine And.intro ?_ (by omega); (try intro _); conv => whnf) | (refine ⟨_, RemV.nonneg (by omega) (by omega), ?_⟩; conv => whnf))
            refine And.intro (appOb (by rw [rowsU_len]; omega)) ?_
            conv => whnf
            try refine goS_run tab 1000 _ _ _ _ ?_
            conv => whnf
            repeat (first | (refine And.intro (by omega) ?_; (try intro _); conv => whnf) | (refine And.intro ?_ (by omega); (try intro _); conv => whnf) | (refine ⟨_, RemV.nonneg (by omega) (by omega), ?_⟩; conv => whnf))
            refine RunsS.rowsEq (5) (rowsU_app x (l[k].re k one1)) ?_
            conv => whnf
            refine RunsS.subR [(1, 5)] (back ((k + 1, x ++ [(l[k].re k one1)])) ?BJ6 ?BM6) ?SS6 ?HH6
            case BJ6 => exact (⟨hk, by rw [List.length_append, hJ2]; rfl, hJ3.step (by omega) st, hJ4, nx _ rfl⟩)
            case BM6 => (try dsimp only); omega
            case SS6 => repeat (first | exact trivial | refine ⟨by rfl, ?_⟩)
            case HH6 => repeat (first | exact trivial | refine ⟨by rfl, ?_⟩)
          · have hb : btw l[k].n ∧ btw l[k].d := by
              unfold FitU at hf
              rw [if_neg e0] at hf
              exact hf
            have hfx : findI x l[k].of_ = if findI l l[k].of_ < k then findI l l[k].of_ else -1 := by
              rw [findI_names _ hJ5, findI_take _ hJ1]
            conv => whnf
            repeat (first | (refine And.intro (by omega) ?_; (try intro _); conv => whnf) | (refine And.intro ?_ (by omega); (try intro _); conv => whnf) | (refine ⟨_, RemV.nonneg (by omega) (by omega), ?_⟩; conv => whnf))
            refine RunsS.callV (fun Ez Hz Az Sz K => rfind_fn l (Sz.ro (b := 0) rfl) l[k].of_) ?_
            conv => whnf
            try refine goS_run tab 1000 _ _ _ _ ?_
            conv => whnf
            repeat (first | (refine And.intro (by omega) ?_; (try intro _); conv => whnf) | (refine And.intro ?_ (by omega); (try intro _); conv => whnf) | (refine ⟨_, RemV.nonneg (by omega) (by omega), ?_⟩; conv => whnf))
            by_cases hn1 : findI l l[k].of_ < 0
            · have st : stepU x l[k] = .inr 110 := by
                unfold stepU
                rw [if_neg e0, if_pos hb]
                split
                · rw [if_pos (by rw [hfx]; split <;> omega)]
                · rfl
              rw [st] at hJ4
              subst hJ4
              conv => whnf
              repeat (first | (refine And.intro (by omega) ?_; (try intro _); conv => whnf) | (refine And.intro ?_ (by omega); (try intro _); conv => whnf) | (refine ⟨_, RemV.nonneg (by omega) (by omega), ?_⟩; conv => whnf))
              try refine RunsS.retU ?_
              try refine RunsS.finU ?_
              exact UnwS.ret tab Tryz.func8 rfl (EndS.mk (()) (trivial) [] (by repeat (first | exact trivial | refine ⟨by rfl, ?_⟩)) rfl rfl (okRet rfl rfl))
            by_cases hn2 : (k : Int) ≤ findI l l[k].of_
            · have st : stepU x l[k] = .inr 110 := by
                unfold stepU
                rw [if_neg e0, if_pos hb]
                split
                · rw [if_pos (by rw [hfx]; split <;> omega)]
                · rfl
              rw [st] at hJ4
              subst hJ4
              conv => whnf
              repeat (first | (refine And.intro (by omega) ?_; (try intro _); conv => whnf) | (refine And.intro ?_ (by omega); (try intro _); conv => whnf) | (refine ⟨_, RemV.nonneg (by omega) (by omega), ?_⟩; conv => whnf))
              try refine RunsS.retU ?_
              try refine RunsS.finU ?_
              exact UnwS.ret tab Tryz.func8 rfl (EndS.mk (()) (trivial) [] (by repeat (first | exact trivial | refine ⟨by rfl, ?_⟩)) rfl rfl (okRet rfl rfl))
            rw [if_pos (by omega)] at hfx
            obtain ⟨j, hj⟩ : ∃ j : Nat, findI l l[k].of_ = j := ⟨(findI l l[k].of_).toNat, by omega⟩
            rw [hj] at hfx hn1 hn2 ⊢
            have hj1 : j < x.length := by omega
            have st : stepU x l[k] = .inl (l[k].re x[j].base (mulR x[j].scale (newR l[k].n l[k].d).1).1) := by
              unfold stepU
              rw [if_neg e0, if_pos hb, hfx, Int.toNat_natCast, List.getElem?_eq_getElem hj1]
              exact if_neg (by omega)
            rw [st] at hJ4
            have hi' := hi l[k] (List.getElem_mem hk)
            conv => whnf
            repeat (first | (refine And.intro (by omega) ?_; (try intro _); conv => whnf) | (refine And.intro ?_ (by omega); (try intro _); conv => whnf) | (refine ⟨_, RemV.nonneg (by omega) (by omega), ?_⟩; conv => whnf))
            refine RunsS.callV (fun Ez Hz Az Sz K => rqNew_fn l[k].n l[k].d hi'.1 hi'.2) ?_
            conv => whnf
            try refine goS_run tab 1000 _ _ _ _ ?_
            conv => whnf
            repeat (first | (refine And.intro (by omega) ?_; (try intro _); conv => whnf) | (refine And.intro ?_ (by omega); (try intro _); conv => whnf) | (refine ⟨_, RemV.nonneg (by omega) (by omega), ?_⟩; conv => whnf))
            refine ⟨_, rowsU_get hj1, ?_⟩
            conv => whnf
            try (refine And.intro (by first | omega | exact Nat.le_of_ble_eq_true rfl) ?_; conv => whnf)
            repeat (first | (refine And.intro (by omega) ?_; (try intro _); conv => whnf) | (refine And.intro ?_ (by omega); (try intro _); conv => whnf) | (refine ⟨_, RemV.nonneg (by omega) (by omega), ?_⟩; conv => whnf))
            refine RunsS.held tab (.fl 0 (.fl 1 (.fl 2 (.fl 3 (.fl 4 (.fl 5 (.e1 6 [] (.fl 7 (.fl 8 (.fl 9 (.fl 10 (.e1 11 [] .done)))))))))))) (by kernel_rfl) ?_
            conv => whnf
            try refine goR_run tab _ _ _ _ _ _ ?_
            conv => whnf
            repeat (first | (refine And.intro (by omega) ?_; (try intro _); conv => whnf) | (refine And.intro ?_ (by omega); (try intro _); conv => whnf) | (refine And.intro (by (conv => whnf); (repeat (refine And.intro (by (conv => whnf); first | rfl | exact trivial) ?_; conv => whnf)); exact trivial) ?_; conv => whnf) | (refine ⟨_, RemV.nonneg (by omega) (by omega), ?_⟩; conv => whnf))
            try refine goS_run tab 1000 _ _ _ _ ?_
            conv => whnf
            repeat (first | (refine And.intro (by omega) ?_; (try intro _); conv => whnf) | (refine And.intro ?_ (by omega); (try intro _); conv => whnf) | (refine ⟨_, RemV.nonneg (by omega) (by omega), ?_⟩; conv => whnf))
            refine ⟨_, rowsU_get hj1, ?_⟩
            conv => whnf
            try (refine And.intro (by first | omega | exact Nat.le_of_ble_eq_true rfl) ?_; conv => whnf)
            try refine goR_run tab _ _ _ _ _ _ ?_
            conv => whnf
            repeat (first | (refine And.intro (by omega) ?_; (try intro _); conv => whnf) | (refine And.intro ?_ (by omega); (try intro _); conv => whnf) | (refine And.intro (by (conv => whnf); (repeat (refine And.intro (by (conv => whnf); first | rfl | exact trivial) ?_; conv => whnf)); exact trivial) ?_; conv => whnf) | (refine ⟨_, RemV.nonneg (by omega) (by omega), ?_⟩; conv => whnf))
            try refine goS_run tab 1000 _ _ _ _ ?_
            conv => whnf
            repeat (first | (refine And.intro (by omega) ?_; (try intro _); conv => whnf) | (refine And.intro ?_ (by omega); (try intro _); conv => whnf) | (refine ⟨_, RemV.nonneg (by omega) (by omega), ?_⟩; conv => whnf))
            refine EffR.callV (fun Ez Hz Az Sz K => rqMul_fn x[j].scale (newR l[k].n l[k].d).1) (by (conv => whnf); (repeat (refine And.intro (by (conv => whnf); first | rfl | exact trivial) ?_; conv => whnf)); exact trivial) ?_
            conv => whnf
            try refine goR_run tab _ _ _ _ _ _ ?_
            conv => whnf
            repeat (first | (refine And.intro (by omega) ?_; (try intro _); conv => whnf) | (refine And.intro ?_ (by omega); (try intro _); conv => whnf) | (refine And.intro (by (conv => whnf); (repeat (refine And.intro (by (conv => whnf); first | rfl | exact trivial) ?_; conv => whnf)); exact trivial) ?_; conv => whnf) | (refine ⟨_, RemV.nonneg (by omega) (by omega), ?_⟩; conv => whnf))
            try refine goS_run tab 1000 _ _ _ _ ?_
            conv => whnf
            repeat (first | (refine And.intro (by omega) ?_; (try intro _); conv => whnf) | (refine And.intro ?_ (by omega); (try intro _); conv => whnf) | (refine ⟨_, RemV.nonneg (by omega) (by omega), ?_⟩; conv => whnf))
            refine And.intro (appOb (by rw [rowsU_len]; omega)) ?_
            conv => whnf
            try refine goS_run tab 1000 _ _ _ _ ?_
            conv => whnf
            repeat (first | (refine And.intro (by omega) ?_; (try intro _); conv => whnf) | (refine And.intro ?_ (by omega); (try intro _); conv => whnf) | (refine ⟨_, RemV.nonneg (by omega) (by omega), ?_⟩; conv => whnf))
            refine RunsS.rowsEq (6) (rowsU_app x (l[k].re x[j].base (mulR x[j].scale (newR l[k].n l[k].d).1).1)) ?_
            conv => whnf
            refine RunsS.subR [(1, 6)] (back ((k + 1, x ++ [l[k].re x[j].base (mulR x[j].scale (newR l[k].n l[k].d).1).1])) ?BJ7 ?BM7) ?SS7 ?HH7
            case BJ7 => exact (⟨hk, by rw [List.length_append, hJ2]; rfl, hJ3.step (by omega) st, hJ4, nx _ rfl⟩)
            case BM7 => (try dsimp only); omega
            case SS7 => repeat (first | exact trivial | refine ⟨by rfl, ?_⟩)
            case HH7 => repeat (first | exact trivial | refine ⟨by rfl, ?_⟩)
        · have st : stepU x l[k] = .inr 90 := by
            unfold stepU
            unfold FitU at hf
            split
            · rename_i e0
              rw [if_pos e0] at hf
              exact if_neg hf
            · rename_i e0
              rw [if_neg e0] at hf
              exact if_neg hf
          rw [st] at hJ4
          subst hJ4
          refine RunsS.callV (fun Ez Hz Az Sz K => rfits_fn l[k]) ?_
          conv => whnf
          rw [decide_eq_false hf]
          try dsimp only
          try refine goS_run tab 1000 _ _ _ _ ?_
          conv => whnf
          repeat (first | (refine And.intro (by omega) ?_; (try intro _); conv => whnf) | (refine And.intro ?_ (by omega); (try intro _); conv => whnf) | (refine ⟨_, RemV.nonneg (by omega) (by omega), ?_⟩; conv => whnf))
          try refine RunsS.retU ?_
          try refine RunsS.finU ?_
          exact UnwS.ret tab Tryz.func8 rfl (EndS.mk (()) (trivial) [] (by repeat (first | exact trivial | refine ⟨by rfl, ?_⟩)) rfl rfl (okRet rfl rfl))
      · have hk : k = l.length := by omega
        have hJ4 := hJ.2.2.2.1
        rw [hk, List.drop_length] at hJ4
        have hJ4 : r = .inl x := hJ4
        conv => whnf
        repeat (first | (refine And.intro (by omega) ?_; (try intro _); conv => whnf) | (refine And.intro ?_ (by omega); (try intro _); conv => whnf) | (refine ⟨_, RemV.nonneg (by omega) (by omega), ?_⟩; conv => whnf))
        rw [hJ4]
        try refine RunsS.retU ?_
        try refine RunsS.finU ?_
        exact UnwS.ret tab Tryz.func8 rfl (EndS.mk (()) (trivial) [(1, 1)] (by repeat (first | exact trivial | refine ⟨by rfl, ?_⟩)) rfl rfl (okRet rfl rfl))
end Go.Proofs.YtgnciigjhpcdmaaGreatDoor
