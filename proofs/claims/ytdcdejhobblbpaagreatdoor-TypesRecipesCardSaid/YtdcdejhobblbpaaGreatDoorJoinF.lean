/- Texts of this seat, joined: Rows whose arguments are sources, or amounts. -/
import Derived.Test.YtdcdejhobblbpaaGreatDoorJoinE
set_option linter.unusedVariables false
set_option linter.unusedSimpArgs false
namespace Go.Fw
open Go Go.RowKit Go.WideShapes Go.ChangeShapes
section
variable {H : Type} {enc : TypeId × Value → H} {P : Program} {W : World}
def TR (enc : TypeId × Value → H) (P : Program) (W : World) (t : TypeId) (cs : List Value) : Prop := ∃ fuel x, DataW.trod enc P W 0 (fun _ => true) true fuel t cs = some x
theorem TR.slice {α : Type} {f : α → List Value} {Q : α → Prop} {sz : Nat} {t e : TypeId} (ht : P.underlying t = some (.slice e)) (hc : P.cellsOf e = sz) (hz : 0 < sz)
  (hf : ∀ a, (f a).length = sz ∧ (Q a → ∀ u ∈ f a, u.oneCell' = true)) (hx : ∀ cs, TR enc P W e cs → ∃ a, cs = f a ∧ Q a) {cs : List Value} (h : TR enc P W t cs) : ∃ v, ∃ l : List α, cs = [v] ∧ Ro W.heap v sz (l.map f) ∧ ∀ a ∈ l, Q a := by
 obtain ⟨fuel, x, hfu⟩ := h
 rcases Deep.open_slice ht hfu with ⟨h0, _⟩ | ⟨a, len, cap, m, n, D, Pl, h1, hb, hlc, hm, hmm, _, hcell⟩
 ·exact ⟨_, [], h0, Ro.nil, fun a ha => by cases ha⟩
 ·have hlm : len ≤ m := by rw [hmm]; simpa using hlc
  have each : ∀ i, i < len → ∃ b : α, W.cells? 0 (a.add (i * P.cellsOf e)) (P.cellsOf e) = some (f b) ∧ Q b := fun i hi => by
   obtain ⟨cs', e1, e2⟩ := hcell i (by omega)
   obtain ⟨b, rfl, hq⟩ := hx _ ⟨_, _, e2⟩
   exact ⟨b, e1, hq⟩
  obtain ⟨l, hl, hp'⟩ := list_lt each
  have hp : ∀ i (h : i < l.length), W.cells? 0 (a.add (i * P.cellsOf e)) (P.cellsOf e) = some (f l[i]) := fun i hi => (hp' i hi).1
  have hQ : ∀ a ∈ l, Q a := fun a ha => by
   obtain ⟨i, hi, rfl⟩ := List.getElem_of_mem ha
   exact (hp' i hi).2
  have hmax : maxLen ≤ 9223372036854775807 := by decide
  have hlen : (l.map f).length ≤ 9223372036854775807 := by
   rw [List.length_map, hl]; omega
  refine ⟨.slice (some a) len cap, l, h1, ⟨fun r hr => ?_, ⟨hlen, hlc⟩, some a, cap, by rw [List.length_map, hl], ?_⟩, hQ⟩
  ·obtain ⟨b, hb, rfl⟩ := List.mem_map.1 hr
   exact ⟨(hf b).1, (hf b).2 (hQ b hb)⟩
  ·by_cases h0 : l = []
   ·exact .inl (by rw [h0]; rfl)
   ·have hpos : 0 < l.length := List.length_pos_iff.2 h0
    have first := World.cells?_some (hp 0 hpos)
    have c0 := first.2.2 0 (by rw [hc]; exact hz)
    have hspot : a.spot = none ∧ a.block < W.heap.size := by
     rw [Nat.zero_mul] at c0
     have e0 : (a.add 0).add 0 = a := rfl
     rw [e0, List.getElem?_eq_getElem (by rw [(hf _).1]; exact hz)] at c0
     unfold World.cell? at c0
     split at c0
     ·rename_i hh
      refine ⟨?_, (Array.getElem?_eq_some_iff.1 hh).1⟩
      cases hs : a.spot with
      | none => rfl
      | some k => rw [hs] at c0; simp at c0
     ·cases c0
    obtain ⟨g, o, s⟩ := a
    obtain ⟨rfl, hg⟩ := hspot
    refine .inr ⟨g, o, rfl, hg, cellsH_flat (sz := sz) (fun r hr => ?_) (fun i r hr j u hu => ?_)⟩
    ·obtain ⟨b, _, rfl⟩ := List.mem_map.1 hr
     exact (hf b).1
    ·rw [List.getElem?_map] at hr
     obtain ⟨b, hb', rfl⟩ := Option.map_eq_some_iff.1 hr
     obtain ⟨hi, rfl⟩ := List.getElem?_eq_some_iff.1 hb'
     have hj : j < P.cellsOf e := by rw [hc, ← (hf l[i]).1]; exact (List.getElem?_eq_some_iff.1 hu).1
     have := (World.cells?_some (hp i hi)).2.2 j hj
     rw [hu] at this
     refine cellH_of ?_
     rw [← this, Deep.add_add]
     congr 1
     unfold Addr.add
     rw [hc]
     by_cases e0 : i * sz + j = 0
     ·rw [if_pos e0]
      congr 1
      omega
     ·rw [if_neg e0]
      congr 1
      dsimp only
      omega
def onesB (P : Program) (fs : Array Field) : Nat → Bool
 | 0 => true
 | n + 1 => onesB P fs n && (match fs[n]? with
  | some f => f.offset == n && P.cellsOf f.type == 1
  | none => false)
theorem onesB_at {fs : Array Field} : ∀ {n : Nat}, onesB P fs n = true → ∀ i, i < n → ∃ f, fs[i]? = some f ∧ f.offset = i ∧ P.cellsOf f.type = 1
 | 0, _, i, hi => absurd hi (Nat.not_lt_zero _)
 | n + 1, h, i, hi => by
  simp only [onesB, Bool.and_eq_true] at h
  by_cases e : i = n
  ·subst e
   have h2 := h.2
   split at h2
   ·rename_i f hf
    simp only [Bool.and_eq_true, beq_iff_eq] at h2
    exact ⟨f, hf, h2.1, h2.2⟩
   ·cases h2
  ·exact onesB_at h.1 i (by omega)
theorem TR.ones {t : TypeId} {fs : Array Field} {n : Nat} (ht : P.underlying t = some (.struct fs)) (hc : P.cellsOf t = n) (hf : onesB P fs n = true) {cs : List Value} (h : TR enc P W t cs) :
  cs.length = n ∧ ∀ (i : Nat) (f : Field) (v : Value), fs[i]? = some f → cs[i]? = some v → TR enc P W f.type [v] := by
 obtain ⟨fuel, x, hx⟩ := h
 obtain ⟨xs, m, _, rfl, hl, hlen, hg⟩ := DataW.trod_struct ht hx
 rw [hc] at hl
 refine ⟨hl, fun i f v h1 h2 => ?_⟩
 have hi : i < n := by rw [← hl]; exact (List.getElem?_eq_some_iff.1 h2).1
 obtain ⟨f', e1, e2, e3⟩ := onesB_at hf i hi
 rw [h1] at e1
 cases e1
 have g := hg i f h1
 have hix : i < xs.length := by rw [hlen]; exact (Array.getElem?_eq_some_iff.1 h1).1
 rw [List.getElem?_eq_getElem hix, e2, e3] at g
 have e4 : (cs.drop i).take 1 = [v] := by
  rw [List.take_one, List.head?_drop, h2]; rfl
 rw [e4] at g
 exact ⟨_, _, g⟩
theorem TR.of {t : TypeId} {v : Value} {d : DataW H} {ps : List MemPlace} (h : DataW.Trod enc P W 0 (fun _ => true) true t v d ps) : TR enc P W t v.cells.toList := by
 obtain ⟨fuel, hf⟩ := h
 exact ⟨fuel, _, hf⟩
end
end Go.Fw
namespace Go.Proofs.YtdcdejhobblbpaaGreatDoor
open Go Go.Fw Go.RatM Go.SrcM Go.ChangeShapes Go.WideShapes Go.ChangeAt Go.RowKit
set_option maxRecDepth 100000
theorem int_wfS {n : Int} (h : (Lit.int .i64 n).wf = true) : i64 n := by
 have h1 : IntKind.i64.min ≤ n ∧ n ≤ 9223372036854775807 := by simpa [Lit.wf] using h
 have e : IntKind.i64.min = -9223372036854775808 := rfl
 unfold i64
 omega
section
variable {H : Type} {enc : TypeId × Value → H} {W : World} {cs : List Value} {v : Value}
theorem tr_string (h : TR enc Tryz.prog W 9 [v]) : ∃ s, v = .string s := by
 obtain ⟨_, _, h⟩ := h
 obtain ⟨s, e, _, _⟩ := DataW.trod_string Tryz.underlying9 h
 cases e; exact ⟨s, rfl⟩
theorem tr_int (h : TR enc Tryz.prog W 3 [v]) : ∃ n, v = .int .i64 n ∧ i64 n := by
 obtain ⟨_, _, h⟩ := h
 obtain ⟨n, e, _, m⟩ := DataW.trod_int Tryz.underlying3 h
 cases e; exact ⟨n, rfl, int_wfS m⟩
theorem tr_bool (h : TR enc Tryz.prog W 4 [v]) : ∃ b, v = .bool b := by
 obtain ⟨_, _, h⟩ := h
 obtain ⟨b, e, _⟩ := DataW.trod_bool Tryz.underlying4 h
 cases e; exact ⟨b, rfl⟩
theorem tr_cd (h : TR enc Tryz.prog W 55 cs) : ∃ c : Cd, cs = c.row ∧ c.wf := by
 obtain ⟨hl, hc⟩ := h.ones Tryz.underlying55 (n := 4) (by kernel_rfl) (by kernel_rfl)
 match cs, hl with
 | [a, b, c, d], _ =>
  obtain ⟨a, rfl⟩ := tr_string (hc 0 _ _ rfl rfl)
  obtain ⟨b, rfl⟩ := tr_string (hc 1 _ _ rfl rfl)
  obtain ⟨c, rfl, m1⟩ := tr_int (hc 2 _ _ rfl rfl)
  obtain ⟨d, rfl, m2⟩ := tr_int (hc 3 _ _ rfl rfl)
  exact ⟨⟨a, b, c, d⟩, rfl, m1, m2⟩
theorem tr_it (h : TR enc Tryz.prog W 59 cs) : ∃ c : It, cs = c.row ∧ c.wf := by
 obtain ⟨hl, hc⟩ := h.ones Tryz.underlying59 (n := 6) (by kernel_rfl) (by kernel_rfl)
 match cs, hl with
 | [a, b, c, d, e, f], _ =>
  obtain ⟨a, rfl⟩ := tr_string (hc 0 _ _ rfl rfl)
  obtain ⟨b, rfl⟩ := tr_string (hc 1 _ _ rfl rfl)
  obtain ⟨c, rfl, m1⟩ := tr_int (hc 2 _ _ rfl rfl)
  obtain ⟨d, rfl, m2⟩ := tr_int (hc 3 _ _ rfl rfl)
  obtain ⟨e, rfl, m3⟩ := tr_int (hc 4 _ _ rfl rfl)
  obtain ⟨f, rfl, m4⟩ := tr_int (hc 5 _ _ rfl rfl)
  exact ⟨⟨a, b, c, d, e, f⟩, rfl, m1, m2, m3, m4⟩
theorem tr_mc (h : TR enc Tryz.prog W 53 cs) : ∃ c : Mc, cs = c.row ∧ c.wf := by
 obtain ⟨hl, hc⟩ := h.ones Tryz.underlying53 (n := 4) (by kernel_rfl) (by kernel_rfl)
 match cs, hl with
 | [a, b, c, d], _ =>
  obtain ⟨a, rfl⟩ := tr_string (hc 0 _ _ rfl rfl)
  obtain ⟨b, rfl⟩ := tr_string (hc 1 _ _ rfl rfl)
  obtain ⟨c, rfl, m1⟩ := tr_int (hc 2 _ _ rfl rfl)
  obtain ⟨d, rfl, m2⟩ := tr_int (hc 3 _ _ rfl rfl)
  exact ⟨⟨a, b, c, d⟩, rfl, m1, m2⟩
theorem tr_sw (h : TR enc Tryz.prog W 71 cs) : ∃ c : Sw, cs = c.row ∧ c.wf := by
 obtain ⟨hl, hc⟩ := h.ones Tryz.underlying71 (n := 4) (by kernel_rfl) (by kernel_rfl)
 match cs, hl with
 | [a, b, c, d], _ =>
  obtain ⟨a, rfl⟩ := tr_string (hc 0 _ _ rfl rfl)
  obtain ⟨b, rfl⟩ := tr_string (hc 1 _ _ rfl rfl)
  obtain ⟨c, rfl, m1⟩ := tr_int (hc 2 _ _ rfl rfl)
  obtain ⟨d, rfl, m2⟩ := tr_int (hc 3 _ _ rfl rfl)
  exact ⟨⟨a, b, c, d⟩, rfl, m1, m2⟩
theorem tr_rn (h : TR enc Tryz.prog W 51 cs) : ∃ c : Rn, cs = c.row ∧ c.wf := by
 obtain ⟨hl, hc⟩ := h.ones Tryz.underlying51 (n := 3) (by kernel_rfl) (by kernel_rfl)
 match cs, hl with
 | [a, b, c], _ =>
  obtain ⟨a, rfl⟩ := tr_string (hc 0 _ _ rfl rfl)
  obtain ⟨b, rfl, m1⟩ := tr_int (hc 1 _ _ rfl rfl)
  obtain ⟨c, rfl, m2⟩ := tr_int (hc 2 _ _ rfl rfl)
  exact ⟨⟨a, b, c⟩, rfl, m1, m2⟩
theorem tr_am (h : TR enc Tryz.prog W 37 cs) : ∃ c : Am, cs = c.row ∧ c.wf := by
 obtain ⟨hl, hc⟩ := h.ones Tryz.underlying37 (n := 7) (by kernel_rfl) (by kernel_rfl)
 match cs, hl with
 | [a, b, c, d, e, f, g], _ =>
  obtain ⟨a, rfl, m1⟩ := tr_int (hc 0 _ _ rfl rfl)
  obtain ⟨b, rfl, m2⟩ := tr_int (hc 1 _ _ rfl rfl)
  obtain ⟨c, rfl⟩ := tr_string (hc 2 _ _ rfl rfl)
  obtain ⟨d, rfl⟩ := tr_string (hc 3 _ _ rfl rfl)
  obtain ⟨e, rfl⟩ := tr_bool (hc 4 _ _ rfl rfl)
  obtain ⟨f, rfl, m3⟩ := tr_int (hc 5 _ _ rfl rfl)
  obtain ⟨g, rfl, m4⟩ := tr_int (hc 6 _ _ rfl rfl)
  exact ⟨⟨a, b, c, d, e, f, g⟩, rfl, m1, m2, m3, m4⟩
theorem ones_cd (c : Cd) : ∀ u ∈ c.row, u.oneCell' = true := by simp [Cd.row, Value.oneCell']
theorem ones_am (c : Am) : ∀ u ∈ c.row, u.oneCell' = true := by simp [Am.row, Value.oneCell']
theorem ones_rn (c : Rn) : ∀ u ∈ c.row, u.oneCell' = true := by simp [Rn.row, Value.oneCell']
theorem ones_it (c : It) : ∀ u ∈ c.row, u.oneCell' = true := by simp [It.row, Value.oneCell']
theorem ones_mc (c : Mc) : ∀ u ∈ c.row, u.oneCell' = true := by simp [Mc.row, Value.oneCell']
theorem ones_sw (c : Sw) : ∀ u ∈ c.row, u.oneCell' = true := by simp [Sw.row, Value.oneCell']
abbrev below (W : World) : Nat → Prop := fun k => k < W.heap.size
theorem rofHd {G : Nat → Prop} {h : Array Obj} {v : Value} {sz : Nat} {α : Type} {f : α → List Value} {l : List α} (H : RoF G h v sz (rws f l)) : ∃ a c, v = .slice a l.length c := by
 obtain ⟨a, c, e⟩ := RoF.ownB H
 exact ⟨a, c, by rw [e, rws_len]⟩
theorem tr_cds (h : TR enc Tryz.prog W 45 cs) : ∃ v l, cs = [v] ∧ RoF (below W) W.heap v 4 (rws Cd.row l) ∧ ∀ c ∈ l, c.wf :=
 h.slice Tryz.underlying45 (sz := 4) (by kernel_rfl) (by decide) (fun a => ⟨rfl, fun _ => ones_cd a⟩) (fun _ h => tr_cd h)
theorem tr_ams (h : TR enc Tryz.prog W 43 cs) : ∃ v l, cs = [v] ∧ RoF (below W) W.heap v 7 (rws Am.row l) ∧ ∀ c ∈ l, c.wf :=
 h.slice Tryz.underlying43 (sz := 7) (by kernel_rfl) (by decide) (fun a => ⟨rfl, fun _ => ones_am a⟩) (fun _ h => tr_am h)
theorem tr_rns (h : TR enc Tryz.prog W 46 cs) : ∃ v l, cs = [v] ∧ RoF (below W) W.heap v 3 (rws Rn.row l) ∧ ∀ c ∈ l, c.wf :=
 h.slice Tryz.underlying46 (sz := 3) (by kernel_rfl) (by decide) (fun a => ⟨rfl, fun _ => ones_rn a⟩) (fun _ h => tr_rn h)
theorem tr_its (h : TR enc Tryz.prog W 23 cs) : ∃ v l, cs = [v] ∧ RoF (below W) W.heap v 6 (rws It.row l) ∧ ∀ c ∈ l, c.wf :=
 h.slice Tryz.underlying23 (sz := 6) (by kernel_rfl) (by decide) (fun a => ⟨rfl, fun _ => ones_it a⟩) (fun _ h => tr_it h)
theorem tr_mcs (h : TR enc Tryz.prog W 25 cs) : ∃ v l, cs = [v] ∧ RoF (below W) W.heap v 4 (rws Mc.row l) ∧ ∀ c ∈ l, c.wf :=
 h.slice Tryz.underlying25 (sz := 4) (by kernel_rfl) (by decide) (fun a => ⟨rfl, fun _ => ones_mc a⟩) (fun _ h => tr_mc h)
theorem tr_sws (h : TR enc Tryz.prog W 29 cs) : ∃ v l, cs = [v] ∧ RoF (below W) W.heap v 4 (rws Sw.row l) ∧ ∀ c ∈ l, c.wf :=
 h.slice Tryz.underlying29 (sz := 4) (by kernel_rfl) (by decide) (fun a => ⟨rfl, fun _ => ones_sw a⟩) (fun _ h => tr_sw h)
theorem tr_strs (h : TR enc Tryz.prog W 24 cs) : ∃ v l, cs = [v] ∧ RoF (below W) W.heap v 1 (rwsB l) := by
 obtain ⟨v, l, e, h, _⟩ := h.slice (f := fun s : ByteArray => [Value.string s]) (Q := fun _ => True) Tryz.underlying24 (sz := 1) (by kernel_rfl) (by decide) (fun a => ⟨rfl, fun _ u hu => by rw [List.mem_singleton.1 hu]; rfl⟩) (fun cs h => by
  obtain ⟨f, x, h⟩ := h
  obtain ⟨s, e, _, _⟩ := DataW.trod_string Tryz.underlying9 h
  exact ⟨s, e, trivial⟩)
 exact ⟨v, l, e, h⟩
theorem RoF.one {G : Nat → Prop} {h : Array Obj} {v : Value} {sz : Nat} {rows : List (List Value)} (H : RoF G h v sz rows) : v.oneCell' = true := by
 obtain ⟨a, c, rfl⟩ := H.ownB
 rfl
theorem tr_op (h : TR enc Tryz.prog W 57 cs) : ∃ o : OpV, cs = o.row ∧ o.ok (below W) W.heap := by
 obtain ⟨hl, hc⟩ := h.ones Tryz.underlying57 (n := 2) (by kernel_rfl) (by kernel_rfl)
 match cs, hl with
 | [a, b], _ =>
  obtain ⟨a, rfl⟩ := tr_string (hc 0 _ _ rfl rfl)
  obtain ⟨b, l, e, hb⟩ := tr_strs (hc 1 _ _ rfl rfl)
  cases e
  obtain ⟨ad, c, rfl⟩ := rofHd hb
  exact ⟨⟨a, ⟨ad, c⟩, l⟩, rfl, hb⟩
theorem tr_ops (h : TR enc Tryz.prog W 26 cs) : ∃ v l, cs = [v] ∧ RoF (below W) W.heap v 2 (rws OpV.row l) ∧ ∀ c ∈ l, c.ok (below W) W.heap :=
 h.slice Tryz.underlying26 (sz := 2) (by kernel_rfl) (by decide) (fun a => ⟨rfl, fun ha u hu => by
  simp only [OpV.row, List.mem_cons, List.not_mem_nil, or_false] at hu
  rcases hu with rfl | rfl
  ·rfl
  ·exact RoF.one ha⟩) (fun _ h => tr_op h)
theorem tr_fb (h : TR enc Tryz.prog W 45 cs) : ∃ o : FbV, cs = o.row ∧ o.ok (below W) W.heap ∧ ∀ c ∈ o.cs, c.wf := by
 obtain ⟨v, l, e, h1, h2⟩ := tr_cds h
 obtain ⟨ad, c, rfl⟩ := rofHd h1
 exact ⟨⟨⟨ad, c⟩, l⟩, e, h1, h2⟩
theorem tr_fbs (h : TR enc Tryz.prog W 27 cs) : ∃ v l, cs = [v] ∧ RoF (below W) W.heap v 1 (rws FbV.row l) ∧ ∀ c ∈ l, c.ok (below W) W.heap ∧ ∀ d ∈ c.cs, d.wf :=
 h.slice Tryz.underlying27 (sz := 1) (by kernel_rfl) (by decide) (fun a => ⟨rfl, fun ha u hu => by
  rw [List.mem_singleton.1 hu]
  exact RoF.one ha.1⟩) (fun _ h => tr_fb h)
theorem tr_rc (h : TR enc Tryz.prog W 48 cs) : ∃ o : RcV, cs = o.row ∧ o.ok (below W) W.heap ∧ o.wf := by
 obtain ⟨hl, hc⟩ := h.ones Tryz.underlying48 (n := 17) (by kernel_rfl) (by kernel_rfl)
 match cs, hl with
 | [a0, a1, a2, a3, a4, a5, a6, a7, a8, a9, a10, a11, a12, a13, a14, a15, a16], _ =>
  obtain ⟨a0, rfl⟩ := tr_string (hc 0 _ _ rfl rfl)
  obtain ⟨a1, rfl⟩ := tr_string (hc 1 _ _ rfl rfl)
  obtain ⟨a2, rfl, m2⟩ := tr_int (hc 2 _ _ rfl rfl)
  obtain ⟨a3, rfl, m3⟩ := tr_int (hc 3 _ _ rfl rfl)
  obtain ⟨a4, l4, e4, h4, w4⟩ := tr_cds (hc 4 _ _ rfl rfl)
  cases e4
  obtain ⟨d4, c4, rfl⟩ := rofHd h4
  obtain ⟨a5, l5, e5, h5, w5⟩ := tr_ams (hc 5 _ _ rfl rfl)
  cases e5
  obtain ⟨d5, c5, rfl⟩ := rofHd h5
  obtain ⟨a6, l6, e6, h6, w6⟩ := tr_ams (hc 6 _ _ rfl rfl)
  cases e6
  obtain ⟨d6, c6, rfl⟩ := rofHd h6
  obtain ⟨a7, rfl, m7⟩ := tr_int (hc 7 _ _ rfl rfl)
  obtain ⟨a8, rfl, m8⟩ := tr_int (hc 8 _ _ rfl rfl)
  obtain ⟨a9, rfl, m9⟩ := tr_int (hc 9 _ _ rfl rfl)
  obtain ⟨a10, rfl, m10⟩ := tr_int (hc 10 _ _ rfl rfl)
  obtain ⟨a11, rfl, m11⟩ := tr_int (hc 11 _ _ rfl rfl)
  obtain ⟨a12, rfl, m12⟩ := tr_int (hc 12 _ _ rfl rfl)
  obtain ⟨a13, rfl, m13⟩ := tr_int (hc 13 _ _ rfl rfl)
  obtain ⟨a14, l14, e14, h14, w14⟩ := tr_rns (hc 14 _ _ rfl rfl)
  cases e14
  obtain ⟨d14, c14, rfl⟩ := rofHd h14
  obtain ⟨a15, rfl, m15⟩ := tr_int (hc 15 _ _ rfl rfl)
  obtain ⟨a16, rfl, m16⟩ := tr_int (hc 16 _ _ rfl rfl)
  exact ⟨⟨a0, a1, a2, a3, ⟨d4, c4⟩, l4, ⟨d5, c5⟩, l5, ⟨d6, c6⟩, l6, a7, a8, a9, a10, a11, a12, a13, ⟨d14, c14⟩, l14, a15, a16⟩, rfl, ⟨h4, h5, h6, h14⟩, ⟨w4, w5, w6, w14, m2, m3, m7, m8, m9, m10, m11, m12, m13, m15, m16⟩⟩
theorem tr_rcs (h : TR enc Tryz.prog W 28 cs) : ∃ v l, cs = [v] ∧ RoF (below W) W.heap v 17 (rws RcV.row l) ∧ ∀ c ∈ l, c.ok (below W) W.heap ∧ c.wf :=
 h.slice Tryz.underlying28 (sz := 17) (by kernel_rfl) (by decide) (fun a => ⟨rfl, fun ha u hu => by
  simp only [RcV.row, List.mem_cons, List.not_mem_nil, or_false] at hu
  rcases hu with rfl | rfl | rfl | rfl | rfl | rfl | rfl | rfl | rfl | rfl | rfl | rfl | rfl | rfl | rfl | rfl | rfl
  all_goals rfl⟩) (fun _ h => tr_rc h)
theorem tr_un (h : TR enc Tryz.prog W 63 cs) : ∃ u : Un, cs = u.row ∧ i64 u.n ∧ i64 u.d := by
 obtain ⟨f, x, h⟩ := h
 obtain ⟨h1, h2⟩ := unitF.at' _ _ _ _ _ _ _ _ h
 obtain ⟨u, e, hu⟩ := unit_row h1 h2
 exact ⟨u, e, hu⟩
theorem ones_un (u : Un) : ∀ c ∈ u.row, c.oneCell' = true := by simp [Un.row, Value.oneCell']
theorem tr_uns (h : TR enc Tryz.prog W 22 cs) : ∃ v l, cs = [v] ∧ RoF (below W) W.heap v 8 (rowsU l) ∧ ∀ u ∈ l, i64 u.n ∧ i64 u.d :=
 h.slice Tryz.underlying22 (sz := 8) (by kernel_rfl) (by decide) (fun a => ⟨rfl, fun _ => ones_un a⟩) (fun _ h => tr_un h)
theorem tr_src (h : TR enc Tryz.prog W 31 cs) : ∃ vU vI vP vM vO vF vR vS, ∃ s : SrcV, cs = [vU, vI, vP, vM, vO, vF, vR, vS] ∧ Top W.heap vU vI vP vM vO vF vR vS s ∧ s.wf := by
 obtain ⟨hl, hc⟩ := h.ones Tryz.underlying31 (n := 8) (by kernel_rfl) (by kernel_rfl)
 match cs, hl with
 | [a0, a1, a2, a3, a4, a5, a6, a7], _ =>
  obtain ⟨a0, l0, e0, h0, w0⟩ := tr_uns (hc 0 _ _ rfl rfl)
  cases e0
  obtain ⟨a1, l1, e1, h1, w1⟩ := tr_its (hc 1 _ _ rfl rfl)
  cases e1
  obtain ⟨a2, l2, e2, h2⟩ := tr_strs (hc 2 _ _ rfl rfl)
  cases e2
  obtain ⟨a3, l3, e3, h3, w3⟩ := tr_mcs (hc 3 _ _ rfl rfl)
  cases e3
  obtain ⟨a4, l4, e4, h4, w4⟩ := tr_ops (hc 4 _ _ rfl rfl)
  cases e4
  obtain ⟨a5, l5, e5, h5, w5⟩ := tr_fbs (hc 5 _ _ rfl rfl)
  cases e5
  obtain ⟨a6, l6, e6, h6, w6⟩ := tr_rcs (hc 6 _ _ rfl rfl)
  cases e6
  obtain ⟨a7, l7, e7, h7, w7⟩ := tr_sws (hc 7 _ _ rfl rfl)
  cases e7
  exact ⟨a0, a1, a2, a3, a4, a5, a6, a7, ⟨l0, l1, l2, l3, l4, l5, l6, l7⟩, rfl, ⟨h0, h1, h2, h3, h4, h5, h6, h7, ⟨w4, fun o ho => (w5 o ho).1, fun o ho => (w6 o ho).1⟩⟩, ⟨w0, w1, w3, fun o ho => (w5 o ho).2, fun o ho => (w6 o ho).2, w7⟩⟩
variable {b0 : Nat} {rr : Reach} {d : DataW H} {ps : List MemPlace}
theorem open_src (hval : Value.okWide Tryz.prog W rr b0 31 v) (hd : DataW.Trod enc Tryz.prog W 0 (fun _ => true) true 31 v d ps) : ∃ vU vI vP vM vO vF vR vS, ∃ s : SrcV, v = srcV vU vI vP vM vO vF vR vS ∧ Top W.heap vU vI vP vM vO vF vR vS s ∧ s.wf := by
 obtain ⟨cs, rfl, _⟩ := okWide_struct Tryz.underlying31 hval
 obtain ⟨vU, vI, vP, vM, vO, vF, vR, vS, s, e, h1, h2⟩ := tr_src (TR.of hd)
 refine ⟨vU, vI, vP, vM, vO, vF, vR, vS, s, ?_, h1, h2⟩
 unfold srcV
 rw [← e]; simp [Value.cells]
end
end Go.Proofs.YtdcdejhobblbpaaGreatDoor
