/- LexSpaces: for every input the law returns true, and each argument reads behind the call as it read before; the listed tables hold, when the call begins, what the program's text lays (the card ties it). An argument that is a list of bytes. The statements about layer 5: LexSpaces. The symbolic walk: append of nothing; loops and calls in another order (for all_goals). Package lex: white space and comments between tokens; plain. The statements about layer 5: LexBack, LexWrong, LexNames. Package lex: joined sources, places of errors; plain. Package lex: tokens and their texts; plain. -/
import Derived.Test.YtlminkahdlcikaaDoorJoinD
set_option linter.unusedVariables false
set_option linter.unusedSimpArgs false
namespace Go.Proofs.YtlminkahdlcikaaDoor
open Go Go.Fw

abbrev NameL (b : Bs) : Prop := (1 ≤ b.length ∧ b.length ≤ 32) ∧ cls (b.headD 0).toNat = 2 ∧ ∀ c ∈ b, nmC c.toNat = true
def Tk.ok : Tk → Prop
  | .name b => NameL b
  | .num n => n ≤ 1099511627776
  | .sign c => cls c.toNat = 4
/-- a token's text -/
def Tk.tx : Tk → Bs
  | .name b => b
  | .num n => Lib.decDigits n
  | .sign c => [c]

theorem toNat_dig {d : Nat} (h : d < 10) : (UInt8.ofNat (48 + d)).toNat = 48 + d := by
  rw [UInt8.toNat_ofNat']
  omega
theorem dec_dig (n : Nat) : ∀ c ∈ Lib.decDigits n, 48 ≤ c.toNat ∧ c.toNat ≤ 57 := by
  induction n using Nat.strongRecOn with
  | _ n ih =>
    intro c hc
    rw [dec_split] at hc
    rcases List.mem_append.1 hc with hc | hc
    · split at hc
      · cases hc
      · exact ih (n / 10) (by omega) c hc
    · rw [List.mem_singleton.1 hc, toNat_dig (by omega)]
      omega
theorem dec_ne (n : Nat) : Lib.decDigits n ≠ [] := by
  rw [dec_split]; simp
theorem dec_head (n : Nat) (h : 1 ≤ n) : ((Lib.decDigits n).headD 0).toNat ≠ 48 := by
  induction n using Nat.strongRecOn with
  | _ n ih =>
    rw [dec_split]
    split
    · rw [List.nil_append]
      show (UInt8.ofNat (48 + n % 10)).toNat ≠ 48
      rw [toNat_dig (by omega)]
      omega
    · have := ih (n / 10) (by omega) (by omega)
      have hn := dec_ne (n / 10)
      cases hd : Lib.decDigits (n / 10) with
      | nil => exact absurd hd hn
      | cons x r => rw [hd] at this; simpa using this
theorem numL_app (a b : Bs) : ∀ x, numL (a ++ b) x = (numL a x).bind (numL b) := by
  induction a with
  | nil => intro x; rfl
  | cons c r ih =>
    intro x
    simp only [List.cons_append, numL]
    split
    · exact ih _
    · rfl
theorem numL_dec (n : Nat) (h : n ≤ 1099511627776) : numL (Lib.decDigits n) 0 = some n := by
  induction n using Nat.strongRecOn with
  | _ n ih =>
    rw [dec_split, numL_app]
    have hd := toNat_dig (d := n % 10) (by omega)
    split
    · simp only [numL, Option.bind_some, hd]
      rw [if_pos (by omega)]
      congr 1
      omega
    · rw [ih (n / 10) (by omega) (by omega)]
      simp only [numL, Option.bind_some, hd]
      rw [if_pos (by omega)]
      congr 1
      omega
theorem dgC_of {c : Nat} (h : 48 ≤ c ∧ c ≤ 57) : dgC c = true := (dgC_iff c).2 ((cls3 c).2 h)
theorem of_dgC {c : Nat} (h : dgC c = true) : 48 ≤ c ∧ c ≤ 57 := (cls3 c).1 ((dgC_iff c).1 h)

/-- the number of digits, written again -/
theorem dec_numL : ∀ (ds : Bs) (n : Nat), ds ≠ [] → (∀ c ∈ ds, 48 ≤ c.toNat ∧ c.toNat ≤ 57) → ¬ (1 < ds.length ∧ (ds.headD 0).toNat = 48) → numL ds 0 = some n → Lib.decDigits n = ds ∧ (1 < ds.length → 10 ≤ n) := by
  intro ds
  induction h : ds.length generalizing ds with
  | zero => intro n hn; exact absurd (List.eq_nil_of_length_eq_zero h) hn
  | succ k ih =>
    intro n hne hd hz hnum
    obtain ⟨xs, d, rfl⟩ : ∃ xs d, ds = xs ++ [d] := ⟨ds.dropLast, ds.getLast hne, (List.dropLast_concat_getLast hne).symm⟩
    have hdd := hd d (List.mem_append_right _ (List.mem_singleton.2 rfl))
    have hback : ∀ x : Nat, x % 10 = d.toNat - 48 → UInt8.ofNat (48 + x % 10) = d := fun x hx => by
      rw [hx, show 48 + (d.toNat - 48) = d.toNat by omega, UInt8.ofNat_toNat]
    rw [numL_app] at hnum
    have hxk : xs.length = k := by simpa using h
    by_cases hxs : xs = []
    · subst hxs
      simp only [numL, Option.bind_some] at hnum
      rw [if_pos (by omega)] at hnum
      cases hnum
      have hk0 : k = 0 := by simpa using h
      refine ⟨?_, fun hk => by omega⟩
      rw [dec_split, if_pos (by omega), hback _ (by omega)]
    · cases hm : numL xs 0 with
      | none => rw [hm] at hnum; cases hnum
      | some m =>
        rw [hm] at hnum
        simp only [Option.bind_some, numL] at hnum
        split at hnum
        · cases hnum
          have hhead : (xs ++ [d]).headD 0 = xs.headD 0 := by
            cases xs with
            | nil => exact absurd rfl hxs
            | cons x r => rfl
          have hl : (xs ++ [d]).length = xs.length + 1 := by simp
          have hpos : 0 < xs.length := List.length_pos_iff.2 hxs
          rw [hhead] at hz
          obtain ⟨i1, i2⟩ := ih xs hxk m hxs (fun c hc => hd c (List.mem_append_left _ hc)) (fun e => hz ⟨by omega, e.2⟩) hm
          have hm1 : 1 ≤ m := by
            by_cases h1 : 1 < k
            · have := i2 h1; omega
            · have : ((Lib.decDigits m).headD 0).toNat ≠ 48 := by rw [i1]; exact fun e => hz ⟨by omega, e⟩
              rcases Nat.eq_zero_or_pos m with rfl | hm
              · exact absurd (by rw [Lib.decDigits_one (by decide)]; rfl) this
              · exact hm
          refine ⟨?_, fun _ => by omega⟩
          rw [dec_split, if_neg (by omega), hback _ (by omega), show (10 * m + (d.toNat - 48)) / 10 = m by omega, i1]
        · cases hnum

theorem head_take {b : Bs} {k : Nat} (hk : 0 < k) : (b.take k).headD 0 = b.headD 0 := by
  cases b with
  | nil => simp
  | cons c r =>
    cases k with
    | zero => omega
    | succ k => rfl
/-- a step's token is valid, and its text is what was read -/
theorem stepS_tk {b : Bs} {t : Tk} {k : Nat} (h : stepS b = some (some t, k)) : t.ok ∧ t.tx = b.take k := by
  have hk := stepS_ok h
  cases b with
  | nil => cases h
  | cons c r =>
    simp only [stepS] at h
    split at h
    · cases h
    · split at h
      · cases h
      · split at h
        · rename_i hc
          split at h
          · cases h
          · cases h
            have hle := runL_le nmC (c :: r)
            refine ⟨⟨⟨?_, ?_⟩, ?_, fun x hx => runL_mem x hx⟩, rfl⟩
            · rw [List.length_take]; omega
            · rw [List.length_take]; omega
            · rw [head_take hk.1]; exact hc
        · split at h
          · rename_i hc
            split at h
            · cases h
            · rename_i hz
              split at h
              · cases h
              · rename_i n hn
                cases h
                have hle := runL_le dgC (c :: r)
                have hlen : ((c :: r).take (runL dgC (c :: r))).length = runL dgC (c :: r) := by rw [List.length_take]; omega
                obtain ⟨h1, _⟩ := dec_numL _ n (fun e => by rw [e] at hlen; simp at hlen; omega) (fun x hx => of_dgC (runL_mem x hx)) (by rw [hlen, head_take hk.1]; exact hz) hn
                refine ⟨?_, h1⟩
                have key : ∀ (ds : Bs) (a n : Nat), a ≤ 1099511627776 → numL ds a = some n → n ≤ 1099511627776 := by
                  intro ds
                  induction ds with
                  | nil => intro a n ha hn; cases hn; exact ha
                  | cons x xs ih =>
                    intro a n ha hn
                    simp only [numL] at hn
                    split at hn
                    · exact ih _ _ (by assumption) hn
                    · cases hn
                exact key _ 0 n (by decide) hn
          · split at h
            · cases h
            · rename_i h0 h1 h2 h3 _
              cases h
              refine ⟨?_, rfl⟩
              have := cls_cases c.toNat
              show cls c.toNat = 4
              omega
/-- behind a token's text -/
theorem step_tk {t : Tk} (ht : t.ok) {y : Bs} (hy : y = [] ∨ ∃ z, y = 32 :: z) : stepS (t.tx ++ y) = some (some t, t.tx.length) := by
  have hrun : ∀ p : Nat → Bool, p 32 = false → runL p y = 0 := fun p hp => by
    rcases hy with rfl | ⟨z, rfl⟩
    · rfl
    · show (if p (32 : UInt8).toNat then _ else _) = 0
      rw [show (32 : UInt8).toNat = 32 from rfl, hp]; rfl
  cases t with
  | name b =>
    obtain ⟨⟨h1, h2⟩, h3, h4⟩ := ht
    have hr : runL nmC (b ++ y) = b.length := by
      rw [runL_app, runL_all h4, if_pos rfl, hrun nmC (by decide)]; rfl
    cases b with
    | nil => simp at h1
    | cons c r =>
      have h3 : cls c.toNat = 2 := h3
      simp only [Tk.tx, List.cons_append] at hr ⊢
      simp only [stepS, h3, hr]
      rw [if_neg (by decide), if_neg (by decide), if_pos trivial, if_neg (by omega)]
      rw [← List.cons_append, List.take_left]
  | num n =>
    have hd := dec_dig n
    have hne := dec_ne n
    have hr : runL dgC (Lib.decDigits n ++ y) = (Lib.decDigits n).length := by
      rw [runL_app, runL_all fun c hc => dgC_of (hd c hc), if_pos rfl, hrun dgC (by decide)]; rfl
    have hnum := numL_dec n ht
    have hhead : ¬ (1 < (Lib.decDigits n).length ∧ ((Lib.decDigits n).headD 0).toNat = 48) := by
      rintro ⟨h1, h2⟩
      have : 1 ≤ n := by
        rcases Nat.eq_zero_or_pos n with rfl | hn
        · rw [Lib.decDigits_one (by decide)] at h1; simp at h1
        · exact hn
      exact dec_head n this h2
    simp only [Tk.tx]
    generalize Lib.decDigits n = b at *
    cases b with
    | nil => exact absurd rfl hne
    | cons c r =>
      have h3 : cls c.toNat = 3 := (cls3 _).2 (hd c (List.mem_cons_self ..))
      simp only [List.cons_append] at hr ⊢
      simp only [stepS, h3, hr]
      rw [if_neg (by decide), if_neg (by decide), if_neg (by decide), if_pos trivial, if_neg (show ¬ (1 < (c :: r).length ∧ c.toNat = 48) from hhead), ← List.cons_append, List.take_left, hnum]
  | sign c =>
    have h4 : cls c.toNat = 4 := ht
    simp only [Tk.tx, List.cons_append, List.nil_append, stepS, h4]
    rw [if_neg (by decide), if_neg (by decide), if_neg (by decide), if_neg (by decide), if_neg]
    · rfl
    · rintro ⟨_, h⟩
      rcases hy with rfl | ⟨z, rfl⟩
      · cases h
      · simp at h
theorem tx_pos {t : Tk} (ht : t.ok) : t.tx ≠ [] := by
  have h1 := stepS_ok (step_tk ht (.inl rfl))
  intro e
  rw [e] at h1
  simp at h1

/-- the tokens of every source are valid -/
theorem lexS_ok : ∀ (n : Nat) (b : Bs) (p : Nat) (l : List (Nat × Tk)), b.length = n → lexS b p = .inl l → ∀ q ∈ l, q.2.ok := by
  intro n
  induction n using Nat.strongRecOn with
  | _ n ih =>
    intro b p l hn h q hq
    by_cases hb : b = []
    · subst hb
      rw [lexS_nil] at h
      cases h
      cases hq
    · rw [lexS_cons hb] at h
      split at h
      · cases h
      · rename_i t k hk
        have hok := stepS_ok hk
        split at h
        · cases h
        · rename_i l' hl
          cases h
          have := ih (b.drop k).length (by rw [List.length_drop]; omega) _ _ _ rfl hl
          cases t with
          | none => exact this q hq
          | some t =>
            rcases List.mem_cons.1 hq with rfl | hq
            · exact (stepS_tk hk).1
            · exact this q hq
theorem lexS_len : ∀ (n : Nat) (b : Bs) (p : Nat) (l : List (Nat × Tk)), b.length = n → lexS b p = .inl l → l.length ≤ n ∧ (l.map fun q => q.2.tx.length).sum ≤ n := by
  intro n
  induction n using Nat.strongRecOn with
  | _ n ih =>
    intro b p l hn h
    by_cases hb : b = []
    · subst hb
      rw [lexS_nil] at h
      cases h
      simp
    · rw [lexS_cons hb] at h
      split at h
      · cases h
      · rename_i t k hk
        have hok := stepS_ok hk
        split at h
        · cases h
        · rename_i l' hl
          cases h
          have := ih (b.drop k).length (by rw [List.length_drop]; omega) _ _ _ rfl hl
          rw [List.length_drop] at this
          cases t with
          | none => simp only [addTk]; omega
          | some t =>
            have := (stepS_tk hk).2
            have hl := congrArg List.length this
            rw [List.length_take] at hl
            simp only [addTk, List.length_cons, List.map_cons, List.sum_cons]
            omega
end Go.Proofs.YtlminkahdlcikaaDoor

namespace Go.Proofs.YtlminkahdlcikaaDoor
open Go Go.Fw

theorem lex_tok {t : Tk} (ht : t.ok) {y : Bs} (hy : y = [] ∨ ∃ z, y = 32 :: z) (p : Nat) : lexS (t.tx ++ y) p = match lexS y (p + t.tx.length) with
    | .inr q => .inr q
    | .inl l => .inl ((p, t) :: l) := by
  rw [lexS_step (step_tk ht hy), List.drop_left]; rfl
theorem lex_space {c : UInt8} (hc : cls c.toNat = 1) (z : Bs) (p : Nat) : lexS (c :: z) p = lexS z (p + 1) := by
  have h : stepS (c :: z) = some (none, 1) := by simp [stepS, hc]
  rw [lexS_step h]
  show (match lexS z (p + 1) with | .inr q => _ | .inl l => _) = _
  cases lexS z (p + 1) <;> rfl

/-- the tokens of a text -/
theorem lex_tail : ∀ (ts : List Tk), (∀ t ∈ ts, t.ok) → ∀ p, ∃ L, lexS (Lib.joinTail [32] (ts.map Tk.tx)) p = .inl L ∧ L.map (·.2) = ts
  | [], _, p => ⟨[], rfl, rfl⟩
  | t :: ts, h, p => by
    obtain ⟨L, h1, h2⟩ := lex_tail ts (fun x hx => h x (List.mem_cons_of_mem _ hx)) (p + 1 + t.tx.length)
    have e : Lib.joinTail [32] ((t :: ts).map Tk.tx) = 32 :: (t.tx ++ Lib.joinTail [32] (ts.map Tk.tx)) := by simp [Lib.joinTail]
    have hy : Lib.joinTail [32] (ts.map Tk.tx) = [] ∨ ∃ z, Lib.joinTail [32] (ts.map Tk.tx) = 32 :: z := by
      cases ts with
      | nil => exact .inl rfl
      | cons u us => exact .inr ⟨u.tx ++ Lib.joinTail [32] (us.map Tk.tx), by simp [Lib.joinTail]⟩
    refine ⟨(p + 1, t) :: L, ?_, by simp [h2]⟩
    rw [e, lex_space (by decide), lex_tok (h t (List.mem_cons_self ..)) hy, h1]
theorem lex_join {ts : List Tk} (h : ∀ t ∈ ts, t.ok) (p : Nat) : ∃ L, lexS (Lib.join (ts.map Tk.tx) [32]) p = .inl L ∧ L.map (·.2) = ts := by
  cases ts with
  | nil => exact ⟨[], rfl, rfl⟩
  | cons t ts =>
    obtain ⟨L, h1, h2⟩ := lex_tail ts (fun x hx => h x (List.mem_cons_of_mem _ hx)) (p + t.tx.length)
    have hy : Lib.joinTail [32] (ts.map Tk.tx) = [] ∨ ∃ z, Lib.joinTail [32] (ts.map Tk.tx) = 32 :: z := by
      cases ts with
      | nil => exact .inl rfl
      | cons u us => exact .inr ⟨u.tx ++ Lib.joinTail [32] (us.map Tk.tx), by simp [Lib.joinTail]⟩
    refine ⟨(p, t) :: L, ?_, by simp [h2]⟩
    rw [List.map_cons, Lib.join_cons, lex_tok (h t (List.mem_cons_self ..)) hy, h1]

theorem nameP_iff (b : Bs) : NameP ⟨b.toArray⟩ ↔ NameL b := by
  have hb : ∀ i, byteAt ⟨b.toArray⟩ i = (b.getD i 0).toNat := fun i => rfl
  constructor
  · rintro ⟨h1, h2, h3⟩
    refine ⟨h1, ?_, fun c hc => ?_⟩
    · rw [hb] at h2
      cases b <;> exact h2
    · obtain ⟨i, hi, rfl⟩ := List.getElem_of_mem hc
      have := h3 i hi
      rwa [hb, List.getD_eq_getElem?_getD, List.getElem?_eq_getElem hi] at this
  · rintro ⟨h1, h2, h3⟩
    refine ⟨h1, ?_, fun i hi => ?_⟩
    · rw [hb]
      cases b <;> exact h2
    · rw [hb, List.getD_eq_getElem?_getD, List.getElem?_eq_getElem (show i < b.length from hi)]
      exact h3 _ (List.getElem_mem _)
/-- a valid token -/
theorem valid_tk {k : Tok} (h : ValidP k) : ∃ t : Tk, t.ok ∧ k.key = (t.tok 0).key ∧ bs (txT k) = t.tx := by
  obtain ⟨kind, pos, text, n⟩ := k
  rcases h with ⟨rfl, h2, rfl⟩ | ⟨rfl, rfl, h3, h4⟩ | ⟨rfl, h2, h3, rfl⟩
  · refine ⟨.name (bs text), (nameP_iff _).1 (by rw [toArray_ext]; exact h2), ?_, ?_⟩
    · show ((1 : Int), text, (0 : Int)) = ((1 : Int), (⟨(bs text).toArray⟩ : ByteArray), (0 : Int))
      rw [toArray_ext]
    · rfl
  · have h3 : 0 ≤ n := h3
    have h4 : n ≤ 1099511627776 := h4
    obtain ⟨m, rfl⟩ : ∃ m : Nat, n = m := ⟨n.toNat, by omega⟩
    refine ⟨.num m, ?_, rfl, ?_⟩
    · show m ≤ _
      omega
    · show bs (txT ⟨2, pos, ⟨#[]⟩, m⟩) = Lib.decDigits m
      unfold txT
      rw [if_pos rfl, itoa_nat (Int.natCast_nonneg m)]; rfl
  · obtain ⟨c, rfl, hc⟩ := one_byte h2
    refine ⟨.sign c, ?_, rfl, rfl⟩
    show cls c.toNat = 4
    rw [← hc]; exact h3
theorem tok_valid {t : Tk} (h : t.ok) (p : Nat) : ValidP (t.tok p) ∧ bs (txT (t.tok p)) = t.tx := by
  cases t with
  | name b => exact ⟨.inl ⟨rfl, (nameP_iff b).2 h, rfl⟩, rfl⟩
  | num n =>
    refine ⟨.inr (.inl ⟨rfl, rfl, by show (0 : Int) ≤ (n : Int); omega, by show (n : Int) ≤ _; have : n ≤ 1099511627776 := h; omega⟩), ?_⟩
    show bs (txT ⟨2, p, ⟨#[]⟩, n⟩) = Lib.decDigits n
    unfold txT
    rw [if_pos rfl, itoa_nat (Int.natCast_nonneg n)]; rfl
  | sign c => exact ⟨.inr (.inr ⟨rfl, rfl, h, rfl⟩), rfl⟩
theorem tok_key (t : Tk) (p : Nat) : (t.tok p).key = (t.tok 0).key := by cases t <;> rfl
theorem toksP_key (L : List (Nat × Tk)) : (toksP L).map Tok.key = (L.map (·.2)).map fun t => (t.tok 0).key := by
  simp only [toksP, List.map_map]
  refine List.map_congr_left fun q _ => ?_
  exact tok_key q.2 q.1
theorem valid_tks : ∀ {l : List Tok}, AllV l → ∃ ts : List Tk, (∀ t ∈ ts, t.ok) ∧ l.map Tok.key = ts.map (fun t => (t.tok 0).key) ∧ (l.map fun t => bs (txT t)) = ts.map Tk.tx
  | [], _ => ⟨[], fun _ h => (by cases h), rfl, rfl⟩
  | k :: l, h => by
    obtain ⟨t, h1, h2, h3⟩ := valid_tk (h k (List.mem_cons_self ..))
    obtain ⟨ts, g1, g2, g3⟩ := valid_tks fun x hx => h x (List.mem_cons_of_mem _ hx)
    refine ⟨t :: ts, fun x hx => ?_, by simp [h2, g2], by simp [h3, g3]⟩
    rcases List.mem_cons.1 hx with rfl | hx
    · exact h1
    · exact g1 x hx
/-- Lex of Text are the same tokens -/
theorem lex_back {l : List Tok} (h : AllV l) : ∃ L, lexS (bs (joinB l)) 0 = .inl L ∧ SameP l (toksP L) := by
  obtain ⟨ts, h1, h2, h3⟩ := valid_tks h
  obtain ⟨L, g1, g2⟩ := lex_join h1 0
  refine ⟨L, ?_, ?_⟩
  · show lexS (Lib.join (l.map fun t => bs (txT t)) [32]) 0 = _
    rw [h3, g1]
  · show _ = _
    rw [toksP_key, g2, h2]
/-- the tokens of a source have a text -/
theorem lex_allV {b : Bs} {L : List (Nat × Tk)} (h : lexS b 0 = .inl L) : AllV (toksP L) ∧ (toksP L).length ≤ b.length ∧ (joinB (toksP L)).size ≤ 2 * b.length := by
  have hok := lexS_ok _ b 0 L rfl h
  obtain ⟨h1, h2⟩ := lexS_len _ b 0 L rfl h
  refine ⟨fun t ht => ?_, by simpa [toksP] using h1, ?_⟩
  · obtain ⟨q, hq, rfl⟩ := List.mem_map.1 ht
    exact (tok_valid (hok q hq) q.1).1
  · show (Lib.join ((toksP L).map fun t => bs (txT t)) [32]).toArray.size ≤ _
    have e : ((toksP L).map fun t => bs (txT t)) = L.map fun q => q.2.tx := by
      simp only [toksP, List.map_map]
      exact List.map_congr_left fun q hq => (tok_valid (hok q hq) q.1).2
    rw [List.size_toArray, e]
    cases L with
    | nil => simp [Lib.join_nil]
    | cons q L =>
      rw [List.map_cons, Lib.join_length]
      simp only [Lib.lens, List.map_cons, List.sum_cons, List.length_cons, List.length_map, List.map_map, List.length_nil, Function.comp_def] at h1 h2 ⊢
      omega

theorem runL_cons0 {p : Nat → Bool} {d : UInt8} (h : p d.toNat = false) (m : Bs) : runL p (d :: m) = 0 := by simp [runL, h]
theorem runL_app0 {p : Nat → Bool} {d : UInt8} (h : p d.toNat = false) (a m : Bs) : runL p (a ++ d :: m) = runL p a := by
  rw [runL_app, runL_cons0 h]
  split
  · rename_i e; rw [e]; rfl
  · rfl
theorem step_app {a : Bs} (ha : a ≠ []) {d : UInt8} (m : Bs) (hd : d = 10 ∨ (d = 32 ∧ ∀ t k, stepS a = some (t, k) → k < a.length)) : stepS (a ++ d :: m) = stepS a := by
  cases a with
  | nil => exact absurd rfl ha
  | cons c r =>
    have hn : runL nmC (c :: r ++ d :: m) = runL nmC (c :: r) := by
      rcases hd with rfl | ⟨rfl, _⟩ <;> exact runL_app0 (by decide) _ _
    have hg : runL dgC (c :: r ++ d :: m) = runL dgC (c :: r) := by
      rcases hd with rfl | ⟨rfl, _⟩ <;> exact runL_app0 (by decide) _ _
    have t1 : (c :: r ++ d :: m).take (runL nmC (c :: r)) = (c :: r).take (runL nmC (c :: r)) := List.take_append_of_le_length (runL_le _ _)
    have t2 : (c :: r ++ d :: m).take (runL dgC (c :: r)) = (c :: r).take (runL dgC (c :: r)) := List.take_append_of_le_length (runL_le _ _)
    have hc : (c = 47 ∧ (r ++ d :: m).head? = some 47) ↔ (c = 47 ∧ r.head? = some 47) := by
      cases r with
      | nil => rcases hd with rfl | ⟨rfl, _⟩ <;> simp
      | cons x r => simp
    simp only [List.cons_append] at hn hg t1 t2
    simp only [List.cons_append, stepS, hn, hg, t1, t2, hc]
    split
    · rfl
    · split
      · rfl
      · split
        · rfl
        · split
          · rfl
          · split
            · rename_i h0 h1 h2 h3 hcm
              have : runL notLf (c :: (r ++ d :: m)) = runL notLf (c :: r) := by
                rcases hd with rfl | ⟨rfl, hk⟩
                · exact runL_app0 (a := c :: r) (by decide) m
                · have hs : stepS (c :: r) = some (none, runL notLf (c :: r)) := by
                    simp only [stepS]
                    rw [if_neg h0, if_neg h1, if_neg h2, if_neg h3, if_pos hcm]
                  have := hk _ _ hs
                  have e := runL_app notLf (32 :: m) (c :: r)
                  rw [if_neg (by omega)] at e
                  exact e
              rw [this]
            · rfl
theorem step_take {a : Bs} {t : Option Tk} {k j : Nat} (h : stepS a = some (t, k)) (hj : k ≤ j) : stepS (a.take j) = some (t, k) := by
  have hk := stepS_ok h
  cases a with
  | nil => cases h
  | cons c r =>
    obtain ⟨i, rfl⟩ : ∃ i, j = i + 1 := ⟨j - 1, by omega⟩
    rw [List.take_succ_cons]
    have tk : ∀ n, n ≤ i + 1 → (c :: r.take i).take n = (c :: r).take n := fun n hn => by
      rw [← List.take_succ_cons, List.take_take, Nat.min_eq_left hn]
    have rt : ∀ p, runL p (c :: r) ≤ i + 1 → runL p (c :: r.take i) = runL p (c :: r) := fun p hp => by
      rw [← List.take_succ_cons]; exact runL_take p _ _ hp
    simp only [stepS] at h ⊢
    split at h
    · cases h
    · rename_i h0
      rw [if_neg h0]
      split at h
      · rename_i h1
        rw [if_pos h1]; exact h
      · rename_i h1
        rw [if_neg h1]
        split at h
        · rename_i h2
          rw [if_pos h2]
          split at h
          · cases h
          · rename_i hb
            cases h
            rw [rt nmC hj, tk _ hj, if_neg hb]
        · rename_i h2
          rw [if_neg h2]
          split at h
          · rename_i h3
            rw [if_pos h3]
            split at h
            · cases h
            · rename_i hb
              split at h
              · cases h
              · rename_i n hn
                cases h
                rw [rt dgC hj, tk _ hj, if_neg hb, hn]
          · rename_i h3
            rw [if_neg h3]
            split at h
            · rename_i hcm
              cases h
              have h2 : 2 ≤ runL notLf (c :: r) := by
                obtain ⟨rfl, hh⟩ := hcm
                cases r with
                | nil => cases hh
                | cons x r =>
                  simp at hh
                  subst hh
                  simp [runL, notLf]
              have hi : 0 < i := by omega
              rw [if_pos, rt notLf hj]
              refine ⟨hcm.1, ?_⟩
              cases r with
              | nil => cases hcm.2
              | cons x r => obtain ⟨i', rfl⟩ : ∃ i', i = i' + 1 := ⟨i - 1, by omega⟩; exact hcm.2
            · rename_i hcm
              cases h
              rw [if_neg]
              rintro ⟨e1, e2⟩
              refine hcm ⟨e1, ?_⟩
              cases r with
              | nil => simp at e2
              | cons x r =>
                cases i with
                | zero => simp at e2
                | succ i => exact e2

/-- two sources, one after the other -/
theorem lex_joined (b : Bs) : ∀ (n : Nat) (a : Bs) (p : Nat), a.length = n → lexS (a ++ 10 :: b) p = match lexS a p with
    | .inr q => .inr q
    | .inl l => match lexS b (p + a.length + 1) with
      | .inr q => .inr q
      | .inl l' => .inl (l ++ l') := by
  intro n
  induction n using Nat.strongRecOn with
  | _ n ih =>
    intro a p hn
    by_cases ha : a = []
    · subst ha
      rw [List.nil_append, lex_space (by decide), lexS_nil]
      show lexS b (p + 1) = match lexS b (p + 0 + 1) with | .inr q => .inr q | .inl l' => .inl ([] ++ l')
      rw [Nat.add_zero]
      cases lexS b (p + 1) <;> rfl
    · have hs := step_app ha b (.inl rfl)
      rw [lexS_cons ha, lexS_cons (by simp), hs]
      cases hst : stepS a with
      | none => rfl
      | some q =>
        obtain ⟨t, k⟩ := q
        have hk := stepS_ok hst
        dsimp only
        rw [List.drop_append_of_le_length hk.2, ih (a.drop k).length (by rw [List.length_drop]; omega) _ _ rfl, List.length_drop, show p + k + (a.length - k) + 1 = p + a.length + 1 by omega]
        cases lexS (a.drop k) (p + k) with
        | inr q => rfl
        | inl l =>
          dsimp only
          cases lexS b (p + a.length + 1) with
          | inr q => rfl
          | inl l' => cases t <;> rfl
theorem lex_shift : ∀ (n : Nat) (b : Bs) (p d : Nat), b.length = n → lexS b (p + d) = match lexS b p with
    | .inr q => .inr (q + d)
    | .inl l => .inl (l.map fun q => (q.1 + d, q.2)) := by
  intro n
  induction n using Nat.strongRecOn with
  | _ n ih =>
    intro b p d hn
    by_cases hb : b = []
    · subst hb; rfl
    · rw [lexS_cons hb, lexS_cons hb]
      cases hst : stepS b with
      | none => rfl
      | some q =>
        obtain ⟨t, k⟩ := q
        have hk := stepS_ok hst
        dsimp only
        rw [show p + d + k = p + k + d by omega, ih (b.drop k).length (by rw [List.length_drop]; omega) _ _ _ rfl]
        cases lexS (b.drop k) (p + k) with
        | inr q => rfl
        | inl l => cases t <;> rfl

/-- the place of an error -/
theorem lex_wrong : ∀ (n : Nat) (a : Bs) (p q : Nat), a.length = n → lexS a p = .inr q →
    p ≤ q ∧ q < p + a.length ∧ (∀ m, lexS (a ++ 32 :: m) p = .inr q) ∧ (∃ l, lexS (a.take (q - p)) p = .inl l) ∧ lexS (a.drop (q - p)) 0 = .inr 0 := by
  intro n
  induction n using Nat.strongRecOn with
  | _ n ih =>
    intro a p q hn h
    by_cases ha : a = []
    · subst ha; cases h
    · have hpos : 0 < a.length := List.length_pos_iff.2 ha
      rw [lexS_cons ha] at h
      cases hst : stepS a with
      | none =>
        rw [hst] at h
        cases h
        refine ⟨Nat.le_refl _, by omega, fun m => ?_, ?_, ?_⟩
        · refine lexS_err (by simp) _ ?_
          rw [step_app ha m (.inr ⟨rfl, fun t k hk => by rw [hst] at hk; cases hk⟩), hst]
        · rw [Nat.sub_self, List.take_zero]; exact ⟨[], rfl⟩
        · rw [Nat.sub_self, List.drop_zero]; exact lexS_err ha 0 hst
      | some w =>
        obtain ⟨t, k⟩ := w
        have hk := stepS_ok hst
        rw [hst] at h
        dsimp only at h
        have h' : lexS (a.drop k) (p + k) = .inr q := by
          cases hx : lexS (a.drop k) (p + k) with
          | inr q' => rw [hx] at h; cases h; rfl
          | inl l => rw [hx] at h; cases h
        have hka : k < a.length := by
          rcases Nat.lt_or_ge k a.length with h1 | h1
          · exact h1
          · rw [List.drop_eq_nil_of_le h1, lexS_nil] at h'; cases h'
        obtain ⟨i1, i2, i3, ⟨l, i4⟩, i5⟩ := ih (a.drop k).length (by rw [List.length_drop]; omega) _ _ _ rfl h'
        rw [List.length_drop] at i2
        refine ⟨by omega, by omega, fun m => ?_, ?_, ?_⟩
        · rw [lexS_step (by rw [step_app ha m (.inr ⟨rfl, fun t' k' hk' => by rw [hst] at hk'; cases hk'; exact hka⟩), hst]), List.drop_append_of_le_length hk.2, i3 m]
        · refine ⟨addTk p t l, ?_⟩
          rw [lexS_step (step_take hst (by omega : k ≤ q - p)), List.drop_take, show q - p - k = q - (p + k) by omega, i4]
        · rw [List.drop_drop, show k + (q - (p + k)) = q - p by omega] at i5
          exact i5

/-- a single name -/
theorem lex_name (b : Bs) (p : Nat) (h : NameL b) : lexS b p = .inl [(p, .name b)] := by
  have := lex_tok (t := .name b) h (.inl rfl) p
  rw [List.append_nil] at this
  exact this
theorem name_lex {b : Bs} (h : lexS b 0 = .inl [(0, .name b)]) : NameL b := lexS_ok _ b 0 _ rfl h _ (List.mem_cons_self ..)
end Go.Proofs.YtlminkahdlcikaaDoor

namespace Go.Proofs.YtlminkahdlcikaaDoor
open Go Go.Fw
set_option maxRecDepth 100000
set_option maxHeartbeats 64000000

theorem textV_ok {l : List Tok} (h : AllV l) : textV l = .tuple #[.string (joinB l), .int .i64 0] := if_pos h
theorem textV_no {l : List Tok} (h : ¬ AllV l) : textV l = .tuple #[.string ⟨#[]⟩, .int .i64 50] := if_neg h

/-- what LexBack does with the second argument -/
theorem lexBack_fn {h : Array Obj} (l : List Tok) (src : ByteArray) {v : Value} (hv : Ro h v 4 (rowsT l)) (hT : PowH h) : FnV Tryd.prog 5 #[v, .string src] h fun r h' => r = .bool true ∧ Keeps h.size h h' := by
  have hl := rowsT_len l
  have hm := hv.len
  refine Fn.ofG (envL [v]) 1 [.buf 0, .v (.string src)] [(0, .ro (4) (rowsT l))] (fun k => k < _) Tryd.func5 (by kernel_rfl) rfl Tryd.ntmps5 rfl (fun _ hk => hk) (Sat.ros (vs := [v]) (l := [(4, rowsT l)]) ⟨hv, trivial⟩) fun w0 cs => ?_
  conv => whnf
  refine goS_run tab 1000 _ _ _ _ ?_
  conv => whnf
  repeat (first | (refine And.intro (by omega) ?_; (try intro _); conv => whnf) | (refine And.intro ?_ (by omega); (try intro _); conv => whnf) | (refine ⟨_, RemV.nonneg (by omega) (by omega), ?_⟩; conv => whnf))
  refine RunsS.callV (fun Ez Hz Az Sz K => sane_fn (hT.keeps ⟨K.size, K.same⟩)) ?_
  conv => whnf
  try refine goS_run tab 1000 _ _ _ _ ?_
  conv => whnf
  repeat (first | (refine And.intro (by omega) ?_; (try intro _); conv => whnf) | (refine And.intro ?_ (by omega); (try intro _); conv => whnf) | (refine ⟨_, RemV.nonneg (by omega) (by omega), ?_⟩; conv => whnf))
  cases ha : fewB l with
  | false =>
    refine RunsS.callV (fun Ez Hz Az Sz K => rFew_fn l (Sz.ro (b := 0) rfl)) ?_
    conv => whnf
    rw [ha]
    try dsimp only
    try refine goS_run tab 1000 _ _ _ _ ?_
    conv => whnf
    repeat (first | (refine And.intro (by omega) ?_; (try intro _); conv => whnf) | (refine And.intro ?_ (by omega); (try intro _); conv => whnf) | (refine ⟨_, RemV.nonneg (by omega) (by omega), ?_⟩; conv => whnf))
    refine RunsS.retU (UnwS.ret tab Tryd.func5 rfl fun Ez Hz Az Sz K => ⟨_, rfl, rfl, K.keeps⟩)
  | true =>
    have ha' := fewB_len ha
    refine RunsS.callV (fun Ez Hz Az Sz K => rFew_fn l (Sz.ro (b := 0) rfl)) ?_
    conv => whnf
    rw [ha]
    try dsimp only
    try refine goS_run tab 1000 _ _ _ _ ?_
    conv => whnf
    repeat (first | (refine And.intro (by omega) ?_; (try intro _); conv => whnf) | (refine And.intro ?_ (by omega); (try intro _); conv => whnf) | (refine ⟨_, RemV.nonneg (by omega) (by omega), ?_⟩; conv => whnf))
    refine ⟨fun h1 => ?_, fun h1 => ?_⟩ <;> conv => whnf
    · conv => whnf
      repeat (first | (refine And.intro (by omega) ?_; (try intro _); conv => whnf) | (refine And.intro ?_ (by omega); (try intro _); conv => whnf) | (refine ⟨_, RemV.nonneg (by omega) (by omega), ?_⟩; conv => whnf))
      refine RunsS.retU (UnwS.ret tab Tryd.func5 rfl fun Ez Hz Az Sz K => ⟨_, rfl, rfl, K.keeps⟩)
    · conv => whnf
      repeat (first | (refine And.intro (by omega) ?_; (try intro _); conv => whnf) | (refine And.intro ?_ (by omega); (try intro _); conv => whnf) | (refine ⟨_, RemV.nonneg (by omega) (by omega), ?_⟩; conv => whnf))
      have h1 : src.size ≤ 3000 := by omega
      by_cases hall : AllV l
      case' pos =>
        obtain ⟨L, g1, g2⟩ := lex_back hall
        have hsz := joinB_size hall
        refine RunsS.callV (fun Ez Hz Az Sz K => Text_fn l (by omega) (Sz.ro (b := 0) rfl) (hT.keeps ⟨K.size, K.same⟩)) ?_
        conv => whnf
        rw [textV_ok hall]
        try dsimp only
        try refine goS_run tab 1000 _ _ _ _ ?_
        conv => whnf
        repeat (first | (refine And.intro (by omega) ?_; (try intro _); conv => whnf) | (refine And.intro ?_ (by omega); (try intro _); conv => whnf) | (refine ⟨_, RemV.nonneg (by omega) (by omega), ?_⟩; conv => whnf))
        refine RunsS.callN (lexOk_fn (by omega) g1) [] ?CNr1 (by repeat (first | exact trivial | refine ⟨by rfl, ?_⟩)) ?CNa1
        case CNa1 => rfl
        intro _ _
        conv => whnf
        try refine goS_run tab 1000 _ _ _ _ ?_
        conv => whnf
        repeat (first | (refine And.intro (by omega) ?_; (try intro _); conv => whnf) | (refine And.intro ?_ (by omega); (try intro _); conv => whnf) | (refine ⟨_, RemV.nonneg (by omega) (by omega), ?_⟩; conv => whnf))
        refine RunsS.callV (fun Ez Hz Az Sz K => Same_fn l (toksP L) (Sz.ro (b := 0) rfl) (Sz.ro (b := 1) rfl)) ?_
        conv => whnf
        rw [decide_eq_true g2]
        try dsimp only
        try refine goS_run tab 1000 _ _ _ _ ?_
        conv => whnf
        repeat (first | (refine And.intro (by omega) ?_; (try intro _); conv => whnf) | (refine And.intro ?_ (by omega); (try intro _); conv => whnf) | (refine ⟨_, RemV.nonneg (by omega) (by omega), ?_⟩; conv => whnf))
      case' neg =>
        refine RunsS.callV (fun Ez Hz Az Sz K => Text_fn l (by omega) (Sz.ro (b := 0) rfl) (hT.keeps ⟨K.size, K.same⟩)) ?_
        conv => whnf
        rw [textV_no hall]
        try dsimp only
        try refine goS_run tab 1000 _ _ _ _ ?_
        conv => whnf
        repeat (first | (refine And.intro (by omega) ?_; (try intro _); conv => whnf) | (refine And.intro ?_ (by omega); (try intro _); conv => whnf) | (refine ⟨_, RemV.nonneg (by omega) (by omega), ?_⟩; conv => whnf))
      all_goals (
        refine RunsS.subR (nx' := 1) (l' := [(54, .v (.string src)), (1, .v (.string src))]) (H' := [(0, .ro 4 (rowsT l))]) [] ?_ (by repeat (first | exact trivial | refine ⟨by rfl, ?_⟩)) (by repeat (first | exact trivial | refine ⟨by rfl, ?_⟩))
        cases hx : lexS (bs src) 0 with
        | inr q =>
          refine RunsS.callN (lexErr_fn (by omega) hx) [] ?_ (by repeat (first | exact trivial | refine ⟨by rfl, ?_⟩)) ?_
          rotate_left
          · rfl
          intro _ _
          conv => whnf
          try refine goS_run tab 1000 _ _ _ _ ?_
          conv => whnf
          repeat (first | (refine And.intro (by omega) ?_; (try intro _); conv => whnf) | (refine And.intro ?_ (by omega); (try intro _); conv => whnf) | (refine ⟨_, RemV.nonneg (by omega) (by omega), ?_⟩; conv => whnf))
          refine RunsS.retU (UnwS.ret tab Tryd.func5 rfl fun Ez Hz Az Sz K => ⟨_, rfl, rfl, K.keeps⟩)
        | inl L =>
          obtain ⟨f1, f2, f3⟩ := lex_allV hx
          obtain ⟨L', g1, g2⟩ := lex_back f1
          rw [bs_len] at f2 f3
          refine RunsS.callN (lexOk_fn (by omega) hx) [] ?_ (by repeat (first | exact trivial | refine ⟨by rfl, ?_⟩)) ?_
          rotate_left
          · rfl
          intro _ _
          conv => whnf
          try refine goS_run tab 1000 _ _ _ _ ?_
          conv => whnf
          repeat (first | (refine And.intro (by omega) ?_; (try intro _); conv => whnf) | (refine And.intro ?_ (by omega); (try intro _); conv => whnf) | (refine ⟨_, RemV.nonneg (by omega) (by omega), ?_⟩; conv => whnf))
          refine RunsS.callV (fun Ez Hz Az Sz K => Text_fn (toksP L) (by omega) (Sz.ro (b := 1) rfl) (hT.keeps ⟨K.size, K.same⟩)) ?_
          conv => whnf
          rw [textV_ok f1]
          try dsimp only
          try refine goS_run tab 1000 _ _ _ _ ?_
          conv => whnf
          repeat (first | (refine And.intro (by omega) ?_; (try intro _); conv => whnf) | (refine And.intro ?_ (by omega); (try intro _); conv => whnf) | (refine ⟨_, RemV.nonneg (by omega) (by omega), ?_⟩; conv => whnf))
          refine RunsS.callN (lexOk_fn (by omega) g1) [] ?_ (by repeat (first | exact trivial | refine ⟨by rfl, ?_⟩)) ?_
          rotate_left
          · rfl
          intro _ _
          conv => whnf
          try refine goS_run tab 1000 _ _ _ _ ?_
          conv => whnf
          repeat (first | (refine And.intro (by omega) ?_; (try intro _); conv => whnf) | (refine And.intro ?_ (by omega); (try intro _); conv => whnf) | (refine ⟨_, RemV.nonneg (by omega) (by omega), ?_⟩; conv => whnf))
          refine RunsS.callV (fun Ez Hz Az Sz K => Same_fn (toksP L) (toksP L') (Sz.ro (b := 1) rfl) (Sz.ro (b := 2) rfl)) ?_
          conv => whnf
          rw [decide_eq_true g2]
          try dsimp only
          try refine goS_run tab 1000 _ _ _ _ ?_
          conv => whnf
          repeat (first | (refine And.intro (by omega) ?_; (try intro _); conv => whnf) | (refine And.intro ?_ (by omega); (try intro _); conv => whnf) | (refine ⟨_, RemV.nonneg (by omega) (by omega), ?_⟩; conv => whnf))
          refine RunsS.retU (UnwS.ret tab Tryd.func5 rfl fun Ez Hz Az Sz K => ⟨_, rfl, rfl, K.keeps⟩)
      )
theorem size_app3 (a b : ByteArray) (c : UInt8) : (a ++ ⟨#[c]⟩ ++ b).size = a.size + 1 + b.size := by
  rw [ByteArray.size_append, ByteArray.size_append]; rfl
theorem bs_app3 (a b : ByteArray) (c : UInt8) : bs (a ++ ⟨#[c]⟩ ++ b) = bs a ++ c :: bs b := by simp [bs]
theorem lexWrong_fn {h : Array Obj} (src more : ByteArray) (h1 : src.size ≤ 140737488355328) (h2 : more.size ≤ 140737488355328) (hT : PowH h) : FnV Tryd.prog 9 #[.string src, .string more] h fun r h' => r = .bool true ∧ Keeps h.size h h' := by
  refine Fn.ofS (args := [.string src, .string more]) Tryd.func9 (by kernel_rfl) rfl Tryd.ntmps9 rfl fun w0 cs => ?_
  conv => whnf
  refine goS_run tab 1000 _ _ _ _ ?_
  conv => whnf
  repeat (first | (refine And.intro (by omega) ?_; (try intro _); conv => whnf) | (refine And.intro ?_ (by omega); (try intro _); conv => whnf) | (refine ⟨_, RemV.nonneg (by omega) (by omega), ?_⟩; conv => whnf))
  refine RunsS.callV (fun Ez Hz Az Sz K => sane_fn (hT.keeps ⟨K.size, K.same⟩)) ?_
  conv => whnf
  try refine goS_run tab 1000 _ _ _ _ ?_
  conv => whnf
  repeat (first | (refine And.intro (by omega) ?_; (try intro _); conv => whnf) | (refine And.intro ?_ (by omega); (try intro _); conv => whnf) | (refine ⟨_, RemV.nonneg (by omega) (by omega), ?_⟩; conv => whnf))
  refine ⟨fun h3 => ?_, fun h3 => ?_⟩ <;> conv => whnf
  · conv => whnf
    repeat (first | (refine And.intro (by omega) ?_; (try intro _); conv => whnf) | (refine And.intro ?_ (by omega); (try intro _); conv => whnf) | (refine ⟨_, RemV.nonneg (by omega) (by omega), ?_⟩; conv => whnf))
    refine RunsS.retU (UnwS.ret tab Tryd.func9 rfl fun Ez Hz Az Sz K => ⟨_, rfl, rfl, K.keeps⟩)
  · conv => whnf
    repeat (first | (refine And.intro (by omega) ?_; (try intro _); conv => whnf) | (refine And.intro ?_ (by omega); (try intro _); conv => whnf) | (refine ⟨_, RemV.nonneg (by omega) (by omega), ?_⟩; conv => whnf))
    cases hx : lexS (bs src) 0 with
    | inl L =>
      refine RunsS.callN (lexOk_fn (by omega) hx) [] ?CNr2 (by repeat (first | exact trivial | refine ⟨by rfl, ?_⟩)) ?CNa2
      case CNa2 => rfl
      intro _ _
      conv => whnf
      try refine goS_run tab 1000 _ _ _ _ ?_
      conv => whnf
      repeat (first | (refine And.intro (by omega) ?_; (try intro _); conv => whnf) | (refine And.intro ?_ (by omega); (try intro _); conv => whnf) | (refine ⟨_, RemV.nonneg (by omega) (by omega), ?_⟩; conv => whnf))
      refine RunsS.retU (UnwS.ret tab Tryd.func9 rfl fun Ez Hz Az Sz K => ⟨_, rfl, rfl, K.keeps⟩)
    | inr q =>
      obtain ⟨i1, i2, i3, ⟨L, i4⟩, i5⟩ := lex_wrong _ _ 0 q rfl hx
      have i3 := i3 (bs more)
      rw [Nat.sub_zero] at i4 i5
      rw [Nat.zero_add, bs_len] at i2
      rw [← bs_app3] at i3
      have s1 : (⟨#[32]⟩ : ByteArray).size = 1 := rfl
      have s2 : (src ++ ⟨#[32]⟩).size = src.size + 1 := ByteArray.size_append
      have s3 := size_app3 src more 32
      have e1 : bs (src.extract 0 q) = (bs src).take q := by rw [bs_extract, List.drop_zero]
      have e2 : bs (src.extract q src.size) = (bs src).drop q := by rw [bs_extract, List.take_of_length_le (by rw [bs_len]; exact Nat.le_refl _)]
      rw [← e1] at i4
      rw [← e2] at i5
      have z1 : (src.extract 0 q).size ≤ 65536 := by rw [← bs_len, e1, List.length_take, bs_len]; omega
      have z2 : (src.extract q src.size).size ≤ 65536 := by rw [← bs_len, e2, List.length_drop, bs_len]; omega
      refine RunsS.callN (lexErr_fn (by omega) hx) [] ?CNr3 (by repeat (first | exact trivial | refine ⟨by rfl, ?_⟩)) ?CNa3
      case CNa3 => rfl
      intro _ _
      conv => whnf
      try refine goS_run tab 1000 _ _ _ _ ?_
      conv => whnf
      repeat (first | (refine And.intro (by omega) ?_; (try intro _); conv => whnf) | (refine And.intro ?_ (by omega); (try intro _); conv => whnf) | (refine ⟨_, RemV.nonneg (by omega) (by omega), ?_⟩; conv => whnf))
      refine RunsS.callN (lexOk_fn z1 i4) [] ?CNr4 (by repeat (first | exact trivial | refine ⟨by rfl, ?_⟩)) ?CNa4
      case CNa4 => rfl
      intro _ _
      conv => whnf
      try refine goS_run tab 1000 _ _ _ _ ?_
      conv => whnf
      repeat (first | (refine And.intro (by omega) ?_; (try intro _); conv => whnf) | (refine And.intro ?_ (by omega); (try intro _); conv => whnf) | (refine ⟨_, RemV.nonneg (by omega) (by omega), ?_⟩; conv => whnf))
      refine RunsS.callN (lexErr_fn (by omega) i3) [] ?CNr5 (by repeat (first | exact trivial | refine ⟨by rfl, ?_⟩)) ?CNa5
      case CNa5 => rfl
      intro _ _
      conv => whnf
      try refine goS_run tab 1000 _ _ _ _ ?_
      conv => whnf
      repeat (first | (refine And.intro (by omega) ?_; (try intro _); conv => whnf) | (refine And.intro ?_ (by omega); (try intro _); conv => whnf) | (refine ⟨_, RemV.nonneg (by omega) (by omega), ?_⟩; conv => whnf))
      refine RunsS.callN (lexErr_fn z2 i5) [] ?CNr6 (by repeat (first | exact trivial | refine ⟨by rfl, ?_⟩)) ?CNa6
      case CNa6 => rfl
      intro _ _
      conv => whnf
      try refine goS_run tab 1000 _ _ _ _ ?_
      conv => whnf
      repeat (first | (refine And.intro (by omega) ?_; (try intro _); conv => whnf) | (refine And.intro ?_ (by omega); (try intro _); conv => whnf) | (refine ⟨_, RemV.nonneg (by omega) (by omega), ?_⟩; conv => whnf))
      refine RunsS.retU (UnwS.ret tab Tryd.func9 rfl fun Ez Hz Az Sz K => ⟨_, rfl, rfl, K.keeps⟩)
theorem lexNames_fn {h : Array Obj} (s : ByteArray) (hT : PowH h) : FnV Tryd.prog 10 #[.string s] h fun r h' => r = .bool true ∧ Keeps h.size h h' := by
  have hN : NameP s ↔ NameL (bs s) := by rw [← nameP_iff, toArray_ext]
  refine Fn.ofS (args := [.string s]) Tryd.func10 (by kernel_rfl) rfl Tryd.ntmps10 rfl fun w0 cs => ?_
  conv => whnf
  refine goS_run tab 1000 _ _ _ _ ?_
  conv => whnf
  repeat (first | (refine And.intro (by omega) ?_; (try intro _); conv => whnf) | (refine And.intro ?_ (by omega); (try intro _); conv => whnf) | (refine ⟨_, RemV.nonneg (by omega) (by omega), ?_⟩; conv => whnf))
  refine RunsS.callV (fun Ez Hz Az Sz K => sane_fn (hT.keeps ⟨K.size, K.same⟩)) ?_
  conv => whnf
  try refine goS_run tab 1000 _ _ _ _ ?_
  conv => whnf
  repeat (first | (refine And.intro (by omega) ?_; (try intro _); conv => whnf) | (refine And.intro ?_ (by omega); (try intro _); conv => whnf) | (refine ⟨_, RemV.nonneg (by omega) (by omega), ?_⟩; conv => whnf))
  refine ⟨fun h3 => ?_, fun h3 => ?_⟩ <;> conv => whnf
  · conv => whnf
    repeat (first | (refine And.intro (by omega) ?_; (try intro _); conv => whnf) | (refine And.intro ?_ (by omega); (try intro _); conv => whnf) | (refine ⟨_, RemV.nonneg (by omega) (by omega), ?_⟩; conv => whnf))
    refine RunsS.retU (UnwS.ret tab Tryd.func10 rfl fun Ez Hz Az Sz K => ⟨_, rfl, rfl, K.keeps⟩)
  · conv => whnf
    repeat (first | (refine And.intro (by omega) ?_; (try intro _); conv => whnf) | (refine And.intro ?_ (by omega); (try intro _); conv => whnf) | (refine ⟨_, RemV.nonneg (by omega) (by omega), ?_⟩; conv => whnf))
    cases hx : lexS (bs s) 0 with
    | inr q =>
      have hno : ¬ NameP s := fun e => by
        have := lex_name _ 0 (hN.1 e)
        rw [hx] at this
        cases this
      have hnv : ¬ AllV [⟨1, 0, s, 0⟩] := fun e => by
        have := e _ (List.mem_cons_self ..)
        simp [ValidP, hno] at this
      refine RunsS.callN (lexErr_fn (by omega) hx) [] ?CNr7 (by repeat (first | exact trivial | refine ⟨by rfl, ?_⟩)) ?CNa7
      case CNa7 => rfl
      intro _ _
      conv => whnf
      try refine goS_run tab 1000 _ _ _ _ ?_
      conv => whnf
      repeat (first | (refine And.intro (by omega) ?_; (try intro _); conv => whnf) | (refine And.intro ?_ (by omega); (try intro _); conv => whnf) | (refine ⟨_, RemV.nonneg (by omega) (by omega), ?_⟩; conv => whnf))
      refine RunsS.callV (fun Ez Hz Az Sz K => Text_fn [⟨1, 0, s, 0⟩] (show 1 ≤ 65536 by decide) (Sz.ro (b := 0) rfl) (hT.keeps ⟨K.size, K.same⟩)) ?_
      conv => whnf
      rw [textV_no hnv]
      try dsimp only
      try refine goS_run tab 1000 _ _ _ _ ?_
      conv => whnf
      repeat (first | (refine And.intro (by omega) ?_; (try intro _); conv => whnf) | (refine And.intro ?_ (by omega); (try intro _); conv => whnf) | (refine ⟨_, RemV.nonneg (by omega) (by omega), ?_⟩; conv => whnf))
      refine RunsS.callV (fun Ez Hz Az Sz K => Name_fn s) ?_
      conv => whnf
      rw [decide_eq_false hno]
      try dsimp only
      try refine goS_run tab 1000 _ _ _ _ ?_
      conv => whnf
      repeat (first | (refine And.intro (by omega) ?_; (try intro _); conv => whnf) | (refine And.intro ?_ (by omega); (try intro _); conv => whnf) | (refine ⟨_, RemV.nonneg (by omega) (by omega), ?_⟩; conv => whnf))
      refine RunsS.retU (UnwS.ret tab Tryd.func10 rfl fun Ez Hz Az Sz K => ⟨_, rfl, rfl, K.keeps⟩)
    | inl L =>
      by_cases hn : NameP s
      · have hx' := lex_name _ 0 (hN.1 hn)
        have hv : AllV [⟨1, 0, s, 0⟩] := fun t ht => by
          rw [List.mem_singleton.1 ht]
          exact .inl ⟨rfl, hn, rfl⟩
        refine RunsS.callN (lexOk_fn (by omega) hx') [] ?CNr8 (by repeat (first | exact trivial | refine ⟨by rfl, ?_⟩)) ?CNa8
        case CNa8 => rfl
        intro _ _
        conv => whnf
        try refine goS_run tab 1000 _ _ _ _ ?_
        conv => whnf
        repeat (first | (refine And.intro (by omega) ?_; (try intro _); conv => whnf) | (refine And.intro ?_ (by omega); (try intro _); conv => whnf) | (refine ⟨_, RemV.nonneg (by omega) (by omega), ?_⟩; conv => whnf))
        refine And.intro (fun _ => ?_) (fun hn => absurd (rfl) hn)
        conv => whnf
        refine And.intro (⟨Int.le_refl 0, (show (0 : Int) < 1 by decide)⟩) ?_
        conv => whnf
        refine ⟨_, rfl, ?_⟩
        conv => whnf
        try (refine And.intro (by first | omega | exact Nat.le_of_ble_eq_true rfl) ?_; conv => whnf)
        repeat (first | (refine And.intro (by omega) ?_; (try intro _); conv => whnf) | (refine And.intro ?_ (by omega); (try intro _); conv => whnf) | (refine ⟨_, RemV.nonneg (by omega) (by omega), ?_⟩; conv => whnf))
        refine And.intro (fun _ => ?_) (fun hn => absurd (rfl) hn)
        conv => whnf
        refine And.intro (⟨Int.le_refl 0, (show (0 : Int) < 1 by decide)⟩) ?_
        conv => whnf
        refine ⟨_, rfl, ?_⟩
        conv => whnf
        try (refine And.intro (by first | omega | exact Nat.le_of_ble_eq_true rfl) ?_; conv => whnf)
        repeat (first | (refine And.intro (by omega) ?_; (try intro _); conv => whnf) | (refine And.intro ?_ (by omega); (try intro _); conv => whnf) | (refine ⟨_, RemV.nonneg (by omega) (by omega), ?_⟩; conv => whnf))
        refine And.intro (fun _ => ?_) (fun hn => absurd ((toArray_ext s)) hn)
        conv => whnf
        refine And.intro (⟨Int.le_refl 0, (show (0 : Int) < 1 by decide)⟩) ?_
        conv => whnf
        refine ⟨_, rfl, ?_⟩
        conv => whnf
        try (refine And.intro (by first | omega | exact Nat.le_of_ble_eq_true rfl) ?_; conv => whnf)
        repeat (first | (refine And.intro (by omega) ?_; (try intro _); conv => whnf) | (refine And.intro ?_ (by omega); (try intro _); conv => whnf) | (refine ⟨_, RemV.nonneg (by omega) (by omega), ?_⟩; conv => whnf))
        refine And.intro (fun _ => ?_) (fun hn => absurd (rfl) hn)
        conv => whnf
        refine And.intro (⟨Int.le_refl 0, (show (0 : Int) < 1 by decide)⟩) ?_
        conv => whnf
        refine ⟨_, rfl, ?_⟩
        conv => whnf
        try (refine And.intro (by first | omega | exact Nat.le_of_ble_eq_true rfl) ?_; conv => whnf)
        repeat (first | (refine And.intro (by omega) ?_; (try intro _); conv => whnf) | (refine And.intro ?_ (by omega); (try intro _); conv => whnf) | (refine ⟨_, RemV.nonneg (by omega) (by omega), ?_⟩; conv => whnf))
        refine RunsS.subR (nx' := 2) (l' := [(59, .buf 1), (0, .v (.string s)), (6, .v (.bool true))]) (H' := [(1, .own 35 4 (rowsT [⟨1, 0, s, 0⟩]))]) [] ?_ (by repeat (first | exact trivial | refine ⟨by rfl, ?_⟩)) (by repeat (first | exact trivial | refine ⟨by rfl, ?_⟩))
        refine RunsS.callV (fun Ez Hz Az Sz K => Text_fn [⟨1, 0, s, 0⟩] (show 1 ≤ 65536 by decide) (Sz.ro (b := 1) rfl) (hT.keeps ⟨K.size, K.same⟩)) ?_
        conv => whnf
        rw [textV_ok hv]
        try dsimp only
        try refine goS_run tab 1000 _ _ _ _ ?_
        conv => whnf
        repeat (first | (refine And.intro (by omega) ?_; (try intro _); conv => whnf) | (refine And.intro ?_ (by omega); (try intro _); conv => whnf) | (refine ⟨_, RemV.nonneg (by omega) (by omega), ?_⟩; conv => whnf))
        refine RunsS.callV (fun Ez Hz Az Sz K => Name_fn s) ?_
        conv => whnf
        rw [decide_eq_true hn]
        try dsimp only
        try refine goS_run tab 1000 _ _ _ _ ?_
        conv => whnf
        repeat (first | (refine And.intro (by omega) ?_; (try intro _); conv => whnf) | (refine And.intro ?_ (by omega); (try intro _); conv => whnf) | (refine ⟨_, RemV.nonneg (by omega) (by omega), ?_⟩; conv => whnf))
        refine RunsS.retU (UnwS.ret tab Tryd.func10 rfl fun Ez Hz Az Sz K => ⟨_, rfl, rfl, K.keeps⟩)
      · have hno := hn
        have hnv : ¬ AllV [⟨1, 0, s, 0⟩] := fun e => by
          have := e _ (List.mem_cons_self ..)
          simp [ValidP, hno] at this
        refine RunsS.callN (lexOk_fn (by omega) hx) [] ?CNr9 (by repeat (first | exact trivial | refine ⟨by rfl, ?_⟩)) ?CNa9
        case CNa9 => rfl
        intro _ _
        conv => whnf
        try refine goS_run tab 1000 _ _ _ _ ?_
        conv => whnf
        repeat (first | (refine And.intro (by omega) ?_; (try intro _); conv => whnf) | (refine And.intro ?_ (by omega); (try intro _); conv => whnf) | (refine ⟨_, RemV.nonneg (by omega) (by omega), ?_⟩; conv => whnf))
        refine ⟨fun hlen => ?_, fun hlen => ?_⟩ <;> conv => whnf
        · obtain ⟨⟨p, t⟩, rfl⟩ : ∃ q, L = [q] := by
            match L with
            | [q] => exact ⟨q, rfl⟩
            | [] => simp [toksP] at hlen
            | _ :: _ :: _ =>
              simp [toksP] at hlen
              omega
          have hne : ¬ ((t.tok p).kind = 1 ∧ (t.tok p).text = s ∧ (t.tok p).pos = 0) := by
            rintro ⟨e1, e2, e3⟩
            cases t with
            | name b =>
              have e3 : (p : Int) = 0 := e3
              have e2 : (⟨b.toArray⟩ : ByteArray) = s := e2
              subst e2
              obtain rfl : p = 0 := by omega
              exact hno (hN.2 (name_lex hx))
            | num n => cases e1
            | sign c => cases e1
          conv => whnf
          repeat (first | (refine And.intro (by omega) ?_; (try intro _); conv => whnf) | (refine And.intro ?_ (by omega); (try intro _); conv => whnf) | (refine ⟨_, RemV.nonneg (by omega) (by omega), ?_⟩; conv => whnf))
          refine ⟨_, rfl, ?_⟩
          conv => whnf
          try (refine And.intro (by first | omega | exact Nat.le_of_ble_eq_true rfl) ?_; conv => whnf)
          repeat (first | (refine And.intro (by omega) ?_; (try intro _); conv => whnf) | (refine And.intro ?_ (by omega); (try intro _); conv => whnf) | (refine ⟨_, RemV.nonneg (by omega) (by omega), ?_⟩; conv => whnf))
          refine ⟨fun e1 => ?_, fun e1 => ?_⟩ <;> conv => whnf
          · conv => whnf
            repeat (first | (refine And.intro (by omega) ?_; (try intro _); conv => whnf) | (refine And.intro ?_ (by omega); (try intro _); conv => whnf) | (refine ⟨_, RemV.nonneg (by omega) (by omega), ?_⟩; conv => whnf))
            refine ⟨_, rfl, ?_⟩
            conv => whnf
            try (refine And.intro (by first | omega | exact Nat.le_of_ble_eq_true rfl) ?_; conv => whnf)
            repeat (first | (refine And.intro (by omega) ?_; (try intro _); conv => whnf) | (refine And.intro ?_ (by omega); (try intro _); conv => whnf) | (refine ⟨_, RemV.nonneg (by omega) (by omega), ?_⟩; conv => whnf))
            refine ⟨fun e2 => ?_, fun e2 => ?_⟩ <;> conv => whnf
            · conv => whnf
              repeat (first | (refine And.intro (by omega) ?_; (try intro _); conv => whnf) | (refine And.intro ?_ (by omega); (try intro _); conv => whnf) | (refine ⟨_, RemV.nonneg (by omega) (by omega), ?_⟩; conv => whnf))
              refine ⟨_, rfl, ?_⟩
              conv => whnf
              try (refine And.intro (by first | omega | exact Nat.le_of_ble_eq_true rfl) ?_; conv => whnf)
              repeat (first | (refine And.intro (by omega) ?_; (try intro _); conv => whnf) | (refine And.intro ?_ (by omega); (try intro _); conv => whnf) | (refine ⟨_, RemV.nonneg (by omega) (by omega), ?_⟩; conv => whnf))
              refine ⟨fun e3 => ?_, fun e3 => ?_⟩ <;> conv => whnf
              · exact absurd ⟨e1, e2, e3⟩ hne
              · conv => whnf
                repeat (first | (refine And.intro (by omega) ?_; (try intro _); conv => whnf) | (refine And.intro ?_ (by omega); (try intro _); conv => whnf) | (refine ⟨_, RemV.nonneg (by omega) (by omega), ?_⟩; conv => whnf))
                refine RunsS.callV (fun Ez Hz Az Sz K => Text_fn [⟨1, 0, s, 0⟩] (show 1 ≤ 65536 by decide) (Sz.ro (b := 1) rfl) (hT.keeps ⟨K.size, K.same⟩)) ?_
                conv => whnf
                rw [textV_no hnv]
                try dsimp only
                try refine goS_run tab 1000 _ _ _ _ ?_
                conv => whnf
                repeat (first | (refine And.intro (by omega) ?_; (try intro _); conv => whnf) | (refine And.intro ?_ (by omega); (try intro _); conv => whnf) | (refine ⟨_, RemV.nonneg (by omega) (by omega), ?_⟩; conv => whnf))
                refine RunsS.callV (fun Ez Hz Az Sz K => Name_fn s) ?_
                conv => whnf
                rw [decide_eq_false hno]
                try dsimp only
                try refine goS_run tab 1000 _ _ _ _ ?_
                conv => whnf
                repeat (first | (refine And.intro (by omega) ?_; (try intro _); conv => whnf) | (refine And.intro ?_ (by omega); (try intro _); conv => whnf) | (refine ⟨_, RemV.nonneg (by omega) (by omega), ?_⟩; conv => whnf))
                refine RunsS.retU (UnwS.ret tab Tryd.func10 rfl fun Ez Hz Az Sz K => ⟨_, rfl, rfl, K.keeps⟩)
            · conv => whnf
              repeat (first | (refine And.intro (by omega) ?_; (try intro _); conv => whnf) | (refine And.intro ?_ (by omega); (try intro _); conv => whnf) | (refine ⟨_, RemV.nonneg (by omega) (by omega), ?_⟩; conv => whnf))
              refine RunsS.callV (fun Ez Hz Az Sz K => Text_fn [⟨1, 0, s, 0⟩] (show 1 ≤ 65536 by decide) (Sz.ro (b := 1) rfl) (hT.keeps ⟨K.size, K.same⟩)) ?_
              conv => whnf
              rw [textV_no hnv]
              try dsimp only
              try refine goS_run tab 1000 _ _ _ _ ?_
              conv => whnf
              repeat (first | (refine And.intro (by omega) ?_; (try intro _); conv => whnf) | (refine And.intro ?_ (by omega); (try intro _); conv => whnf) | (refine ⟨_, RemV.nonneg (by omega) (by omega), ?_⟩; conv => whnf))
              refine RunsS.callV (fun Ez Hz Az Sz K => Name_fn s) ?_
              conv => whnf
              rw [decide_eq_false hno]
              try dsimp only
              try refine goS_run tab 1000 _ _ _ _ ?_
              conv => whnf
              repeat (first | (refine And.intro (by omega) ?_; (try intro _); conv => whnf) | (refine And.intro ?_ (by omega); (try intro _); conv => whnf) | (refine ⟨_, RemV.nonneg (by omega) (by omega), ?_⟩; conv => whnf))
              refine RunsS.retU (UnwS.ret tab Tryd.func10 rfl fun Ez Hz Az Sz K => ⟨_, rfl, rfl, K.keeps⟩)
          · conv => whnf
            repeat (first | (refine And.intro (by omega) ?_; (try intro _); conv => whnf) | (refine And.intro ?_ (by omega); (try intro _); conv => whnf) | (refine ⟨_, RemV.nonneg (by omega) (by omega), ?_⟩; conv => whnf))
            refine RunsS.callV (fun Ez Hz Az Sz K => Text_fn [⟨1, 0, s, 0⟩] (show 1 ≤ 65536 by decide) (Sz.ro (b := 1) rfl) (hT.keeps ⟨K.size, K.same⟩)) ?_
            conv => whnf
            rw [textV_no hnv]
            try dsimp only
            try refine goS_run tab 1000 _ _ _ _ ?_
            conv => whnf
            repeat (first | (refine And.intro (by omega) ?_; (try intro _); conv => whnf) | (refine And.intro ?_ (by omega); (try intro _); conv => whnf) | (refine ⟨_, RemV.nonneg (by omega) (by omega), ?_⟩; conv => whnf))
            refine RunsS.callV (fun Ez Hz Az Sz K => Name_fn s) ?_
            conv => whnf
            rw [decide_eq_false hno]
            try dsimp only
            try refine goS_run tab 1000 _ _ _ _ ?_
            conv => whnf
            repeat (first | (refine And.intro (by omega) ?_; (try intro _); conv => whnf) | (refine And.intro ?_ (by omega); (try intro _); conv => whnf) | (refine ⟨_, RemV.nonneg (by omega) (by omega), ?_⟩; conv => whnf))
            refine RunsS.retU (UnwS.ret tab Tryd.func10 rfl fun Ez Hz Az Sz K => ⟨_, rfl, rfl, K.keeps⟩)
        · conv => whnf
          repeat (first | (refine And.intro (by omega) ?_; (try intro _); conv => whnf) | (refine And.intro ?_ (by omega); (try intro _); conv => whnf) | (refine ⟨_, RemV.nonneg (by omega) (by omega), ?_⟩; conv => whnf))
          refine RunsS.callV (fun Ez Hz Az Sz K => Text_fn [⟨1, 0, s, 0⟩] (show 1 ≤ 65536 by decide) (Sz.ro (b := 1) rfl) (hT.keeps ⟨K.size, K.same⟩)) ?_
          conv => whnf
          rw [textV_no hnv]
          try dsimp only
          try refine goS_run tab 1000 _ _ _ _ ?_
          conv => whnf
          repeat (first | (refine And.intro (by omega) ?_; (try intro _); conv => whnf) | (refine And.intro ?_ (by omega); (try intro _); conv => whnf) | (refine ⟨_, RemV.nonneg (by omega) (by omega), ?_⟩; conv => whnf))
          refine RunsS.callV (fun Ez Hz Az Sz K => Name_fn s) ?_
          conv => whnf
          rw [decide_eq_false hno]
          try dsimp only
          try refine goS_run tab 1000 _ _ _ _ ?_
          conv => whnf
          repeat (first | (refine And.intro (by omega) ?_; (try intro _); conv => whnf) | (refine And.intro ?_ (by omega); (try intro _); conv => whnf) | (refine ⟨_, RemV.nonneg (by omega) (by omega), ?_⟩; conv => whnf))
          refine RunsS.retU (UnwS.ret tab Tryd.func10 rfl fun Ez Hz Az Sz K => ⟨_, rfl, rfl, K.keeps⟩)
end Go.Proofs.YtlminkahdlcikaaDoor

namespace Go.Proofs.YtlminkahdlcikaaDoor
open Go Go.Fw

/-- white space and comments that end -/
inductive Gap : Bs → Prop where
  | nil : Gap []
  | space {c : UInt8} {g : Bs} (hc : cls c.toNat = 1) (h : Gap g) : Gap (c :: g)
  | note {w g : Bs} (hw : ∀ c ∈ w, c ≠ 10) (h : Gap g) : Gap (47 :: 47 :: (w ++ 10 :: g))
theorem lex_gap {g : Bs} (h : Gap g) (y : Bs) : ∀ p, lexS (g ++ y) p = lexS y (p + g.length) := by
  induction h with
  | nil => intro p; rfl
  | space hc _ ih =>
    intro p
    rw [List.cons_append, lex_space hc, ih, List.length_cons]
    congr 1
    omega
  | @note w g hw _ ih =>
    intro p
    have hr : runL notLf (47 :: 47 :: (w ++ 10 :: (g ++ y))) = w.length + 2 := by
      have hall : runL notLf (47 :: 47 :: w) = (47 :: 47 :: w).length := runL_all fun c hc => by
        have hc10 : c ≠ 10 := by
          rcases List.mem_cons.1 hc with rfl | hc
          · decide
          · rcases List.mem_cons.1 hc with rfl | hc
            · decide
            · exact hw c hc
        have : c.toNat ≠ 10 := fun e => hc10 (UInt8.toNat_inj.1 (by rw [e]; rfl))
        simp [notLf, this]
      have := runL_app notLf (10 :: (g ++ y)) (47 :: 47 :: w)
      rw [if_pos hall, runL_cons0 (by decide)] at this
      exact this
    have hst : stepS (47 :: 47 :: (w ++ 10 :: (g ++ y))) = some (none, w.length + 2) := by
      rw [← hr]; rfl
    have e : 47 :: 47 :: (w ++ 10 :: g) ++ y = 47 :: 47 :: (w ++ 10 :: (g ++ y)) := by simp
    rw [e, lexS_step hst]
    have hd : (47 :: 47 :: (w ++ 10 :: (g ++ y))).drop (w.length + 2) = 10 :: (g ++ y) := by simp
    rw [hd, lex_space (by decide), ih]
    have hl : p + (w.length + 2) + 1 + g.length = p + (47 :: 47 :: (w ++ 10 :: g)).length := by simp; omega
    rw [hl]
    cases lexS y (p + (47 :: 47 :: (w ++ 10 :: g)).length) <;> rfl

/-- how LexPlaces reads what lies between tokens: whether a comment is open behind it; none: it is no such thing -/
def gapN : Bs → Bool → Option Bool
  | [], f => some f
  | c :: r, f =>
    let f' := decide (c ≠ 10) && (f || (decide (c = 47) && decide (r.head? = some 47)))
    if !f' && !decide (cls c.toNat = 1) then none else gapN r f'
theorem gapN_space {c : UInt8} {g : Bs} (hc : cls c.toNat = 1) : gapN (c :: g) false = gapN g false := by
  have h47 : c ≠ 47 := fun e => by rw [e] at hc; revert hc; decide
  simp [gapN, hc, h47]
theorem gapN_note : ∀ {w : Bs}, (∀ c ∈ w, c ≠ 10) → ∀ g, gapN (w ++ g) true = gapN g true
  | [], _, _ => rfl
  | c :: w, h, g => by
    have hc := h c (List.mem_cons_self ..)
    simp only [List.cons_append, gapN, hc, ne_eq, not_false_eq_true, decide_true, Bool.true_or, Bool.and_self, Bool.not_true, Bool.false_and]
    exact gapN_note (fun x hx => h x (List.mem_cons_of_mem _ hx)) g
theorem gapN_open {w : Bs} (h : ∀ c ∈ w, c ≠ 10) (g : Bs) : gapN (47 :: 47 :: (w ++ g)) false = gapN g true := by
  rw [show 47 :: 47 :: (w ++ g) = [47] ++ (47 :: w ++ g) by simp]
  simp only [List.cons_append, List.nil_append, gapN]
  exact gapN_note h g

/-- what the tokens' places are like -/
def Places : Bs → Nat → List (Nat × Tk) → Prop
  | b, _, [] => ∃ f, gapN b false = some f
  | b, p, (q, t) :: l => p ≤ q ∧ q - p + t.tx.length ≤ b.length ∧ gapN (b.take (q - p)) false = some false ∧ t.tx ≠ [] ∧ (b.drop (q - p)).take t.tx.length = t.tx ∧ Places (b.drop (q - p + t.tx.length)) (q + t.tx.length) l

theorem gapN_cat : ∀ (a b : Bs) (f : Bool), (a = [] ∨ b = [] ∨ a.getLast? ≠ some 47) → gapN (a ++ b) f = (gapN a f).bind (gapN b)
  | [], b, f, _ => rfl
  | c :: a, b, f, h => by
    have hh : ((a ++ b).head? = some 47) ↔ (a.head? = some 47) ∨ (a = [] ∧ b.head? = some 47) := by
      cases a <;> simp
    by_cases ha : a = []
    · subst ha
      simp only [List.cons_append, List.nil_append, gapN, List.head?_nil]
      rcases h with h | h | h
      · cases h
      · subst h
        simp [gapN]
      · have hc : c ≠ 47 := by simpa using h
        simp only [hc, decide_false, Bool.false_and, Bool.or_false]
        split <;> simp [gapN]
    · have h' : a = [] ∨ b = [] ∨ a.getLast? ≠ some 47 := by
        rcases h with h | h | h
        · cases h
        · exact .inr (.inl h)
        · refine .inr (.inr ?_)
          rwa [List.getLast?_cons_of_ne_nil ha] at h
      have hx : ((a ++ b).head? = some 47) ↔ (a.head? = some 47) := by
        rw [hh]; simp [ha]
      simp only [List.cons_append, gapN, hx]
      split
      · rfl
      · exact gapN_cat a b _ h'
theorem runL_stop (p : Nat → Bool) : ∀ b : Bs, b.drop (runL p b) = [] ∨ ∃ d r, b.drop (runL p b) = d :: r ∧ p d.toNat = false
  | [] => .inl rfl
  | c :: b => by
    simp only [runL]
    by_cases hp : p c.toNat = true
    · rw [if_pos hp, List.drop_succ_cons]; exact runL_stop p b
    · rw [if_neg hp]; exact .inr ⟨c, b, rfl, by simpa using hp⟩
theorem places_gap {g r : Bs} (G : ∀ x, gapN (g ++ x) false = gapN x false) {p : Nat} {l : List (Nat × Tk)} (h : Places r (p + g.length) l) : Places (g ++ r) p l := by
  cases l with
  | nil =>
    obtain ⟨f, hf⟩ := h
    exact ⟨f, by rw [G, hf]⟩
  | cons q l =>
    obtain ⟨q, t⟩ := q
    obtain ⟨h1, h2, h3, h4, h5, h6⟩ := h
    have e : q - p = g.length + (q - (p + g.length)) := by omega
    refine ⟨by omega, by rw [List.length_append]; omega, ?_, h4, ?_, ?_⟩
    · rw [e, List.take_append, List.take_of_length_le (by omega), G, Nat.add_sub_cancel_left]; exact h3
    · rw [e, List.drop_append, List.drop_eq_nil_of_le (by omega), List.nil_append, ← h5]; simp
    · rw [e, Nat.add_assoc, List.drop_append, List.drop_eq_nil_of_le (by omega), List.nil_append]
      simpa using h6
/-- the texts stand at their places -/
theorem lex_places : ∀ (n : Nat) (b : Bs) (p : Nat) (l : List (Nat × Tk)), b.length = n → lexS b p = .inl l → Places b p l := by
  intro n
  induction n using Nat.strongRecOn with
  | _ n ih =>
    intro b p l hn h
    cases b with
    | nil =>
      rw [lexS_nil] at h
      cases h
      exact ⟨false, rfl⟩
    | cons c r =>
      rw [lexS_cons (by simp)] at h
      cases hst : stepS (c :: r) with
      | none => rw [hst] at h; cases h
      | some w =>
        obtain ⟨t, k⟩ := w
        have hok := stepS_ok hst
        rw [hst] at h
        dsimp only at h
        cases hl : lexS ((c :: r).drop k) (p + k) with
        | inr q => rw [hl] at h; cases h
        | inl l' =>
          rw [hl] at h
          cases h
          have hrec := ih ((c :: r).drop k).length (by rw [List.length_drop]; omega) _ _ _ rfl hl
          cases t with
          | some t =>
            obtain ⟨o1, o2⟩ := stepS_tk hst
            have hk : t.tx.length = k := by rw [o2, List.length_take]; omega
            refine ⟨Nat.le_refl _, by rw [hk]; omega, by rw [Nat.sub_self]; rfl, tx_pos o1, ?_, ?_⟩
            · rw [Nat.sub_self, List.drop_zero, hk, o2]
            · rw [Nat.sub_self, Nat.zero_add, hk]; exact hrec
          | none =>
            have hst' := hst
            simp only [stepS] at hst
            split at hst
            · cases hst
            · split at hst
              · rename_i h1
                cases hst
                exact places_gap (g := [c]) (fun x => gapN_space h1) hrec
              · split at hst
                · split at hst <;> cases hst
                · split at hst
                  · split at hst
                    · cases hst
                    · split at hst <;> cases hst
                  · split at hst
                    · rename_i hcm
                      cases hst
                      have hnl : ∀ x ∈ (c :: r).take (runL notLf (c :: r)), x ≠ 10 := fun x hx => by
                        have := runL_mem (p := notLf) x hx
                        rintro rfl
                        revert this
                        decide
                      obtain ⟨rfl, hr⟩ := hcm
                      obtain ⟨r', rfl⟩ : ∃ r', r = 47 :: r' := by
                        cases r with
                        | nil => cases hr
                        | cons x r' => simp at hr; exact ⟨r', by rw [hr]⟩
                      have h2 : runL notLf (47 :: 47 :: r') = runL notLf r' + 2 := by
                        have hb : notLf 47 = true := by decide
                        simp [runL, hb]
                      have hw : ∀ x ∈ r'.take (runL notLf r'), x ≠ 10 := fun x hx => hnl x (by rw [h2]; simp [hx])
                      have hsplit : 47 :: 47 :: r' = (47 :: 47 :: r'.take (runL notLf r')) ++ r'.drop (runL notLf r') := by simp
                      have hdrop : (47 :: 47 :: r').drop (runL notLf (47 :: 47 :: r')) = r'.drop (runL notLf r') := by rw [h2]; rfl
                      have hle := runL_le notLf r'
                      rw [hdrop] at hl hrec
                      rcases runL_stop notLf r' with h0 | ⟨d, z, h0, hd⟩
                      · rw [h0] at hl
                        rw [lexS_nil] at hl
                        cases hl
                        refine ⟨true, ?_⟩
                        have := gapN_open hw []
                        rw [List.append_nil] at this
                        rw [hsplit, h0, List.append_nil, this]; rfl
                      · have hd10 : d = 10 := by
                          have : d.toNat = 10 := by simpa [notLf] using hd
                          exact UInt8.toNat_inj.1 this
                        subst hd10
                        rw [h0, lex_space (by decide)] at hl
                        have hz : z.length < n := by
                          have := congrArg List.length h0
                          rw [List.length_drop] at this
                          simp at this hn
                          omega
                        have hrec' := ih z.length hz _ _ _ rfl hl
                        rw [hsplit, h0, show (47 :: 47 :: r'.take (runL notLf r')) ++ 10 :: z = (47 :: 47 :: (r'.take (runL notLf r') ++ [10])) ++ z by simp]
                        refine places_gap (fun x => ?_) ?_
                        · have := gapN_open hw (10 :: x)
                          simp only [List.cons_append, List.append_assoc, List.nil_append]
                          rw [this]
                          have c1 : cls 10 = 1 := by decide
                          simp [gapN, c1]
                        · have e : p + (47 :: 47 :: (r'.take (runL notLf r') ++ [10])).length = p + runL notLf (47 :: 47 :: r') + 1 := by
                            rw [h2]
                            simp
                            omega
                          rw [e]; exact hrec'
                    · cases hst
end Go.Proofs.YtlminkahdlcikaaDoor

namespace Go.Fw
open Go
variable {P : Program}
set_option maxHeartbeats 8000000

theorem run_append_zero (w : World) {t ty e : TypeId} {i : TypeInfo} (ht : P.underlying t = some (.slice e)) (hi : P.info? e = some i) (a : Option Addr) (m c : Nat) (hmc : m ≤ c) (a2 : Option Addr) (c2 : Nat) :
    (Builtin.append_ #[t, t] ty #[.slice a m c, .slice a2 0 c2]).run P w = .ok (.slice a m c) w := by
  cases a <;> cases a2 <;> simp [Builtin.append_, run_underlying ht, sizeOf, typeInfo, hi, Builtin.lenOf, Builtin.firstCells, loadCells, loadCellsFrom, hmc, storeCells]
section
variable {s : SCx P} {ds : List SDef} {nx : Nat} {st : List SI} {l : SFr} {H : SH} {all : Array Oper} {rest : List Oper} {o : Oper} {cl : Call} {x y : Operand}
theorem RunsS.appE (T : Tab P) {t e sz : Nat} {b b2 sz1 sz2 : Nat} {e' : TypeId} {rows : List (List Value)} {i : Inf} (hr : updK l o.dst (.buf b) fun l => RunsS s ds nx (.ops all rest :: st) l H)
    (hb2 : rowsAt H b2 = some (sz2, [])) (hb : lookH H b = some (.own e' sz1 rows) := by rfl)
    (hop : o.op = .call cl := by rfl) (hcal : cl.callee = .builtin .append := by rfl) (hargs : cl.args.toList = [x, y] := by rfl) (hts : cl.argTypes.toList = [t, t] := by rfl)
    (hx : evS l x = some (.buf b) := by rfl) (hy : evS l y = some (.buf b2) := by rfl) (ht : lookU T.und t = some (.slice e sz) := by rfl) (hi : lookI T.inf e = some i := by rfl)
    (hgd : guardS l all o = some true := by rfl) (hdn : dstOk s.c.n o.dst = true := by rfl) (hnd : noDefer1 o = true := by rfl) : RunsS s ds nx (.ops all (o :: rest) :: st) l H := by
  rw [updK_eq] at hr
  refine RunsS.effL (x := .buf b) (H' := H) (fun E h S K => Eff.toS S K ?_) (fun E => guardS_of hgd) hdn hnd hr
  refine Eff.of_val1 fun a w ha hh => ⟨w, ?_, Like.refl w, hh⟩
  obtain ⟨j, q1, _⟩ := T.okI.look hi
  obtain ⟨_, a2, c2, e2, _⟩ := S.rowsAt hb2
  have hown := (S.ok _ (lookH_mem hb)).2.1
  have e1 := ha.ev (ev_gF (E := E) hx)
  have e3 := ha.ev (ev_gF (E := E) hy)
  simp only [SV.g] at e1 e3
  have g1 : cl.args = #[x, y] := by apply Array.ext'; simpa using hargs
  have g2 : cl.argTypes = #[t, t] := by apply Array.ext'; simpa using hts
  have key : ∃ a m c, E b = .slice a m c ∧ m ≤ c := by
    obtain ⟨_, ⟨h1, _⟩ | ⟨g, cap, cur, h1, _, _, hc, _⟩⟩ := hown
    · exact ⟨none, 0, 0, h1, Nat.le_refl _⟩
    · exact ⟨_, _, _, h1, hc⟩
  obtain ⟨a1, m, c, k1, k2⟩ := key
  rw [k1] at e1
  rw [e2] at e3
  simp [execOp, hop, resolve, hcal, g1, g2, invoke, builtin, e1, e3, run_append_zero w (T.okU.look ht).1 q1 a1 m c k2 a2 c2, SV.g, k1]
end

section
variable {s : SCx P} {ds : List SDef} {nx : Nat} {k : List SI} {l : SFr} {H : SH}
theorem RunsS.loopA {x : Code} {X : Type} (L : X → SFr) (HH : X → SH) (nxl : Nat) (J : X → Prop) (μ : X → Nat) (x0 : X) (hJ : J x0) (hl : SubS (rn []) l (L x0)) (hH : SubH (rn []) H (HH x0))
    (round : ∀ x0, J x0 → (∀ x', J x' → μ x' < μ x0 → RunsS s ds nxl (.inLoop x :: k) (L x') (HH x')) → RunsS s ds nxl (.code x :: .inLoop x :: k) (L x0) (HH x0))
    (hn : nodupH (rn []) (HH x0) [] = true := by rfl) (hd : renD (rn []) ds = ds := by rfl) : RunsS s ds nx (.code (.loop x) :: k) l H :=
  RunsS.subR [] (RunsS.loop L HH nxl J μ round x0 hJ) hl hH rfl hn hd
variable {kk : List SI} {all : Array Oper} {rest : List Oper} {o : Oper} {cl : Call} {x : Operand} {g : FuncId} {first captured vs : List SV}
theorem RunsS.callA {k : Nat} {args : List SV} {W : SH} {X : Type} {J : X → Prop} {out : X → OutS} (C : FnS P g k args W J out) (ren : List Nat)
    (hH : SubH (nthN ren) H W) (ha : SV.rens (nthN ren) args = first ++ (vs ++ captured))
    (hr : ∀ y, J y → afterN s ds k nx ren (restH (ownN (nthN ren) W) H) o.dst l (.ops all rest :: kk) (out y))
    (hlen : ren.length = k := by rfl) (hren : bdN nx ren = true := by rfl) (hfr : fresh s.n0 nx l H ds = true := by rfl) (hn : nodupH (nthN ren) W [] = true := by rfl)
    (hop : o.op = .call cl := by rfl) (hcal : cl.callee = .value x := by rfl) (hx : calleeS l x = some (g, first, captured) := by rfl) (hargs : evAll l cl.args.toList = some vs := by rfl)
    (hgd : guardS l all o = some true := by rfl) (hdn : dstOk s.c.n o.dst = true := by rfl) : RunsS s ds nx (.ops all (o :: rest) :: kk) l H :=
  RunsS.callN C ren hr hH ha hlen hren hfr hn hop hcal hx hargs hgd hdn
end
end Go.Fw

namespace Go.Proofs.YtlminkahdlcikaaDoor
open Go Go.Fw
set_option maxRecDepth 100000
set_option maxHeartbeats 64000000

def rowsU (u : List UInt8) : List (List Value) := u.map fun c => [Value.int .u8 (c.toNat : Int)]
theorem rowsU_len (u : List UInt8) : (rowsU u).length = u.length := by simp [rowsU]
theorem rowsU_get {u : List UInt8} {k : Nat} (hk : k < u.length) : (rowsU u)[k]? = some [Value.int .u8 (u[k].toNat : Int)] := by simp [rowsU, hk]

/-- X reads as these tokens, whatever follows -/
def Reads (X : Bs) (ts : List Tk) : Prop := ∀ p, ∃ pl : List (Nat × Tk), pl.map (·.2) = ts ∧ ∀ y, lexS (X ++ y) p = match lexS y (p + X.length) with
    | .inr q => .inr q
    | .inl l => .inl (pl ++ l)
theorem reads_lf : Reads [10] [] := fun p => ⟨[], rfl, fun y => by
  rw [List.cons_append, List.nil_append, lex_space (by decide)]
  show lexS y (p + 1) = match lexS y (p + 1) with | .inr q => .inr q | .inl l => .inl ([] ++ l)
  cases lexS y (p + 1) <;> rfl⟩
theorem reads_snoc {X : Bs} {ts : List Tk} (h : Reads X ts) {t : Tk} (ht : t.ok) {g : Bs} (hg : Gap g) : Reads (X ++ (t.tx ++ 32 :: g)) (ts ++ [t]) := fun p => by
  obtain ⟨pl, h1, h2⟩ := h p
  refine ⟨pl ++ [(p + X.length, t)], by simp [h1], fun y => ?_⟩
  have e : X ++ (t.tx ++ 32 :: g) ++ y = X ++ (t.tx ++ 32 :: (g ++ y)) := by simp
  rw [e, h2, lex_tok ht (.inr ⟨_, rfl⟩), lex_space (by decide), lex_gap hg]
  have hl : p + X.length + t.tx.length + 1 + g.length = p + (X ++ (t.tx ++ 32 :: g)).length := by simp; omega
  rw [hl]
  cases lexS y (p + (X ++ (t.tx ++ 32 :: g)).length) with
  | inr q => rfl
  | inl l => simp
theorem reads_all {X : Bs} {ts : List Tk} (h : Reads X ts) : ∃ L, lexS X 0 = .inl L ∧ L.map (·.2) = ts := by
  obtain ⟨pl, h1, h2⟩ := h 0
  refine ⟨pl, ?_, h1⟩
  have := h2 []
  rw [List.append_nil, lexS_nil] at this
  rw [this]
  simp

/-- the gaps that the statement tries -/
def spR (W : ByteArray) : List (List Value) := [[.string ⟨#[32]⟩], [.string ⟨#[9]⟩], [.string ⟨#[10]⟩], [.string ⟨#[13, 10]⟩], [.string ⟨#[32, 32]⟩], [.string W], [.string ⟨#[32, 47, 47, 32, 10]⟩], [.string ⟨#[10, 47, 47, 10]⟩]]
theorem sp_get {W : ByteArray} {w : Bs} (hW : bs W = 47 :: 47 :: (w ++ [10])) (hw : ∀ c ∈ w, c ≠ 10) (hs : W.size ≤ 103) {i : Nat} (hi : i < 8) : ∃ g : ByteArray, (spR W)[i]? = some [.string g] ∧ Gap (bs g) ∧ g.size ≤ 103 := by
  have sp : ∀ {g : Bs}, Gap g → Gap (32 :: g) := fun h => .space (by decide) h
  have lf : ∀ {g : Bs}, Gap g → Gap (10 :: g) := fun h => .space (by decide) h
  match i, hi with
  | 0, _ => exact ⟨_, rfl, sp .nil, show 1 ≤ 103 by decide⟩
  | 1, _ => exact ⟨_, rfl, .space (c := 9) (by decide) .nil, show 1 ≤ 103 by decide⟩
  | 2, _ => exact ⟨_, rfl, lf .nil, show 1 ≤ 103 by decide⟩
  | 3, _ => exact ⟨_, rfl, .space (c := 13) (by decide) (lf .nil), show 2 ≤ 103 by decide⟩
  | 4, _ => exact ⟨_, rfl, sp (sp .nil), show 2 ≤ 103 by decide⟩
  | 5, _ => exact ⟨_, rfl, by rw [hW]; exact .note hw .nil, hs⟩
  | 6, _ => exact ⟨_, rfl, sp (.note (w := [32]) (by decide) .nil), show 5 ≤ 103 by decide⟩
  | 7, _ => exact ⟨_, rfl, lf (.note (w := []) (by decide) .nil), show 4 ≤ 103 by decide⟩
theorem gap_at' {src : ByteArray} {e j : Nat} (he : e ≤ src.size) (hj : j + 1 = e) : ∃ c, ((bs src).take e).drop j = [c] ∧ c.toNat = byteAt src j ∧ True := by
  have hl : ((bs src).take e).length = e := by rw [List.length_take, bs_len]; omega
  refine ⟨((bs src).take e)[j]'(by omega), ?_, ?_, trivial⟩
  · rw [List.drop_eq_getElem_cons (by omega), List.drop_eq_nil_of_le (by omega)]
  · rw [List.getElem_take]
    unfold byteAt
    rw [List.getD_eq_getElem?_getD, List.getElem?_eq_getElem (show j < src.data.toList.length from by have : src.data.toList.length = src.size := rfl; omega)]; rfl
theorem joinB_one (t : Tok) : joinB [t] = txT t := by
  have := joinB_snoc [] t
  rw [List.nil_append, if_pos rfl] at this
  exact this

theorem lexSpaces_fn {h : Array Obj} (l : List Tok) (u : List UInt8) (note : ByteArray) {v w : Value} (hv : Ro h v 4 (rowsT l)) (hw : Ro h w 1 (rowsU u)) (hT : PowH h) : FnV Tryd.prog 8 #[v, w, .string note] h fun r h' => r = .bool true ∧ Keeps h.size h h' := by
  have hl := rowsT_len l
  have hm := hv.len
  have hl2 := rowsU_len u
  have hm2 := hw.len
  refine Fn.ofG (envL [v, w]) 2 [.buf 0, .buf 1, .v (.string note)] [(0, .ro (4) (rowsT l)), (1, .ro (1) (rowsU u))] (fun k => k < _) Tryd.func8 (by kernel_rfl) rfl Tryd.ntmps8 rfl (fun _ hk => hk) (Sat.ros (vs := [v, w]) (l := [(4, rowsT l), (1, rowsU u)]) ⟨hv, hw, trivial⟩) fun w0 cs => ?_
  conv => whnf
  refine goS_run tab 1000 _ _ _ _ ?_
  conv => whnf
  repeat (first | (refine And.intro (by omega) ?_; (try intro _); conv => whnf) | (refine And.intro ?_ (by omega); (try intro _); conv => whnf) | (refine ⟨_, RemV.nonneg (by omega) (by omega), ?_⟩; conv => whnf))
  refine RunsS.callV (fun Ez Hz Az Sz K => sane_fn (hT.keeps ⟨K.size, K.same⟩)) ?_
  conv => whnf
  try refine goS_run tab 1000 _ _ _ _ ?_
  conv => whnf
  repeat (first | (refine And.intro (by omega) ?_; (try intro _); conv => whnf) | (refine And.intro ?_ (by omega); (try intro _); conv => whnf) | (refine ⟨_, RemV.nonneg (by omega) (by omega), ?_⟩; conv => whnf))
  cases ha : fewB l with
  | false =>
    refine RunsS.callV (fun Ez Hz Az Sz K => rFew_fn l (Sz.ro (b := 0) rfl)) ?_
    conv => whnf
    rw [ha]
    try dsimp only
    try refine goS_run tab 1000 _ _ _ _ ?_
    conv => whnf
    repeat (first | (refine And.intro (by omega) ?_; (try intro _); conv => whnf) | (refine And.intro ?_ (by omega); (try intro _); conv => whnf) | (refine ⟨_, RemV.nonneg (by omega) (by omega), ?_⟩; conv => whnf))
    refine RunsS.retU (UnwS.ret tab Tryd.func8 rfl fun Ez Hz Az Sz K => ⟨_, rfl, rfl, K.keeps⟩)
  | true =>
    have ha' := fewB_len ha
    refine RunsS.callV (fun Ez Hz Az Sz K => rFew_fn l (Sz.ro (b := 0) rfl)) ?_
    conv => whnf
    rw [ha]
    try dsimp only
    try refine goS_run tab 1000 _ _ _ _ ?_
    conv => whnf
    repeat (first | (refine And.intro (by omega) ?_; (try intro _); conv => whnf) | (refine And.intro ?_ (by omega); (try intro _); conv => whnf) | (refine ⟨_, RemV.nonneg (by omega) (by omega), ?_⟩; conv => whnf))
    refine ⟨fun h1 => ?_, fun h1 => ?_⟩ <;> conv => whnf
    · conv => whnf
      repeat (first | (refine And.intro (by omega) ?_; (try intro _); conv => whnf) | (refine And.intro ?_ (by omega); (try intro _); conv => whnf) | (refine ⟨_, RemV.nonneg (by omega) (by omega), ?_⟩; conv => whnf))
      refine RunsS.retU (UnwS.ret tab Tryd.func8 rfl fun Ez Hz Az Sz K => ⟨_, rfl, rfl, K.keeps⟩)
    · conv => whnf
      repeat (first | (refine And.intro (by omega) ?_; (try intro _); conv => whnf) | (refine And.intro ?_ (by omega); (try intro _); conv => whnf) | (refine ⟨_, RemV.nonneg (by omega) (by omega), ?_⟩; conv => whnf))
      refine RunsS.meet (fun (wd : ByteArray) => [(7, .v (.string wd)), (0, .buf 0), (1, .buf 1), (2, .v (.string note))]) (fun (wd : ByteArray) => [(0, .ro 4 (rowsT l)), (1, .ro 1 (rowsU u))]) 2 (fun (wd : ByteArray) => wd.size ≤ 100 ∧ ∀ c ∈ bs wd, c ≠ 10) ?_ (fun meet => ?_)
      rotate_left
      · refine RunsS.subR [] (RunsS.loop (fun (⟨i, s⟩ : Nat × ByteArray) => [(8, .v (.int .i64 i)), (7, .v (.string s)), (0, .buf 0), (1, .buf 1), (2, .v (.string note))]) (fun (⟨i, s⟩ : Nat × ByteArray) => [(0, .ro 4 (rowsT l)), (1, .ro 1 (rowsU u))]) 2 (fun (⟨i, s⟩ : Nat × ByteArray) => (i ≤ note.size ∧ s.size ≤ i) ∧ ∀ c ∈ bs s, c ≠ 10) (fun (⟨i, s⟩ : Nat × ByteArray) => note.size - i) ?round1 ((0, ⟨#[]⟩)) ?J01) ?SS1 ?HH1
        case J01 => exact (⟨⟨Nat.zero_le _, Nat.le_refl _⟩, fun _ h => (by cases h)⟩)
        case SS1 => repeat (first | exact trivial | refine ⟨by rfl, ?_⟩)
        case HH1 => repeat (first | exact trivial | refine ⟨by rfl, ?_⟩)
        rintro ⟨i, s⟩ hJ back
        try dsimp only at hJ back
        conv => whnf
        try dsimp only
        refine goS_run tab 1000 _ _ _ _ ?_
        conv => whnf
        repeat (first | (refine And.intro (by omega) ?_; (try intro _); conv => whnf) | (refine And.intro ?_ (by omega); (try intro _); conv => whnf) | (refine ⟨_, RemV.nonneg (by omega) (by omega), ?_⟩; conv => whnf))
        refine ⟨fun hk => ?_, fun hk => ?_⟩ <;> conv => whnf
        · conv => whnf
          repeat (first | (refine And.intro (by omega) ?_; (try intro _); conv => whnf) | (refine And.intro ?_ (by omega); (try intro _); conv => whnf) | (refine ⟨_, RemV.nonneg (by omega) (by omega), ?_⟩; conv => whnf))
          refine ⟨fun hc => ?_, fun hc => ?_⟩ <;> conv => whnf
          · conv => whnf
            repeat (first | (refine And.intro (by omega) ?_; (try intro _); conv => whnf) | (refine And.intro ?_ (by omega); (try intro _); conv => whnf) | (refine ⟨_, RemV.nonneg (by omega) (by omega), ?_⟩; conv => whnf))
            refine RunsS.subR [] (back ((i + 1, s)) ?BJ2 ?BM2) ?SS2 ?HH2
            case BJ2 => exact (⟨by dsimp only; omega, hJ.2⟩)
            case BM2 => (try dsimp only); omega
            case SS2 => repeat (first | exact trivial | refine ⟨by rfl, ?_⟩)
            case HH2 => repeat (first | exact trivial | refine ⟨by rfl, ?_⟩)
          · have hz := size_ex note (lo := i) (hi := i + 1) (by omega)
            have hz' : (note.extract ((i : Int)).toNat ((i : Int) + 1).toNat).size = 1 := by
              have : note.extract ((i : Int)).toNat ((i : Int) + 1).toNat = note.extract i (i + 1) := rfl
              rw [this]; omega
            have hs2 : (s ++ note.extract i (i + 1)).size = s.size + 1 := by rw [ByteArray.size_append]; omega
            have hno : ∀ c ∈ bs (s ++ note.extract i (i + 1)), c ≠ 10 := fun c hcm => by
              rw [show bs (s ++ note.extract i (i + 1)) = bs s ++ bs (note.extract i (i + 1)) by simp [bs], bs_extract] at hcm
              rcases List.mem_append.1 hcm with hcm | hcm
              · exact hJ.2 c hcm
              · obtain ⟨d, g1, g2, _⟩ := gap_at' (src := note) (e := i + 1) (j := i) (by omega) (by omega)
                rw [g1, List.mem_singleton] at hcm
                subst hcm
                rintro rfl
                exact hc (by rw [show byteAt note ((i : Int)).toNat = byteAt note i from rfl, ← g2]; rfl)
            conv => whnf
            repeat (first | (refine And.intro (by omega) ?_; (try intro _); conv => whnf) | (refine And.intro ?_ (by omega); (try intro _); conv => whnf) | (refine ⟨_, RemV.nonneg (by omega) (by omega), ?_⟩; conv => whnf))
            refine RunsS.subR [] (back ((i + 1, s ++ note.extract i (i + 1))) ?BJ3 ?BM3) ?SS3 ?HH3
            case BJ3 => exact (⟨by dsimp only; omega, hno⟩)
            case BM3 => (try dsimp only); omega
            case SS3 => repeat (first | exact trivial | refine ⟨by rfl, ?_⟩)
            case HH3 => repeat (first | exact trivial | refine ⟨by rfl, ?_⟩)
        · conv => whnf
          repeat (first | (refine And.intro (by omega) ?_; (try intro _); conv => whnf) | (refine And.intro ?_ (by omega); (try intro _); conv => whnf) | (refine ⟨_, RemV.nonneg (by omega) (by omega), ?_⟩; conv => whnf))
          refine RunsS.subR [] (meet (s) ?BJ4) ?SS4 ?HH4
          case BJ4 => exact (⟨by omega, hJ.2⟩)
          case SS4 => repeat (first | exact trivial | refine ⟨by rfl, ?_⟩)
          case HH4 => repeat (first | exact trivial | refine ⟨by rfl, ?_⟩)
      · rintro wd ⟨w1, w2⟩
        have z1 : (⟨#[47, 47]⟩ ++ wd : ByteArray).size = 2 + wd.size := by rw [ByteArray.size_append]; rfl
        have z2 : (⟨#[47, 47]⟩ : ByteArray).size = 2 := rfl
        have z3 : (⟨#[10]⟩ : ByteArray).size = 1 := rfl
        try refine goS_run tab 1000 _ _ _ _ ?_
        conv => whnf
        repeat (first | (refine And.intro (by omega) ?_; (try intro _); conv => whnf) | (refine And.intro ?_ (by omega); (try intro _); conv => whnf) | (refine ⟨_, RemV.nonneg (by omega) (by omega), ?_⟩; conv => whnf))
        obtain ⟨W, hWe⟩ : ∃ W, W = ⟨#[47, 47]⟩ ++ wd ++ ⟨#[10]⟩ := ⟨_, rfl⟩
        have hWb : bs W = 47 :: 47 :: (bs wd ++ [10]) := by rw [hWe]; simp [bs]
        have hWs : W.size ≤ 103 := by rw [hWe, ByteArray.size_append]; omega
        have hsl : (spR W).length = 8 := rfl
        have s1 : (⟨#[32]⟩ : ByteArray).size = 1 := rfl
        refine RunsS.rowsEq 2 (show chunk 1 8 [Value.string ⟨#[32]⟩, .string ⟨#[9]⟩, .string ⟨#[10]⟩, .string ⟨#[13, 10]⟩, .string ⟨#[32, 32]⟩, .string (⟨#[47, 47]⟩ ++ wd ++ ⟨#[10]⟩), .string ⟨#[32, 47, 47, 32, 10]⟩, .string ⟨#[10, 47, 47, 10]⟩] = spR W by rw [hWe]; rfl) ?_
        (conv => whnf)
        refine RunsS.subR [] (RunsS.loop (fun (⟨k, s⟩ : Nat × ByteArray) => [(54, .v (.int .i64 k)), (53, .v (.int .i64 (rowsT l).length)), (52, .buf 0), (10, .v (.string s)), (9, .buf 2), (0, .buf 0), (1, .buf 1)]) (fun (⟨k, s⟩ : Nat × ByteArray) => [(0, .ro 4 (rowsT l)), (1, .ro 1 (rowsU u)), (2, .own 9 1 (spR W))]) 3 (fun (⟨k, s⟩ : Nat × ByteArray) => (k ≤ l.length ∧ s.size ≤ 1 + 140 * k) ∧ AllV (l.take k) ∧ ∃ ts, Reads (bs s) ts ∧ (l.take k).map Tok.key = ts.map fun t => (t.tok 0).key) (fun (⟨k, s⟩ : Nat × ByteArray) => l.length - k) ?round5 ((0, ⟨#[10]⟩)) ?J05) ?SS5 ?HH5
        case J05 => exact (⟨⟨Nat.zero_le _, Nat.le_refl _⟩, fun _ h => (by cases h), [], reads_lf, rfl⟩)
        case SS5 => repeat (first | exact trivial | refine ⟨by rfl, ?_⟩)
        case HH5 => repeat (first | exact trivial | refine ⟨by rfl, ?_⟩)
        rintro ⟨k, s⟩ hJ back
        try dsimp only at hJ back
        conv => whnf
        try dsimp only
        refine goS_run tab 1000 _ _ _ _ ?_
        conv => whnf
        repeat (first | (refine And.intro (by omega) ?_; (try intro _); conv => whnf) | (refine And.intro ?_ (by omega); (try intro _); conv => whnf) | (refine ⟨_, RemV.nonneg (by omega) (by omega), ?_⟩; conv => whnf))
        refine ⟨fun hk => ?_, fun hk => ?_⟩ <;> conv => whnf
        · have hk : k < l.length := by omega
          conv => whnf
          repeat (first | (refine And.intro (by omega) ?_; (try intro _); conv => whnf) | (refine And.intro ?_ (by omega); (try intro _); conv => whnf) | (refine ⟨_, RemV.nonneg (by omega) (by omega), ?_⟩; conv => whnf))
          refine ⟨_, rowsT_get hk, ?_⟩
          conv => whnf
          try (refine And.intro (by first | omega | exact Nat.le_of_ble_eq_true rfl) ?_; conv => whnf)
          repeat (first | (refine And.intro (by omega) ?_; (try intro _); conv => whnf) | (refine And.intro ?_ (by omega); (try intro _); conv => whnf) | (refine ⟨_, RemV.nonneg (by omega) (by omega), ?_⟩; conv => whnf))
          by_cases hvk : ValidP l[k]
          · have hone : AllV [l[k]] := fun t ht => by rw [List.mem_singleton.1 ht]; exact hvk
            have hx : textV [l[k]] = .tuple #[.string (txT l[k]), .int .i64 0] := by rw [textV_ok hone, joinB_one]
            have htx := txT_size hvk
            obtain ⟨t, t1, t2, t3⟩ := valid_tk hvk
            obtain ⟨ts, r1, r2⟩ := hJ.2.2
            have hall := allV_take hk hJ.2.1 hvk
            have next : ∀ g : ByteArray, Gap (bs g) → ∃ ts, Reads (bs (s ++ (txT l[k] ++ ⟨#[32]⟩ ++ g))) ts ∧ (l.take (k + 1)).map Tok.key = ts.map fun t => (t.tok 0).key := fun g hg => by
              refine ⟨ts ++ [t], ?_, ?_⟩
              · have e : bs (s ++ (txT l[k] ++ ⟨#[32]⟩ ++ g)) = bs s ++ (t.tx ++ 32 :: bs g) := by
                  rw [← t3]; simp [bs]
                rw [e]
                exact reads_snoc r1 t1 hg
              · rw [List.take_succ_eq_append_getElem hk, List.map_append, List.map_append, r2, List.map_singleton, List.map_singleton, t2]
            have q1 : (txT l[k] ++ ⟨#[32]⟩).size = (txT l[k]).size + 1 := ByteArray.size_append
            have q2 : ∀ g : ByteArray, (txT l[k] ++ ⟨#[32]⟩ ++ g).size = (txT l[k]).size + 1 + g.size := fun g => by rw [ByteArray.size_append, q1]
            have q3 : ∀ g : ByteArray, (s ++ (txT l[k] ++ ⟨#[32]⟩ ++ g)).size = s.size + ((txT l[k]).size + 1 + g.size) := fun g => by rw [ByteArray.size_append, q2]
            refine RunsS.callV (fun Ez Hz Az Sz K => Text_fn [l[k]] (show 1 ≤ 65536 by decide) (Sz.ro (b := 4) rfl) (hT.keeps ⟨K.size, K.same⟩)) ?_
            conv => whnf
            rw [hx]
            try dsimp only
            try refine goS_run tab 1000 _ _ _ _ ?_
            conv => whnf
            repeat (first | (refine And.intro (by omega) ?_; (try intro _); conv => whnf) | (refine And.intro ?_ (by omega); (try intro _); conv => whnf) | (refine ⟨_, RemV.nonneg (by omega) (by omega), ?_⟩; conv => whnf))
            refine ⟨fun ht => ?_, fun ht => ?_⟩ <;> conv => whnf
            · have ht : k < u.length := by omega
              conv => whnf
              repeat (first | (refine And.intro (by omega) ?_; (try intro _); conv => whnf) | (refine And.intro ?_ (by omega); (try intro _); conv => whnf) | (refine ⟨_, RemV.nonneg (by omega) (by omega), ?_⟩; conv => whnf))
              have hu : u[k].toNat < 256 := UInt8.toNat_lt _
              obtain ⟨g, g1, g2, g3⟩ := sp_get hWb w2 hWs (i := u[k].toNat % 8) (by omega)
              have d2 := q2 g
              have d3 := q3 g
              refine ⟨_, rowsU_get ht, ?_⟩
              conv => whnf
              try (refine And.intro (by first | omega | exact Nat.le_of_ble_eq_true rfl) ?_; conv => whnf)
              repeat (first | (refine And.intro (by omega) ?_; (try intro _); conv => whnf) | (refine And.intro ?_ (by omega); (try intro _); conv => whnf) | (refine ⟨_, RemV.nonneg (by omega) (by omega), ?_⟩; conv => whnf))
              refine And.intro ((by simp only [hsl]; omega)) ?_
              conv => whnf
              refine ⟨_, (show (spR W)[(((u[k].toNat : Nat) : Int) % ((spR W).length : Int)).toNat]? = some [Value.string g] by rw [hsl, show (((u[k].toNat : Nat) : Int) % ((8 : Nat) : Int)).toNat = u[k].toNat % 8 by omega]; exact g1), ?_⟩
              conv => whnf
              try (refine And.intro (by first | omega | exact Nat.le_of_ble_eq_true rfl) ?_; conv => whnf)
              repeat (first | (refine And.intro (by omega) ?_; (try intro _); conv => whnf) | (refine And.intro ?_ (by omega); (try intro _); conv => whnf) | (refine ⟨_, RemV.nonneg (by omega) (by omega), ?_⟩; conv => whnf))
              refine RunsS.subR [] (back ((k + 1, s ++ (txT l[k] ++ ⟨#[32]⟩ ++ g))) ?BJ6 ?BM6) ?SS6 ?HH6
              case BJ6 => exact (⟨by dsimp only; omega, hall, next g g2⟩)
              case BM6 => (try dsimp only); omega
              case SS6 => repeat (first | exact trivial | refine ⟨by rfl, ?_⟩)
              case HH6 => repeat (first | exact trivial | refine ⟨by rfl, ?_⟩)
            · have d2 := q2 ⟨#[32]⟩
              have d3 := q3 ⟨#[32]⟩
              conv => whnf
              repeat (first | (refine And.intro (by omega) ?_; (try intro _); conv => whnf) | (refine And.intro ?_ (by omega); (try intro _); conv => whnf) | (refine ⟨_, RemV.nonneg (by omega) (by omega), ?_⟩; conv => whnf))
              refine RunsS.subR [] (back ((k + 1, s ++ (txT l[k] ++ ⟨#[32]⟩ ++ ⟨#[32]⟩))) ?BJ7 ?BM7) ?SS7 ?HH7
              case BJ7 => exact (⟨by dsimp only; omega, hall, next _ (.space (by decide) .nil)⟩)
              case BM7 => (try dsimp only); omega
              case SS7 => repeat (first | exact trivial | refine ⟨by rfl, ?_⟩)
              case HH7 => repeat (first | exact trivial | refine ⟨by rfl, ?_⟩)
          · have hone : ¬ AllV [l[k]] := fun e => hvk (e _ (List.mem_cons_self ..))
            have hno : ¬ AllV l := fun e => hvk (e _ (List.getElem_mem hk))
            refine RunsS.callV (fun Ez Hz Az Sz K => Text_fn [l[k]] (show 1 ≤ 65536 by decide) (Sz.ro (b := 4) rfl) (hT.keeps ⟨K.size, K.same⟩)) ?_
            conv => whnf
            rw [textV_no hone]
            try dsimp only
            try refine goS_run tab 1000 _ _ _ _ ?_
            conv => whnf
            repeat (first | (refine And.intro (by omega) ?_; (try intro _); conv => whnf) | (refine And.intro ?_ (by omega); (try intro _); conv => whnf) | (refine ⟨_, RemV.nonneg (by omega) (by omega), ?_⟩; conv => whnf))
            refine RunsS.callV (fun Ez Hz Az Sz K => Text_fn l (by omega) (Sz.ro (b := 0) rfl) (hT.keeps ⟨K.size, K.same⟩)) ?_
            conv => whnf
            rw [textV_no hno]
            try dsimp only
            try refine goS_run tab 1000 _ _ _ _ ?_
            conv => whnf
            repeat (first | (refine And.intro (by omega) ?_; (try intro _); conv => whnf) | (refine And.intro ?_ (by omega); (try intro _); conv => whnf) | (refine ⟨_, RemV.nonneg (by omega) (by omega), ?_⟩; conv => whnf))
            refine RunsS.retU (UnwS.ret tab Tryd.func8 rfl fun Ez Hz Az Sz K => ⟨_, rfl, rfl, K.keeps⟩)
        · conv => whnf
          repeat (first | (refine And.intro (by omega) ?_; (try intro _); conv => whnf) | (refine And.intro ?_ (by omega); (try intro _); conv => whnf) | (refine ⟨_, RemV.nonneg (by omega) (by omega), ?_⟩; conv => whnf))
          have hk : k = l.length := by omega
          obtain ⟨ts, r1, r2⟩ := hJ.2.2
          obtain ⟨L, g1, g2⟩ := reads_all r1
          have hsame : SameP l (toksP L) := by
            rw [hk, List.take_length] at r2
            show _ = _
            rw [toksP_key, g2, r2]
          refine RunsS.callN (lexOk_fn (by omega) g1) [] ?CNr8 (by repeat (first | exact trivial | refine ⟨by rfl, ?_⟩)) ?CNa8
          case CNa8 => rfl
          intro _ _
          conv => whnf
          try refine goS_run tab 1000 _ _ _ _ ?_
          conv => whnf
          repeat (first | (refine And.intro (by omega) ?_; (try intro _); conv => whnf) | (refine And.intro ?_ (by omega); (try intro _); conv => whnf) | (refine ⟨_, RemV.nonneg (by omega) (by omega), ?_⟩; conv => whnf))
          refine RunsS.callV (fun Ez Hz Az Sz K => Same_fn l (toksP L) (Sz.ro (b := 0) rfl) (Sz.ro (b := 3) rfl)) ?_
          conv => whnf
          rw [decide_eq_true hsame]
          try dsimp only
          try refine goS_run tab 1000 _ _ _ _ ?_
          conv => whnf
          repeat (first | (refine And.intro (by omega) ?_; (try intro _); conv => whnf) | (refine And.intro ?_ (by omega); (try intro _); conv => whnf) | (refine ⟨_, RemV.nonneg (by omega) (by omega), ?_⟩; conv => whnf))
          refine RunsS.retU (UnwS.ret tab Tryd.func8 rfl fun Ez Hz Az Sz K => ⟨_, rfl, rfl, K.keeps⟩)
end Go.Proofs.YtlminkahdlcikaaDoor

namespace Go.Proofs.YtlminkahdlcikaaDoor
open Go Go.Fw Go.ChangeShapes Go.WideShapes Go.ChangeAt Go.RowKit
theorem u8_wf {n : Int} (h : (Lit.int .u8 n).wf = true) : 0 ≤ n ∧ n ≤ 255 := by
  have h1 : IntKind.u8.min ≤ n ∧ n ≤ IntKind.u8.max := by simpa [Lit.wf] using h
  have e : IntKind.u8.min = 0 := rfl
  have e2 : IntKind.u8.max = 255 := rfl
  omega
theorem open_u8s {H : Type} {enc : TypeId × Value → H} {W : World} {v : Value} {d : DataW H} {ps : List MemPlace} {rr : Reach} {b0 : Nat} (hval : Value.okWide Tryd.prog W rr b0 39 v)
    (hd : DataW.Trod enc Tryd.prog W 0 (fun _ => true) true 39 v d ps) : ∃ l : List UInt8, Ro W.heap v 1 (rowsU l) := by
  refine open_rows (t := 39) (e := 5) (fun c : UInt8 => [Value.int .u8 (c.toNat : Int)]) Tryd.underlying39 (by kernel_rfl) (by decide) (fun a => ⟨rfl, ?_⟩) hval (fun fuel cs x hx => ?_) hd
  · intro u hu
    rw [List.mem_singleton.1 hu]; rfl
  · obtain ⟨n, rfl, _, hw⟩ := DataW.trod_int Tryd.underlying5 hx
    have := u8_wf hw
    refine ⟨UInt8.ofNat n.toNat, ?_⟩
    rw [UInt8.toNat_ofNat', show ((n.toNat % 2 ^ 8 : Nat) : Int) = n by omega]
end Go.Proofs.YtlminkahdlcikaaDoor

namespace Go.Proofs.YtlminkahdlcikaaDoor.lexSpaces
open Go Go.Fw Go.ChangeShapes Go.ChangeMaps Go.WideShapes Go.ChangeAt Go.RowKit
set_option maxRecDepth 100000

theorem int_wf {n : Int} (h : (Lit.int .i64 n).wf = true) : -9223372036854775808 ≤ n ∧ n ≤ 9223372036854775807 := by
  have h1 : IntKind.i64.min ≤ n ∧ n ≤ 9223372036854775807 := by simpa [Lit.wf] using h
  have e : IntKind.i64.min = -9223372036854775808 := rfl
  omega

/-- WHAT THE WALK GIVES, FOR EVERY ARGUMENT AND EVERY WORLD THAT HOLDS THE TABLE. -/
theorem contract (H : Type) (enc : TypeId × Value → H) (W : World) (base : Nat) (args : Array Value) (ds gs : List (DataW H)) (before : List MemPlace)
    (hval : ∀ (j : Nat) t v, Tryd.f8.params[j]? = some t → args[j]? = some v → Value.okWide Tryd.prog W .any base t v)
    (hW : DataW.Whole enc Tryd.prog Tryd.f8.params.toList Rows.lexSpacesSpec.vars false W args.toList ds gs before) (hL : laidMetH Tryd.prog Rows.lexSpacesRow.laid W) :
    Calls Tryd.prog 8 args W fun e W' => ∃ v, e = .returned v ∧ Rows.lexSpacesSpec.post enc Tryd.prog Tryd.f8 false true false false W args v W' := by
  have hW' := hW
  obtain ⟨p, q, hA0, hV, rfl, hfz, hnd⟩ := hW
  have hA : DataW.TrodAll enc Tryd.prog W 0 (fun _ => true) true Tryd.f8.params.toList args.toList ds p := hA0
  rw [Tryd.params8] at hA hval
  obtain ⟨v0, vs0, d0, ds0, p0, q0, hargs, rfl, rfl, h0, r0⟩ := trodAll_cons hA
  obtain ⟨v1, vs1, d1, ds1, p1, q1, rfl, rfl, rfl, h1, r1⟩ := trodAll_cons r0
  obtain ⟨v2, vs2, d2, ds2, p2, q2, rfl, rfl, rfl, h2, r2⟩ := trodAll_cons r1
  obtain ⟨rfl, rfl, rfl⟩ := trodAll_nil r2
  obtain rfl : args = #[v0, v1, v2] := by cases args; simp_all
  obtain ⟨rfl, rfl⟩ := trodVars_none hV
  obtain ⟨l0, R0⟩ := open_toks (hval 0 23 v0 rfl rfl) h0
  obtain ⟨l1, R1⟩ := open_u8s (hval 1 39 v1 rfl rfl) h1
  obtain ⟨x2, rfl, rfl, rfl, m2⟩ := open_string Tryd.underlying9 (hval 2 9 v2 rfl rfl) h2
  clear hA0
  simp only [List.append_nil] at hW'
  have walk := FnV.below (W := W) (R := fun r => r = .bool true) (lexSpaces_fn l0 l1 x2 R0 R1 (table hL))
  refine walk.mono fun e W' ⟨v, he, hv, hg⟩ => ?_
  subst he hv
  exact ⟨_, rfl, post_true laidOut (by kernel_rfl) Tryd.underlying4 rfl hW' rfl (fun _ _ => ⟨rfl, rfl, rfl⟩) hg⟩

theorem laid_met (os : Os) : laidMet Tryd.prog Rows.lexSpacesRow.laid ((laidWorld os).forCall (fun _ _ => 0) ⟨#[], #[.slice none 0 0, .slice none 0 0, .string ⟨#[]⟩], []⟩).memory :=
  laidMet_of_run' 8 (by kernel_rfl) (by kernel_rfl)
theorem reads (os : Os) {H : Type} (enc : TypeId × Value → H) : ∃ places, DataW.whole enc Tryd.prog ((laidWorld os).forCall (fun _ _ => 0) ⟨#[], #[.slice none 0 0, .slice none 0 0, .string ⟨#[]⟩], []⟩).memory Tryd.f8.params.toList Rows.lexSpacesSpec.vars false (#[.slice none 0 0, .slice none 0 0, .string ⟨#[]⟩] : Array Value).toList 8 = some ([.nil, .nil, .lit (.string [])], [], places) :=
  ⟨[], by kernel_rfl⟩

theorem lifted (os : Os) (started : os.Started) (H : Type) (enc : TypeId × Value → H) (F : Stop.Interp) :
    ReturnsInHanded {} Tryd.checked os 8 .any ((OpenSpec.ofChange Rows.lexSpacesSpec).preRow enc Tryd.prog Tryd.f8 Rows.lexSpacesRow.domain false Rows.lexSpacesRow.laid) (((OpenSpec.ofChange Rows.lexSpacesSpec).at F).post enc Tryd.prog Tryd.f8 false true false false) := by
  obtain ⟨places, hx⟩ := reads os enc
  refine returnsInHanded_of_row (C := Tryd.checked) (s := OpenSpec.ofChange Rows.lexSpacesSpec) own started (by kernel_rfl) Tryd.func8
    (witness_row_at (enc := enc) (C := Tryd.checked) false (laidWorld os) #[.slice none 0 0, .slice none 0 0, .string ⟨#[]⟩] rfl (by kernel_rfl) (by kernel_rfl) (by kernel_rfl)
      (OpenSpec.preRow_of_cond 8 hx (by kernel_rfl) (fun k hk => by cases hk) (by kernel_rfl) (laid_met os))) ?_
  intro W base args ds gs before hval hW _ _ hS hL _ _
  exact contract H enc W base args ds gs before hval hW hL

theorem said : Rows.LexSpacesSaid :=
  OpenClaim.holds_of_cond 8 Tryd.f8 rfl rfl rfl rfl rfl rfl rfl ⟨rfl, rfl, rfl, rfl, rfl⟩ rfl rfl rfl rfl rfl (by kernel_rfl) Tryd.func8 (by kernel_rfl)
    (of_decide_eq_true (by kernel_rfl)) (by unfold Func.isWrapper; first | (rw [if_pos (by decide +kernel)]; kernel_rfl) | (rw [if_neg (by decide +kernel)]; exact ⟨rfl, rfl⟩))
    (fun os started H enc _ F => by rw [OpenClaim.pre_eq_preRow]; exact lifted os started H enc F)

/-- No parameter wants a stand-in; the program's own looks are off. -/
theorem plain (f : FuncId) (fn : Func) (hf : Tryd.pinned.checked.prog.funcNamed "backflush/backflushlaw05.LexSpaces" = some f) (hfn : Tryd.pinned.checked.prog.funcs[f]? = some fn) :
    true = Tryd.pinned.checked.prog.looks [] ∧ ∀ (j : Nat) t, fn.params[j]? = some t → Tryd.pinned.checked.prog.wantsStandIn t = false := by
  obtain rfl : f = 8 := Option.some.inj ((show Tryd.prog.funcNamed "backflush/backflushlaw05.LexSpaces" = some 8 by kernel_rfl).symm.trans hf) |>.symm
  obtain rfl : fn = Tryd.f8 := (Option.some.inj (Tryd.func8.symm.trans hfn)).symm
  refine ⟨by kernel_rfl, fun j t ht => ?_⟩
  rw [Tryd.params8] at ht
  have hm := Array.mem_of_getElem? ht
  simp only [List.mem_toArray, List.mem_cons, List.not_mem_nil, or_false] at hm
  rcases hm with rfl | rfl | rfl
  · exact (show Tryd.prog.wantsStandIn 23 = false by kernel_rfl)
  · exact (show Tryd.prog.wantsStandIn 39 = false by kernel_rfl)
  · exact (show Tryd.prog.wantsStandIn 9 = false by kernel_rfl)

/-- THE CARD -/
theorem card : Rows.LexSpacesCardSaid :=
  Claim7.holds_tied_plain_at .later [] _ _ _ _ said (fun _ h => by cases h) (by kernel_rfl) (fun _ h => by cases h) lexSpaces_row_tie rfl ⟨rfl, rfl⟩ (by kernel_rfl) rfl plain (by kernel_rfl)
end Go.Proofs.YtlminkahdlcikaaDoor.lexSpaces
