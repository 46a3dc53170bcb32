/- Texts of this seat, joined: The symbolic walk: contracts of functions that turn blocks they are handed. The symbolic walk: deferred functions that turn blocks they are handed. The symbolic walk: a nil slice gets a name. The table of types that the walk asks. Written by a program off the translation. Package lex: the scanner's own walks. Package lex: the scanner's numbers and signs. Package lex: classes. Package lex: Lex's deferred function; Lex. Package lex: what Lex computes; plain. Package lex: what Lex computes, over lists of bytes; plain. Package lex: Lex. Package lex: the reference's classes of bytes, names, numbers. Package lex: the reference's Lex. The shelf's closures over this program (printed by lays.py). The library's functions that layer 5 calls, by the shelf's contracts. Package lex: Name, valid. Package lex: valid tokens. -/
import Derived.Test.YtlminkahdlcikaaDoorJoinB
import Derived.Test.YtlminkahdlcikaaDoorChecked
import Derived.Shelf.Lays
import Derived.Shelf.LaysM
import Derived.Shelf.Strings.BuilderX
import Derived.Shelf.Strings.OnBuilder
import Derived.Shelf.Strings.Search3
import Derived.Shelf.Strconv.Itoa3
import Derived.Below
set_option linter.unusedVariables false
set_option linter.unusedSimpArgs false
namespace Go.Fw
open Go
variable {P : Program}
set_option maxHeartbeats 8000000

/-- how a call ends: the value or the panic, the names so far, the handed blocks -/
inductive OutS where
  | ret (v : SV) (n : Nat) (H : SH)
  | pan (ch : List PanicEntry) (n : Nat) (H : SH)
def OutS.heap : OutS → SH
  | .ret _ _ H => H
  | .pan _ _ H => H
def OutS.ok (E : Env) : OutS → Ending → Prop
  | .ret v _ _, e => e = .returned (v.g E)
  | .pan ch _ _, e => e = .panicked ch

/-- what is known when such a call has ended -/
def EndS {X : Type} (k : Nat) (E : Env) (F : Nat → Prop) (h : Array Obj) (J : X → Prop) (out : X → OutS) (e : Ending) (h' : Array Obj) : Prop :=
  ∃ x E', J x ∧ Ag k E E' ∧ Sat E' F (out x).heap h' ∧ Kp F h h' ∧ (out x).ok E' e

/-- a function that is handed the blocks W under the names below k -/
structure FnS (P : Program) (g : FuncId) (k : Nat) (args : List SV) (W : SH) {X : Type} (J : X → Prop) (out : X → OutS) : Prop where
  call : ∀ (E : Env) (F : Nat → Prop) (h : Array Obj), (∀ i, F i → i < h.size) → Sat E F W h → Fn P g (SV.gs E args).toArray h (EndS k E F h J out)

theorem FnS.of {f : FuncId} {fn : Func} {code : Code} {k : Nat} {args : List SV} {W : SH} {X : Type} {J : X → Prop} {out : X → OutS} (hf : P.funcs[f]? = some fn) (hname : (fn.name == "runtime.NumGoroutine") = false) (hb : fn.body = some code) {n : Nat} (hnt : fn.ntmps = n)
    (hargs : Nat.ble args.length n = true)
    (H : ∀ E0 F h w0 cs, argGK 0 args fun l => RunsS ⟨callCtx P f n w0 cs (EndS k E0 F h J out), F, h, E0, k⟩ [] k [.code code] l W) : FnS P f k args W J out :=
  ⟨fun E F h hF S => Fn.ofG E k args W F hf hname hb hnt hargs hF S fun w0 cs => H E F h w0 cs⟩

theorem EndS.mk {X : Type} {k : Nat} {E0 : Env} {F : Nat → Prop} {h0 : Array Obj} {J : X → Prop} {out : X → OutS} (x : X) (hJ : J x) (m : List (Nat × Nat)) {H : SH}
    (hH : SubH (rn m) H (out x).heap) (hm : rnOk k m = true) (hn : nodupH (rn m) (out x).heap [] = true) {e : Env → Ending} (he : ∀ E, (out x).ok (fun b => E (rn m b)) (e E)) :
    ∀ E h, Ag k E0 E → Sat E F H h → Kp F h0 h → EndS k E0 F h0 J out (e E) h := fun E h hA S K =>
  ⟨x, fun b => E (rn m b), hJ, fun b hb => by show E (rn m b) = _; rw [rnOk_of hm b hb]; exact hA b hb, S.ren hH hn, K, he E⟩
theorem okRet {m : List (Nat × Nat)} {o : OutS} {w : SV} {v : SV} {n : Nat} {H : SH} (ho : o = .ret v n H) (hv : w = v.ren (rn m)) (E : Env) : o.ok (fun b => E (rn m b)) (.returned (w.g E)) := by
  subst ho hv
  show Ending.returned _ = .returned _
  rw [SV.g_ren]
theorem okPan {m : List (Nat × Nat)} {o : OutS} {ch : List PanicEntry} {n : Nat} {H : SH} (ho : o = .pan ch n H) (E : Env) : o.ok (fun b => E (rn m b)) (.panicked ch) := by
  subst ho; rfl

/-! the call -/
def nthN : List Nat → Nat → Nat
  | [], _ => 0
  | x :: _, 0 => x
  | _ :: xs, n + 1 => nthN xs n
def bdN (n : Nat) : List Nat → Bool
  | [] => true
  | x :: xs => match Nat.blt x n with
    | true => bdN n xs
    | false => false
theorem bdN_get {n : Nat} : ∀ {l : List Nat} {i : Nat}, bdN n l = true → i < l.length → nthN l i < n
  | [], _, _, h => by simp at h
  | x :: xs, i, hb, h => by
    simp only [bdN] at hb
    cases hx : Nat.blt x n with
    | false => simp [hx] at hb
    | true =>
      simp only [hx] at hb
      match i, h with
      | 0, _ => exact Nat.blt_eq.mp hx
      | i + 1, h => exact bdN_get (l := xs) hb (by simpa using h)
/-- the caller's name of a name of the callee's -/
def nmC (ren : List Nat) (k nx i : Nat) : Nat := match Nat.blt i k with
  | true => nthN ren i
  | false => nx + (i - k)
def ownN (f : Nat → Nat) : SH → List Nat
  | [] => []
  | (b, x) :: W => match wr x with
    | true => f b :: ownN f W
    | false => ownN f W
def restH (ns : List Nat) : SH → SH
  | [] => []
  | (b, x) :: H => match memB b ns with
    | true => restH ns H
    | false => (b, x) :: restH ns H
/-- what may be written, under other names, ahead of the rest -/
def backH (f : Nat → Nat) (R : SH) : SH → SH
  | [] => R
  | (b, x) :: H => match wr x with
    | true => (f b, renB f x) :: backH f R H
    | false => backH f R H

theorem memB_mem {k : Nat} : ∀ {l : List Nat}, memB k l = true → k ∈ l
  | [], h => by cases h
  | j :: js, h => by
    simp only [memB] at h
    cases hb : Nat.beq k j with
    | true => exact List.mem_cons.2 (.inl (Nat.eq_of_beq_eq_true hb))
    | false => simp only [hb] at h; exact List.mem_cons_of_mem _ (memB_mem h)
theorem restH_sub (ns : List Nat) : ∀ H : SH, (restH ns H).Sublist H
  | [] => List.Sublist.refl _
  | (b, x) :: H => by
    simp only [restH]
    cases memB b ns with
    | true => exact (restH_sub ns H).cons _
    | false => exact (restH_sub ns H).cons_cons _
theorem restH_ne {ns : List Nat} : ∀ {H : SH} {p : Nat × Blk}, p ∈ restH ns H → p.1 ∉ ns
  | [], _, h => by cases h
  | (b, x) :: H, p, h => by
    simp only [restH] at h
    cases hb : memB b ns with
    | true => simp only [hb] at h; exact restH_ne h
    | false =>
      simp only [hb] at h
      rcases List.mem_cons.1 h with rfl | h
      · exact memB_iff hb
      · exact restH_ne h
theorem ownN_mem {f : Nat → Nat} : ∀ {W : SH} {p : Nat × Blk}, p ∈ W → wr p.2 = true → f p.1 ∈ ownN f W
  | [], _, h, _ => by cases h
  | (b, x) :: W, p, h, hw => by
    simp only [ownN]
    rcases List.mem_cons.1 h with rfl | h
    · simp only [hw]; exact List.mem_cons_self ..
    · cases wr x with
      | true => exact List.mem_cons_of_mem _ (ownN_mem h hw)
      | false => exact ownN_mem h hw
theorem backH_mem {f : Nat → Nat} {R : SH} : ∀ {H : SH} {p : Nat × Blk}, p ∈ backH f R H → p ∈ R ∨ ∃ q ∈ H, wr q.2 = true ∧ p = (f q.1, renB f q.2)
  | [], _, h => .inl h
  | (b, x) :: H, p, h => by
    simp only [backH] at h
    cases hw : wr x with
    | true =>
      simp only [hw] at h
      rcases List.mem_cons.1 h with rfl | h
      · exact .inr ⟨(b, x), List.mem_cons_self .., hw, rfl⟩
      · exact (backH_mem h).imp id fun ⟨q, h1, h2, h3⟩ => ⟨q, List.mem_cons_of_mem _ h1, h2, h3⟩
    | false =>
      simp only [hw] at h
      exact (backH_mem h).imp id fun ⟨q, h1, h2, h3⟩ => ⟨q, List.mem_cons_of_mem _ h1, h2, h3⟩
theorem backH_pw {E : Env} {f : Nat → Nat} {R : SH} (hR : R.Pairwise (Apart E)) : ∀ {H : SH}, H.Pairwise (Apart (fun b => E (f b))) → (∀ p ∈ H, wr p.2 = true → ∀ q ∈ R, Apart E (f p.1, renB f p.2) q) → (backH f R H).Pairwise (Apart E)
  | [], _, _ => hR
  | (b, x) :: H, hp, hx => by
    obtain ⟨h1, h2⟩ := List.pairwise_cons.1 hp
    have ih := backH_pw hR h2 fun p hp => hx p (List.mem_cons_of_mem _ hp)
    simp only [backH]
    cases hw : wr x with
    | false => exact ih
    | true =>
      refine List.pairwise_cons.2 ⟨fun q hq => ?_, ih⟩
      rcases backH_mem hq with hq | ⟨r, hr, hwr, rfl⟩
      · exact hx (b, x) (List.mem_cons_self ..) hw q hq
      · intro hp1 hp2 g e1 e2
        exact h1 r hr hw hwr g e1 e2

/-- what the callee is not to turn: what was kept, and the blocks that it is not handed -/
def keptF (F : Nat → Prop) (E : Env) (R : SH) : Nat → Prop := fun g => F g ∨ ∃ q ∈ R, wr q.2 = true ∧ ownB (E q.1) = some g

theorem CellsAt.mono {F F' : Nat → Prop} {h : Array Obj} {a : Option Addr} {rows : List (List Value)} (H : CellsAt F h a rows) (hF : ∀ g, F g → F' g) : CellsAt F' h a rows :=
  H.imp id fun ⟨g, o, h1, h2, h3⟩ => ⟨g, o, h1, hF g h2, h3⟩

theorem Sat.hand {E : Env} {F : Nat → Prop} {H W : SH} {h : Array Obj} (f : Nat → Nat) (S : Sat E F H h) (hH : SubH f H W) (hn : nodupH f W [] = true) :
    Sat (fun b => E (f b)) (keptF F E (restH (ownN f W) H)) W h := by
  have S1 := S.ren hH hn
  refine ⟨fun p hp => ?_, S1.apart⟩
  have h1 := S1.ok p hp
  have hpH := SubH.mem hH p hp
  have hno : wr p.2 = true → ∀ g, ownB (E (f p.1)) = some g → ¬ F g → ¬ keptF F E (restH (ownN f W) H) g := by
    intro hw g hg hF hk
    rcases hk with hk | ⟨q, hq, hwq, hgq⟩
    · exact hF hk
    · have hne : f p.1 ≠ q.1 := fun e => restH_ne hq (by rw [← e]; exact ownN_mem hp hw)
      exact apart_of S.apart hpH ((restH_sub _ _).subset hq) hne (by rw [wr_ren]; exact hw) hwq g hg hgq
  obtain ⟨b, x⟩ := p
  cases x with
  | cells t cs =>
    obtain ⟨g, e1, e2, e3⟩ := h1
    exact ⟨g, e1, e2, hno rfl g (by show ownB (E (f b)) = _; rw [show E (f b) = _ from e1]; rfl) e3⟩
  | own e sz rows =>
    obtain ⟨e1, e2, e3⟩ := h1
    exact ⟨e1, e2, fun g hg => hno rfl g hg (e3 g hg)⟩
  | ro sz rows =>
    obtain ⟨e1, e0, a, cap, e2, e3⟩ := h1
    exact ⟨e1, e0, a, cap, e2, e3.mono fun g hg => .inl hg⟩

theorem Sat.takeBack {k nx : Nat} {E E' : Env} {F : Nat → Prop} {H W H' : SH} {h h' h0 : Array Obj} {ren : List Nat} (S : Sat E F H h) (K : Kp F h0 h) (hlen : ren.length = k) (hren : bdN nx ren = true) (hbd : bdH nx H = true)
    (A : Ag k (fun b => E (nthN ren b)) E') (S' : Sat E' (keptF F E (restH (ownN (nthN ren) W) H)) H' h') (K' : Kp (keptF F E (restH (ownN (nthN ren) W) H)) h h') :
    ∃ E'' : Env, Ag nx E E'' ∧ (∀ x : SV, (x.ren (nmC ren k nx)).g E'' = x.g E') ∧ Sat E'' F (backH (nmC ren k nx) (restH (ownN (nthN ren) W) H) H') h' ∧ Kp F h0 h' := by
  refine ⟨fun b => if b < nx then E b else E' (k + (b - nx)), fun b hb => by simp [hb], ?_⟩
  have hc : (fun i => (fun b => if b < nx then E b else E' (k + (b - nx))) (nmC ren k nx i)) = E' := by
    funext i
    unfold nmC
    cases hi : Nat.blt i k with
    | true =>
      have hi' : i < k := Nat.blt_eq.mp hi
      have := bdN_get hren (by rw [hlen]; exact hi')
      simp only [this, if_true]
      exact (A i hi').symm
    | false =>
      have hi' : ¬ i < k := fun hc => by have := Nat.blt_eq.mpr hc; rw [hi] at this; cases this
      have : ¬ nx + (i - k) < nx := by omega
      simp only [this, if_false]
      rw [show k + (nx + (i - k) - nx) = i by omega]
  have Ag1 : Ag nx E (fun b => if b < nx then E b else E' (k + (b - nx))) := fun b hb => by simp [hb]
  generalize (fun b => if b < nx then E b else E' (k + (b - nx))) = E'' at hc Ag1
  refine ⟨fun x => by rw [SV.g_ren, hc], ⟨fun p hp => ?_, ?_⟩, K.trans ⟨K'.size, fun i hi => K'.same i (.inl hi), fun i hi => K'.lt i (.inl hi)⟩⟩
  · rcases backH_mem hp with hp | ⟨q, hq, hw, rfl⟩
    · have hpH := (restH_sub (ownN (nthN ren) W) H).subset hp
      have h1 := S.ok p hpH
      have h2 : p.2.ok E F h' (E p.1) := Blk.keep h1 (fun hw g hg => K'.same g (.inr ⟨p, hp, hw, hg⟩)) fun i hi => K'.same i (.inl hi)
      obtain ⟨b1, b2⟩ := bdH_mem hbd hpH
      rw [Ag1 p.1 b1]
      exact Blk.ok_ag Ag1 b2 h2
    · have h1 := S'.ok q hq
      show (renB (nmC ren k nx) q.2).ok E'' F h' (E'' (nmC ren k nx q.1))
      rw [ok_ren, hc, show E'' (nmC ren k nx q.1) = E' q.1 from congrFun hc q.1]
      obtain ⟨b, x⟩ := q
      cases x with
      | cells t cs =>
        obtain ⟨g, e1, e2, e3⟩ := h1
        exact ⟨g, e1, e2, fun hF => e3 (.inl hF)⟩
      | own e sz rows =>
        obtain ⟨e1, e2, e3⟩ := h1
        exact ⟨e1, e2, fun g hg hF => e3 g hg (.inl hF)⟩
      | ro => cases hw
  · refine backH_pw ?_ (by rw [hc]; exact S'.apart) fun p hp hw q hq => ?_
    · exact List.Pairwise.imp_of_mem (fun {a b} ha hb hA => by
        intro hw1 hw2 g e1 e2
        have ha' := (restH_sub (ownN (nthN ren) W) H).subset ha
        have hb' := (restH_sub (ownN (nthN ren) W) H).subset hb
        rw [Ag1 _ (bdH_mem hbd ha').1] at e1
        rw [Ag1 _ (bdH_mem hbd hb').1] at e2
        exact hA hw1 hw2 g e1 e2) (S.apart.sublist (restH_sub _ _))
    · intro _ hwq g e1 e2
      have hqH := (restH_sub (ownN (nthN ren) W) H).subset hq
      rw [Ag1 _ (bdH_mem hbd hqH).1] at e2
      have e1 : ownB (E' p.1) = some g := by rw [← congrFun hc p.1]; exact e1
      exact (Blk.lt (S'.ok p hp) hw e1).2 (.inr ⟨q, hq, hwq, e2⟩)

section
variable {s : SCx P} {ds : List SDef} {nx : Nat} {kk : List SI} {l : SFr} {H : SH}
variable {all : Array Oper} {rest : List Oper} {o : Oper} {cl : Call} {x : Operand} {g : FuncId} {first captured vs : List SV}

/-- behind such a call -/
def afterN (s : SCx P) (ds : List SDef) (k nx : Nat) (ren : List Nat) (R : SH) (dst : Option Nat) (l : SFr) (st : List SI) : OutS → Prop
  | .ret v n H' => updK l dst (v.ren (nmC ren k nx)) fun l => RunsS s ds (nx + (n - k)) st l (backH (nmC ren k nx) R H')
  | .pan ch n H' => UnwS s ds (.panicking ch) (nx + (n - k)) l (backH (nmC ren k nx) R H')

theorem RunsS.callN {k : Nat} {args : List SV} {W : SH} {X : Type} {J : X → Prop} {out : X → OutS} (C : FnS P g k args W J out) (ren : List Nat)
    (hr : ∀ y, J y → afterN s ds k nx ren (restH (ownN (nthN ren) W) H) o.dst l (.ops all rest :: kk) (out y))
    (hH : SubH (nthN ren) H W) (ha : SV.rens (nthN ren) args = first ++ (vs ++ captured))
    (hlen : ren.length = k := by rfl) (hren : bdN nx ren = true := by rfl) (hfr : fresh s.n0 nx l H ds = true := by rfl) (hn : nodupH (nthN ren) W [] = true := by rfl)
    (hop : o.op = .call cl := by rfl) (hcal : cl.callee = .value x := by rfl) (hx : calleeS l x = some (g, first, captured) := by rfl) (hargs : evAll l cl.args.toList = some vs := by rfl)
    (hgd : guardS l all o = some true := by rfl) (hdn : dstOk s.c.n o.dst = true := by rfl) : RunsS s ds nx (.ops all (o :: rest) :: kk) l H := by
  obtain ⟨f1, f2, f3, f4⟩ := fresh_of hfr
  refine RunsS.callE (R := fun E h => EndS k (fun b => E (nthN ren b)) (keptF s.F E (restH (ownN (nthN ren) W) H)) h J out) ?_ ?_ ?_ ?_ hop hcal hx hargs hgd hdn
  · intro E h hA S K
    have := C.call (fun b => E (nthN ren b)) (keptF s.F E (restH (ownN (nthN ren) W) H)) h (fun i hi => ?_) (S.hand (nthN ren) hH hn)
    · rw [← ha, SV.gs_ren]; exact this
    · rcases hi with hi | ⟨q, hq, hw, hg⟩
      · have := K.lt i hi; have := K.size; omega
      · exact (Blk.lt (S.ok q ((restH_sub _ _).subset hq)) hw hg).1
  · rintro E h h' ⟨y, E', _, _, _, _, he⟩
    cases ho : out y <;> rw [ho] at he <;> cases he
  · rintro E h hA S K ch h' ⟨y, E', hJ, hA', S', K', he⟩
    have hr := hr y hJ
    cases ho : out y with
    | ret v n H' => rw [ho] at he; cases he
    | pan ch' n H' =>
      rw [ho] at he hr S'
      cases he
      obtain ⟨E'', a1, _, a3, a4⟩ := S.takeBack K hlen hren f3 hA' S' K'
      have := hr.run E'' h' (hA.trans (a1.mono f1)) a3 a4
      rw [gD_ag a1 ds f4, gF_ag a1 l f2] at this
      exact this
  · rintro E h hA S K v h' ⟨y, E', hJ, hA', S', K', he⟩
    have hr := hr y hJ
    cases ho : out y with
    | pan ch n H' => rw [ho] at he; cases he
    | ret v' n H' =>
      rw [ho] at he hr S'
      cases he
      obtain ⟨E'', a1, a2, a3, a4⟩ := S.takeBack K hlen hren f3 hA' S' K'
      simp only [afterN, updK_eq] at hr
      have := hr.run E'' h' (hA.trans (a1.mono f1)) a3 a4
      rw [gD_ag a1 ds f4, gF_updS, gF_ag a1 l f2, a2] at this
      exact this
end

/-- a load at an index that is no literal -/
theorem evO_load {T : Tab P} {l : SFr} {H : SH} {nx : Nat} {t t' : TypeId} {x : Operand} {b off : Nat} {cs : List SV} {v : SV} (hn : nth cs off = some v) (hx : evS l x = some (.ptr b off)) (hb : lookH H b = some (.cells t' cs)) (hs : scalarB T t = true) :
    evO T l H nx (.load t x) = .val v := by
  simp only [evO, hx, hb, hs, hn]

theorem EffP.callE {n : Nat} {l : Fr} {h : Array Obj} {o : Oper} {cl : Call} {x : Operand} {g : FuncId} {first captured : Array Value} {vs : List Value} {R : Ending → Array Obj → Prop}
    (H : Fn P g (first ++ vs.toArray ++ captured) h R) (hno : ∀ h', ¬ R .outgrown h')
    (hop : o.op = .call cl := by rfl) (hcal : cl.callee = .value x := by rfl)
    (hx : ev l x = some (.func (.func g) first captured) := by rfl) (hargs : allEv l cl.args.toList = some vs := by rfl) :
    EffP P n l h o (fun v h' => R (.returned v) h') (fun ch' h' => R (.panicked ch') h') := by
  intro a w ha hh next Q hn hp
  unfold Oper.wp
  rw [run_call hop hcal ha hx hargs H.enters w, Oper.upon_enter]
  refine (H.calls w hh).mono fun e w' ⟨hlk, he⟩ => ?_
  cases e with
  | returned v => exact hn v w' hlk he
  | panicked ch => exact hp ch w' hlk he
  | outgrown => exact absurd he (hno _)

section
variable {s : SCx P} {ds : List SDef} {all : List Oper} {st : List SI} {t : Tr} {taken : List Nat} {ps : List (Nat × SPin)} {nx kk : Nat} {keep : List Nat} {l : SFr} {H : SH} {o : Oper} {cl : Call} {x : Operand} {g : FuncId} {first captured vs : List SV}

def afterNR (s : SCx P) (ds : List SDef) (all : List Oper) (st : List SI) (t : Tr) (taken : List Nat) (ps : List (Nat × SPin)) (keep : List Nat) (k nx : Nat) (ren : List Nat) (R : SH) (dst : Option Nat) (l : SFr) : OutS → Prop
  | .ret v n H' => pinsIn (backH (nmC ren k nx) R H') keep ps ∧ updK l dst (v.ren (nmC ren k nx)) fun l => RunsR s ds all st t taken ps (nx + (n - k)) l (backH (nmC ren k nx) R H')
  | .pan ch n H' => UnwS s ds (.panicking ch) (nx + (n - k)) (cutS (dsts all) l) (backH (nmC ren k nx) R H')

theorem EffR.callN {k : Nat} {args : List SV} {W : SH} {X : Type} {J : X → Prop} {out : X → OutS} (C : FnS P g k args W J out) (ren : List Nat)
    (hr : ∀ y, J y → afterNR s ds all st t taken ps keep k nx ren (restH (ownN (nthN ren) W) H) o.dst l (out y))
    (hH : SubH (nthN ren) H W) (ha : SV.rens (nthN ren) args = first ++ (vs ++ captured))
    (hlen : ren.length = k := by rfl) (hren : bdN nx ren = true := by rfl) (hfr : fresh s.n0 nx l H ds = true := by rfl) (hn : nodupH (nthN ren) W [] = true := by rfl) (hps : bdPs nx ps = true := by rfl)
    (ho : all[kk]? = some o := by rfl) (hop : o.op = .call cl := by rfl) (hcal : cl.callee = .value x := by rfl) (hx : calleeS l x = some (g, first, captured) := by rfl) (hargs : evAll l cl.args.toList = some vs := by rfl)
    (hgd : guardS l all.toArray o = some true := by rfl) (hdn : dstOk s.c.n o.dst = true := by rfl) : EffR s ds all st kk keep t taken ps nx l H := by
  obtain ⟨f1, f2, f3, f4⟩ := fresh_of hfr
  refine EffR.of ho (floatO_call hop hcal) hdn hgd (V := fun E h v h' => EndS k (fun b => E (nthN ren b)) (keptF s.F E (restH (ownN (nthN ren) W) H)) h J out (.returned v) h')
    (PN := fun E h ch h' => EndS k (fun b => E (nthN ren b)) (keptF s.F E (restH (ownN (nthN ren) W) H)) h J out (.panicked ch) h') ?_ ?_ ?_
  · intro E h hA S K
    have := C.call (fun b => E (nthN ren b)) (keptF s.F E (restH (ownN (nthN ren) W) H)) h (fun i hi => by
      rcases hi with hi | ⟨q, hq, hw, hg⟩
      · have := K.lt i hi; have := K.size; omega
      · exact (Blk.lt (S.ok q ((restH_sub _ _).subset hq)) hw hg).1) (S.hand (nthN ren) hH hn)
    rw [← SV.gs_ren, ha] at this
    refine EffP.callE (first := (SV.gs E first).toArray) (captured := (SV.gs E captured).toArray) (vs := SV.gs E vs) (by rw [args_eq]; exact this) ?_ hop hcal (calleeS_of hx) (allEv_gF hargs)
    rintro h' ⟨y, E', _, _, _, _, he⟩
    cases ho : out y <;> rw [ho] at he <;> cases he
  · rintro E h hA S K ch h' ⟨y, E', hJ, hA', S', K', he⟩
    have hr := hr y hJ
    cases ho : out y with
    | ret v n H' => rw [ho] at he; cases he
    | pan ch' n H' =>
      rw [ho] at he hr S'
      cases he
      obtain ⟨E'', a1, _, a3, a4⟩ := S.takeBack K hlen hren f3 hA' S' K'
      have := hr.run E'' h' (hA.trans (a1.mono f1)) a3 a4
      rw [gD_ag a1 ds f4, gF_cutS, gF_ag a1 l f2] at this
      exact this
  · rintro E h hA S K v h' ⟨y, E', hJ, hA', S', K', he⟩
    have hr := hr y hJ
    cases ho : out y with
    | pan ch n H' => rw [ho] at he; cases he
    | ret v' n H' =>
      rw [ho] at he hr S'
      cases he
      obtain ⟨E'', a1, a2, a3, a4⟩ := S.takeBack K hlen hren f3 hA' S' K'
      simp only [afterNR, updK_eq] at hr
      exact ⟨E'', _, _, _, a1, f1, hps, gD_ag a1 ds f4, by rw [gF_updS, gF_ag a1 l f2, a2], a3, a4, hr.1, hr.2⟩
end
end Go.Fw

namespace Go.Fw
open Go
variable {P : Program}
set_option maxHeartbeats 8000000

structure OutD where
  u : FrameMode
  n : Nat
  H : SH
def EndD {X : Type} (k : Nat) (E : Env) (F : Nat → Prop) (h : Array Obj) (J : X → Prop) (out : X → OutD) (e : Ending) (u' : FrameMode) (h' : Array Obj) : Prop :=
  ∃ x E', J x ∧ Ag k E E' ∧ Sat E' F (out x).H h' ∧ Kp F h h' ∧ (∃ v, e = .returned v) ∧ u' = (out x).u

/-- a deferred function over a frame in mode u -/
structure FnDS (P : Program) (g : FuncId) (k : Nat) (args : List SV) (W : SH) (u : FrameMode) {X : Type} (J : X → Prop) (out : X → OutD) : Prop where
  call : ∀ (E : Env) (F : Nat → Prop) (h : Array Obj), (∀ i, F i → i < h.size) → Sat E F W h → FnD P g (SV.gs E args).toArray u h (EndD k E F h J out)

theorem FnDS.of {f : FuncId} {fn : Func} {code : Code} {k : Nat} {args : List SV} {W : SH} {u : FrameMode} {X : Type} {J : X → Prop} {out : X → OutD} (hf : P.funcs[f]? = some fn) (hname : (fn.name == "runtime.NumGoroutine") = false) (hb : fn.body = some code) {n : Nat} (hnt : fn.ntmps = n)
    (hargs : Nat.ble args.length n = true)
    (H : ∀ E0 F h w0 c0 cs, argGK 0 args fun l => RunsS ⟨defCtx P f n w0 c0 cs u (EndD k E0 F h J out), F, h, E0, k⟩ [] k [.code code] l W) : FnDS P f k args W u J out :=
  ⟨fun E F h hF S => FnD.of hf hname hb hnt (by rw [gs_len]; exact hargs) fun w0 c0 cs => by
    have H := H E F h w0 c0 cs
    rw [argGK_eq] at H
    have := H.run E h (fun _ _ => rfl) S ⟨Nat.le_refl _, fun _ _ => rfl, hF⟩
    rw [gF_argG] at this
    exact this⟩

section
variable {s : SCx P} {ds : List SDef} {nx : Nat} {l : SFr} {H : SH} {d : SDef} {u : FrameMode}

theorem UnwS.deferN {k : Nat} {args : List SV} {W : SH} {X : Type} {J : X → Prop} {out : X → OutD} (C : FnDS P d.g k args W u J out) (ren : List Nat)
    (hr : ∀ y, J y → UnwS s ds (settle (out y).u) (nx + ((out y).n - k)) l (backH (nmC ren k nx) (restH (ownN (nthN ren) W) H) (out y).H))
    (hH : SubH (nthN ren) H W) (ha : SV.rens (nthN ren) args = d.args ++ d.captured) (hu : u ≠ .run)
    (hlen : ren.length = k := by rfl) (hren : bdN nx ren = true := by rfl) (hfr : fresh s.n0 nx l H ds = true := by rfl) (hn : nodupH (nthN ren) W [] = true := by rfl) : UnwS s (d :: ds) u nx l H := .mk fun E h hA S K => by
  obtain ⟨f1, f2, f3, f4⟩ := fresh_of hfr
  have C1 := C.call (fun b => E (nthN ren b)) (keptF s.F E (restH (ownN (nthN ren) W) H)) h (fun i hi => by
    rcases hi with hi | ⟨q, hq, hw, hg⟩
    · have := K.lt i hi; have := K.size; omega
    · exact (Blk.lt (S.ok q ((restH_sub _ _).subset hq)) hw hg).1) (S.hand (nthN ren) hH hn)
  rw [← SV.gs_ren, ha, gs_app] at C1
  refine Unw.defer (args := (SV.gs E d.args).toArray) (captured := (SV.gs E d.captured).toArray) (R := EndD k (fun b => E (nthN ren b)) (keptF s.F E (restH (ownN (nthN ren) W) H)) h J out) (by rw [show (SV.gs E d.args).toArray ++ (SV.gs E d.captured).toArray = (SV.gs E d.args ++ SV.gs E d.captured).toArray by apply Array.ext'; simp]; exact C1) hu ?_ ?_ ?_
  · rintro u' h' ⟨_, _, _, _, _, _, ⟨v, e⟩, _⟩; cases e
  · rintro v u' h' ⟨y, E', hJ, hA', S', K', _, rfl⟩
    obtain ⟨E'', a1, _, a3, a4⟩ := S.takeBack K hlen hren f3 hA' S' K'
    have := (hr y hJ).run E'' h' (hA.trans (a1.mono f1)) a3 a4
    rw [gD_ag a1 ds f4, gF_ag a1 l f2] at this
    exact this
  · rintro ch u' h' ⟨_, _, _, _, _, _, ⟨v, e⟩, _⟩; cases e
end

section
variable {f n nx : Nat} {w0 : World} {c0 : Frame} {cs : List Frame} {R : Ending → FrameMode → Array Obj → Prop} {F : Nat → Prop} {h0 : Array Obj} {E0 : Env} {n0 : Nat} {k : List SI} {l : SFr} {H : SH} {ds : List SDef} {u : FrameMode}

theorem UnwS.retD (T : Tab P) {fn : Func} (hf : P.funcs[f]? = some fn) (hx : fn.results.toList = [])
    (hR : ∀ E h, Ag n0 E0 E → Sat E F H h → Kp F h0 h → R (.returned (tup [])) u h) : UnwS ⟨defCtx P f n w0 c0 cs u R, F, h0, E0, n0⟩ [] .returning nx l H := .mk fun E h hA S K =>
  Unw.retD T hf (vs := []) (by rw [hx]; trivial) (hR E h hA S K)

theorem EndD.mk {X : Type} {J : X → Prop} {out : X → OutD} (x : X) (hJ : J x) (m : List (Nat × Nat)) (hH : SubH (rn m) H (out x).H) (hm : rnOk n0 m = true) (hn : nodupH (rn m) (out x).H [] = true) (hu : u = (out x).u) :
    ∀ E h, Ag n0 E0 E → Sat E F H h → Kp F h0 h → EndD n0 E0 F h0 J out (.returned (tup [])) u h := fun E h hA S K =>
  ⟨x, fun b => E (rn m b), hJ, fun b hb => by show E (rn m b) = _; rw [rnOk_of hm b hb]; exact hA b hb, S.ren hH hn, K, ⟨_, rfl⟩, hu⟩

theorem RunsS.recoverP {all : Array Oper} {rest : List Oper} {o : Oper} {cl : Call} {v : Value} {older : List PanicEntry}
    (hr : updK l o.dst (.v v) fun l => RunsS ⟨defCtx P f n w0 c0 cs (.panicking ({ v, recovered := true } :: older)) R, F, h0, E0, n0⟩ ds nx (.ops all rest :: k) l H)
    (hop : o.op = .call cl := by rfl) (hcal : cl.callee = .builtin .recover := by rfl) (hgd : guardS l all o = some true := by rfl) (hdn : dstOk n o.dst = true := by rfl) :
    RunsS ⟨defCtx P f n w0 c0 cs (.panicking ({ v, recovered := false } :: older)) R, F, h0, E0, n0⟩ ds nx (.ops all (o :: rest) :: k) l H := .mk fun E h hA S K => by
  rw [updK_eq] at hr
  have := hr.run E h hA S K
  rw [gF_updS] at this
  exact Runs.recoverP this hop hcal (guardS_of hgd) hdn
theorem RunsS.recoverN {all : Array Oper} {rest : List Oper} {o : Oper} {cl : Call}
    (hr : updK l o.dst (.v .nilIface) fun l => RunsS ⟨defCtx P f n w0 c0 cs .returning R, F, h0, E0, n0⟩ ds nx (.ops all rest :: k) l H)
    (hop : o.op = .call cl := by rfl) (hcal : cl.callee = .builtin .recover := by rfl) (hgd : guardS l all o = some true := by rfl) (hdn : dstOk n o.dst = true := by rfl) :
    RunsS ⟨defCtx P f n w0 c0 cs .returning R, F, h0, E0, n0⟩ ds nx (.ops all (o :: rest) :: k) l H := .mk fun E h hA S K => by
  rw [updK_eq] at hr
  have := hr.run E h hA S K
  rw [gF_updS] at this
  exact Runs.recoverN this hop hcal (guardS_of hgd) hdn
end

/-! a loop, round by round -/
section
variable {s : SCx P} {ds : List SDef} {nx : Nat} {k : List SI} {l : SFr} {H : SH} {x : Code}
theorem RunsS.loopU (hr : RunsS s ds nx (.code x :: .inLoop x :: k) l H) : RunsS s ds nx (.code (.loop x) :: k) l H := RunsS.lift1 (fun _ _ => Runs.loop1) hr
theorem RunsS.againU (hr : RunsS s ds nx (.code x :: .inLoop x :: k) l H) : RunsS s ds nx (.inLoop x :: k) l H := RunsS.lift1 (fun _ _ => Runs.inLoop) hr
end

/-! an array's value at an index -/
theorem run_indexV {t e n : Nat} {k k' : IntKind} {m : Int} {cs : Array Value} {v : Value} (h1 : P.underlying t = some (.array n e)) (h2 : (P.info? e).map (·.size) = some 1) (h3 : P.underlying e = some (.int k')) (hm : 0 ≤ m ∧ m < n) (hv : cs[m.toNat]? = some v) (w : World) :
    (Instr.index t (.agg cs) (.int k m)).run P w = .ok v w := by
  simp [Instr.index, asIntOf, run_underlying h1, hm, run_sizeOf h2, part, isAgg, run_underlying h3, hv]
section
variable {s : SCx P} {ds : List SDef} {nx : Nat} {st : List SI} {l : SFr} {H : SH} {all : Array Oper} {rest : List Oper} {o : Oper} {x i : Operand}
theorem RunsS.indexV (T : Tab P) {t e n : Nat} {k k' : IntKind} {m : Int} {cs : List SV} {z : SV} (hr : updK l o.dst z fun l => RunsS s ds nx (.ops all rest :: st) l H) (hm : 0 ≤ m ∧ m < n)
    (ho : o.op = .index t x i := by rfl) (hx : evS l x = some (.agg cs) := by rfl) (hi : evS l i = some (.v (.int k m)) := by rfl) (hu : lookU T.und t = some (.array n e 1) := by rfl) (he : lookU T.und e = some (.int k') := by rfl) (hz : nth cs m.toNat = some z := by rfl)
    (hgd : guardS l all o = some true := by rfl) (hdn : dstOk s.c.n o.dst = true := by rfl) : RunsS s ds nx (.ops all (o :: rest) :: st) l H := by
  rw [updK_eq] at hr
  refine RunsS.effK (EffK.of_plain fun E h S K a w ha => ?_) (fun E => guardS_of hgd) hdn (by unfold noDefer1; rw [ho]) hr
  obtain ⟨h1, h2⟩ := T.okU.look hu
  have h3 := T.okU.look he
  have e1 := ha.ev (ev_gF (E := E) hx)
  have e2 := ha.ev (ev_gF (E := E) hi)
  simp only [SV.g] at e1 e2
  rw [nth_eq] at hz
  simp [execOp, ho, e1, e2, run_indexV h1 h2 h3 hm (show (SV.gs E cs).toArray[m.toNat]? = some (z.g E) by simp [gs_get, hz]) w]
end

/-! any effect whose value names nothing and that keeps the heap -/
section
variable {s : SCx P} {ds : List SDef} {nx : Nat} {st : List SI} {l : SFr} {H : SH} {all : Array Oper} {rest : List Oper} {o : Oper}
theorem RunsS.effV {X : Value} (H1 : ∀ E h, Eff P s.c.n (gF E l) h o (fun v h' => v = X ∧ h' = h)) (hr : updK l o.dst (.v X) fun l => RunsS s ds nx (.ops all rest :: st) l H)
    (hgd : guardS l all o = some true := by rfl) (hdn : dstOk s.c.n o.dst = true := by rfl) (hnd : noDefer1 o = true := by rfl) : RunsS s ds nx (.ops all (o :: rest) :: st) l H := by
  rw [updK_eq] at hr
  exact RunsS.effL (x := .v X) (H' := H) (fun E h S K => Eff.toS S K (H1 E h)) (fun E => guardS_of hgd) hdn hnd hr
theorem eff_neNil0 {n : Nat} {l : Fr} {h : Array Obj} {o : Oper} {t yt : TypeId} {x : Operand} {ms : Array (String × TypeId)} (ht : P.underlying t = some (.interface ms))
    (hop : o.op = .binOp .neq t x (.const .nilIface) yt := by rfl) (hx : ev l x = some .nilIface := by rfl) : Eff P n l h o (fun v' h' => v' = .bool false ∧ h' = h) := by
  refine Eff.of_val1 fun a w ha hh => ⟨w, ?_, Like.refl w, hh⟩
  have e1 : (Op.equalIn 10000 t .nilIface .nilIface).run P w = .ok true w := by
    obtain ⟨m, hm⟩ : ∃ m, 10000 = m + 1 := ⟨9999, rfl⟩
    rw [hm]
    simp [Op.equalIn, run_underlying ht]
  have hc : a.eval (.const .nilIface) = .nilIface := rfl
  simp [execOp, hop, ha.ev hx, hc, eqGuard, binOp, Op.equal, Op.maxDepth, e1]
end
end Go.Fw

namespace Go.Fw
open Go
variable {P : Program}
set_option maxHeartbeats 8000000

mutual
/-- the name n is the value v -/
def SV.inst (n : Nat) (v : Value) : SV → SV
  | .v x => .v x
  | .ptr b off => match Nat.beq b n with
    | true => .v (.pointer (some ⟨blkOf v, off, none⟩))
    | false => .ptr b off
  | .buf b => match Nat.beq b n with
    | true => .v v
    | false => .buf b
  | .row b i off sz => match Nat.beq b n with
    | true => .v (.pointer (some ⟨blkOf v, offOf v + i.toNat * sz + off, none⟩))
    | false => .row b i off sz
  | .agg cs => .agg (SV.insts n v cs)
  | .tup vs => .tup (SV.insts n v vs)
  | .ifc t x => .ifc t (SV.inst n v x)
  | .fn g a b => .fn g (SV.insts n v a) (SV.insts n v b)
def SV.insts (n : Nat) (v : Value) : List SV → List SV
  | [] => []
  | x :: xs => SV.inst n v x :: SV.insts n v xs
end
theorem push_beq (E : Env) (n : Nat) (v : Value) (b : Nat) : push E n v b = match Nat.beq b n with
  | true => v
  | false => E b := rfl
mutual
theorem SV.g_inst (n : Nat) (v : Value) (E : Env) : ∀ x : SV, (x.inst n v).g E = x.g (push E n v)
  | .v _ => rfl
  | .ptr b off => by
    simp only [SV.inst, SV.g, push_beq]
    cases Nat.beq b n <;> rfl
  | .buf b => by
    simp only [SV.inst, SV.g, push_beq]
    cases Nat.beq b n <;> rfl
  | .row b i off sz => by
    simp only [SV.inst, SV.g, push_beq]
    cases Nat.beq b n <;> rfl
  | .agg cs => by simp only [SV.inst, SV.g, SV.gs_inst n v E cs]
  | .tup vs => by simp only [SV.inst, SV.g, SV.gs_inst n v E vs]
  | .ifc t x => by simp only [SV.inst, SV.g, SV.g_inst n v E x]
  | .fn g a b => by simp only [SV.inst, SV.g, SV.gs_inst n v E a, SV.gs_inst n v E b]
theorem SV.gs_inst (n : Nat) (v : Value) (E : Env) : ∀ xs : List SV, SV.gs E (SV.insts n v xs) = SV.gs (push E n v) xs
  | [] => rfl
  | x :: xs => by simp only [SV.insts, SV.gs, SV.g_inst n v E x, SV.gs_inst n v E xs]
end
def instF (n : Nat) (v : Value) : SFr → SFr
  | [] => []
  | (s, x) :: l => (s, x.inst n v) :: instF n v l
theorem gF_inst (n : Nat) (v : Value) (E : Env) : ∀ l : SFr, gF E (instF n v l) = gF (push E n v) l
  | [] => rfl
  | (s, x) :: l => by simp only [instF, gF, SV.g_inst, gF_inst n v E l]
def instB (n : Nat) (v : Value) : Blk → Blk
  | .cells t cs => .cells t (SV.insts n v cs)
  | .own e sz rows => .own e sz rows
  | .ro sz rows => .ro sz rows
def instH (n : Nat) (v : Value) : SH → SH
  | [] => []
  | (b, x) :: H => (b, instB n v x) :: instH n v H
theorem instH_map (n : Nat) (v : Value) : ∀ H : SH, instH n v H = H.map fun p => (p.1, instB n v p.2)
  | [] => rfl
  | (b, x) :: H => by simp only [instH, List.map_cons, instH_map n v H]
theorem instB_ok {n : Nat} {v : Value} {E : Env} {F : Nat → Prop} {h : Array Obj} {x : Value} {b : Blk} (H : (instB n v b).ok E F h x) : b.ok (push E n v) F h x := by
  cases b with
  | cells t cs =>
    obtain ⟨g, h1, h2, h3⟩ := H
    exact ⟨g, h1, by rw [← SV.gs_inst]; exact h2, h3⟩
  | own => exact H
  | ro => exact H
theorem wr_inst (n : Nat) (v : Value) (b : Blk) : wr (instB n v b) = wr b := by cases b <;> rfl

/-- a nil slice gets a name -/
theorem RunsS.nilOwn {s : SCx P} {ds : List SDef} {nx : Nat} {st : List SI} {l l' : SFr} {H H' : SH} (e : TypeId) (sz : Nat) (hr : RunsS s ds (nx + 1) st l' ((nx, .own e sz []) :: H'))
    (hl : instF nx (.slice none 0 0) l' = l) (hH : instH nx (.slice none 0 0) H' = H) (hfr : fresh s.n0 nx l H ds = true) : RunsS s ds nx st l H := .mk fun E h hA S K => by
  obtain ⟨f1, f2, f3, f4⟩ := fresh_of hfr
  have A := push_ag E nx (.slice none 0 0)
  have hk : ∀ p ∈ H', p.1 < nx := fun p hp => (bdH_mem (p := (p.1, instB nx (.slice none 0 0) p.2)) f3 (by rw [← hH, instH_map]; exact List.mem_map_of_mem hp)).1
  have hlt : ∀ p ∈ H', push E nx (.slice none 0 0) p.1 = E p.1 := fun p hp => A _ (hk p hp)
  have S' : Sat (push E nx (.slice none 0 0)) s.F ((nx, .own e sz []) :: H') h := by
    refine ⟨fun p hp => ?_, List.pairwise_cons.2 ⟨fun q hq _ _ g e1 => ?_, ?_⟩⟩
    · rcases List.mem_cons.1 hp with rfl | hp
      · show (Blk.own e sz []).ok _ _ _ (push E nx _ nx)
        rw [push_at]
        exact ⟨fun r hr => (by cases hr), ⟨by simp, .inl ⟨rfl, rfl⟩⟩, fun g hg => (by cases hg)⟩
      · rw [hlt p hp]
        have := S.ok (p.1, instB nx (.slice none 0 0) p.2) (by rw [← hH, instH_map]; exact List.mem_map_of_mem hp)
        exact instB_ok this
    · have : ownB (push E nx (.slice none 0 0) nx) = some g := e1
      rw [push_at] at this
      cases this
    · have := S.apart
      rw [← hH, instH_map, List.pairwise_map] at this
      refine List.Pairwise.imp_of_mem (fun {a b} ha hb hA hw1 hw2 g e1 e2 => ?_) this
      rw [hlt a ha] at e1
      rw [hlt b hb] at e2
      exact hA (by rw [wr_inst]; exact hw1) (by rw [wr_inst]; exact hw2) g e1 e2
  have := hr.run _ h (hA.trans (A.mono f1)) S' K
  rw [gD_ag A ds f4, ← gF_inst, hl] at this
  exact this
/-- a load in a drawn region, at an index that is no literal -/
theorem ldR_at {T : Tab P} {l : SFr} {H : SH} {t t' : TypeId} {x : Operand} {b off : Nat} {cs : List SV} {v : SV} (hn : nth cs off = some v) (hx : evS l x = some (.ptr b off)) (hb : lookH H b = some (.cells t' cs)) (hs : scalarB T t = true) :
    ldR T l H (.load t x) = .got v (.cell b off v) := by
  simp only [ldR, hx, hb, hs, hn]
theorem setH_same : ∀ {H : SH} {b : Nat} {x : Blk}, lookH H b = some x → setH H b x = H
  | [], _, _, h => by cases h
  | (s, v) :: l, d, x, h => by
    simp only [lookH] at h
    simp only [setH]
    cases hb : Nat.beq s d with
    | true => simp only [hb, Option.some.injEq] at h; simp [h]
    | false => simp only [hb] at h; simp [setH_same h]
/-- rows, written otherwise -/
theorem RunsS.rowsEq {s : SCx P} {ds : List SDef} {nx : Nat} {st : List SI} {l : SFr} {H : SH} {e : TypeId} {sz : Nat} {rows rows' : List (List Value)} (b : Nat) (he : rows = rows') (hr : setK H b (.own e sz rows') fun H => RunsS s ds nx st l H)
    (hl : lookH H b = some (.own e sz rows) := by rfl) : RunsS s ds nx st l H := by
  subst he
  rw [setK_eq, setH_same hl] at hr
  exact hr
theorem appOb {n k b b2 : Nat} (hn : n ≤ 1000000) (hk : k ≤ 1000 := by decide) (hb : b ≠ b2 := by decide) : 0 < 1 ∧ n + 1 ≤ 9223372036854775807 ∧ (n + 1) * k ≤ 140737488355328 ∧ b ≠ b2 :=
  ⟨Nat.one_pos, by omega, Nat.le_trans (Nat.mul_le_mul (show n + 1 ≤ 1000001 by omega) hk) (by decide), hb⟩
theorem appOb0 {k : Nat} (hk : k ≤ 1000 := by decide) : 0 < 1 ∧ 1 ≤ 9223372036854775807 ∧ 1 * k ≤ 140737488355328 := ⟨Nat.one_pos, by omega, by omega⟩
/-- a sum, whatever it is -/
theorem eff_addW {n : Nat} {l : Fr} {h : Array Obj} {o : Oper} {t yt : TypeId} {x y : Operand} {a b : Int} (hop : o.op = .binOp .add t x y yt := by rfl) (hx : ev l x = some (.int .i64 a) := by rfl) (hy : ev l y = some (.int .i64 b) := by rfl) :
    Eff P n l h o (fun v h' => v = .int .i64 (IntKind.i64.wrap (a + b)) ∧ h' = h) := by
  refine Eff.of_val1 fun a' w ha hh => ⟨w, ?_, Like.refl w, hh⟩
  simp [execOp, hop, ha.ev hx, ha.ev hy, eqGuard, binOp, Op.intArith]
end Go.Fw

namespace Go.Proofs.YtlminkahdlcikaaDoor
open Go Go.Fw
set_option maxRecDepth 100000
def tabU : List (Nat × UD) := [(1, .func),
    (2, .int .i64),
    (3, .int .i64),
    (4, .bool),
    (5, .int .u8),
    (6, .int .u8),
    (7, .struct [(0, 1, false), (1, 1, false), (2, 1, false), (3, 1, false)]),
    (8, .struct [(0, 1, false), (1, 1, false), (2, 1, false), (3, 1, false)]),
    (9, .str),
    (10, .str),
    (11, .str),
    (12, .int .u64),
    (13, .struct [(0, 1, false), (1, 1, false)]),
    (14, .struct [(0, 1, false), (1, 1, false)]),
    (15, .ptr),
    (16, .ptr),
    (17, .ptr),
    (18, .struct [(0, 1, false)]),
    (19, .struct [(0, 1, false)]),
    (20, .iface),
    (21, .int .i32),
    (22, .func),
    (23, .slice 35 4),
    (24, .int .i64),
    (26, .func),
    (27, .func),
    (28, .func),
    (29, .func),
    (31, .func),
    (32, .func),
    (33, .func),
    (34, .struct [(0, 1, false), (1, 1, false), (2, 1, false), (3, 1, false)]),
    (35, .struct [(0, 1, false), (1, 1, false), (2, 1, false), (3, 1, false)]),
    (36, .func),
    (37, .func),
    (38, .func),
    (39, .slice 5 1),
    (40, .slice 9 1),
    (41, .func),
    (42, .int .i64),
    (44, .ptr),
    (45, .array 256 3 1),
    (46, .func),
    (47, .func),
    (48, .array 5 47 1),
    (49, .struct [(0, 1, false), (1, 1, false), (2, 256, true), (258, 5, true), (263, 1, false)]),
    (50, .struct [(0, 1, false), (1, 1, false), (2, 256, true), (258, 5, true), (263, 1, false)]),
    (52, .func),
    (53, .func),
    (54, .func),
    (55, .func),
    (56, .array 4 5 1),
    (57, .func),
    (58, .func),
    (59, .ptr),
    (60, .struct [(0, 1, false), (1, 1, false)]),
    (61, .struct [(0, 1, false), (1, 1, false)]),
    (62, .func),
    (63, .iface),
    (64, .iface),
    (66, .func),
    (67, .func),
    (68, .func),
    (69, .func),
    (70, .ptr),
    (71, .array 24 5 1),
    (72, .int .u64),
    (73, .func),
    (74, .func),
    (76, .func),
    (78, .func),
    (79, .func),
    (80, .func),
    (81, .func),
    (82, .int .u64),
    (83, .func),
    (84, .array 20 72 1),
    (85, .int .u32),
    (86, .array 65 5 1),
    (87, .func),
    (88, .func),
    (90, .func),
    (91, .func),
    (92, .array 32 5 1),
    (93, .array 64 5 1),
    (94, .struct [(0, 1, false), (1, 1, false), (2, 1, false), (3, 1, false)]),
    (95, .struct [(0, 1, false), (1, 1, false), (2, 1, false), (3, 1, false)]),
    (96, .array 0 16 1),
    (99, .func),
    (100, .int .u8),
    (101, .int .u8),
    (102, .func),
    (103, .int .i32),
    (104, .int .i32),
    (105, .struct [(0, 1, false), (1, 1, false), (2, 1, false), (3, 1, false), (4, 1, false), (5, 1, false), (6, 1, false), (7, 1, false), (8, 1, false), (9, 1, false), (10, 1, false)]),
    (106, .struct [(0, 1, false), (1, 1, false), (2, 1, false), (3, 1, false), (4, 1, false), (5, 1, false), (6, 1, false), (7, 1, false), (8, 1, false), (9, 1, false), (10, 1, false)])]
theorem tabU_ok : AllU Tryd.prog tabU := ⟨⟨_, _, _, Tryd.underlying1⟩,
    Tryd.underlying2,
    Tryd.underlying3,
    Tryd.underlying4,
    Tryd.underlying5,
    Tryd.underlying6,
    ⟨_, Tryd.underlying7, ⟨rfl, by kernel_rfl, by decide, _, Tryd.underlying2, rfl⟩, ⟨rfl, by kernel_rfl, by decide, _, Tryd.underlying3, rfl⟩, ⟨rfl, by kernel_rfl, by decide, _, Tryd.underlying4, rfl⟩, ⟨rfl, by kernel_rfl, by decide, _, Tryd.underlying6, rfl⟩, trivial⟩,
    ⟨_, Tryd.underlying8, ⟨rfl, by kernel_rfl, by decide, _, Tryd.underlying2, rfl⟩, ⟨rfl, by kernel_rfl, by decide, _, Tryd.underlying3, rfl⟩, ⟨rfl, by kernel_rfl, by decide, _, Tryd.underlying4, rfl⟩, ⟨rfl, by kernel_rfl, by decide, _, Tryd.underlying6, rfl⟩, trivial⟩,
    Tryd.underlying9,
    Tryd.underlying10,
    Tryd.underlying11,
    Tryd.underlying12,
    ⟨_, Tryd.underlying13, ⟨rfl, by kernel_rfl, by decide, _, Tryd.underlying9, rfl⟩, ⟨rfl, by kernel_rfl, by decide, _, Tryd.underlying12, rfl⟩, trivial⟩,
    ⟨_, Tryd.underlying14, ⟨rfl, by kernel_rfl, by decide, _, Tryd.underlying9, rfl⟩, ⟨rfl, by kernel_rfl, by decide, _, Tryd.underlying12, rfl⟩, trivial⟩,
    ⟨_, Tryd.underlying15⟩,
    ⟨_, Tryd.underlying16⟩,
    ⟨_, Tryd.underlying17⟩,
    ⟨_, Tryd.underlying18, ⟨rfl, by kernel_rfl, by decide, _, Tryd.underlying17, rfl⟩, trivial⟩,
    ⟨_, Tryd.underlying19, ⟨rfl, by kernel_rfl, by decide, _, Tryd.underlying17, rfl⟩, trivial⟩,
    ⟨_, Tryd.underlying20⟩,
    Tryd.underlying21,
    ⟨_, _, _, Tryd.underlying22⟩,
    ⟨Tryd.underlying23, by kernel_rfl⟩,
    Tryd.underlying24,
    ⟨_, _, _, Tryd.underlying26⟩,
    ⟨_, _, _, Tryd.underlying27⟩,
    ⟨_, _, _, Tryd.underlying28⟩,
    ⟨_, _, _, Tryd.underlying29⟩,
    ⟨_, _, _, Tryd.underlying31⟩,
    ⟨_, _, _, Tryd.underlying32⟩,
    ⟨_, _, _, Tryd.underlying33⟩,
    ⟨_, Tryd.underlying34, ⟨rfl, by kernel_rfl, by decide, _, Tryd.underlying3, rfl⟩, ⟨rfl, by kernel_rfl, by decide, _, Tryd.underlying3, rfl⟩, ⟨rfl, by kernel_rfl, by decide, _, Tryd.underlying9, rfl⟩, ⟨rfl, by kernel_rfl, by decide, _, Tryd.underlying3, rfl⟩, trivial⟩,
    ⟨_, Tryd.underlying35, ⟨rfl, by kernel_rfl, by decide, _, Tryd.underlying3, rfl⟩, ⟨rfl, by kernel_rfl, by decide, _, Tryd.underlying3, rfl⟩, ⟨rfl, by kernel_rfl, by decide, _, Tryd.underlying9, rfl⟩, ⟨rfl, by kernel_rfl, by decide, _, Tryd.underlying3, rfl⟩, trivial⟩,
    ⟨_, _, _, Tryd.underlying36⟩,
    ⟨_, _, _, Tryd.underlying37⟩,
    ⟨_, _, _, Tryd.underlying38⟩,
    ⟨Tryd.underlying39, by kernel_rfl⟩,
    ⟨Tryd.underlying40, by kernel_rfl⟩,
    ⟨_, _, _, Tryd.underlying41⟩,
    Tryd.underlying42,
    ⟨_, Tryd.underlying44⟩,
    ⟨Tryd.underlying45, by kernel_rfl⟩,
    ⟨_, _, _, Tryd.underlying46⟩,
    ⟨_, _, _, Tryd.underlying47⟩,
    ⟨Tryd.underlying48, by kernel_rfl⟩,
    ⟨_, Tryd.underlying49, ⟨rfl, by kernel_rfl, by decide, _, Tryd.underlying9, rfl⟩, ⟨rfl, by kernel_rfl, by decide, _, Tryd.underlying3, rfl⟩, ⟨rfl, by kernel_rfl, by decide, _, Tryd.underlying45, rfl⟩, ⟨rfl, by kernel_rfl, by decide, _, Tryd.underlying48, rfl⟩, ⟨rfl, by kernel_rfl, by decide, _, Tryd.underlying23, rfl⟩, trivial⟩,
    ⟨_, Tryd.underlying50, ⟨rfl, by kernel_rfl, by decide, _, Tryd.underlying9, rfl⟩, ⟨rfl, by kernel_rfl, by decide, _, Tryd.underlying3, rfl⟩, ⟨rfl, by kernel_rfl, by decide, _, Tryd.underlying45, rfl⟩, ⟨rfl, by kernel_rfl, by decide, _, Tryd.underlying48, rfl⟩, ⟨rfl, by kernel_rfl, by decide, _, Tryd.underlying23, rfl⟩, trivial⟩,
    ⟨_, _, _, Tryd.underlying52⟩,
    ⟨_, _, _, Tryd.underlying53⟩,
    ⟨_, _, _, Tryd.underlying54⟩,
    ⟨_, _, _, Tryd.underlying55⟩,
    ⟨Tryd.underlying56, by kernel_rfl⟩,
    ⟨_, _, _, Tryd.underlying57⟩,
    ⟨_, _, _, Tryd.underlying58⟩,
    ⟨_, Tryd.underlying59⟩,
    ⟨_, Tryd.underlying60, ⟨rfl, by kernel_rfl, by decide, _, Tryd.underlying59, rfl⟩, ⟨rfl, by kernel_rfl, by decide, _, Tryd.underlying39, rfl⟩, trivial⟩,
    ⟨_, Tryd.underlying61, ⟨rfl, by kernel_rfl, by decide, _, Tryd.underlying59, rfl⟩, ⟨rfl, by kernel_rfl, by decide, _, Tryd.underlying39, rfl⟩, trivial⟩,
    ⟨_, _, _, Tryd.underlying62⟩,
    ⟨_, Tryd.underlying63⟩,
    ⟨_, Tryd.underlying64⟩,
    ⟨_, _, _, Tryd.underlying66⟩,
    ⟨_, _, _, Tryd.underlying67⟩,
    ⟨_, _, _, Tryd.underlying68⟩,
    ⟨_, _, _, Tryd.underlying69⟩,
    ⟨_, Tryd.underlying70⟩,
    ⟨Tryd.underlying71, by kernel_rfl⟩,
    Tryd.underlying72,
    ⟨_, _, _, Tryd.underlying73⟩,
    ⟨_, _, _, Tryd.underlying74⟩,
    ⟨_, _, _, Tryd.underlying76⟩,
    ⟨_, _, _, Tryd.underlying78⟩,
    ⟨_, _, _, Tryd.underlying79⟩,
    ⟨_, _, _, Tryd.underlying80⟩,
    ⟨_, _, _, Tryd.underlying81⟩,
    Tryd.underlying82,
    ⟨_, _, _, Tryd.underlying83⟩,
    ⟨Tryd.underlying84, by kernel_rfl⟩,
    Tryd.underlying85,
    ⟨Tryd.underlying86, by kernel_rfl⟩,
    ⟨_, _, _, Tryd.underlying87⟩,
    ⟨_, _, _, Tryd.underlying88⟩,
    ⟨_, _, _, Tryd.underlying90⟩,
    ⟨_, _, _, Tryd.underlying91⟩,
    ⟨Tryd.underlying92, by kernel_rfl⟩,
    ⟨Tryd.underlying93, by kernel_rfl⟩,
    ⟨_, Tryd.underlying94, ⟨rfl, by kernel_rfl, by decide, _, Tryd.underlying17, rfl⟩, ⟨rfl, by kernel_rfl, by decide, _, Tryd.underlying17, rfl⟩, ⟨rfl, by kernel_rfl, by decide, _, Tryd.underlying17, rfl⟩, ⟨rfl, by kernel_rfl, by decide, _, Tryd.underlying9, rfl⟩, trivial⟩,
    ⟨_, Tryd.underlying95, ⟨rfl, by kernel_rfl, by decide, _, Tryd.underlying17, rfl⟩, ⟨rfl, by kernel_rfl, by decide, _, Tryd.underlying17, rfl⟩, ⟨rfl, by kernel_rfl, by decide, _, Tryd.underlying17, rfl⟩, ⟨rfl, by kernel_rfl, by decide, _, Tryd.underlying9, rfl⟩, trivial⟩,
    ⟨Tryd.underlying96, by kernel_rfl⟩,
    ⟨_, _, _, Tryd.underlying99⟩,
    Tryd.underlying100,
    Tryd.underlying101,
    ⟨_, _, _, Tryd.underlying102⟩,
    Tryd.underlying103,
    Tryd.underlying104,
    ⟨_, Tryd.underlying105, ⟨rfl, by kernel_rfl, by decide, _, Tryd.underlying12, rfl⟩, ⟨rfl, by kernel_rfl, by decide, _, Tryd.underlying12, rfl⟩, ⟨rfl, by kernel_rfl, by decide, _, Tryd.underlying85, rfl⟩, ⟨rfl, by kernel_rfl, by decide, _, Tryd.underlying100, rfl⟩, ⟨rfl, by kernel_rfl, by decide, _, Tryd.underlying5, rfl⟩, ⟨rfl, by kernel_rfl, by decide, _, Tryd.underlying5, rfl⟩, ⟨rfl, by kernel_rfl, by decide, _, Tryd.underlying101, rfl⟩, ⟨rfl, by kernel_rfl, by decide, _, Tryd.underlying102, rfl⟩, ⟨rfl, by kernel_rfl, by decide, _, Tryd.underlying70, rfl⟩, ⟨rfl, by kernel_rfl, by decide, _, Tryd.underlying103, rfl⟩, ⟨rfl, by kernel_rfl, by decide, _, Tryd.underlying104, rfl⟩, trivial⟩,
    ⟨_, Tryd.underlying106, ⟨rfl, by kernel_rfl, by decide, _, Tryd.underlying12, rfl⟩, ⟨rfl, by kernel_rfl, by decide, _, Tryd.underlying12, rfl⟩, ⟨rfl, by kernel_rfl, by decide, _, Tryd.underlying85, rfl⟩, ⟨rfl, by kernel_rfl, by decide, _, Tryd.underlying100, rfl⟩, ⟨rfl, by kernel_rfl, by decide, _, Tryd.underlying5, rfl⟩, ⟨rfl, by kernel_rfl, by decide, _, Tryd.underlying5, rfl⟩, ⟨rfl, by kernel_rfl, by decide, _, Tryd.underlying101, rfl⟩, ⟨rfl, by kernel_rfl, by decide, _, Tryd.underlying102, rfl⟩, ⟨rfl, by kernel_rfl, by decide, _, Tryd.underlying70, rfl⟩, ⟨rfl, by kernel_rfl, by decide, _, Tryd.underlying103, rfl⟩, ⟨rfl, by kernel_rfl, by decide, _, Tryd.underlying104, rfl⟩, trivial⟩, trivial⟩
def tabI : List (Nat × Inf) := [(1, ⟨.nilFunc, 1, 8⟩),
    (2, ⟨.int .i64 0, 1, 8⟩),
    (3, ⟨.int .i64 0, 1, 8⟩),
    (4, ⟨.bool false, 1, 1⟩),
    (5, ⟨.int .u8 0, 1, 1⟩),
    (6, ⟨.int .u8 0, 1, 1⟩),
    (7, ⟨.agg #[.int .i64 0, .int .i64 0, .bool false, .int .u8 0], 4, 24⟩),
    (8, ⟨.agg #[.int .i64 0, .int .i64 0, .bool false, .int .u8 0], 4, 24⟩),
    (9, ⟨.string ⟨#[]⟩, 1, 16⟩),
    (10, ⟨.string ⟨#[]⟩, 1, 16⟩),
    (11, ⟨.string ⟨#[]⟩, 1, 16⟩),
    (12, ⟨.int .u64 0, 1, 8⟩),
    (13, ⟨.agg #[.string ⟨#[]⟩, .int .u64 0], 2, 24⟩),
    (14, ⟨.agg #[.string ⟨#[]⟩, .int .u64 0], 2, 24⟩),
    (15, ⟨.pointer none, 1, 8⟩),
    (16, ⟨.pointer none, 1, 8⟩),
    (17, ⟨.pointer none, 1, 8⟩),
    (18, ⟨.agg #[.pointer none], 1, 8⟩),
    (19, ⟨.agg #[.pointer none], 1, 8⟩),
    (20, ⟨.nilIface, 1, 16⟩),
    (21, ⟨.int .i32 0, 1, 4⟩),
    (22, ⟨.nilFunc, 1, 8⟩),
    (23, ⟨.slice none 0 0, 1, 24⟩),
    (24, ⟨.int .i64 0, 1, 8⟩),
    (26, ⟨.nilFunc, 1, 8⟩),
    (27, ⟨.nilFunc, 1, 8⟩),
    (28, ⟨.nilFunc, 1, 8⟩),
    (29, ⟨.nilFunc, 1, 8⟩),
    (31, ⟨.nilFunc, 1, 8⟩),
    (32, ⟨.nilFunc, 1, 8⟩),
    (33, ⟨.nilFunc, 1, 8⟩),
    (34, ⟨.agg #[.int .i64 0, .int .i64 0, .string ⟨#[]⟩, .int .i64 0], 4, 40⟩),
    (35, ⟨.agg #[.int .i64 0, .int .i64 0, .string ⟨#[]⟩, .int .i64 0], 4, 40⟩),
    (36, ⟨.nilFunc, 1, 8⟩),
    (37, ⟨.nilFunc, 1, 8⟩),
    (38, ⟨.nilFunc, 1, 8⟩),
    (39, ⟨.slice none 0 0, 1, 24⟩),
    (40, ⟨.slice none 0 0, 1, 24⟩),
    (41, ⟨.nilFunc, 1, 8⟩),
    (42, ⟨.int .i64 0, 1, 8⟩),
    (44, ⟨.pointer none, 1, 8⟩),
    (45, ⟨.agg #[.int .i64 0, .int .i64 0, .int .i64 0, .int .i64 0, .int .i64 0, .int .i64 0, .int .i64 0, .int .i64 0, .int .i64 0, .int .i64 0, .int .i64 0, .int .i64 0, .int .i64 0, .int .i64 0, .int .i64 0, .int .i64 0, .int .i64 0, .int .i64 0, .int .i64 0, .int .i64 0, .int .i64 0, .int .i64 0, .int .i64 0, .int .i64 0, .int .i64 0, .int .i64 0, .int .i64 0, .int .i64 0, .int .i64 0, .int .i64 0, .int .i64 0, .int .i64 0, .int .i64 0, .int .i64 0, .int .i64 0, .int .i64 0, .int .i64 0, .int .i64 0, .int .i64 0, .int .i64 0, .int .i64 0, .int .i64 0, .int .i64 0, .int .i64 0, .int .i64 0, .int .i64 0, .int .i64 0, .int .i64 0, .int .i64 0, .int .i64 0, .int .i64 0, .int .i64 0, .int .i64 0, .int .i64 0, .int .i64 0, .int .i64 0, .int .i64 0, .int .i64 0, .int .i64 0, .int .i64 0, .int .i64 0, .int .i64 0, .int .i64 0, .int .i64 0, .int .i64 0, .int .i64 0, .int .i64 0, .int .i64 0, .int .i64 0, .int .i64 0, .int .i64 0, .int .i64 0, .int .i64 0, .int .i64 0, .int .i64 0, .int .i64 0, .int .i64 0, .int .i64 0, .int .i64 0, .int .i64 0, .int .i64 0, .int .i64 0, .int .i64 0, .int .i64 0, .int .i64 0, .int .i64 0, .int .i64 0, .int .i64 0, .int .i64 0, .int .i64 0, .int .i64 0, .int .i64 0, .int .i64 0, .int .i64 0, .int .i64 0, .int .i64 0, .int .i64 0, .int .i64 0, .int .i64 0, .int .i64 0, .int .i64 0, .int .i64 0, .int .i64 0, .int .i64 0, .int .i64 0, .int .i64 0, .int .i64 0, .int .i64 0, .int .i64 0, .int .i64 0, .int .i64 0, .int .i64 0, .int .i64 0, .int .i64 0, .int .i64 0, .int .i64 0, .int .i64 0, .int .i64 0, .int .i64 0, .int .i64 0, .int .i64 0, .int .i64 0, .int .i64 0, .int .i64 0, .int .i64 0, .int .i64 0, .int .i64 0, .int .i64 0, .int .i64 0, .int .i64 0, .int .i64 0, .int .i64 0, .int .i64 0, .int .i64 0, .int .i64 0, .int .i64 0, .int .i64 0, .int .i64 0, .int .i64 0, .int .i64 0, .int .i64 0, .int .i64 0, .int .i64 0, .int .i64 0, .int .i64 0, .int .i64 0, .int .i64 0, .int .i64 0, .int .i64 0, .int .i64 0, .int .i64 0, .int .i64 0, .int .i64 0, .int .i64 0, .int .i64 0, .int .i64 0, .int .i64 0, .int .i64 0, .int .i64 0, .int .i64 0, .int .i64 0, .int .i64 0, .int .i64 0, .int .i64 0, .int .i64 0, .int .i64 0, .int .i64 0, .int .i64 0, .int .i64 0, .int .i64 0, .int .i64 0, .int .i64 0, .int .i64 0, .int .i64 0, .int .i64 0, .int .i64 0, .int .i64 0, .int .i64 0, .int .i64 0, .int .i64 0, .int .i64 0, .int .i64 0, .int .i64 0, .int .i64 0, .int .i64 0, .int .i64 0, .int .i64 0, .int .i64 0, .int .i64 0, .int .i64 0, .int .i64 0, .int .i64 0, .int .i64 0, .int .i64 0, .int .i64 0, .int .i64 0, .int .i64 0, .int .i64 0, .int .i64 0, .int .i64 0, .int .i64 0, .int .i64 0, .int .i64 0, .int .i64 0, .int .i64 0, .int .i64 0, .int .i64 0, .int .i64 0, .int .i64 0, .int .i64 0, .int .i64 0, .int .i64 0, .int .i64 0, .int .i64 0, .int .i64 0, .int .i64 0, .int .i64 0, .int .i64 0, .int .i64 0, .int .i64 0, .int .i64 0, .int .i64 0, .int .i64 0, .int .i64 0, .int .i64 0, .int .i64 0, .int .i64 0, .int .i64 0, .int .i64 0, .int .i64 0, .int .i64 0, .int .i64 0, .int .i64 0, .int .i64 0, .int .i64 0, .int .i64 0, .int .i64 0, .int .i64 0, .int .i64 0, .int .i64 0, .int .i64 0, .int .i64 0, .int .i64 0, .int .i64 0, .int .i64 0, .int .i64 0, .int .i64 0, .int .i64 0, .int .i64 0, .int .i64 0, .int .i64 0, .int .i64 0, .int .i64 0, .int .i64 0, .int .i64 0, .int .i64 0], 256, 2048⟩),
    (46, ⟨.nilFunc, 1, 8⟩),
    (47, ⟨.nilFunc, 1, 8⟩),
    (48, ⟨.agg #[.nilFunc, .nilFunc, .nilFunc, .nilFunc, .nilFunc], 5, 40⟩),
    (49, ⟨.agg #[.string ⟨#[]⟩, .int .i64 0, .int .i64 0, .int .i64 0, .int .i64 0, .int .i64 0, .int .i64 0, .int .i64 0, .int .i64 0, .int .i64 0, .int .i64 0, .int .i64 0, .int .i64 0, .int .i64 0, .int .i64 0, .int .i64 0, .int .i64 0, .int .i64 0, .int .i64 0, .int .i64 0, .int .i64 0, .int .i64 0, .int .i64 0, .int .i64 0, .int .i64 0, .int .i64 0, .int .i64 0, .int .i64 0, .int .i64 0, .int .i64 0, .int .i64 0, .int .i64 0, .int .i64 0, .int .i64 0, .int .i64 0, .int .i64 0, .int .i64 0, .int .i64 0, .int .i64 0, .int .i64 0, .int .i64 0, .int .i64 0, .int .i64 0, .int .i64 0, .int .i64 0, .int .i64 0, .int .i64 0, .int .i64 0, .int .i64 0, .int .i64 0, .int .i64 0, .int .i64 0, .int .i64 0, .int .i64 0, .int .i64 0, .int .i64 0, .int .i64 0, .int .i64 0, .int .i64 0, .int .i64 0, .int .i64 0, .int .i64 0, .int .i64 0, .int .i64 0, .int .i64 0, .int .i64 0, .int .i64 0, .int .i64 0, .int .i64 0, .int .i64 0, .int .i64 0, .int .i64 0, .int .i64 0, .int .i64 0, .int .i64 0, .int .i64 0, .int .i64 0, .int .i64 0, .int .i64 0, .int .i64 0, .int .i64 0, .int .i64 0, .int .i64 0, .int .i64 0, .int .i64 0, .int .i64 0, .int .i64 0, .int .i64 0, .int .i64 0, .int .i64 0, .int .i64 0, .int .i64 0, .int .i64 0, .int .i64 0, .int .i64 0, .int .i64 0, .int .i64 0, .int .i64 0, .int .i64 0, .int .i64 0, .int .i64 0, .int .i64 0, .int .i64 0, .int .i64 0, .int .i64 0, .int .i64 0, .int .i64 0, .int .i64 0, .int .i64 0, .int .i64 0, .int .i64 0, .int .i64 0, .int .i64 0, .int .i64 0, .int .i64 0, .int .i64 0, .int .i64 0, .int .i64 0, .int .i64 0, .int .i64 0, .int .i64 0, .int .i64 0, .int .i64 0, .int .i64 0, .int .i64 0, .int .i64 0, .int .i64 0, .int .i64 0, .int .i64 0, .int .i64 0, .int .i64 0, .int .i64 0, .int .i64 0, .int .i64 0, .int .i64 0, .int .i64 0, .int .i64 0, .int .i64 0, .int .i64 0, .int .i64 0, .int .i64 0, .int .i64 0, .int .i64 0, .int .i64 0, .int .i64 0, .int .i64 0, .int .i64 0, .int .i64 0, .int .i64 0, .int .i64 0, .int .i64 0, .int .i64 0, .int .i64 0, .int .i64 0, .int .i64 0, .int .i64 0, .int .i64 0, .int .i64 0, .int .i64 0, .int .i64 0, .int .i64 0, .int .i64 0, .int .i64 0, .int .i64 0, .int .i64 0, .int .i64 0, .int .i64 0, .int .i64 0, .int .i64 0, .int .i64 0, .int .i64 0, .int .i64 0, .int .i64 0, .int .i64 0, .int .i64 0, .int .i64 0, .int .i64 0, .int .i64 0, .int .i64 0, .int .i64 0, .int .i64 0, .int .i64 0, .int .i64 0, .int .i64 0, .int .i64 0, .int .i64 0, .int .i64 0, .int .i64 0, .int .i64 0, .int .i64 0, .int .i64 0, .int .i64 0, .int .i64 0, .int .i64 0, .int .i64 0, .int .i64 0, .int .i64 0, .int .i64 0, .int .i64 0, .int .i64 0, .int .i64 0, .int .i64 0, .int .i64 0, .int .i64 0, .int .i64 0, .int .i64 0, .int .i64 0, .int .i64 0, .int .i64 0, .int .i64 0, .int .i64 0, .int .i64 0, .int .i64 0, .int .i64 0, .int .i64 0, .int .i64 0, .int .i64 0, .int .i64 0, .int .i64 0, .int .i64 0, .int .i64 0, .int .i64 0, .int .i64 0, .int .i64 0, .int .i64 0, .int .i64 0, .int .i64 0, .int .i64 0, .int .i64 0, .int .i64 0, .int .i64 0, .int .i64 0, .int .i64 0, .int .i64 0, .int .i64 0, .int .i64 0, .int .i64 0, .int .i64 0, .int .i64 0, .int .i64 0, .int .i64 0, .int .i64 0, .int .i64 0, .int .i64 0, .int .i64 0, .int .i64 0, .int .i64 0, .int .i64 0, .int .i64 0, .int .i64 0, .int .i64 0, .int .i64 0, .int .i64 0, .int .i64 0, .int .i64 0, .int .i64 0, .int .i64 0, .int .i64 0, .nilFunc, .nilFunc, .nilFunc, .nilFunc, .nilFunc, .slice none 0 0], 264, 2136⟩),
    (50, ⟨.agg #[.string ⟨#[]⟩, .int .i64 0, .int .i64 0, .int .i64 0, .int .i64 0, .int .i64 0, .int .i64 0, .int .i64 0, .int .i64 0, .int .i64 0, .int .i64 0, .int .i64 0, .int .i64 0, .int .i64 0, .int .i64 0, .int .i64 0, .int .i64 0, .int .i64 0, .int .i64 0, .int .i64 0, .int .i64 0, .int .i64 0, .int .i64 0, .int .i64 0, .int .i64 0, .int .i64 0, .int .i64 0, .int .i64 0, .int .i64 0, .int .i64 0, .int .i64 0, .int .i64 0, .int .i64 0, .int .i64 0, .int .i64 0, .int .i64 0, .int .i64 0, .int .i64 0, .int .i64 0, .int .i64 0, .int .i64 0, .int .i64 0, .int .i64 0, .int .i64 0, .int .i64 0, .int .i64 0, .int .i64 0, .int .i64 0, .int .i64 0, .int .i64 0, .int .i64 0, .int .i64 0, .int .i64 0, .int .i64 0, .int .i64 0, .int .i64 0, .int .i64 0, .int .i64 0, .int .i64 0, .int .i64 0, .int .i64 0, .int .i64 0, .int .i64 0, .int .i64 0, .int .i64 0, .int .i64 0, .int .i64 0, .int .i64 0, .int .i64 0, .int .i64 0, .int .i64 0, .int .i64 0, .int .i64 0, .int .i64 0, .int .i64 0, .int .i64 0, .int .i64 0, .int .i64 0, .int .i64 0, .int .i64 0, .int .i64 0, .int .i64 0, .int .i64 0, .int .i64 0, .int .i64 0, .int .i64 0, .int .i64 0, .int .i64 0, .int .i64 0, .int .i64 0, .int .i64 0, .int .i64 0, .int .i64 0, .int .i64 0, .int .i64 0, .int .i64 0, .int .i64 0, .int .i64 0, .int .i64 0, .int .i64 0, .int .i64 0, .int .i64 0, .int .i64 0, .int .i64 0, .int .i64 0, .int .i64 0, .int .i64 0, .int .i64 0, .int .i64 0, .int .i64 0, .int .i64 0, .int .i64 0, .int .i64 0, .int .i64 0, .int .i64 0, .int .i64 0, .int .i64 0, .int .i64 0, .int .i64 0, .int .i64 0, .int .i64 0, .int .i64 0, .int .i64 0, .int .i64 0, .int .i64 0, .int .i64 0, .int .i64 0, .int .i64 0, .int .i64 0, .int .i64 0, .int .i64 0, .int .i64 0, .int .i64 0, .int .i64 0, .int .i64 0, .int .i64 0, .int .i64 0, .int .i64 0, .int .i64 0, .int .i64 0, .int .i64 0, .int .i64 0, .int .i64 0, .int .i64 0, .int .i64 0, .int .i64 0, .int .i64 0, .int .i64 0, .int .i64 0, .int .i64 0, .int .i64 0, .int .i64 0, .int .i64 0, .int .i64 0, .int .i64 0, .int .i64 0, .int .i64 0, .int .i64 0, .int .i64 0, .int .i64 0, .int .i64 0, .int .i64 0, .int .i64 0, .int .i64 0, .int .i64 0, .int .i64 0, .int .i64 0, .int .i64 0, .int .i64 0, .int .i64 0, .int .i64 0, .int .i64 0, .int .i64 0, .int .i64 0, .int .i64 0, .int .i64 0, .int .i64 0, .int .i64 0, .int .i64 0, .int .i64 0, .int .i64 0, .int .i64 0, .int .i64 0, .int .i64 0, .int .i64 0, .int .i64 0, .int .i64 0, .int .i64 0, .int .i64 0, .int .i64 0, .int .i64 0, .int .i64 0, .int .i64 0, .int .i64 0, .int .i64 0, .int .i64 0, .int .i64 0, .int .i64 0, .int .i64 0, .int .i64 0, .int .i64 0, .int .i64 0, .int .i64 0, .int .i64 0, .int .i64 0, .int .i64 0, .int .i64 0, .int .i64 0, .int .i64 0, .int .i64 0, .int .i64 0, .int .i64 0, .int .i64 0, .int .i64 0, .int .i64 0, .int .i64 0, .int .i64 0, .int .i64 0, .int .i64 0, .int .i64 0, .int .i64 0, .int .i64 0, .int .i64 0, .int .i64 0, .int .i64 0, .int .i64 0, .int .i64 0, .int .i64 0, .int .i64 0, .int .i64 0, .int .i64 0, .int .i64 0, .int .i64 0, .int .i64 0, .int .i64 0, .int .i64 0, .int .i64 0, .int .i64 0, .int .i64 0, .int .i64 0, .int .i64 0, .int .i64 0, .int .i64 0, .int .i64 0, .int .i64 0, .int .i64 0, .int .i64 0, .int .i64 0, .int .i64 0, .int .i64 0, .int .i64 0, .int .i64 0, .int .i64 0, .int .i64 0, .int .i64 0, .int .i64 0, .int .i64 0, .int .i64 0, .nilFunc, .nilFunc, .nilFunc, .nilFunc, .nilFunc, .slice none 0 0], 264, 2136⟩),
    (52, ⟨.nilFunc, 1, 8⟩),
    (53, ⟨.nilFunc, 1, 8⟩),
    (54, ⟨.nilFunc, 1, 8⟩),
    (55, ⟨.nilFunc, 1, 8⟩),
    (56, ⟨.agg #[.int .u8 0, .int .u8 0, .int .u8 0, .int .u8 0], 4, 4⟩),
    (57, ⟨.nilFunc, 1, 8⟩),
    (58, ⟨.nilFunc, 1, 8⟩),
    (59, ⟨.pointer none, 1, 8⟩),
    (60, ⟨.agg #[.pointer none, .slice none 0 0], 2, 32⟩),
    (61, ⟨.agg #[.pointer none, .slice none 0 0], 2, 32⟩),
    (62, ⟨.nilFunc, 1, 8⟩),
    (63, ⟨.nilIface, 1, 16⟩),
    (64, ⟨.nilIface, 1, 16⟩),
    (66, ⟨.nilFunc, 1, 8⟩),
    (67, ⟨.nilFunc, 1, 8⟩),
    (68, ⟨.nilFunc, 1, 8⟩),
    (69, ⟨.nilFunc, 1, 8⟩),
    (70, ⟨.pointer none, 1, 8⟩),
    (71, ⟨.agg #[.int .u8 0, .int .u8 0, .int .u8 0, .int .u8 0, .int .u8 0, .int .u8 0, .int .u8 0, .int .u8 0, .int .u8 0, .int .u8 0, .int .u8 0, .int .u8 0, .int .u8 0, .int .u8 0, .int .u8 0, .int .u8 0, .int .u8 0, .int .u8 0, .int .u8 0, .int .u8 0, .int .u8 0, .int .u8 0, .int .u8 0, .int .u8 0], 24, 24⟩),
    (72, ⟨.int .u64 0, 1, 8⟩),
    (73, ⟨.nilFunc, 1, 8⟩),
    (74, ⟨.nilFunc, 1, 8⟩),
    (76, ⟨.nilFunc, 1, 8⟩),
    (78, ⟨.nilFunc, 1, 8⟩),
    (79, ⟨.nilFunc, 1, 8⟩),
    (80, ⟨.nilFunc, 1, 8⟩),
    (81, ⟨.nilFunc, 1, 8⟩),
    (82, ⟨.int .u64 0, 1, 8⟩),
    (83, ⟨.nilFunc, 1, 8⟩),
    (84, ⟨.agg #[.int .u64 0, .int .u64 0, .int .u64 0, .int .u64 0, .int .u64 0, .int .u64 0, .int .u64 0, .int .u64 0, .int .u64 0, .int .u64 0, .int .u64 0, .int .u64 0, .int .u64 0, .int .u64 0, .int .u64 0, .int .u64 0, .int .u64 0, .int .u64 0, .int .u64 0, .int .u64 0], 20, 160⟩),
    (85, ⟨.int .u32 0, 1, 4⟩),
    (86, ⟨.agg #[.int .u8 0, .int .u8 0, .int .u8 0, .int .u8 0, .int .u8 0, .int .u8 0, .int .u8 0, .int .u8 0, .int .u8 0, .int .u8 0, .int .u8 0, .int .u8 0, .int .u8 0, .int .u8 0, .int .u8 0, .int .u8 0, .int .u8 0, .int .u8 0, .int .u8 0, .int .u8 0, .int .u8 0, .int .u8 0, .int .u8 0, .int .u8 0, .int .u8 0, .int .u8 0, .int .u8 0, .int .u8 0, .int .u8 0, .int .u8 0, .int .u8 0, .int .u8 0, .int .u8 0, .int .u8 0, .int .u8 0, .int .u8 0, .int .u8 0, .int .u8 0, .int .u8 0, .int .u8 0, .int .u8 0, .int .u8 0, .int .u8 0, .int .u8 0, .int .u8 0, .int .u8 0, .int .u8 0, .int .u8 0, .int .u8 0, .int .u8 0, .int .u8 0, .int .u8 0, .int .u8 0, .int .u8 0, .int .u8 0, .int .u8 0, .int .u8 0, .int .u8 0, .int .u8 0, .int .u8 0, .int .u8 0, .int .u8 0, .int .u8 0, .int .u8 0, .int .u8 0], 65, 65⟩),
    (87, ⟨.nilFunc, 1, 8⟩),
    (88, ⟨.nilFunc, 1, 8⟩),
    (90, ⟨.nilFunc, 1, 8⟩),
    (91, ⟨.nilFunc, 1, 8⟩),
    (92, ⟨.agg #[.int .u8 0, .int .u8 0, .int .u8 0, .int .u8 0, .int .u8 0, .int .u8 0, .int .u8 0, .int .u8 0, .int .u8 0, .int .u8 0, .int .u8 0, .int .u8 0, .int .u8 0, .int .u8 0, .int .u8 0, .int .u8 0, .int .u8 0, .int .u8 0, .int .u8 0, .int .u8 0, .int .u8 0, .int .u8 0, .int .u8 0, .int .u8 0, .int .u8 0, .int .u8 0, .int .u8 0, .int .u8 0, .int .u8 0, .int .u8 0, .int .u8 0, .int .u8 0], 32, 32⟩),
    (93, ⟨.agg #[.int .u8 0, .int .u8 0, .int .u8 0, .int .u8 0, .int .u8 0, .int .u8 0, .int .u8 0, .int .u8 0, .int .u8 0, .int .u8 0, .int .u8 0, .int .u8 0, .int .u8 0, .int .u8 0, .int .u8 0, .int .u8 0, .int .u8 0, .int .u8 0, .int .u8 0, .int .u8 0, .int .u8 0, .int .u8 0, .int .u8 0, .int .u8 0, .int .u8 0, .int .u8 0, .int .u8 0, .int .u8 0, .int .u8 0, .int .u8 0, .int .u8 0, .int .u8 0, .int .u8 0, .int .u8 0, .int .u8 0, .int .u8 0, .int .u8 0, .int .u8 0, .int .u8 0, .int .u8 0, .int .u8 0, .int .u8 0, .int .u8 0, .int .u8 0, .int .u8 0, .int .u8 0, .int .u8 0, .int .u8 0, .int .u8 0, .int .u8 0, .int .u8 0, .int .u8 0, .int .u8 0, .int .u8 0, .int .u8 0, .int .u8 0, .int .u8 0, .int .u8 0, .int .u8 0, .int .u8 0, .int .u8 0, .int .u8 0, .int .u8 0, .int .u8 0], 64, 64⟩),
    (94, ⟨.agg #[.pointer none, .pointer none, .pointer none, .string ⟨#[]⟩], 4, 40⟩),
    (95, ⟨.agg #[.pointer none, .pointer none, .pointer none, .string ⟨#[]⟩], 4, 40⟩),
    (96, ⟨.agg #[], 0, 0⟩),
    (99, ⟨.nilFunc, 1, 8⟩),
    (100, ⟨.int .u8 0, 1, 1⟩),
    (101, ⟨.int .u8 0, 1, 1⟩),
    (102, ⟨.nilFunc, 1, 8⟩),
    (103, ⟨.int .i32 0, 1, 4⟩),
    (104, ⟨.int .i32 0, 1, 4⟩),
    (105, ⟨.agg #[.int .u64 0, .int .u64 0, .int .u32 0, .int .u8 0, .int .u8 0, .int .u8 0, .int .u8 0, .nilFunc, .pointer none, .int .i32 0, .int .i32 0], 11, 48⟩),
    (106, ⟨.agg #[.int .u64 0, .int .u64 0, .int .u32 0, .int .u8 0, .int .u8 0, .int .u8 0, .int .u8 0, .nilFunc, .pointer none, .int .i32 0, .int .i32 0], 11, 48⟩)]
theorem tabI_ok : AllI Tryd.prog tabI := ⟨by kernel_rfl,
    by kernel_rfl,
    by kernel_rfl,
    by kernel_rfl,
    by kernel_rfl,
    by kernel_rfl,
    by kernel_rfl,
    by kernel_rfl,
    by kernel_rfl,
    by kernel_rfl,
    by kernel_rfl,
    by kernel_rfl,
    by kernel_rfl,
    by kernel_rfl,
    by kernel_rfl,
    by kernel_rfl,
    by kernel_rfl,
    by kernel_rfl,
    by kernel_rfl,
    by kernel_rfl,
    by kernel_rfl,
    by kernel_rfl,
    by kernel_rfl,
    by kernel_rfl,
    by kernel_rfl,
    by kernel_rfl,
    by kernel_rfl,
    by kernel_rfl,
    by kernel_rfl,
    by kernel_rfl,
    by kernel_rfl,
    by kernel_rfl,
    by kernel_rfl,
    by kernel_rfl,
    by kernel_rfl,
    by kernel_rfl,
    by kernel_rfl,
    by kernel_rfl,
    by kernel_rfl,
    by kernel_rfl,
    by kernel_rfl,
    by kernel_rfl,
    by kernel_rfl,
    by kernel_rfl,
    by kernel_rfl,
    by kernel_rfl,
    by kernel_rfl,
    by kernel_rfl,
    by kernel_rfl,
    by kernel_rfl,
    by kernel_rfl,
    by kernel_rfl,
    by kernel_rfl,
    by kernel_rfl,
    by kernel_rfl,
    by kernel_rfl,
    by kernel_rfl,
    by kernel_rfl,
    by kernel_rfl,
    by kernel_rfl,
    by kernel_rfl,
    by kernel_rfl,
    by kernel_rfl,
    by kernel_rfl,
    by kernel_rfl,
    by kernel_rfl,
    by kernel_rfl,
    by kernel_rfl,
    by kernel_rfl,
    by kernel_rfl,
    by kernel_rfl,
    by kernel_rfl,
    by kernel_rfl,
    by kernel_rfl,
    by kernel_rfl,
    by kernel_rfl,
    by kernel_rfl,
    by kernel_rfl,
    by kernel_rfl,
    by kernel_rfl,
    by kernel_rfl,
    by kernel_rfl,
    by kernel_rfl,
    by kernel_rfl,
    by kernel_rfl,
    by kernel_rfl,
    by kernel_rfl,
    by kernel_rfl,
    by kernel_rfl,
    by kernel_rfl,
    by kernel_rfl,
    by kernel_rfl,
    by kernel_rfl,
    by kernel_rfl,
    by kernel_rfl,
    by kernel_rfl, trivial⟩
def tabE : List (Nat × List Nat) := [(35, [1, 1, 2, 1])]
theorem tabE_ok : AllE Tryd.prog tabE := ⟨by kernel_rfl, trivial⟩
def tab : Tab Tryd.prog where
  und := tabU
  okU := tabU_ok
  inf := tabI
  okI := tabI_ok
  eqs := tabE
  okE := tabE_ok
  mixed := by kernel_rfl
end Go.Proofs.YtlminkahdlcikaaDoor

namespace Go.Proofs.YtlminkahdlcikaaDoor
open Go Go.Fw
set_option maxRecDepth 100000
set_option maxHeartbeats 16000000

/-- the class of a byte -/
def cls (c : Nat) : Int :=
  if (97 ≤ c ∧ c ≤ 122) ∨ (65 ≤ c ∧ c ≤ 90) then 2 else if 48 ≤ c ∧ c ≤ 57 then 3
  else if c = 32 ∨ c = 9 ∨ c = 10 ∨ c = 13 then 1
  else if c ∈ [123, 125, 40, 41, 44, 59, 61, 35, 47, 60, 33, 45, 46, 58, 43] then 4 else 0
def clsS : List SV := (List.range 256).map fun c => .v (.int .i64 (cls c))
def scanS : List SV := [.v (.func (.func 26) #[] #[]), .v (.func (.func 27) #[] #[]), .v (.func (.func 28) #[] #[]), .v (.func (.func 29) #[] #[]), .v (.func (.func 30) #[] #[])]
def scn (src : ByteArray) (pos : Int) (toks : SV) : List SV := .v (.string src) :: .v (.int .i64 pos) :: (clsS ++ (scanS ++ [toks]))
theorem clsS_get {c : Nat} (hc : c < 256) (r : List SV) : nth (clsS ++ r) c = some (.v (.int .i64 (cls c))) := by
  rw [nth_eq, List.getElem?_append_left (by simpa [clsS] using hc)]
  simp [clsS, hc]
theorem scn_cls {src : ByteArray} {pos : Int} {toks : SV} {c : Nat} (hc : c < 256) : nth (scn src pos toks) (0 + (1 + 1) + ((c : Int)).toNat * 1) = some (.v (.int .i64 (cls c))) := by
  rw [show 0 + (1 + 1) + ((c : Int)).toNat * 1 = c + 1 + 1 by simp; omega]
  exact clsS_get hc _
abbrev scB (src : ByteArray) (pos : Int) (b : Nat := 1) : Nat × Blk := (0, .cells 50 (scn src pos (.buf b)))
def placeP (pos : Int) : List PanicEntry := [{ v := .iface 42 (.int .i64 pos), recovered := false }]

theorem wrong_fn (src : ByteArray) (pos : Int) : FnS Tryd.prog 26 2 [.ptr 0 0] [scB src pos] (fun _ : Unit => True) (fun _ => .pan (placeP pos) 2 [scB src pos]) := by
  refine FnS.of Tryd.func26 (by kernel_rfl) rfl Tryd.ntmps26 rfl fun E0 F h w0 cs => ?_
  conv => whnf
  refine goS_run tab 1000 _ _ _ _ ?_
  conv => whnf
  repeat (first | (refine And.intro (by omega) ?_; (try intro _); conv => whnf) | (refine And.intro ?_ (by omega); (try intro _); conv => whnf) | (refine ⟨_, RemV.nonneg (by omega) (by omega), ?_⟩; conv => whnf))
  try refine RunsS.panicU ?_
  exact UnwS.pan Tryd.func26 (EndS.mk (()) (trivial) [] (by repeat (first | exact trivial | refine ⟨by rfl, ?_⟩)) rfl rfl (okPan rfl))
theorem pass_fn (src : ByteArray) (pos : Int) (hp : 0 ≤ pos ∧ pos < 9223372036854775807) : FnS Tryd.prog 27 2 [.ptr 0 0] [scB src pos] (fun _ : Unit => True) (fun _ => .ret (.tup []) 2 [scB src (pos + 1)]) := by
  refine FnS.of Tryd.func27 (by kernel_rfl) rfl Tryd.ntmps27 rfl fun E0 F h w0 cs => ?_
  conv => whnf
  refine goS_run tab 1000 _ _ _ _ ?_
  conv => whnf
  repeat (first | (refine And.intro (by omega) ?_; (try intro _); conv => whnf) | (refine And.intro ?_ (by omega); (try intro _); conv => whnf) | (refine ⟨_, RemV.nonneg (by omega) (by omega), ?_⟩; conv => whnf))
  try refine RunsS.retU ?_
  try refine RunsS.finU ?_
  exact UnwS.ret tab Tryd.func27 rfl (EndS.mk (()) (trivial) [] (by repeat (first | exact trivial | refine ⟨by rfl, ?_⟩)) rfl rfl (okRet rfl rfl))

def runE (s : ByteArray) (p : Nat → Bool) (i : Nat) : Nat := if h : i < s.size then (if p (byteAt s i) then runE s p (i + 1) else i) else i
termination_by s.size - i
theorem byteAt_lt (s : ByteArray) (i : Nat) : byteAt s i < 256 := UInt8.toNat_lt _
def inRun (a b f : Int) (c : Nat) : Bool := decide (cls c = a) || decide (cls c = b) || decide ((c : Int) = f)
theorem run_fn (src : ByteArray) (hs : src.size ≤ 65536) (pos : Nat) (hp : pos ≤ src.size) (a b f : Int) : FnS Tryd.prog 41 2 [.ptr 0 0, .v (.int .i64 a), .v (.int .i64 b), .v (.int .u8 f)] [scB src pos] (fun _ : Unit => True)
    (fun _ => .ret (.v (.int .i64 (runE src (inRun a b f) pos))) 2 [scB src pos]) := by
  obtain ⟨r, hr⟩ : ∃ r, r = runE src (inRun a b f) pos := ⟨_, rfl⟩
  rw [← hr]
  refine FnS.of Tryd.func41 (by kernel_rfl) rfl Tryd.ntmps41 rfl fun E0 F h w0 cs => ?_
  conv => whnf
  refine goS_run tab 1000 _ _ _ _ ?_
  conv => whnf
  repeat (first | (refine And.intro (by omega) ?_; (try intro _); conv => whnf) | (refine And.intro ?_ (by omega); (try intro _); conv => whnf) | (refine ⟨_, RemV.nonneg (by omega) (by omega), ?_⟩; conv => whnf))
  refine RunsS.subR [] (RunsS.loop (fun (i : Nat) => [(9, .v (.int .i64 i)), (3, .v (.int .u8 f)), (2, .v (.int .i64 b)), (1, .v (.int .i64 a)), (0, .ptr 0 0)]) (fun (i : Nat) => [scB src pos]) 2 (fun (i : Nat) => i ≤ src.size ∧ r = runE src (inRun a b f) i) (fun (i : Nat) => src.size - i) ?round1 (pos) ?J01) ?SS1 ?HH1
  case J01 => exact (⟨by omega, hr⟩)
  case SS1 => repeat (first | exact trivial | refine ⟨by rfl, ?_⟩)
  case HH1 => repeat (first | exact trivial | refine ⟨by rfl, ?_⟩)
  rintro i hJ back
  try dsimp only at hJ back
  conv => whnf
  try dsimp only
  refine goS_run tab 1000 _ _ _ _ ?_
  conv => whnf
  repeat (first | (refine And.intro (by omega) ?_; (try intro _); conv => whnf) | (refine And.intro ?_ (by omega); (try intro _); conv => whnf) | (refine ⟨_, RemV.nonneg (by omega) (by omega), ?_⟩; conv => whnf))
  refine ⟨fun hk => ?_, fun hk => ?_⟩ <;> conv => whnf
  · obtain ⟨c, hc⟩ : ∃ c, c = byteAt src ((i : Int)).toNat := ⟨_, rfl⟩
    have hb : c < 256 := by rw [hc]; exact byteAt_lt src i
    rw [← hc]
    conv => whnf
    repeat (first | (refine And.intro (by omega) ?_; (try intro _); conv => whnf) | (refine And.intro ?_ (by omega); (try intro _); conv => whnf) | (refine ⟨_, RemV.nonneg (by omega) (by omega), ?_⟩; conv => whnf))
    have hc' : c = byteAt src i := hc
    have go : inRun a b f c = true → r = runE src (inRun a b f) (i + 1) := fun hp => by
      have hu := hJ.2
      unfold runE at hu
      rw [dif_pos (by omega), ← hc', if_pos hp] at hu
      exact hu
    have no : inRun a b f c = false → r = i := fun hp => by
      have hu := hJ.2
      unfold runE at hu
      rw [dif_pos (by omega), ← hc', if_neg (by rw [hp]; simp)] at hu
      exact hu
    rw [evO_load (scn_cls hb) (by rfl) (by rfl) (by rfl)]
    conv => whnf
    repeat (first | (refine And.intro (by omega) ?_; (try intro _); conv => whnf) | (refine And.intro ?_ (by omega); (try intro _); conv => whnf) | (refine ⟨_, RemV.nonneg (by omega) (by omega), ?_⟩; conv => whnf))
    refine ⟨fun h1 => ?_, fun h1 => ?_⟩ <;> conv => whnf
    · conv => whnf
      repeat (first | (refine And.intro (by omega) ?_; (try intro _); conv => whnf) | (refine And.intro ?_ (by omega); (try intro _); conv => whnf) | (refine ⟨_, RemV.nonneg (by omega) (by omega), ?_⟩; conv => whnf))
      refine RunsS.subR [] (back (i + 1) ?BJ2 ?BM2) ?SS2 ?HH2
      case BJ2 => exact (⟨by omega, go (by simp [inRun, h1])⟩)
      case BM2 => (try dsimp only); omega
      case SS2 => repeat (first | exact trivial | refine ⟨by rfl, ?_⟩)
      case HH2 => repeat (first | exact trivial | refine ⟨by rfl, ?_⟩)
    · conv => whnf
      repeat (first | (refine And.intro (by omega) ?_; (try intro _); conv => whnf) | (refine And.intro ?_ (by omega); (try intro _); conv => whnf) | (refine ⟨_, RemV.nonneg (by omega) (by omega), ?_⟩; conv => whnf))
      rw [evO_load (scn_cls hb) (by rfl) (by rfl) (by rfl)]
      conv => whnf
      repeat (first | (refine And.intro (by omega) ?_; (try intro _); conv => whnf) | (refine And.intro ?_ (by omega); (try intro _); conv => whnf) | (refine ⟨_, RemV.nonneg (by omega) (by omega), ?_⟩; conv => whnf))
      refine ⟨fun h2 => ?_, fun h2 => ?_⟩ <;> conv => whnf
      · conv => whnf
        repeat (first | (refine And.intro (by omega) ?_; (try intro _); conv => whnf) | (refine And.intro ?_ (by omega); (try intro _); conv => whnf) | (refine ⟨_, RemV.nonneg (by omega) (by omega), ?_⟩; conv => whnf))
        refine RunsS.subR [] (back (i + 1) ?BJ3 ?BM3) ?SS3 ?HH3
        case BJ3 => exact (⟨by omega, go (by simp [inRun, h2])⟩)
        case BM3 => (try dsimp only); omega
        case SS3 => repeat (first | exact trivial | refine ⟨by rfl, ?_⟩)
        case HH3 => repeat (first | exact trivial | refine ⟨by rfl, ?_⟩)
      · conv => whnf
        repeat (first | (refine And.intro (by omega) ?_; (try intro _); conv => whnf) | (refine And.intro ?_ (by omega); (try intro _); conv => whnf) | (refine ⟨_, RemV.nonneg (by omega) (by omega), ?_⟩; conv => whnf))
        refine ⟨fun h3 => ?_, fun h3 => ?_⟩ <;> conv => whnf
        · conv => whnf
          repeat (first | (refine And.intro (by omega) ?_; (try intro _); conv => whnf) | (refine And.intro ?_ (by omega); (try intro _); conv => whnf) | (refine ⟨_, RemV.nonneg (by omega) (by omega), ?_⟩; conv => whnf))
          refine RunsS.subR [] (back (i + 1) ?BJ4 ?BM4) ?SS4 ?HH4
          case BJ4 => exact (⟨by omega, go (by simp [inRun, h3])⟩)
          case BM4 => (try dsimp only); omega
          case SS4 => repeat (first | exact trivial | refine ⟨by rfl, ?_⟩)
          case HH4 => repeat (first | exact trivial | refine ⟨by rfl, ?_⟩)
        · conv => whnf
          repeat (first | (refine And.intro (by omega) ?_; (try intro _); conv => whnf) | (refine And.intro ?_ (by omega); (try intro _); conv => whnf) | (refine ⟨_, RemV.nonneg (by omega) (by omega), ?_⟩; conv => whnf))
          rw [no (by simp [inRun, h1, h2, h3])]
          try refine RunsS.retU ?_
          try refine RunsS.finU ?_
          exact UnwS.ret tab Tryd.func41 rfl (EndS.mk (()) (trivial) [] (by repeat (first | exact trivial | refine ⟨by rfl, ?_⟩)) rfl rfl (okRet rfl rfl))
  · conv => whnf
    repeat (first | (refine And.intro (by omega) ?_; (try intro _); conv => whnf) | (refine And.intro ?_ (by omega); (try intro _); conv => whnf) | (refine ⟨_, RemV.nonneg (by omega) (by omega), ?_⟩; conv => whnf))
    have hu := hJ.2
    rw [show i = src.size by omega] at hu ⊢
    unfold runE at hu
    rw [dif_neg (by omega)] at hu
    rw [← hu]
    try refine RunsS.retU ?_
    try refine RunsS.finU ?_
    exact UnwS.ret tab Tryd.func41 rfl (EndS.mk (()) (trivial) [] (by repeat (first | exact trivial | refine ⟨by rfl, ?_⟩)) rfl rfl (okRet rfl rfl))

structure Tok where
  kind : Int
  pos : Int
  text : ByteArray
  n : Int
def Tok.row (t : Tok) : List Value := [.int .i64 t.kind, .int .i64 t.pos, .string t.text, .int .i64 t.n]
def Tok.s (t : Tok) : SV := .agg [.v (.int .i64 t.kind), .v (.int .i64 t.pos), .v (.string t.text), .v (.int .i64 t.n)]
theorem add_fn (src : ByteArray) (pos : Int) (l : List Tok) (hl : l.length ≤ 65536) (t : Tok) (e : Int) : FnS Tryd.prog 42 2 [.ptr 0 0, .agg [.v (.int .i64 t.kind), .v (.int .i64 t.pos), .v (.string t.text), .v (.int .i64 t.n)], .v (.int .i64 e)] [scB src pos, (1, .own 35 4 (l.map Tok.row))] (fun _ : Unit => True)
    (fun _ => .ret (.tup []) 3 [scB src e 2, (2, .own 35 4 ((l ++ [{ t with pos := pos }]).map Tok.row))]) := by
  refine FnS.of Tryd.func42 (by kernel_rfl) rfl Tryd.ntmps42 rfl fun E0 F h w0 cs => ?_
  conv => whnf
  refine goS_run tab 1000 _ _ _ _ ?_
  conv => whnf
  repeat (first | (refine And.intro (by omega) ?_; (try intro _); conv => whnf) | (refine And.intro ?_ (by omega); (try intro _); conv => whnf) | (refine ⟨_, RemV.nonneg (by omega) (by omega), ?_⟩; conv => whnf))
  have hlen : (l.map Tok.row).length = l.length := by simp
  refine RunsS.held tab (.fl 0 (.fl 1 (.fl 2 (.fl 3 (.fl 4 (.fl 5 (.e1 6 [4] (.e1 7 [] (.fl 8 (.fl 9 (.e1 10 [] .done))))))))))) (by kernel_rfl) ?_
  conv => whnf
  try refine goR_run tab _ _ _ _ _ _ ?_
  conv => whnf
  repeat (first | (refine And.intro (by omega) ?_; (try intro _); conv => whnf) | (refine And.intro ?_ (by omega); (try intro _); conv => whnf) | (refine And.intro (by (conv => whnf); (repeat (refine And.intro (by (conv => whnf); first | rfl | exact trivial) ?_; conv => whnf)); exact trivial) ?_; conv => whnf) | (refine ⟨_, RemV.nonneg (by omega) (by omega), ?_⟩; conv => whnf))
  try refine goS_run tab 1000 _ _ _ _ ?_
  conv => whnf
  repeat (first | (refine And.intro (by omega) ?_; (try intro _); conv => whnf) | (refine And.intro ?_ (by omega); (try intro _); conv => whnf) | (refine ⟨_, RemV.nonneg (by omega) (by omega), ?_⟩; conv => whnf))
  refine And.intro ⟨Nat.one_pos, (show (l.map Tok.row).length + 1 ≤ 9223372036854775807 by omega), (show ((l.map Tok.row).length + 1) * 40 ≤ 140737488355328 by omega), by decide⟩ ?_
  conv => whnf
  try refine goR_run tab _ _ _ _ _ _ ?_
  conv => whnf
  repeat (first | (refine And.intro (by omega) ?_; (try intro _); conv => whnf) | (refine And.intro ?_ (by omega); (try intro _); conv => whnf) | (refine And.intro (by (conv => whnf); (repeat (refine And.intro (by (conv => whnf); first | rfl | exact trivial) ?_; conv => whnf)); exact trivial) ?_; conv => whnf) | (refine ⟨_, RemV.nonneg (by omega) (by omega), ?_⟩; conv => whnf))
  try refine goS_run tab 1000 _ _ _ _ ?_
  conv => whnf
  repeat (first | (refine And.intro (by omega) ?_; (try intro _); conv => whnf) | (refine And.intro ?_ (by omega); (try intro _); conv => whnf) | (refine ⟨_, RemV.nonneg (by omega) (by omega), ?_⟩; conv => whnf))
  have key : l.map Tok.row ++ chunk 4 1 [Value.int .i64 t.kind, .int .i64 pos, .string t.text, .int .i64 t.n] = (l ++ [{ t with pos := pos }]).map Tok.row := by
    rw [List.map_append]; rfl
  refine RunsS.subR (nx' := 5) (l' := []) (H' := [(4, .own 35 4 ((l ++ [{ t with pos := pos }]).map Tok.row)), scB src e 4]) [] ?_ trivial ⟨congrArg (fun r => some (Blk.own _ 4 r)) key, by rfl, trivial⟩
  try refine RunsS.retU ?_
  try refine RunsS.finU ?_
  exact UnwS.ret tab Tryd.func42 rfl (EndS.mk (()) (trivial) [(2, 4)] (by repeat (first | exact trivial | refine ⟨by rfl, ?_⟩)) rfl rfl (okRet rfl rfl))

theorem runE_ge (s : ByteArray) (p : Nat → Bool) (i : Nat) : i ≤ runE s p i := by
  induction h : s.size - i generalizing i with
  | zero =>
    unfold runE
    rw [dif_neg (by omega)]
    omega
  | succ n ih =>
    unfold runE
    split
    · split
      · exact Nat.le_trans (Nat.le_succ i) (ih (i + 1) (by omega))
      · omega
    · omega
theorem runE_le (s : ByteArray) (p : Nat → Bool) (i : Nat) (hi : i ≤ s.size) : runE s p i ≤ s.size := by
  induction h : s.size - i generalizing i with
  | zero =>
    unfold runE
    rw [dif_neg (by omega)]
    omega
  | succ n ih =>
    unfold runE
    split
    · split
      · exact ih (i + 1) (by omega) (by omega)
      · omega
    · omega
def toksB (l : List Tok) (b : Nat) : Nat × Blk := (b, .own 35 4 (l.map Tok.row))
def endO (src : ByteArray) (pos e : Nat) (l : List Tok) (t : Tok) (bad : Prop) [Decidable bad] : OutS :=
  if bad then .pan (placeP pos) 2 [scB src pos, toksB l 1] else .ret (.tup []) 3 [scB src e 2, toksB (l ++ [{ t with pos := pos }]) 2]
def nameE (src : ByteArray) (pos : Nat) : Nat := runE src (inRun 2 3 95) pos
theorem name_fn (src : ByteArray) (hs : src.size ≤ 65536) (pos : Nat) (hp : pos ≤ src.size) (l : List Tok) (hl : l.length ≤ 65536) : FnS Tryd.prog 28 2 [.ptr 0 0] [scB src pos, toksB l 1] (fun _ : Unit => True)
    (fun _ => endO src pos (nameE src pos) l ⟨1, 0, src.extract pos (nameE src pos), 0⟩ (32 < nameE src pos - pos)) := by
  obtain ⟨e, he⟩ : ∃ e, e = nameE src pos := ⟨_, rfl⟩
  have h1 : pos ≤ e := he ▸ runE_ge _ _ _
  have h2 : e ≤ src.size := he ▸ runE_le _ _ _ hp
  rw [← he]
  obtain ⟨o, ho⟩ : ∃ o, o = endO src pos e l ⟨1, 0, src.extract pos e, 0⟩ (32 < e - pos) := ⟨_, rfl⟩
  rw [← ho]
  unfold endO at ho
  refine FnS.of Tryd.func28 (by kernel_rfl) rfl Tryd.ntmps28 rfl fun E0 F h w0 cs => ?_
  conv => whnf
  refine goS_run tab 1000 _ _ _ _ ?_
  conv => whnf
  repeat (first | (refine And.intro (by omega) ?_; (try intro _); conv => whnf) | (refine And.intro ?_ (by omega); (try intro _); conv => whnf) | (refine ⟨_, RemV.nonneg (by omega) (by omega), ?_⟩; conv => whnf))
  refine RunsS.callN (run_fn src hs pos hp 2 3 95) [0, 1] ?CNr5 (by repeat (first | exact trivial | refine ⟨by rfl, ?_⟩)) ?CNa5
  case CNa5 => rfl
  intro _ _
  conv => whnf
  try refine goS_run tab 1000 _ _ _ _ ?_
  conv => whnf
  repeat (first | (refine And.intro (by omega) ?_; (try intro _); conv => whnf) | (refine And.intro ?_ (by omega); (try intro _); conv => whnf) | (refine ⟨_, RemV.nonneg (by omega) (by omega), ?_⟩; conv => whnf))
  rw [show runE src (inRun 2 3 95) pos = e from he.symm]
  conv => whnf
  repeat (first | (refine And.intro (by omega) ?_; (try intro _); conv => whnf) | (refine And.intro ?_ (by omega); (try intro _); conv => whnf) | (refine ⟨_, RemV.nonneg (by omega) (by omega), ?_⟩; conv => whnf))
  refine ⟨fun hb => ?_, fun hb => ?_⟩ <;> conv => whnf
  · rw [if_pos (by omega)] at ho
    subst ho
    conv => whnf
    repeat (first | (refine And.intro (by omega) ?_; (try intro _); conv => whnf) | (refine And.intro ?_ (by omega); (try intro _); conv => whnf) | (refine ⟨_, RemV.nonneg (by omega) (by omega), ?_⟩; conv => whnf))
    refine RunsS.callN (wrong_fn src pos) [0, 1] ?CNr6 (by repeat (first | exact trivial | refine ⟨by rfl, ?_⟩)) ?CNa6
    case CNa6 => rfl
    intro _ _
    conv => whnf
    try refine goS_run tab 1000 _ _ _ _ ?_
    conv => whnf
    repeat (first | (refine And.intro (by omega) ?_; (try intro _); conv => whnf) | (refine And.intro ?_ (by omega); (try intro _); conv => whnf) | (refine ⟨_, RemV.nonneg (by omega) (by omega), ?_⟩; conv => whnf))
    try refine RunsS.panicU ?_
    exact UnwS.pan Tryd.func28 (EndS.mk (()) (trivial) [] (by repeat (first | exact trivial | refine ⟨by rfl, ?_⟩)) rfl rfl (okPan rfl))
  · rw [if_neg (by omega)] at ho
    subst ho
    conv => whnf
    repeat (first | (refine And.intro (by omega) ?_; (try intro _); conv => whnf) | (refine And.intro ?_ (by omega); (try intro _); conv => whnf) | (refine ⟨_, RemV.nonneg (by omega) (by omega), ?_⟩; conv => whnf))
    refine RunsS.held tab (.fl 0 (.fl 1 (.fl 2 (.fl 3 (.fl 4 (.fl 5 (.fl 6 (.fl 7 (.fl 8 (.fl 9 (.fl 10 (.fl 11 (.fl 12 (.e1 13 [] .done)))))))))))))) (by kernel_rfl) ?_
    conv => whnf
    try refine goR_run tab _ _ _ _ _ _ ?_
    conv => whnf
    repeat (first | (refine And.intro (by omega) ?_; (try intro _); conv => whnf) | (refine And.intro ?_ (by omega); (try intro _); conv => whnf) | (refine And.intro (by (conv => whnf); (repeat (refine And.intro (by (conv => whnf); first | rfl | exact trivial) ?_; conv => whnf)); exact trivial) ?_; conv => whnf) | (refine ⟨_, RemV.nonneg (by omega) (by omega), ?_⟩; conv => whnf))
    try refine goS_run tab 1000 _ _ _ _ ?_
    conv => whnf
    repeat (first | (refine And.intro (by omega) ?_; (try intro _); conv => whnf) | (refine And.intro ?_ (by omega); (try intro _); conv => whnf) | (refine ⟨_, RemV.nonneg (by omega) (by omega), ?_⟩; conv => whnf))
    refine EffR.callN (add_fn src pos l hl ⟨1, 0, src.extract pos e, 0⟩ e) [0, 1] ?CNr7 (by repeat (first | exact trivial | refine ⟨by rfl, ?_⟩)) ?CNa7
    case CNa7 => rfl
    intro _ _
    conv => whnf
    try refine And.intro (by (conv => whnf); (repeat (refine And.intro (by (conv => whnf); first | rfl | exact trivial) ?_; conv => whnf)); exact trivial) ?_
    try refine goR_run tab _ _ _ _ _ _ ?_
    conv => whnf
    repeat (first | (refine And.intro (by omega) ?_; (try intro _); conv => whnf) | (refine And.intro ?_ (by omega); (try intro _); conv => whnf) | (refine And.intro (by (conv => whnf); (repeat (refine And.intro (by (conv => whnf); first | rfl | exact trivial) ?_; conv => whnf)); exact trivial) ?_; conv => whnf) | (refine ⟨_, RemV.nonneg (by omega) (by omega), ?_⟩; conv => whnf))
    try refine goS_run tab 1000 _ _ _ _ ?_
    conv => whnf
    repeat (first | (refine And.intro (by omega) ?_; (try intro _); conv => whnf) | (refine And.intro ?_ (by omega); (try intro _); conv => whnf) | (refine ⟨_, RemV.nonneg (by omega) (by omega), ?_⟩; conv => whnf))
    try refine RunsS.retU ?_
    try refine RunsS.finU ?_
    exact UnwS.ret tab Tryd.func28 rfl (EndS.mk (()) (trivial) [(2, 2)] (by repeat (first | exact trivial | refine ⟨by rfl, ?_⟩)) rfl rfl (okRet rfl rfl))
end Go.Proofs.YtlminkahdlcikaaDoor

namespace Go.Proofs.YtlminkahdlcikaaDoor
open Go Go.Fw
set_option maxRecDepth 100000
set_option maxHeartbeats 16000000

/-- the number of the digits from i on; none: it is too great -/
def numF (s : ByteArray) (e i acc : Nat) : Option Nat :=
  if i < e then (if 10 * acc + (byteAt s i - 48) ≤ 1099511627776 then numF s e (i + 1) (10 * acc + (byteAt s i - 48)) else none) else some acc
termination_by e - i
def numE (src : ByteArray) (pos : Nat) : Nat := runE src (inRun 3 3 48) pos
def numO (src : ByteArray) (pos e : Nat) (l : List Tok) : OutS :=
  if 1 < e - pos ∧ byteAt src pos = 48 then .pan (placeP pos) 2 [scB src pos, toksB l 1] else
  match numF src e pos 0 with
  | none => .pan (placeP pos) 2 [scB src pos, toksB l 1]
  | some n => .ret (.tup []) 3 [scB src e 2, toksB (l ++ [⟨2, pos, ⟨#[]⟩, n⟩]) 2]
theorem runE_in (s : ByteArray) (p : Nat → Bool) (i : Nat) : ∀ j, i ≤ j → j < runE s p i → p (byteAt s j) = true := by
  induction h : s.size - i generalizing i with
  | zero =>
    intro j h1 h2
    unfold runE at h2
    rw [dif_neg (by omega)] at h2
    omega
  | succ n ih =>
    intro j h1 h2
    unfold runE at h2
    rw [dif_pos (by omega)] at h2
    split at h2
    · rename_i hp
      by_cases hj : j = i
      · rw [hj]; exact hp
      · exact ih (i + 1) (by omega) j (by omega) h2
    · omega
theorem dig_of {c : Nat} (h : inRun 3 3 48 c = true) : 48 ≤ c ∧ c ≤ 57 := by
  simp only [inRun, Bool.or_eq_true, decide_eq_true_eq] at h
  have : cls c = 3 ∨ c = 48 := by omega
  rcases this with h | h
  · unfold cls at h
    split at h
    · omega
    · split at h
      · omega
      · split at h
        · omega
        · split at h <;> omega
  · omega
theorem number_fn (src : ByteArray) (hs : src.size ≤ 65536) (pos : Nat) (hp : pos ≤ src.size) (hd : pos < numE src pos) (l : List Tok) (hl : l.length ≤ 65536) : FnS Tryd.prog 29 2 [.ptr 0 0] [scB src pos, toksB l 1] (fun _ : Unit => True)
    (fun _ => numO src pos (numE src pos) l) := by
  have hdig := runE_in src (inRun 3 3 48) pos
  obtain ⟨e, he⟩ : ∃ e, e = numE src pos := ⟨_, rfl⟩
  have h1 : pos ≤ e := he ▸ runE_ge _ _ _
  have h2 : e ≤ src.size := he ▸ runE_le _ _ _ hp
  rw [show runE src (inRun 3 3 48) pos = e from he.symm] at hdig
  rw [← he] at hd ⊢
  obtain ⟨o, ho⟩ : ∃ o, o = numO src pos e l := ⟨_, rfl⟩
  rw [← ho]
  unfold numO at ho
  refine FnS.of Tryd.func29 (by kernel_rfl) rfl Tryd.ntmps29 rfl fun E0 F h w0 cs => ?_
  conv => whnf
  refine goS_run tab 1000 _ _ _ _ ?_
  conv => whnf
  repeat (first | (refine And.intro (by omega) ?_; (try intro _); conv => whnf) | (refine And.intro ?_ (by omega); (try intro _); conv => whnf) | (refine ⟨_, RemV.nonneg (by omega) (by omega), ?_⟩; conv => whnf))
  refine RunsS.callN (run_fn src hs pos hp 3 3 48) [0, 1] ?CNr1 (by repeat (first | exact trivial | refine ⟨by rfl, ?_⟩)) ?CNa1
  case CNa1 => rfl
  intro _ _
  conv => whnf
  try refine goS_run tab 1000 _ _ _ _ ?_
  conv => whnf
  repeat (first | (refine And.intro (by omega) ?_; (try intro _); conv => whnf) | (refine And.intro ?_ (by omega); (try intro _); conv => whnf) | (refine ⟨_, RemV.nonneg (by omega) (by omega), ?_⟩; conv => whnf))
  rw [show runE src (inRun 3 3 48) pos = e from he.symm]
  conv => whnf
  repeat (first | (refine And.intro (by omega) ?_; (try intro _); conv => whnf) | (refine And.intro ?_ (by omega); (try intro _); conv => whnf) | (refine ⟨_, RemV.nonneg (by omega) (by omega), ?_⟩; conv => whnf))
  have jT : 1 < e - pos → ((decide (((byteAt src ((pos : Int)).toNat : Nat) : Int) = 48)) = true ↔ (1 < e - pos ∧ byteAt src pos = 48)) := fun hq => by
    rw [decide_eq_true_iff, show ((pos : Int)).toNat = pos from rfl]; omega
  have jF : ¬ 1 < e - pos → (false = true ↔ (1 < e - pos ∧ byteAt src pos = 48)) := fun hq => ⟨fun h => (by cases h), fun h => absurd h.1 hq⟩
  have hdp := dig_of (hdig pos (Nat.le_refl _) hd)
  refine RunsS.join (fun (b : Bool) => [(25, .v (.bool b)), (2, .v (.int .i64 e)), (0, .ptr 0 0)]) (fun (b : Bool) => [scB src pos, toksB l 1]) 2 (fun (b : Bool) => (b = true ↔ (1 < e - pos ∧ byteAt src pos = 48))) ?_ (fun meet => ?_)
  rotate_left
  · refine RunsS.held tab (.fl 0 (.fl 1 (.fl 2 (.fl 3 (.fl 4 (.fl 5 (.fl 6 (.fl 7 (.fl 8 (.fl 9 (.fl 10 (.fl 11 (.fl 12 (.fl 13 (.fl 14 (.fl 15 (.fl 16 (.fl 17 (.fl 18 .done))))))))))))))))))) (by kernel_rfl) ?_
    conv => whnf
    try refine goR_run tab _ _ _ _ _ _ ?_
    conv => whnf
    repeat (first | (refine And.intro (by omega) ?_; (try intro _); conv => whnf) | (refine And.intro ?_ (by omega); (try intro _); conv => whnf) | (refine And.intro (by (conv => whnf); (repeat (refine And.intro (by (conv => whnf); first | rfl | exact trivial) ?_; conv => whnf)); exact trivial) ?_; conv => whnf) | (refine ⟨_, RemV.nonneg (by omega) (by omega), ?_⟩; conv => whnf))
    try refine goS_run tab 1000 _ _ _ _ ?_
    conv => whnf
    repeat (first | (refine And.intro (by omega) ?_; (try intro _); conv => whnf) | (refine And.intro ?_ (by omega); (try intro _); conv => whnf) | (refine ⟨_, RemV.nonneg (by omega) (by omega), ?_⟩; conv => whnf))
    refine ⟨fun ha => ?_, fun ha => ?_⟩ <;> conv => whnf
    · try refine goR_run tab _ _ _ _ _ _ ?_
      conv => whnf
      repeat (first | (refine And.intro (by omega) ?_; (try intro _); conv => whnf) | (refine And.intro ?_ (by omega); (try intro _); conv => whnf) | (refine And.intro (by (conv => whnf); (repeat (refine And.intro (by (conv => whnf); first | rfl | exact trivial) ?_; conv => whnf)); exact trivial) ?_; conv => whnf) | (refine ⟨_, RemV.nonneg (by omega) (by omega), ?_⟩; conv => whnf))
      try refine goS_run tab 1000 _ _ _ _ ?_
      conv => whnf
      repeat (first | (refine And.intro (by omega) ?_; (try intro _); conv => whnf) | (refine And.intro ?_ (by omega); (try intro _); conv => whnf) | (refine ⟨_, RemV.nonneg (by omega) (by omega), ?_⟩; conv => whnf))
      refine RunsS.subR [] (meet (decide (((byteAt src ((pos : Int)).toNat : Nat) : Int) = 48)) ?BJ2) ?SS2 ?HH2
      case BJ2 => exact (jT (by omega))
      case SS2 => repeat (first | exact trivial | refine ⟨by rfl, ?_⟩)
      case HH2 => repeat (first | exact trivial | refine ⟨by rfl, ?_⟩)
    · try refine goR_run tab _ _ _ _ _ _ ?_
      conv => whnf
      repeat (first | (refine And.intro (by omega) ?_; (try intro _); conv => whnf) | (refine And.intro ?_ (by omega); (try intro _); conv => whnf) | (refine And.intro (by (conv => whnf); (repeat (refine And.intro (by (conv => whnf); first | rfl | exact trivial) ?_; conv => whnf)); exact trivial) ?_; conv => whnf) | (refine ⟨_, RemV.nonneg (by omega) (by omega), ?_⟩; conv => whnf))
      try refine goS_run tab 1000 _ _ _ _ ?_
      conv => whnf
      repeat (first | (refine And.intro (by omega) ?_; (try intro _); conv => whnf) | (refine And.intro ?_ (by omega); (try intro _); conv => whnf) | (refine ⟨_, RemV.nonneg (by omega) (by omega), ?_⟩; conv => whnf))
      refine RunsS.subR [] (meet (false) ?BJ3) ?SS3 ?HH3
      case BJ3 => exact (jF (by omega))
      case SS3 => repeat (first | exact trivial | refine ⟨by rfl, ?_⟩)
      case HH3 => repeat (first | exact trivial | refine ⟨by rfl, ?_⟩)
  · intro b hb
    cases b
    · have hb : ¬ (1 < e - pos ∧ byteAt src pos = 48) := fun hq => by have := hb.2 hq; cases this
      rw [if_neg hb] at ho
      try refine goS_run tab 1000 _ _ _ _ ?_
      conv => whnf
      repeat (first | (refine And.intro (by omega) ?_; (try intro _); conv => whnf) | (refine And.intro ?_ (by omega); (try intro _); conv => whnf) | (refine ⟨_, RemV.nonneg (by omega) (by omega), ?_⟩; conv => whnf))
      refine RunsS.subR [] (RunsS.loop (fun (⟨i, a⟩ : Nat × Nat) => [(4, .v (.int .i64 i)), (3, .v (.int .i64 a)), (2, .v (.int .i64 e)), (0, .ptr 0 0)]) (fun (⟨i, a⟩ : Nat × Nat) => [scB src pos, toksB l 1]) 2 (fun (⟨i, a⟩ : Nat × Nat) => (pos ≤ i ∧ i ≤ e ∧ a ≤ 1099511627776) ∧ numF src e pos 0 = numF src e i a) (fun (⟨i, a⟩ : Nat × Nat) => e - i) ?round4 ((pos, 0)) ?J04) ?SS4 ?HH4
      case J04 => exact (⟨by omega, rfl⟩)
      case SS4 => repeat (first | exact trivial | refine ⟨by rfl, ?_⟩)
      case HH4 => repeat (first | exact trivial | refine ⟨by rfl, ?_⟩)
      rintro ⟨i, a⟩ hJ back
      try dsimp only at hJ back
      conv => whnf
      try dsimp only
      refine goS_run tab 1000 _ _ _ _ ?_
      conv => whnf
      repeat (first | (refine And.intro (by omega) ?_; (try intro _); conv => whnf) | (refine And.intro ?_ (by omega); (try intro _); conv => whnf) | (refine ⟨_, RemV.nonneg (by omega) (by omega), ?_⟩; conv => whnf))
      refine ⟨fun hk => ?_, fun hk => ?_⟩ <;> conv => whnf
      · have hdi := dig_of (hdig i (by omega) (by omega))
        obtain ⟨c, hc⟩ : ∃ c, c = byteAt src ((i : Int)).toNat := ⟨_, rfl⟩
        have hc' : byteAt src i = c := hc.symm
        rw [hc'] at hdi
        have hm : 10 * (a : Int) + ((c : Int) - 48) % 256 = ((10 * a + (c - 48) : Nat) : Int) := by omega
        conv => whnf
        repeat (first | (refine And.intro (by omega) ?_; (try intro _); conv => whnf) | (refine And.intro ?_ (by omega); (try intro _); conv => whnf) | (refine ⟨_, RemV.nonneg (by omega) (by omega), ?_⟩; conv => whnf))
        rw [← hc]
        conv => whnf
        repeat (first | (refine And.intro (by omega) ?_; (try intro _); conv => whnf) | (refine And.intro ?_ (by omega); (try intro _); conv => whnf) | (refine ⟨_, RemV.nonneg (by omega) (by omega), ?_⟩; conv => whnf))
        rw [hm]
        refine ⟨fun hx => ?_, fun hx => ?_⟩ <;> conv => whnf
        · conv => whnf
          repeat (first | (refine And.intro (by omega) ?_; (try intro _); conv => whnf) | (refine And.intro ?_ (by omega); (try intro _); conv => whnf) | (refine ⟨_, RemV.nonneg (by omega) (by omega), ?_⟩; conv => whnf))
          have hn : numF src e pos 0 = none := by
            rw [hJ.2]
            unfold numF
            rw [if_pos (by omega), hc', if_neg (by omega)]
          rw [hn] at ho
          subst ho
          refine RunsS.callN (wrong_fn src pos) [0, 1] ?CNr5 (by repeat (first | exact trivial | refine ⟨by rfl, ?_⟩)) ?CNa5
          case CNa5 => rfl
          intro _ _
          conv => whnf
          try refine goS_run tab 1000 _ _ _ _ ?_
          conv => whnf
          repeat (first | (refine And.intro (by omega) ?_; (try intro _); conv => whnf) | (refine And.intro ?_ (by omega); (try intro _); conv => whnf) | (refine ⟨_, RemV.nonneg (by omega) (by omega), ?_⟩; conv => whnf))
          try refine RunsS.panicU ?_
          exact UnwS.pan Tryd.func29 (EndS.mk (()) (trivial) [] (by repeat (first | exact trivial | refine ⟨by rfl, ?_⟩)) rfl rfl (okPan rfl))
        · conv => whnf
          repeat (first | (refine And.intro (by omega) ?_; (try intro _); conv => whnf) | (refine And.intro ?_ (by omega); (try intro _); conv => whnf) | (refine ⟨_, RemV.nonneg (by omega) (by omega), ?_⟩; conv => whnf))
          have hn : numF src e pos 0 = numF src e (i + 1) (10 * a + (c - 48)) := by
            rw [hJ.2]
            conv => lhs; unfold numF
            rw [if_pos (by omega), hc', if_pos (by omega)]
          refine RunsS.subR [] (back ((i + 1, 10 * a + (c - 48))) ?BJ6 ?BM6) ?SS6 ?HH6
          case BJ6 => exact (⟨by omega, hn⟩)
          case BM6 => (try dsimp only); omega
          case SS6 => repeat (first | exact trivial | refine ⟨by rfl, ?_⟩)
          case HH6 => repeat (first | exact trivial | refine ⟨by rfl, ?_⟩)
      · have hn : numF src e pos 0 = some a := by
          rw [hJ.2]
          unfold numF
          rw [if_neg (by omega)]
        rw [hn] at ho
        subst ho
        conv => whnf
        repeat (first | (refine And.intro (by omega) ?_; (try intro _); conv => whnf) | (refine And.intro ?_ (by omega); (try intro _); conv => whnf) | (refine ⟨_, RemV.nonneg (by omega) (by omega), ?_⟩; conv => whnf))
        refine RunsS.callN (add_fn src pos l hl ⟨2, 0, ⟨#[]⟩, a⟩ e) [0, 1] ?CNr7 (by repeat (first | exact trivial | refine ⟨by rfl, ?_⟩)) ?CNa7
        case CNa7 => rfl
        intro _ _
        conv => whnf
        try refine goS_run tab 1000 _ _ _ _ ?_
        conv => whnf
        repeat (first | (refine And.intro (by omega) ?_; (try intro _); conv => whnf) | (refine And.intro ?_ (by omega); (try intro _); conv => whnf) | (refine ⟨_, RemV.nonneg (by omega) (by omega), ?_⟩; conv => whnf))
        try refine RunsS.retU ?_
        try refine RunsS.finU ?_
        exact UnwS.ret tab Tryd.func29 rfl (EndS.mk (()) (trivial) [(2, 2)] (by repeat (first | exact trivial | refine ⟨by rfl, ?_⟩)) rfl rfl (okRet rfl rfl))
    · rw [if_pos (hb.1 rfl)] at ho
      subst ho
      try refine goS_run tab 1000 _ _ _ _ ?_
      conv => whnf
      repeat (first | (refine And.intro (by omega) ?_; (try intro _); conv => whnf) | (refine And.intro ?_ (by omega); (try intro _); conv => whnf) | (refine ⟨_, RemV.nonneg (by omega) (by omega), ?_⟩; conv => whnf))
      refine RunsS.callN (wrong_fn src pos) [0, 1] ?CNr8 (by repeat (first | exact trivial | refine ⟨by rfl, ?_⟩)) ?CNa8
      case CNa8 => rfl
      intro _ _
      conv => whnf
      try refine goS_run tab 1000 _ _ _ _ ?_
      conv => whnf
      repeat (first | (refine And.intro (by omega) ?_; (try intro _); conv => whnf) | (refine And.intro ?_ (by omega); (try intro _); conv => whnf) | (refine ⟨_, RemV.nonneg (by omega) (by omega), ?_⟩; conv => whnf))
      try refine RunsS.panicU ?_
      exact UnwS.pan Tryd.func29 (EndS.mk (()) (trivial) [] (by repeat (first | exact trivial | refine ⟨by rfl, ?_⟩)) rfl rfl (okPan rfl))

theorem slHasPrefix_fn {h : Array Obj} (s p : ByteArray) : FnV Tryd.prog 49 #[.string s, .string p] h fun r h' => r = .bool (decide (p.size ≤ s.size ∧ s.extract 0 p.size = p)) ∧ Keeps h.size h h' := by
  refine Fn.ofS (args := [.string s, .string p]) Tryd.func49 (by kernel_rfl) rfl Tryd.ntmps49 rfl fun w0 cs => ?_
  conv => whnf
  refine goS_run tab 1000 _ _ _ _ ?_
  conv => whnf
  repeat (first | (refine And.intro (by omega) ?_; (try intro _); conv => whnf) | (refine And.intro ?_ (by omega); (try intro _); conv => whnf) | (refine ⟨_, RemV.nonneg (by omega) (by omega), ?_⟩; conv => whnf))
  refine ⟨fun hl => ?_, fun hl => ?_⟩ <;> conv => whnf
  · conv => whnf
    repeat (first | (refine And.intro (by omega) ?_; (try intro _); conv => whnf) | (refine And.intro ?_ (by omega); (try intro _); conv => whnf) | (refine ⟨_, RemV.nonneg (by omega) (by omega), ?_⟩; conv => whnf))
    refine RunsS.retU (UnwS.ret tab Tryd.func49 rfl fun Ez Hz Az Sz K => ⟨_, rfl, ?_, K.keeps⟩)
    refine congrArg Value.bool (decide_eq_decide.2 ?_)
    exact ⟨fun e => ⟨by omega, e⟩, fun e => e.2⟩
  · conv => whnf
    repeat (first | (refine And.intro (by omega) ?_; (try intro _); conv => whnf) | (refine And.intro ?_ (by omega); (try intro _); conv => whnf) | (refine ⟨_, RemV.nonneg (by omega) (by omega), ?_⟩; conv => whnf))
    refine RunsS.retU (UnwS.ret tab Tryd.func49 rfl fun Ez Hz Az Sz K => ⟨_, rfl, ?_, K.keeps⟩)
    exact congrArg Value.bool (decide_eq_false (fun e => hl (by omega))).symm
theorem HasPrefix_fn {h : Array Obj} (s p : ByteArray) : FnV Tryd.prog 43 #[.string s, .string p] h fun r h' => r = .bool (decide (p.size ≤ s.size ∧ s.extract 0 p.size = p)) ∧ Keeps h.size h h' := by
  refine Fn.ofS (args := [.string s, .string p]) Tryd.func43 (by kernel_rfl) rfl Tryd.ntmps43 rfl fun w0 cs => ?_
  conv => whnf
  refine goS_run tab 1000 _ _ _ _ ?_
  conv => whnf
  repeat (first | (refine And.intro (by omega) ?_; (try intro _); conv => whnf) | (refine And.intro ?_ (by omega); (try intro _); conv => whnf) | (refine ⟨_, RemV.nonneg (by omega) (by omega), ?_⟩; conv => whnf))
  refine RunsS.callV (fun Ez Hz Az Sz K => slHasPrefix_fn s p) ?_
  conv => whnf
  try refine goS_run tab 1000 _ _ _ _ ?_
  conv => whnf
  repeat (first | (refine And.intro (by omega) ?_; (try intro _); conv => whnf) | (refine And.intro ?_ (by omega); (try intro _); conv => whnf) | (refine ⟨_, RemV.nonneg (by omega) (by omega), ?_⟩; conv => whnf))
  refine RunsS.retU (UnwS.ret tab Tryd.func43 rfl fun Ez Hz Az Sz K => ⟨_, rfl, rfl, K.keeps⟩)

/-- where a comment ends -/
def notLf (c : Nat) : Bool := !(c == 10)
abbrev comm (src : ByteArray) (pos : Nat) : Prop := (⟨#[47, 47]⟩ : ByteArray).size ≤ (src.extract pos src.size).size ∧ (src.extract pos src.size).extract 0 (⟨#[47, 47]⟩ : ByteArray).size = ⟨#[47, 47]⟩
def signO (src : ByteArray) (pos : Nat) (l : List Tok) : OutS :=
  if comm src pos then .ret (.tup []) 2 [scB src (runE src notLf pos), toksB l 1]
  else .ret (.tup []) 3 [scB src (pos + 1) 2, toksB (l ++ [⟨3, pos, src.extract pos (pos + 1), 0⟩]) 2]
theorem sign_fn (src : ByteArray) (hs : src.size ≤ 65536) (pos : Nat) (hp : pos < src.size) (l : List Tok) (hl : l.length ≤ 65536) : FnS Tryd.prog 30 2 [.ptr 0 0] [scB src pos, toksB l 1] (fun _ : Unit => True)
    (fun _ => signO src pos l) := by
  obtain ⟨o, ho⟩ : ∃ o, o = signO src pos l := ⟨_, rfl⟩
  rw [← ho]
  unfold signO at ho
  refine FnS.of Tryd.func30 (by kernel_rfl) rfl Tryd.ntmps30 rfl fun E0 F h w0 cs => ?_
  conv => whnf
  refine goS_run tab 1000 _ _ _ _ ?_
  conv => whnf
  repeat (first | (refine And.intro (by omega) ?_; (try intro _); conv => whnf) | (refine And.intro ?_ (by omega); (try intro _); conv => whnf) | (refine ⟨_, RemV.nonneg (by omega) (by omega), ?_⟩; conv => whnf))
  refine RunsS.held tab (.fl 0 (.fl 1 (.fl 2 (.fl 3 (.fl 4 (.fl 5 (.fl 6 (.fl 7 (.fl 8 (.e1 9 [] (.fl 10 .done))))))))))) (by kernel_rfl) ?_
  conv => whnf
  try refine goR_run tab _ _ _ _ _ _ ?_
  conv => whnf
  repeat (first | (refine And.intro (by omega) ?_; (try intro _); conv => whnf) | (refine And.intro ?_ (by omega); (try intro _); conv => whnf) | (refine And.intro (by (conv => whnf); (repeat (refine And.intro (by (conv => whnf); first | rfl | exact trivial) ?_; conv => whnf)); exact trivial) ?_; conv => whnf) | (refine ⟨_, RemV.nonneg (by omega) (by omega), ?_⟩; conv => whnf))
  try refine goS_run tab 1000 _ _ _ _ ?_
  conv => whnf
  repeat (first | (refine And.intro (by omega) ?_; (try intro _); conv => whnf) | (refine And.intro ?_ (by omega); (try intro _); conv => whnf) | (refine ⟨_, RemV.nonneg (by omega) (by omega), ?_⟩; conv => whnf))
  by_cases hq : comm src pos
  rotate_left
  · rw [if_neg hq] at ho
    subst ho
    refine EffR.callV (fun Ez Hz Az Sz K => HasPrefix_fn (src.extract pos src.size) ⟨#[47, 47]⟩) (by (conv => whnf); (repeat (refine And.intro (by (conv => whnf); first | rfl | exact trivial) ?_; conv => whnf)); exact trivial) ?_
    conv => whnf
    rw [decide_eq_false hq]
    try dsimp only
    try refine goR_run tab _ _ _ _ _ _ ?_
    conv => whnf
    repeat (first | (refine And.intro (by omega) ?_; (try intro _); conv => whnf) | (refine And.intro ?_ (by omega); (try intro _); conv => whnf) | (refine And.intro (by (conv => whnf); (repeat (refine And.intro (by (conv => whnf); first | rfl | exact trivial) ?_; conv => whnf)); exact trivial) ?_; conv => whnf) | (refine ⟨_, RemV.nonneg (by omega) (by omega), ?_⟩; conv => whnf))
    try refine goS_run tab 1000 _ _ _ _ ?_
    conv => whnf
    repeat (first | (refine And.intro (by omega) ?_; (try intro _); conv => whnf) | (refine And.intro ?_ (by omega); (try intro _); conv => whnf) | (refine ⟨_, RemV.nonneg (by omega) (by omega), ?_⟩; conv => whnf))
    refine RunsS.held tab (.fl 0 (.fl 1 (.fl 2 (.fl 3 (.fl 4 (.fl 5 (.fl 6 (.fl 7 (.fl 8 (.fl 9 (.fl 10 (.fl 11 (.fl 12 (.fl 13 (.fl 14 (.fl 15 (.fl 16 (.fl 17 (.fl 18 (.fl 19 (.fl 20 (.e1 21 [] .done)))))))))))))))))))))) (by kernel_rfl) ?_
    conv => whnf
    try refine goR_run tab _ _ _ _ _ _ ?_
    conv => whnf
    repeat (first | (refine And.intro (by omega) ?_; (try intro _); conv => whnf) | (refine And.intro ?_ (by omega); (try intro _); conv => whnf) | (refine And.intro (by (conv => whnf); (repeat (refine And.intro (by (conv => whnf); first | rfl | exact trivial) ?_; conv => whnf)); exact trivial) ?_; conv => whnf) | (refine ⟨_, RemV.nonneg (by omega) (by omega), ?_⟩; conv => whnf))
    try refine goS_run tab 1000 _ _ _ _ ?_
    conv => whnf
    repeat (first | (refine And.intro (by omega) ?_; (try intro _); conv => whnf) | (refine And.intro ?_ (by omega); (try intro _); conv => whnf) | (refine ⟨_, RemV.nonneg (by omega) (by omega), ?_⟩; conv => whnf))
    refine EffR.callN (add_fn src pos l hl ⟨3, 0, src.extract pos (pos + 1), 0⟩ (pos + 1)) [0, 1] ?CNr9 (by repeat (first | exact trivial | refine ⟨by rfl, ?_⟩)) ?CNa9
    case CNa9 => rfl
    intro _ _
    conv => whnf
    try refine And.intro (by (conv => whnf); (repeat (refine And.intro (by (conv => whnf); first | rfl | exact trivial) ?_; conv => whnf)); exact trivial) ?_
    try refine goR_run tab _ _ _ _ _ _ ?_
    conv => whnf
    repeat (first | (refine And.intro (by omega) ?_; (try intro _); conv => whnf) | (refine And.intro ?_ (by omega); (try intro _); conv => whnf) | (refine And.intro (by (conv => whnf); (repeat (refine And.intro (by (conv => whnf); first | rfl | exact trivial) ?_; conv => whnf)); exact trivial) ?_; conv => whnf) | (refine ⟨_, RemV.nonneg (by omega) (by omega), ?_⟩; conv => whnf))
    try refine goS_run tab 1000 _ _ _ _ ?_
    conv => whnf
    repeat (first | (refine And.intro (by omega) ?_; (try intro _); conv => whnf) | (refine And.intro ?_ (by omega); (try intro _); conv => whnf) | (refine ⟨_, RemV.nonneg (by omega) (by omega), ?_⟩; conv => whnf))
    try refine RunsS.retU ?_
    try refine RunsS.finU ?_
    exact UnwS.ret tab Tryd.func30 rfl (EndS.mk (()) (trivial) [(2, 2)] (by repeat (first | exact trivial | refine ⟨by rfl, ?_⟩)) rfl rfl (okRet rfl rfl))
  · rw [if_pos hq] at ho
    refine EffR.callV (fun Ez Hz Az Sz K => HasPrefix_fn (src.extract pos src.size) ⟨#[47, 47]⟩) (by (conv => whnf); (repeat (refine And.intro (by (conv => whnf); first | rfl | exact trivial) ?_; conv => whnf)); exact trivial) ?_
    conv => whnf
    rw [decide_eq_true hq]
    try dsimp only
    try refine goR_run tab _ _ _ _ _ _ ?_
    conv => whnf
    repeat (first | (refine And.intro (by omega) ?_; (try intro _); conv => whnf) | (refine And.intro ?_ (by omega); (try intro _); conv => whnf) | (refine And.intro (by (conv => whnf); (repeat (refine And.intro (by (conv => whnf); first | rfl | exact trivial) ?_; conv => whnf)); exact trivial) ?_; conv => whnf) | (refine ⟨_, RemV.nonneg (by omega) (by omega), ?_⟩; conv => whnf))
    try refine goS_run tab 1000 _ _ _ _ ?_
    conv => whnf
    repeat (first | (refine And.intro (by omega) ?_; (try intro _); conv => whnf) | (refine And.intro ?_ (by omega); (try intro _); conv => whnf) | (refine ⟨_, RemV.nonneg (by omega) (by omega), ?_⟩; conv => whnf))
    refine RunsS.subR [] (RunsS.loop (fun (i : Nat) => [(0, .ptr 0 0)]) (fun (i : Nat) => [scB src i, toksB l 1]) 2 (fun (i : Nat) => (pos ≤ i ∧ i ≤ src.size) ∧ runE src notLf pos = runE src notLf i) (fun (i : Nat) => src.size - i) ?round10 (pos) ?J010) ?SS10 ?HH10
    case J010 => exact (⟨by omega, rfl⟩)
    case SS10 => repeat (first | exact trivial | refine ⟨by rfl, ?_⟩)
    case HH10 => repeat (first | exact trivial | refine ⟨by rfl, ?_⟩)
    rintro i hJ back
    try dsimp only at hJ back
    conv => whnf
    try dsimp only
    refine goS_run tab 1000 _ _ _ _ ?_
    conv => whnf
    repeat (first | (refine And.intro (by omega) ?_; (try intro _); conv => whnf) | (refine And.intro ?_ (by omega); (try intro _); conv => whnf) | (refine ⟨_, RemV.nonneg (by omega) (by omega), ?_⟩; conv => whnf))
    refine RunsS.held tab (.fl 0 (.fl 1 (.fl 2 (.fl 3 (.fl 4 (.fl 5 (.fl 6 (.fl 7 (.fl 8 (.fl 9 (.fl 10 (.fl 11 (.fl 12 (.fl 13 (.fl 14 (.fl 15 (.fl 16 (.fl 17 (.fl 18 (.fl 19 (.fl 20 (.fl 21 .done)))))))))))))))))))))) (by kernel_rfl) ?_
    conv => whnf
    try refine goR_run tab _ _ _ _ _ _ ?_
    conv => whnf
    repeat (first | (refine And.intro (by omega) ?_; (try intro _); conv => whnf) | (refine And.intro ?_ (by omega); (try intro _); conv => whnf) | (refine And.intro (by (conv => whnf); (repeat (refine And.intro (by (conv => whnf); first | rfl | exact trivial) ?_; conv => whnf)); exact trivial) ?_; conv => whnf) | (refine ⟨_, RemV.nonneg (by omega) (by omega), ?_⟩; conv => whnf))
    try refine goS_run tab 1000 _ _ _ _ ?_
    conv => whnf
    repeat (first | (refine And.intro (by omega) ?_; (try intro _); conv => whnf) | (refine And.intro ?_ (by omega); (try intro _); conv => whnf) | (refine ⟨_, RemV.nonneg (by omega) (by omega), ?_⟩; conv => whnf))
    refine ⟨fun hk => ?_, fun hk => ?_⟩ <;> conv => whnf
    · try refine goR_run tab _ _ _ _ _ _ ?_
      conv => whnf
      repeat (first | (refine And.intro (by omega) ?_; (try intro _); conv => whnf) | (refine And.intro ?_ (by omega); (try intro _); conv => whnf) | (refine And.intro (by (conv => whnf); (repeat (refine And.intro (by (conv => whnf); first | rfl | exact trivial) ?_; conv => whnf)); exact trivial) ?_; conv => whnf) | (refine ⟨_, RemV.nonneg (by omega) (by omega), ?_⟩; conv => whnf))
      try refine goS_run tab 1000 _ _ _ _ ?_
      conv => whnf
      repeat (first | (refine And.intro (by omega) ?_; (try intro _); conv => whnf) | (refine And.intro ?_ (by omega); (try intro _); conv => whnf) | (refine ⟨_, RemV.nonneg (by omega) (by omega), ?_⟩; conv => whnf))
      refine ⟨fun hx => ?_, fun hx => ?_⟩ <;> conv => whnf
      · try refine goR_run tab _ _ _ _ _ _ ?_
        conv => whnf
        repeat (first | (refine And.intro (by omega) ?_; (try intro _); conv => whnf) | (refine And.intro ?_ (by omega); (try intro _); conv => whnf) | (refine And.intro (by (conv => whnf); (repeat (refine And.intro (by (conv => whnf); first | rfl | exact trivial) ?_; conv => whnf)); exact trivial) ?_; conv => whnf) | (refine ⟨_, RemV.nonneg (by omega) (by omega), ?_⟩; conv => whnf))
        try refine goS_run tab 1000 _ _ _ _ ?_
        conv => whnf
        repeat (first | (refine And.intro (by omega) ?_; (try intro _); conv => whnf) | (refine And.intro ?_ (by omega); (try intro _); conv => whnf) | (refine ⟨_, RemV.nonneg (by omega) (by omega), ?_⟩; conv => whnf))
        have hx' : byteAt src i = 10 := by exact_mod_cast hx
        have hn : runE src notLf pos = i := by
          rw [hJ.2]
          unfold runE
          rw [dif_pos (by omega), hx']; rfl
        rw [hn] at ho
        subst ho
        conv => whnf
        repeat (first | (refine And.intro (by omega) ?_; (try intro _); conv => whnf) | (refine And.intro ?_ (by omega); (try intro _); conv => whnf) | (refine ⟨_, RemV.nonneg (by omega) (by omega), ?_⟩; conv => whnf))
        try refine RunsS.retU ?_
        try refine RunsS.finU ?_
        exact UnwS.ret tab Tryd.func30 rfl (EndS.mk (()) (trivial) [] (by repeat (first | exact trivial | refine ⟨by rfl, ?_⟩)) rfl rfl (okRet rfl rfl))
      · try refine goR_run tab _ _ _ _ _ _ ?_
        conv => whnf
        repeat (first | (refine And.intro (by omega) ?_; (try intro _); conv => whnf) | (refine And.intro ?_ (by omega); (try intro _); conv => whnf) | (refine And.intro (by (conv => whnf); (repeat (refine And.intro (by (conv => whnf); first | rfl | exact trivial) ?_; conv => whnf)); exact trivial) ?_; conv => whnf) | (refine ⟨_, RemV.nonneg (by omega) (by omega), ?_⟩; conv => whnf))
        try refine goS_run tab 1000 _ _ _ _ ?_
        conv => whnf
        repeat (first | (refine And.intro (by omega) ?_; (try intro _); conv => whnf) | (refine And.intro ?_ (by omega); (try intro _); conv => whnf) | (refine ⟨_, RemV.nonneg (by omega) (by omega), ?_⟩; conv => whnf))
        have hx' : ¬ byteAt src i = 10 := fun e => hx (by exact_mod_cast e)
        have hn : runE src notLf pos = runE src notLf (i + 1) := by
          rw [hJ.2]
          conv => lhs; unfold runE
          rw [dif_pos (by omega), if_pos (by simp [notLf, hx'])]
        refine RunsS.subR [] (back (i + 1) ?BJ11 ?BM11) ?SS11 ?HH11
        case BJ11 => exact (⟨by omega, hn⟩)
        case BM11 => (try dsimp only); omega
        case SS11 => repeat (first | exact trivial | refine ⟨by rfl, ?_⟩)
        case HH11 => repeat (first | exact trivial | refine ⟨by rfl, ?_⟩)
    · try refine goR_run tab _ _ _ _ _ _ ?_
      conv => whnf
      repeat (first | (refine And.intro (by omega) ?_; (try intro _); conv => whnf) | (refine And.intro ?_ (by omega); (try intro _); conv => whnf) | (refine And.intro (by (conv => whnf); (repeat (refine And.intro (by (conv => whnf); first | rfl | exact trivial) ?_; conv => whnf)); exact trivial) ?_; conv => whnf) | (refine ⟨_, RemV.nonneg (by omega) (by omega), ?_⟩; conv => whnf))
      try refine goS_run tab 1000 _ _ _ _ ?_
      conv => whnf
      repeat (first | (refine And.intro (by omega) ?_; (try intro _); conv => whnf) | (refine And.intro ?_ (by omega); (try intro _); conv => whnf) | (refine ⟨_, RemV.nonneg (by omega) (by omega), ?_⟩; conv => whnf))
      have hn : runE src notLf pos = i := by
        rw [hJ.2]
        unfold runE
        rw [dif_neg (by omega)]
      rw [hn] at ho
      subst ho
      conv => whnf
      repeat (first | (refine And.intro (by omega) ?_; (try intro _); conv => whnf) | (refine And.intro ?_ (by omega); (try intro _); conv => whnf) | (refine ⟨_, RemV.nonneg (by omega) (by omega), ?_⟩; conv => whnf))
      try refine RunsS.retU ?_
      try refine RunsS.finU ?_
      exact UnwS.ret tab Tryd.func30 rfl (EndS.mk (()) (trivial) [] (by repeat (first | exact trivial | refine ⟨by rfl, ?_⟩)) rfl rfl (okRet rfl rfl))
end Go.Proofs.YtlminkahdlcikaaDoor

namespace Go.Proofs.YtlminkahdlcikaaDoor
open Go Go.Fw
set_option maxRecDepth 100000
set_option maxHeartbeats 64000000

theorem classes_fn {h : Array Obj} : FnV Tryd.prog 25 #[] h fun r h' => r = .agg (SV.gs (fun _ => undef) clsS).toArray ∧ Keeps h.size h h' := by
  refine Fn.ofS (args := []) Tryd.func25 (by kernel_rfl) rfl Tryd.ntmps25 rfl fun w0 cs => ?_
  conv => whnf
  refine goS_run tab 1000 _ _ _ _ ?_
  conv => whnf
  repeat (first | (refine And.intro (by omega) ?_; (try intro _); conv => whnf) | (refine And.intro ?_ (by omega); (try intro _); conv => whnf) | (refine ⟨_, RemV.nonneg (by omega) (by omega), ?_⟩; conv => whnf))
  repeat ((first | refine RunsS.againU ?_ | refine RunsS.loopU ?_ | (refine RunsS.indexV tab ?_ ?hmx; (case hmx => decide))); (conv => whnf); refine goS_run tab 1000 _ _ _ _ ?_; (conv => whnf); repeat ((first | refine And.intro (by decide) ?_ | refine And.intro (fun _ => ?_) (fun hn => absurd (by decide) hn) | refine And.intro (fun hp => absurd hp (by decide)) (fun _ => ?_)); (conv => whnf)))
  refine RunsS.retU (UnwS.ret tab Tryd.func25 rfl fun Ez Hz Az Sz K => ⟨_, rfl, ?_, K.keeps⟩)
  kernel_rfl
end Go.Proofs.YtlminkahdlcikaaDoor

namespace Go.Proofs.YtlminkahdlcikaaDoor
open Go Go.Fw
set_option maxRecDepth 100000
set_option maxHeartbeats 64000000

def resB (b : Nat) (x : SV) : Nat × Blk := (b, .cells 23 [x])
theorem lexDN_fn : FnDS Tryd.prog 24 3 [.ptr 0 0, .ptr 1 0, .ptr 2 0] [] .returning (fun _ : Unit => True) (fun _ => ⟨.returning, 3, []⟩) := by
  refine FnDS.of Tryd.func24 (by kernel_rfl) rfl Tryd.ntmps24 rfl fun E0 F h w0 c0 cs => ?_
  try refine goS_run tab 1000 _ _ _ _ ?_
  conv => whnf
  repeat (first | (refine And.intro (by omega) ?_; (try intro _); conv => whnf) | (refine And.intro ?_ (by omega); (try intro _); conv => whnf) | (refine ⟨_, RemV.nonneg (by omega) (by omega), ?_⟩; conv => whnf))
  refine RunsS.recoverN ?_
  try refine goS_run tab 1000 _ _ _ _ ?_
  conv => whnf
  repeat (first | (refine And.intro (by omega) ?_; (try intro _); conv => whnf) | (refine And.intro ?_ (by omega); (try intro _); conv => whnf) | (refine ⟨_, RemV.nonneg (by omega) (by omega), ?_⟩; conv => whnf))
  refine RunsS.effV (fun E h => eff_neNil0 Tryd.underlying20) ?_
  try refine goS_run tab 1000 _ _ _ _ ?_
  conv => whnf
  repeat (first | (refine And.intro (by omega) ?_; (try intro _); conv => whnf) | (refine And.intro ?_ (by omega); (try intro _); conv => whnf) | (refine ⟨_, RemV.nonneg (by omega) (by omega), ?_⟩; conv => whnf))
  refine RunsS.finU (UnwS.retD tab Tryd.func24 rfl (EndD.mk () trivial [] trivial rfl rfl rfl))
theorem lexDP_fn (x y z : Value) (pos : Int) : FnDS Tryd.prog 24 3 [.ptr 0 0, .ptr 1 0, .ptr 2 0] [(0, .cells 23 [.v x]), (1, .cells 3 [.v y]), (2, .cells 24 [.v z])] (.panicking (placeP pos)) (fun _ : Unit => True)
    (fun _ => ⟨.panicking [{ v := .iface 42 (.int .i64 pos), recovered := true }], 3, [(0, .cells 23 [.v (.slice none 0 0)]), (1, .cells 3 [.v (.int .i64 pos)]), (2, .cells 24 [.v (.int .i64 50)])]⟩) := by
  refine FnDS.of Tryd.func24 (by kernel_rfl) rfl Tryd.ntmps24 rfl fun E0 F h w0 c0 cs => ?_
  try refine goS_run tab 1000 _ _ _ _ ?_
  conv => whnf
  repeat (first | (refine And.intro (by omega) ?_; (try intro _); conv => whnf) | (refine And.intro ?_ (by omega); (try intro _); conv => whnf) | (refine ⟨_, RemV.nonneg (by omega) (by omega), ?_⟩; conv => whnf))
  refine RunsS.recoverP ?_
  try refine goS_run tab 1000 _ _ _ _ ?_
  conv => whnf
  repeat (first | (refine And.intro (by omega) ?_; (try intro _); conv => whnf) | (refine And.intro ?_ (by omega); (try intro _); conv => whnf) | (refine ⟨_, RemV.nonneg (by omega) (by omega), ?_⟩; conv => whnf))
  refine RunsS.effV (fun E h => eff_assert Tryd.underlying42 (fun _ e => by cases e)) ?_
  try refine goS_run tab 1000 _ _ _ _ ?_
  conv => whnf
  repeat (first | (refine And.intro (by omega) ?_; (try intro _); conv => whnf) | (refine And.intro ?_ (by omega); (try intro _); conv => whnf) | (refine ⟨_, RemV.nonneg (by omega) (by omega), ?_⟩; conv => whnf))
  refine RunsS.finU (UnwS.retD tab Tryd.func24 rfl (EndD.mk () trivial [] ⟨by rfl, by rfl, by rfl, trivial⟩ rfl rfl rfl))
end Go.Proofs.YtlminkahdlcikaaDoor

namespace Go.Proofs.YtlminkahdlcikaaDoor
open Go Go.Fw

/-- one step of the scanner at a place within the source: none: an error there -/
def stepL (src : ByteArray) (pos : Nat) (l : List Tok) : Option (Nat × List Tok) :=
  let k := cls (byteAt src pos)
  if k = 0 then none
  else if k = 1 then some (pos + 1, l)
  else if k = 2 then (if 32 < nameE src pos - pos then none else some (nameE src pos, l ++ [⟨1, pos, src.extract pos (nameE src pos), 0⟩]))
  else if k = 3 then (if 1 < numE src pos - pos ∧ byteAt src pos = 48 then none else
    match numF src (numE src pos) pos 0 with
    | none => none
    | some n => some (numE src pos, l ++ [⟨2, pos, ⟨#[]⟩, n⟩]))
  else (if comm src pos then some (runE src notLf pos, l) else some (pos + 1, l ++ [⟨3, pos, src.extract pos (pos + 1), 0⟩]))

theorem runE_gt {s : ByteArray} {p : Nat → Bool} {i : Nat} (hi : i < s.size) (hp : p (byteAt s i) = true) : i < runE s p i := by
  unfold runE
  rw [dif_pos hi, if_pos hp]
  have := runE_ge s p (i + 1)
  omega
theorem stepL_ok {src : ByteArray} {pos : Nat} {l : List Tok} (hp : pos < src.size) {p' : Nat} {l' : List Tok} (h : stepL src pos l = some (p', l')) : pos < p' ∧ p' ≤ src.size ∧ l'.length ≤ l.length + 1 := by
  have hin : ∀ {a b f : Int}, cls (byteAt src pos) = a → inRun a b f (byteAt src pos) = true := fun h => by simp [inRun, h]
  simp only [stepL] at h
  split at h
  · cases h
  · split at h
    · cases h
      exact ⟨by omega, by omega, by omega⟩
    · split at h
      · rename_i hk
        split at h
        · cases h
        · cases h
          exact ⟨runE_gt hp (hin hk), runE_le _ _ _ (by omega), by simp⟩
      · split at h
        · rename_i hk
          split at h
          · cases h
          · split at h
            · cases h
            · cases h
              exact ⟨runE_gt hp (hin hk), runE_le _ _ _ (by omega), by simp⟩
        · split at h
          · rename_i hc
            cases h
            refine ⟨runE_gt hp ?_, runE_le _ _ _ (by omega), by omega⟩
            by_cases h10 : byteAt src pos = 10
            · rename_i h1 _ _
              exact absurd (by rw [h10]; decide) h1
            · simp [notLf, h10]
          · cases h
            exact ⟨by omega, by omega, by simp⟩
/-- the rest of the source: the tokens, or the place of an error -/
def lexG (src : ByteArray) (pos : Nat) (l : List Tok) : List Tok ⊕ Nat :=
  if hp : pos < src.size then
    match h : stepL src pos l with
    | none => .inr pos
    | some (p', l') => lexG src p' l'
  else .inl l
termination_by src.size - pos
decreasing_by
  have := stepL_ok hp h
  omega
end Go.Proofs.YtlminkahdlcikaaDoor

namespace Go.Proofs.YtlminkahdlcikaaDoor
open Go Go.Fw

abbrev Bs := List UInt8
abbrev bs (s : ByteArray) : Bs := s.data.toList
theorem bs_len (s : ByteArray) : (bs s).length = s.size := rfl
theorem bs_drop {s : ByteArray} {i : Nat} (hi : i < s.size) : ∃ c, (bs s).drop i = c :: (bs s).drop (i + 1) ∧ c.toNat = byteAt s i := by
  refine ⟨(bs s)[i]'hi, List.drop_eq_getElem_cons hi, ?_⟩
  unfold byteAt
  rw [List.getD_eq_getElem?_getD, List.getElem?_eq_getElem hi]; rfl
theorem bs_extract (s : ByteArray) (i j : Nat) : bs (s.extract i j) = ((bs s).take j).drop i := by
  simp [bs, List.drop_take]

/-- the longest start of bytes of a kind -/
def runL (p : Nat → Bool) : Bs → Nat
  | [] => 0
  | c :: r => if p c.toNat then runL p r + 1 else 0
theorem runL_le (p : Nat → Bool) : ∀ b, runL p b ≤ b.length
  | [] => Nat.le_refl _
  | c :: r => by
    have := runL_le p r
    simp only [runL, List.length_cons]
    split <;> omega
theorem runL_app (p : Nat → Bool) (y : Bs) : ∀ b, runL p (b ++ y) = if runL p b = b.length then b.length + runL p y else runL p b
  | [] => by simp [runL]
  | c :: r => by
    simp only [List.cons_append, runL, List.length_cons]
    rw [runL_app p y r]
    have := runL_le p r
    by_cases hp : p c.toNat = true
    · simp only [hp, if_true]
      split <;> split <;> omega
    · simp [hp]
theorem runL_take (p : Nat → Bool) : ∀ (b : Bs) (q : Nat), runL p b ≤ q → runL p (b.take q) = runL p b
  | [], q, _ => by simp [runL]
  | c :: r, 0, h => by
    simp only [runL] at h ⊢
    split at h
    · omega
    · simp [runL, *]
  | c :: r, q + 1, h => by
    simp only [List.take_succ_cons, runL] at h ⊢
    split at h
    · rename_i hp
      rw [runL_take p r q (by omega), if_pos hp]
    · rename_i hp
      simp [hp]
theorem runL_all {p : Nat → Bool} : ∀ {b : Bs}, (∀ c ∈ b, p c.toNat = true) → runL p b = b.length
  | [], _ => rfl
  | c :: r, h => by
    simp only [runL, List.length_cons, h c (List.mem_cons_self ..), if_true]
    rw [runL_all fun c hc => h c (List.mem_cons_of_mem _ hc)]
theorem runL_mem {p : Nat → Bool} : ∀ {b : Bs}, ∀ c ∈ b.take (runL p b), p c.toNat = true
  | [], c, h => by simp at h
  | x :: r, c, h => by
    simp only [runL] at h
    split at h
    · rename_i hp
      simp only [List.take_succ_cons, List.mem_cons] at h
      rcases h with rfl | h
      · exact hp
      · exact runL_mem c h
    · simp at h
theorem runL_pos {p : Nat → Bool} {c : UInt8} {r : Bs} (h : p c.toNat = true) : 0 < runL p (c :: r) := by simp [runL, h]

theorem runE_eq (s : ByteArray) (p : Nat → Bool) (i : Nat) (hi : i ≤ s.size) : runE s p i = i + runL p ((bs s).drop i) := by
  induction h : s.size - i generalizing i with
  | zero =>
    unfold runE
    rw [dif_neg (by omega), List.drop_eq_nil_of_le (by rw [bs_len]; omega)]; rfl
  | succ n ih =>
    obtain ⟨c, h1, h2⟩ := bs_drop (s := s) (i := i) (by omega)
    unfold runE
    rw [dif_pos (by omega), h1, ← h2]
    simp only [runL]
    split
    · rw [ih (i + 1) (by omega) (by omega)]; omega
    · omega

/-- the number of some digits; none: it is too great -/
def numL : Bs → Nat → Option Nat
  | [], a => some a
  | c :: r, a => if 10 * a + (c.toNat - 48) ≤ 1099511627776 then numL r (10 * a + (c.toNat - 48)) else none
theorem numF_eq (s : ByteArray) (e : Nat) (he : e ≤ s.size) (i a : Nat) : numF s e i a = numL (((bs s).take e).drop i) a := by
  induction h : e - i generalizing i a with
  | zero =>
    unfold numF
    rw [if_neg (by omega), List.drop_eq_nil_of_le (by simp; omega)]; rfl
  | succ n ih =>
    unfold numF
    have hi : i < ((bs s).take e).length := by rw [List.length_take, bs_len]; omega
    rw [if_pos (by omega), List.drop_eq_getElem_cons hi]
    simp only [numL]
    have hb : byteAt s i = (((bs s).take e)[i]'hi).toNat := by
      rw [List.getElem_take]
      unfold byteAt
      rw [List.getD_eq_getElem?_getD, List.getElem?_eq_getElem (by rw [List.length_take, bs_len] at hi; rw [show s.data.toList.length = s.size from rfl]; omega)]; rfl
    rw [hb]
    split
    · exact ih (i + 1) _ (by omega)
    · rfl

inductive Tk where
  | name (b : Bs)
  | num (n : Nat)
  | sign (c : UInt8)
def Tk.tok (p : Nat) : Tk → Tok
  | .name b => ⟨1, p, ⟨b.toArray⟩, 0⟩
  | .num n => ⟨2, p, ⟨#[]⟩, n⟩
  | .sign c => ⟨3, p, ⟨#[c]⟩, 0⟩
def nmC : Nat → Bool := inRun 2 3 95
def dgC : Nat → Bool := inRun 3 3 48
/-- one step: the token, if any, and how many bytes it takes; none: an error -/
def stepS : Bs → Option (Option Tk × Nat)
  | [] => none
  | c :: r =>
    if cls c.toNat = 0 then none
    else if cls c.toNat = 1 then some (none, 1)
    else if cls c.toNat = 2 then (if 32 < runL nmC (c :: r) then none else some (some (.name ((c :: r).take (runL nmC (c :: r)))), runL nmC (c :: r)))
    else if cls c.toNat = 3 then (if 1 < runL dgC (c :: r) ∧ c.toNat = 48 then none else
      match numL ((c :: r).take (runL dgC (c :: r))) 0 with
      | none => none
      | some n => some (some (.num n), runL dgC (c :: r)))
    else if c = 47 ∧ r.head? = some 47 then some (none, runL notLf (c :: r))
    else some (some (.sign c), 1)
theorem stepS_ok {b : Bs} {t : Option Tk} {k : Nat} (h : stepS b = some (t, k)) : 0 < k ∧ k ≤ b.length := by
  cases b with
  | nil => cases h
  | cons c r =>
    have hin : ∀ {a b f : Int}, cls c.toNat = a → inRun a b f c.toNat = true := fun h => by simp [inRun, h]
    simp only [stepS] at h
    repeat' (split at h)
    all_goals first | (cases h; done) | skip
    all_goals cases h
    · simp
    · exact ⟨runL_pos (hin (by assumption)), runL_le _ _⟩
    · exact ⟨runL_pos (hin (by assumption)), runL_le _ _⟩
    · rename_i hc
      exact ⟨runL_pos (by rw [hc.1]; decide), runL_le _ _⟩
    · simp

def addTk (p : Nat) (t : Option Tk) (l : List (Nat × Tk)) : List (Nat × Tk) := match t with
  | none => l
  | some t => (p, t) :: l
/-- the tokens and their places; or the place of an error -/
def lexN : Nat → Bs → Nat → List (Nat × Tk) ⊕ Nat
  | 0, _, _ => .inl []
  | _ + 1, [], _ => .inl []
  | f + 1, c :: r, p => match stepS (c :: r) with
    | none => .inr p
    | some (t, k) => match lexN f ((c :: r).drop k) (p + k) with
      | .inr q => .inr q
      | .inl l => .inl (addTk p t l)
def lexS (b : Bs) (p : Nat) : List (Nat × Tk) ⊕ Nat := lexN b.length b p
theorem lexN_more : ∀ (f : Nat) (b : Bs) (p : Nat), b.length ≤ f → lexN f b p = lexN b.length b p := by
  intro f
  induction f using Nat.strongRecOn with
  | _ f ih =>
    intro b p hf
    cases b with
    | nil => cases f <;> rfl
    | cons c r =>
      cases f with
      | zero => simp at hf
      | succ f =>
        simp only [lexN, List.length_cons] at hf ⊢
        split
        · rfl
        · rename_i t k hk
          have := stepS_ok hk
          simp only [List.length_cons] at this
          rw [ih f (by omega) _ _ (by simp; omega), ih r.length (by omega) _ _ (by simp; omega)]
theorem lexS_nil (p : Nat) : lexS [] p = .inl [] := rfl
theorem lexS_cons {b : Bs} (hb : b ≠ []) (p : Nat) : lexS b p = match stepS b with
    | none => .inr p
    | some (t, k) => match lexS (b.drop k) (p + k) with
      | .inr q => .inr q
      | .inl l => .inl (addTk p t l) := by
  cases b with
  | nil => exact absurd rfl hb
  | cons c r =>
    unfold lexS
    simp only [List.length_cons, lexN]
    split
    · rfl
    · rename_i t k hk
      have := stepS_ok hk
      simp only [List.length_cons] at this
      rw [lexN_more r.length _ _ (by simp; omega)]
theorem lexS_err {b : Bs} (hb : b ≠ []) (p : Nat) (h : stepS b = none) : lexS b p = .inr p := by rw [lexS_cons hb, h]
theorem lexS_step {b : Bs} {p k : Nat} {t : Option Tk} (h : stepS b = some (t, k)) : lexS b p = match lexS (b.drop k) (p + k) with
      | .inr q => .inr q
      | .inl l => .inl (addTk p t l) := by
  have hb : b ≠ [] := fun e => by rw [e] at h; cases h
  rw [lexS_cons hb, h]

/-- both say the same -/
theorem toArray_ext (s : ByteArray) : (⟨(bs s).toArray⟩ : ByteArray) = s := by cases s; rfl
theorem stepL_eq (src : ByteArray) (pos : Nat) (hp : pos < src.size) (l : List Tok) : stepL src pos l = match stepS ((bs src).drop pos) with
    | none => none
    | some (t, k) => some (pos + k, l ++ (addTk pos t []).map fun q => q.2.tok q.1) := by
  obtain ⟨c, h1, h2⟩ := bs_drop hp
  have hn : nameE src pos = pos + runL nmC ((bs src).drop pos) := runE_eq _ _ _ (by omega)
  have hd : numE src pos = pos + runL dgC ((bs src).drop pos) := runE_eq _ _ _ (by omega)
  have hl : runE src notLf pos = pos + runL notLf ((bs src).drop pos) := runE_eq _ _ _ (by omega)
  have hx : ∀ k, src.extract pos (pos + k) = ⟨(((bs src).drop pos).take k).toArray⟩ := fun k => by
    rw [← toArray_ext (src.extract pos (pos + k)), bs_extract, List.take_drop, Nat.add_comm]
  have hdl : runL dgC ((bs src).drop pos) ≤ src.size - pos := by
    have := runL_le dgC ((bs src).drop pos)
    rwa [List.length_drop, bs_len] at this
  have hf : numF src (numE src pos) pos 0 = numL (((bs src).drop pos).take (runL dgC ((bs src).drop pos))) 0 := by
    rw [hd, numF_eq _ _ (by omega), List.take_drop, Nat.add_comm]
  have hcm : comm src pos ↔ (c = 47 ∧ ((bs src).drop (pos + 1)).head? = some 47) := by
    have e0 : src.extract pos src.size = ⟨((bs src).drop pos).toArray⟩ := by
      rw [← toArray_ext (src.extract pos src.size), bs_extract, List.take_of_length_le (by rw [bs_len]; exact Nat.le_refl _)]
    unfold comm
    rw [e0, h1]
    cases hr : (bs src).drop (pos + 1) with
    | nil =>
      constructor
      · intro h
        have := h.1
        simp [ByteArray.size] at this
      · rintro ⟨_, h⟩
        simp at h
    | cons d r =>
      constructor
      · rintro ⟨_, h⟩
        have h := congrArg bs h
        rw [bs_extract] at h
        simp [ByteArray.size, bs] at h
        simp [h.1, h.2]
      · rintro ⟨rfl, h⟩
        simp at h
        subst h
        refine ⟨by simp [ByteArray.size], ?_⟩
        rw [← toArray_ext (ByteArray.extract _ _ _), bs_extract]
        simp [ByteArray.size, bs]
  rw [hd] at hf
  simp only [stepL, hn, hd, hl, hf, hcm, ← h2, Nat.add_sub_cancel_left, hx]
  rw [h1]
  simp only [stepS]
  split
  · rfl
  · split
    · simp [addTk]
    · split
      · split
        · rfl
        · simp [addTk, Tk.tok]
      · split
        · split
          · rfl
          · split <;> simp_all [addTk, Tk.tok]
        · split
          · simp [addTk]
          · simp [addTk, Tk.tok]
def toksP (l : List (Nat × Tk)) : List Tok := l.map fun q => q.2.tok q.1
theorem lexG_eq (src : ByteArray) (pos : Nat) (hp : pos ≤ src.size) (l : List Tok) : lexG src pos l = match lexS ((bs src).drop pos) pos with
    | .inl l' => .inl (l ++ toksP l')
    | .inr q => .inr q := by
  induction h : src.size - pos using Nat.strongRecOn generalizing pos l with
  | _ n ih =>
    unfold lexG
    split
    · rename_i hlt
      have hs := stepL_eq src pos hlt l
      have hne : (bs src).drop pos ≠ [] := fun e => by
        have := congrArg List.length e
        rw [List.length_drop, bs_len] at this
        simp at this
        omega
      rw [lexS_cons hne]
      split
      · rename_i h0
        rw [h0] at hs
        cases hss : stepS ((bs src).drop pos) with
        | none => rfl
        | some q => rw [hss] at hs; cases hs
      · rename_i p' l' h0
        have hok := stepL_ok hlt h0
        rw [h0] at hs
        cases hss : stepS ((bs src).drop pos) with
        | none => rw [hss] at hs; cases hs
        | some q =>
          obtain ⟨t, k⟩ := q
          rw [hss] at hs
          simp only [Option.some.injEq, Prod.mk.injEq] at hs
          obtain ⟨rfl, rfl⟩ := hs
          rw [ih _ (by omega) (pos + k) (by omega) _ rfl]
          dsimp only
          rw [List.drop_drop]
          cases lexS ((bs src).drop (pos + k)) (pos + k) with
          | inr q => rfl
          | inl l' => cases t <;> simp [addTk, toksP]
    · rw [List.drop_eq_nil_of_le (by rw [bs_len]; omega)]
      simp [lexS_nil, toksP]
end Go.Proofs.YtlminkahdlcikaaDoor

namespace Go.Proofs.YtlminkahdlcikaaDoor
open Go Go.Fw
set_option maxRecDepth 100000
set_option maxHeartbeats 64000000

theorem big_fn {h : Array Obj} (src : ByteArray) (hs : 65536 < src.size) : FnV Tryd.prog 12 #[.string src] h fun r h' => r = .tuple #[.slice none 0 0, .int .i64 0, .int .i64 2] ∧ Keeps h.size h h' := by
  refine Fn.ofS (args := [.string src]) Tryd.func12 (by kernel_rfl) rfl Tryd.ntmps12 rfl fun w0 cs => ?_
  conv => whnf
  refine goS_run tab 1000 _ _ _ _ ?_
  conv => whnf
  repeat (first | (refine And.intro (by omega) ?_; (try intro _); conv => whnf) | (refine And.intro ?_ (by omega); (try intro _); conv => whnf) | (refine ⟨_, RemV.nonneg (by omega) (by omega), ?_⟩; conv => whnf))
  refine RunsS.retU (UnwS.ret tab Tryd.func12 rfl fun Ez Hz Az Sz K => ⟨_, rfl, rfl, K.keeps⟩)
/-- what Lex answers -/
def lexA (src : ByteArray) : List Tok ⊕ Nat := lexG src 0 []
def lexO (src : ByteArray) : OutS := match lexA src with
  | .inl l => .ret (.tup [.buf 0, .v (.int .i64 0), .v (.int .i64 0)]) 1 [toksB l 0]
  | .inr p => .ret (.tup [.v (.slice none 0 0), .v (.int .i64 p), .v (.int .i64 50)]) 0 []
theorem lexG_none {src : ByteArray} {pos : Nat} {l : List Tok} (hp : pos < src.size) (h : stepL src pos l = none) : lexG src pos l = .inr pos := by
  unfold lexG
  rw [dif_pos hp]
  split
  · rfl
  · rename_i h'
    rw [h] at h'; cases h'
theorem lexG_some {src : ByteArray} {pos : Nat} {l : List Tok} (hp : pos < src.size) {p' : Nat} {l' : List Tok} (h : stepL src pos l = some (p', l')) : lexG src pos l = lexG src p' l' := by
  conv => lhs; unfold lexG
  rw [dif_pos hp]
  split
  · rename_i h'
    rw [h] at h'; cases h'
  · rename_i h'
    rw [h] at h'; cases h'; rfl
theorem numO_step (src : ByteArray) (pos : Nat) (l : List Tok) (hq : cls (byteAt src pos) = 3) : numO src pos (numE src pos) l = match stepL src pos l with
    | none => .pan (placeP pos) 2 [scB src pos, toksB l 1]
    | some (p', l') => .ret (.tup []) 3 [scB src p' 2, toksB l' 2] := by
  simp only [numO, stepL, hq]
  by_cases hb : 1 < numE src pos - pos ∧ byteAt src pos = 48
  · simp [hb]
  · rw [if_neg hb]
    cases hz : numF src (numE src pos) pos 0 with
    | none => simp [hb]
    | some n => simp [hb]
theorem cls_cases (c : Nat) : cls c = 0 ∨ cls c = 1 ∨ cls c = 2 ∨ cls c = 3 ∨ cls c = 4 := by
  unfold cls
  repeat' split
  all_goals simp
abbrev scB3 (src : ByteArray) (pos : Int) (b : Nat) : Nat × Blk := (3, .cells 50 (scn src pos (.buf b)))
theorem lex_fn (src : ByteArray) (hs : src.size ≤ 65536) : FnS Tryd.prog 12 0 [.v (.string src)] [] (fun _ : Unit => True) (fun _ => lexO src) := by
  obtain ⟨o, ho⟩ : ∃ o, o = lexO src := ⟨_, rfl⟩
  rw [← ho]
  unfold lexO lexA at ho
  refine FnS.of Tryd.func12 (by kernel_rfl) rfl Tryd.ntmps12 rfl fun E0 F h w0 cs => ?_
  conv => whnf
  refine goS_run tab 1000 _ _ _ _ ?_
  conv => whnf
  repeat (first | (refine And.intro (by omega) ?_; (try intro _); conv => whnf) | (refine And.intro ?_ (by omega); (try intro _); conv => whnf) | (refine ⟨_, RemV.nonneg (by omega) (by omega), ?_⟩; conv => whnf))
  refine RunsS.deferU ?_
  try refine goS_run tab 1000 _ _ _ _ ?_
  conv => whnf
  repeat (first | (refine And.intro (by omega) ?_; (try intro _); conv => whnf) | (refine And.intro ?_ (by omega); (try intro _); conv => whnf) | (refine ⟨_, RemV.nonneg (by omega) (by omega), ?_⟩; conv => whnf))
  refine RunsS.callV (fun Ez Hz Az Sz K => classes_fn) ?_
  conv => whnf
  try refine goS_run tab 1000 _ _ _ _ ?_
  conv => whnf
  repeat (first | (refine And.intro (by omega) ?_; (try intro _); conv => whnf) | (refine And.intro ?_ (by omega); (try intro _); conv => whnf) | (refine ⟨_, RemV.nonneg (by omega) (by omega), ?_⟩; conv => whnf))
  refine RunsS.subR (nx' := 4) (l' := [(5, .ptr 3 0), (4, .ptr 2 0), (3, .ptr 1 0), (2, .ptr 0 0), (0, .v (.string src))]) (H' := [(3, .cells 50 (scn src 0 (.v (.slice none 0 0)))), (2, .cells 24 [.v (.int .i64 0)]), (1, .cells 3 [.v (.int .i64 0)]), (0, .cells 23 [.v (.slice none 0 0)])]) [] ?_ (by repeat (first | exact trivial | refine ⟨by rfl, ?_⟩)) (by repeat (first | exact trivial | refine ⟨by rfl, ?_⟩))
  refine RunsS.nilOwn (l' := [(5, .ptr 3 0), (4, .ptr 2 0), (3, .ptr 1 0), (2, .ptr 0 0), (0, .v (.string src))]) (H' := [(3, .cells 50 (scn src 0 (.buf 4))), (2, .cells 24 [.v (.int .i64 0)]), (1, .cells 3 [.v (.int .i64 0)]), (0, .cells 23 [.v (.slice none 0 0)])]) 35 4 ?_ (by rfl) (by rfl) (by rfl)
  refine RunsS.subR [] (RunsS.loop (fun (⟨pos, l⟩ : Nat × List Tok) => [(5, .ptr 3 0), (4, .ptr 2 0), (3, .ptr 1 0), (2, .ptr 0 0), (0, .v (.string src))]) (fun (⟨pos, l⟩ : Nat × List Tok) => [scB3 src pos 4, toksB l 4, (2, .cells 24 [.v (.int .i64 0)]), (1, .cells 3 [.v (.int .i64 0)]), (0, .cells 23 [.v (.slice none 0 0)])]) 5 (fun (⟨pos, l⟩ : Nat × List Tok) => (pos ≤ src.size ∧ l.length ≤ pos) ∧ lexG src 0 [] = lexG src pos l) (fun (⟨pos, l⟩ : Nat × List Tok) => src.size - pos) ?round1 ((0, [])) ?J01) ?SS1 ?HH1
  case J01 => exact (⟨by exact ⟨Nat.zero_le _, Nat.zero_le _⟩, rfl⟩)
  case SS1 => repeat (first | exact trivial | refine ⟨by rfl, ?_⟩)
  case HH1 => repeat (first | exact trivial | refine ⟨by rfl, ?_⟩)
  rintro ⟨pos, l⟩ hJ back
  try dsimp only at hJ back
  conv => whnf
  try dsimp only
  refine goS_run tab 1000 _ _ _ _ ?_
  conv => whnf
  repeat (first | (refine And.intro (by omega) ?_; (try intro _); conv => whnf) | (refine And.intro ?_ (by omega); (try intro _); conv => whnf) | (refine ⟨_, RemV.nonneg (by omega) (by omega), ?_⟩; conv => whnf))
  refine ⟨fun hk => ?_, fun hk => ?_⟩ <;> conv => whnf
  · obtain ⟨c, hc⟩ : ∃ c, c = byteAt src ((pos : Int)).toNat := ⟨_, rfl⟩
    have hb : c < 256 := by rw [hc]; exact byteAt_lt src pos
    conv => whnf
    repeat (first | (refine And.intro (by omega) ?_; (try intro _); conv => whnf) | (refine And.intro ?_ (by omega); (try intro _); conv => whnf) | (refine ⟨_, RemV.nonneg (by omega) (by omega), ?_⟩; conv => whnf))
    refine RunsS.held tab (.fl 0 (.fl 1 (.fl 2 (.fl 3 (.fl 4 (.fl 5 (.fl 6 (.fl 7 (.fl 8 (.fl 9 (.fl 10 (.fl 11 (.fl 12 (.fl 13 (.fl 14 (.fl 15 (.fl 16 (.e1 17 [] .done)))))))))))))))))) (by kernel_rfl) ?_
    conv => whnf
    try refine goR_run tab _ _ _ _ _ _ ?_
    conv => whnf
    repeat (first | (refine And.intro (by omega) ?_; (try intro _); conv => whnf) | (refine And.intro ?_ (by omega); (try intro _); conv => whnf) | (refine And.intro (by (conv => whnf); (repeat (refine And.intro (by (conv => whnf); first | rfl | exact trivial) ?_; conv => whnf)); exact trivial) ?_; conv => whnf) | (refine ⟨_, RemV.nonneg (by omega) (by omega), ?_⟩; conv => whnf))
    try refine goS_run tab 1000 _ _ _ _ ?_
    conv => whnf
    repeat (first | (refine And.intro (by omega) ?_; (try intro _); conv => whnf) | (refine And.intro ?_ (by omega); (try intro _); conv => whnf) | (refine ⟨_, RemV.nonneg (by omega) (by omega), ?_⟩; conv => whnf))
    rw [← hc]
    conv => whnf
    repeat (first | (refine And.intro (by omega) ?_; (try intro _); conv => whnf) | (refine And.intro ?_ (by omega); (try intro _); conv => whnf) | (refine ⟨_, RemV.nonneg (by omega) (by omega), ?_⟩; conv => whnf))
    have hcc : c = byteAt src pos := hc
    rw [ldR_at (scn_cls hb) (by rfl) (by rfl) (by rfl)]
    have hP : pos < src.size := by omega
    rcases cls_cases c with hq | hq | hq | hq | hq <;> rw [hq]
    · have hs0 : stepL src pos l = none := by simp only [stepL, ← hcc, hq, if_true]
      rw [hJ.2, lexG_none hP hs0] at ho
      subst ho
      try refine goR_run tab _ _ _ _ _ _ ?_
      conv => whnf
      repeat (first | (refine And.intro (by omega) ?_; (try intro _); conv => whnf) | (refine And.intro ?_ (by omega); (try intro _); conv => whnf) | (refine And.intro (by (conv => whnf); (repeat (refine And.intro (by (conv => whnf); first | rfl | exact trivial) ?_; conv => whnf)); exact trivial) ?_; conv => whnf) | (refine ⟨_, RemV.nonneg (by omega) (by omega), ?_⟩; conv => whnf))
      try refine goS_run tab 1000 _ _ _ _ ?_
      conv => whnf
      repeat (first | (refine And.intro (by omega) ?_; (try intro _); conv => whnf) | (refine And.intro ?_ (by omega); (try intro _); conv => whnf) | (refine ⟨_, RemV.nonneg (by omega) (by omega), ?_⟩; conv => whnf))
      refine EffR.callN (wrong_fn src pos) [3, 4] ?CNr2 (by repeat (first | exact trivial | refine ⟨by rfl, ?_⟩)) ?CNa2
      case CNa2 => rfl
      intro _ _
      conv => whnf
      try refine And.intro (by (conv => whnf); (repeat (refine And.intro (by (conv => whnf); first | rfl | exact trivial) ?_; conv => whnf)); exact trivial) ?_
      try refine goR_run tab _ _ _ _ _ _ ?_
      conv => whnf
      repeat (first | (refine And.intro (by omega) ?_; (try intro _); conv => whnf) | (refine And.intro ?_ (by omega); (try intro _); conv => whnf) | (refine And.intro (by (conv => whnf); (repeat (refine And.intro (by (conv => whnf); first | rfl | exact trivial) ?_; conv => whnf)); exact trivial) ?_; conv => whnf) | (refine ⟨_, RemV.nonneg (by omega) (by omega), ?_⟩; conv => whnf))
      try refine goS_run tab 1000 _ _ _ _ ?_
      conv => whnf
      repeat (first | (refine And.intro (by omega) ?_; (try intro _); conv => whnf) | (refine And.intro ?_ (by omega); (try intro _); conv => whnf) | (refine ⟨_, RemV.nonneg (by omega) (by omega), ?_⟩; conv => whnf))
      refine UnwS.deferN (lexDP_fn _ _ _ pos) [0, 1, 2] ?_ ⟨by rfl, by rfl, by rfl, trivial⟩ rfl (fun e => by cases e)
      intro _ _
      (conv => whnf)
      refine UnwS.ret tab Tryd.func12 rfl (EndS.mk () trivial [] (by exact trivial) rfl rfl (okRet rfl rfl))
    · have hs0 : stepL src pos l = some (pos + 1, l) := by simp [stepL, ← hcc, hq]
      try refine goR_run tab _ _ _ _ _ _ ?_
      conv => whnf
      repeat (first | (refine And.intro (by omega) ?_; (try intro _); conv => whnf) | (refine And.intro ?_ (by omega); (try intro _); conv => whnf) | (refine And.intro (by (conv => whnf); (repeat (refine And.intro (by (conv => whnf); first | rfl | exact trivial) ?_; conv => whnf)); exact trivial) ?_; conv => whnf) | (refine ⟨_, RemV.nonneg (by omega) (by omega), ?_⟩; conv => whnf))
      try refine goS_run tab 1000 _ _ _ _ ?_
      conv => whnf
      repeat (first | (refine And.intro (by omega) ?_; (try intro _); conv => whnf) | (refine And.intro ?_ (by omega); (try intro _); conv => whnf) | (refine ⟨_, RemV.nonneg (by omega) (by omega), ?_⟩; conv => whnf))
      refine EffR.callN (pass_fn src pos ⟨by omega, by omega⟩) [3, 4] ?CNr3 (by repeat (first | exact trivial | refine ⟨by rfl, ?_⟩)) ?CNa3
      case CNa3 => rfl
      intro _ _
      conv => whnf
      try refine And.intro (by (conv => whnf); (repeat (refine And.intro (by (conv => whnf); first | rfl | exact trivial) ?_; conv => whnf)); exact trivial) ?_
      try refine goR_run tab _ _ _ _ _ _ ?_
      conv => whnf
      repeat (first | (refine And.intro (by omega) ?_; (try intro _); conv => whnf) | (refine And.intro ?_ (by omega); (try intro _); conv => whnf) | (refine And.intro (by (conv => whnf); (repeat (refine And.intro (by (conv => whnf); first | rfl | exact trivial) ?_; conv => whnf)); exact trivial) ?_; conv => whnf) | (refine ⟨_, RemV.nonneg (by omega) (by omega), ?_⟩; conv => whnf))
      try refine goS_run tab 1000 _ _ _ _ ?_
      conv => whnf
      repeat (first | (refine And.intro (by omega) ?_; (try intro _); conv => whnf) | (refine And.intro ?_ (by omega); (try intro _); conv => whnf) | (refine ⟨_, RemV.nonneg (by omega) (by omega), ?_⟩; conv => whnf))
      refine RunsS.subR [] (back ((pos + 1, l)) ?BJ4 ?BM4) ?SS4 ?HH4
      case BJ4 => exact (⟨by dsimp only; omega, hJ.2.trans (lexG_some hP hs0)⟩)
      case BM4 => (try dsimp only); omega
      case SS4 => repeat (first | exact trivial | refine ⟨by rfl, ?_⟩)
      case HH4 => repeat (first | exact trivial | refine ⟨by rfl, ?_⟩)
    · by_cases hbad : 32 < nameE src pos - pos
      · have C := name_fn src hs pos (by omega) l (by omega)
        simp only [endO, if_pos hbad] at C
        have hs0 : stepL src pos l = none := by simp [stepL, ← hcc, hq, hbad]
        rw [hJ.2, lexG_none hP hs0] at ho
        subst ho
        try refine goR_run tab _ _ _ _ _ _ ?_
        conv => whnf
        repeat (first | (refine And.intro (by omega) ?_; (try intro _); conv => whnf) | (refine And.intro ?_ (by omega); (try intro _); conv => whnf) | (refine And.intro (by (conv => whnf); (repeat (refine And.intro (by (conv => whnf); first | rfl | exact trivial) ?_; conv => whnf)); exact trivial) ?_; conv => whnf) | (refine ⟨_, RemV.nonneg (by omega) (by omega), ?_⟩; conv => whnf))
        try refine goS_run tab 1000 _ _ _ _ ?_
        conv => whnf
        repeat (first | (refine And.intro (by omega) ?_; (try intro _); conv => whnf) | (refine And.intro ?_ (by omega); (try intro _); conv => whnf) | (refine ⟨_, RemV.nonneg (by omega) (by omega), ?_⟩; conv => whnf))
        refine EffR.callN (C) [3, 4] ?CNr5 (by repeat (first | exact trivial | refine ⟨by rfl, ?_⟩)) ?CNa5
        case CNa5 => rfl
        intro _ _
        conv => whnf
        try refine And.intro (by (conv => whnf); (repeat (refine And.intro (by (conv => whnf); first | rfl | exact trivial) ?_; conv => whnf)); exact trivial) ?_
        try refine goR_run tab _ _ _ _ _ _ ?_
        conv => whnf
        repeat (first | (refine And.intro (by omega) ?_; (try intro _); conv => whnf) | (refine And.intro ?_ (by omega); (try intro _); conv => whnf) | (refine And.intro (by (conv => whnf); (repeat (refine And.intro (by (conv => whnf); first | rfl | exact trivial) ?_; conv => whnf)); exact trivial) ?_; conv => whnf) | (refine ⟨_, RemV.nonneg (by omega) (by omega), ?_⟩; conv => whnf))
        try refine goS_run tab 1000 _ _ _ _ ?_
        conv => whnf
        repeat (first | (refine And.intro (by omega) ?_; (try intro _); conv => whnf) | (refine And.intro ?_ (by omega); (try intro _); conv => whnf) | (refine ⟨_, RemV.nonneg (by omega) (by omega), ?_⟩; conv => whnf))
        refine UnwS.deferN (lexDP_fn _ _ _ pos) [0, 1, 2] ?_ ⟨by rfl, by rfl, by rfl, trivial⟩ rfl (fun e => by cases e)
        intro _ _
        (conv => whnf)
        refine UnwS.ret tab Tryd.func12 rfl (EndS.mk () trivial [] (by exact trivial) rfl rfl (okRet rfl rfl))
      · have C := name_fn src hs pos (by omega) l (by omega)
        simp only [endO, if_neg hbad] at C
        have hs0 : stepL src pos l = some (nameE src pos, l ++ [⟨1, pos, src.extract pos (nameE src pos), 0⟩]) := by simp [stepL, ← hcc, hq, hbad]
        have hok := stepL_ok hP hs0
        try refine goR_run tab _ _ _ _ _ _ ?_
        conv => whnf
        repeat (first | (refine And.intro (by omega) ?_; (try intro _); conv => whnf) | (refine And.intro ?_ (by omega); (try intro _); conv => whnf) | (refine And.intro (by (conv => whnf); (repeat (refine And.intro (by (conv => whnf); first | rfl | exact trivial) ?_; conv => whnf)); exact trivial) ?_; conv => whnf) | (refine ⟨_, RemV.nonneg (by omega) (by omega), ?_⟩; conv => whnf))
        try refine goS_run tab 1000 _ _ _ _ ?_
        conv => whnf
        repeat (first | (refine And.intro (by omega) ?_; (try intro _); conv => whnf) | (refine And.intro ?_ (by omega); (try intro _); conv => whnf) | (refine ⟨_, RemV.nonneg (by omega) (by omega), ?_⟩; conv => whnf))
        refine EffR.callN (C) [3, 4] ?CNr6 (by repeat (first | exact trivial | refine ⟨by rfl, ?_⟩)) ?CNa6
        case CNa6 => rfl
        intro _ _
        conv => whnf
        try refine And.intro (by (conv => whnf); (repeat (refine And.intro (by (conv => whnf); first | rfl | exact trivial) ?_; conv => whnf)); exact trivial) ?_
        try refine goR_run tab _ _ _ _ _ _ ?_
        conv => whnf
        repeat (first | (refine And.intro (by omega) ?_; (try intro _); conv => whnf) | (refine And.intro ?_ (by omega); (try intro _); conv => whnf) | (refine And.intro (by (conv => whnf); (repeat (refine And.intro (by (conv => whnf); first | rfl | exact trivial) ?_; conv => whnf)); exact trivial) ?_; conv => whnf) | (refine ⟨_, RemV.nonneg (by omega) (by omega), ?_⟩; conv => whnf))
        try refine goS_run tab 1000 _ _ _ _ ?_
        conv => whnf
        repeat (first | (refine And.intro (by omega) ?_; (try intro _); conv => whnf) | (refine And.intro ?_ (by omega); (try intro _); conv => whnf) | (refine ⟨_, RemV.nonneg (by omega) (by omega), ?_⟩; conv => whnf))
        refine RunsS.subR [(4, 5)] (back ((nameE src pos, l ++ [⟨1, pos, src.extract pos (nameE src pos), 0⟩])) ?BJ7 ?BM7) ?SS7 ?HH7
        case BJ7 => exact (⟨by dsimp only; omega, hJ.2.trans (lexG_some hP hs0)⟩)
        case BM7 => (try dsimp only); omega
        case SS7 => repeat (first | exact trivial | refine ⟨by rfl, ?_⟩)
        case HH7 => repeat (first | exact trivial | refine ⟨by rfl, ?_⟩)
    · have hd : pos < numE src pos := runE_gt hP (by rw [← hcc]; simp [inRun, hq])
      cases hs0 : stepL src pos l with
      | none =>
        have C := number_fn src hs pos (by omega) hd l (by omega)
        have hO : numO src pos (numE src pos) l = .pan (placeP pos) 2 [scB src pos, toksB l 1] := by
          have := numO_step src pos l (by rw [← hcc]; exact hq)
          rw [hs0] at this
          exact this
        simp only [hO] at C
        rw [hJ.2, lexG_none hP hs0] at ho
        subst ho
        try refine goR_run tab _ _ _ _ _ _ ?_
        conv => whnf
        repeat (first | (refine And.intro (by omega) ?_; (try intro _); conv => whnf) | (refine And.intro ?_ (by omega); (try intro _); conv => whnf) | (refine And.intro (by (conv => whnf); (repeat (refine And.intro (by (conv => whnf); first | rfl | exact trivial) ?_; conv => whnf)); exact trivial) ?_; conv => whnf) | (refine ⟨_, RemV.nonneg (by omega) (by omega), ?_⟩; conv => whnf))
        try refine goS_run tab 1000 _ _ _ _ ?_
        conv => whnf
        repeat (first | (refine And.intro (by omega) ?_; (try intro _); conv => whnf) | (refine And.intro ?_ (by omega); (try intro _); conv => whnf) | (refine ⟨_, RemV.nonneg (by omega) (by omega), ?_⟩; conv => whnf))
        refine EffR.callN (C) [3, 4] ?CNr8 (by repeat (first | exact trivial | refine ⟨by rfl, ?_⟩)) ?CNa8
        case CNa8 => rfl
        intro _ _
        conv => whnf
        try refine And.intro (by (conv => whnf); (repeat (refine And.intro (by (conv => whnf); first | rfl | exact trivial) ?_; conv => whnf)); exact trivial) ?_
        try refine goR_run tab _ _ _ _ _ _ ?_
        conv => whnf
        repeat (first | (refine And.intro (by omega) ?_; (try intro _); conv => whnf) | (refine And.intro ?_ (by omega); (try intro _); conv => whnf) | (refine And.intro (by (conv => whnf); (repeat (refine And.intro (by (conv => whnf); first | rfl | exact trivial) ?_; conv => whnf)); exact trivial) ?_; conv => whnf) | (refine ⟨_, RemV.nonneg (by omega) (by omega), ?_⟩; conv => whnf))
        try refine goS_run tab 1000 _ _ _ _ ?_
        conv => whnf
        repeat (first | (refine And.intro (by omega) ?_; (try intro _); conv => whnf) | (refine And.intro ?_ (by omega); (try intro _); conv => whnf) | (refine ⟨_, RemV.nonneg (by omega) (by omega), ?_⟩; conv => whnf))
        refine UnwS.deferN (lexDP_fn _ _ _ pos) [0, 1, 2] ?_ ⟨by rfl, by rfl, by rfl, trivial⟩ rfl (fun e => by cases e)
        intro _ _
        (conv => whnf)
        refine UnwS.ret tab Tryd.func12 rfl (EndS.mk () trivial [] (by exact trivial) rfl rfl (okRet rfl rfl))
      | some q =>
        obtain ⟨p', l'⟩ := q
        have hok := stepL_ok hP hs0
        have C := number_fn src hs pos (by omega) hd l (by omega)
        have hO : numO src pos (numE src pos) l = .ret (.tup []) 3 [scB src p' 2, toksB l' 2] := by
          have := numO_step src pos l (by rw [← hcc]; exact hq)
          rw [hs0] at this
          exact this
        simp only [hO] at C
        try refine goR_run tab _ _ _ _ _ _ ?_
        conv => whnf
        repeat (first | (refine And.intro (by omega) ?_; (try intro _); conv => whnf) | (refine And.intro ?_ (by omega); (try intro _); conv => whnf) | (refine And.intro (by (conv => whnf); (repeat (refine And.intro (by (conv => whnf); first | rfl | exact trivial) ?_; conv => whnf)); exact trivial) ?_; conv => whnf) | (refine ⟨_, RemV.nonneg (by omega) (by omega), ?_⟩; conv => whnf))
        try refine goS_run tab 1000 _ _ _ _ ?_
        conv => whnf
        repeat (first | (refine And.intro (by omega) ?_; (try intro _); conv => whnf) | (refine And.intro ?_ (by omega); (try intro _); conv => whnf) | (refine ⟨_, RemV.nonneg (by omega) (by omega), ?_⟩; conv => whnf))
        refine EffR.callN (C) [3, 4] ?CNr9 (by repeat (first | exact trivial | refine ⟨by rfl, ?_⟩)) ?CNa9
        case CNa9 => rfl
        intro _ _
        conv => whnf
        try refine And.intro (by (conv => whnf); (repeat (refine And.intro (by (conv => whnf); first | rfl | exact trivial) ?_; conv => whnf)); exact trivial) ?_
        try refine goR_run tab _ _ _ _ _ _ ?_
        conv => whnf
        repeat (first | (refine And.intro (by omega) ?_; (try intro _); conv => whnf) | (refine And.intro ?_ (by omega); (try intro _); conv => whnf) | (refine And.intro (by (conv => whnf); (repeat (refine And.intro (by (conv => whnf); first | rfl | exact trivial) ?_; conv => whnf)); exact trivial) ?_; conv => whnf) | (refine ⟨_, RemV.nonneg (by omega) (by omega), ?_⟩; conv => whnf))
        try refine goS_run tab 1000 _ _ _ _ ?_
        conv => whnf
        repeat (first | (refine And.intro (by omega) ?_; (try intro _); conv => whnf) | (refine And.intro ?_ (by omega); (try intro _); conv => whnf) | (refine ⟨_, RemV.nonneg (by omega) (by omega), ?_⟩; conv => whnf))
        refine RunsS.subR [(4, 5)] (back ((p', l')) ?BJ10 ?BM10) ?SS10 ?HH10
        case BJ10 => exact (⟨by dsimp only; omega, hJ.2.trans (lexG_some hP hs0)⟩)
        case BM10 => (try dsimp only); omega
        case SS10 => repeat (first | exact trivial | refine ⟨by rfl, ?_⟩)
        case HH10 => repeat (first | exact trivial | refine ⟨by rfl, ?_⟩)
    · have C := sign_fn src hs pos hP l (by omega)
      by_cases hcm : comm src pos
      · simp only [signO, if_pos hcm] at C
        have hs0 : stepL src pos l = some (runE src notLf pos, l) := by simp only [stepL, ← hcc, hq, if_pos hcm]; rfl
        have hok := stepL_ok hP hs0
        try refine goR_run tab _ _ _ _ _ _ ?_
        conv => whnf
        repeat (first | (refine And.intro (by omega) ?_; (try intro _); conv => whnf) | (refine And.intro ?_ (by omega); (try intro _); conv => whnf) | (refine And.intro (by (conv => whnf); (repeat (refine And.intro (by (conv => whnf); first | rfl | exact trivial) ?_; conv => whnf)); exact trivial) ?_; conv => whnf) | (refine ⟨_, RemV.nonneg (by omega) (by omega), ?_⟩; conv => whnf))
        try refine goS_run tab 1000 _ _ _ _ ?_
        conv => whnf
        repeat (first | (refine And.intro (by omega) ?_; (try intro _); conv => whnf) | (refine And.intro ?_ (by omega); (try intro _); conv => whnf) | (refine ⟨_, RemV.nonneg (by omega) (by omega), ?_⟩; conv => whnf))
        refine EffR.callN (C) [3, 4] ?CNr11 (by repeat (first | exact trivial | refine ⟨by rfl, ?_⟩)) ?CNa11
        case CNa11 => rfl
        intro _ _
        conv => whnf
        try refine And.intro (by (conv => whnf); (repeat (refine And.intro (by (conv => whnf); first | rfl | exact trivial) ?_; conv => whnf)); exact trivial) ?_
        try refine goR_run tab _ _ _ _ _ _ ?_
        conv => whnf
        repeat (first | (refine And.intro (by omega) ?_; (try intro _); conv => whnf) | (refine And.intro ?_ (by omega); (try intro _); conv => whnf) | (refine And.intro (by (conv => whnf); (repeat (refine And.intro (by (conv => whnf); first | rfl | exact trivial) ?_; conv => whnf)); exact trivial) ?_; conv => whnf) | (refine ⟨_, RemV.nonneg (by omega) (by omega), ?_⟩; conv => whnf))
        try refine goS_run tab 1000 _ _ _ _ ?_
        conv => whnf
        repeat (first | (refine And.intro (by omega) ?_; (try intro _); conv => whnf) | (refine And.intro ?_ (by omega); (try intro _); conv => whnf) | (refine ⟨_, RemV.nonneg (by omega) (by omega), ?_⟩; conv => whnf))
        refine RunsS.subR [] (back ((runE src notLf pos, l)) ?BJ12 ?BM12) ?SS12 ?HH12
        case BJ12 => exact (⟨by dsimp only; omega, hJ.2.trans (lexG_some hP hs0)⟩)
        case BM12 => (try dsimp only); omega
        case SS12 => repeat (first | exact trivial | refine ⟨by rfl, ?_⟩)
        case HH12 => repeat (first | exact trivial | refine ⟨by rfl, ?_⟩)
      · simp only [signO, if_neg hcm] at C
        have hs0 : stepL src pos l = some (pos + 1, l ++ [⟨3, pos, src.extract pos (pos + 1), 0⟩]) := by simp only [stepL, ← hcc, hq, if_neg hcm]; rfl
        have hok := stepL_ok hP hs0
        try refine goR_run tab _ _ _ _ _ _ ?_
        conv => whnf
        repeat (first | (refine And.intro (by omega) ?_; (try intro _); conv => whnf) | (refine And.intro ?_ (by omega); (try intro _); conv => whnf) | (refine And.intro (by (conv => whnf); (repeat (refine And.intro (by (conv => whnf); first | rfl | exact trivial) ?_; conv => whnf)); exact trivial) ?_; conv => whnf) | (refine ⟨_, RemV.nonneg (by omega) (by omega), ?_⟩; conv => whnf))
        try refine goS_run tab 1000 _ _ _ _ ?_
        conv => whnf
        repeat (first | (refine And.intro (by omega) ?_; (try intro _); conv => whnf) | (refine And.intro ?_ (by omega); (try intro _); conv => whnf) | (refine ⟨_, RemV.nonneg (by omega) (by omega), ?_⟩; conv => whnf))
        refine EffR.callN (C) [3, 4] ?CNr13 (by repeat (first | exact trivial | refine ⟨by rfl, ?_⟩)) ?CNa13
        case CNa13 => rfl
        intro _ _
        conv => whnf
        try refine And.intro (by (conv => whnf); (repeat (refine And.intro (by (conv => whnf); first | rfl | exact trivial) ?_; conv => whnf)); exact trivial) ?_
        try refine goR_run tab _ _ _ _ _ _ ?_
        conv => whnf
        repeat (first | (refine And.intro (by omega) ?_; (try intro _); conv => whnf) | (refine And.intro ?_ (by omega); (try intro _); conv => whnf) | (refine And.intro (by (conv => whnf); (repeat (refine And.intro (by (conv => whnf); first | rfl | exact trivial) ?_; conv => whnf)); exact trivial) ?_; conv => whnf) | (refine ⟨_, RemV.nonneg (by omega) (by omega), ?_⟩; conv => whnf))
        try refine goS_run tab 1000 _ _ _ _ ?_
        conv => whnf
        repeat (first | (refine And.intro (by omega) ?_; (try intro _); conv => whnf) | (refine And.intro ?_ (by omega); (try intro _); conv => whnf) | (refine ⟨_, RemV.nonneg (by omega) (by omega), ?_⟩; conv => whnf))
        refine RunsS.subR [(4, 5)] (back ((pos + 1, l ++ [⟨3, pos, src.extract pos (pos + 1), 0⟩])) ?BJ14 ?BM14) ?SS14 ?HH14
        case BJ14 => exact (⟨by dsimp only; omega, hJ.2.trans (lexG_some hP hs0)⟩)
        case BM14 => (try dsimp only); omega
        case SS14 => repeat (first | exact trivial | refine ⟨by rfl, ?_⟩)
        case HH14 => repeat (first | exact trivial | refine ⟨by rfl, ?_⟩)
  · conv => whnf
    repeat (first | (refine And.intro (by omega) ?_; (try intro _); conv => whnf) | (refine And.intro ?_ (by omega); (try intro _); conv => whnf) | (refine ⟨_, RemV.nonneg (by omega) (by omega), ?_⟩; conv => whnf))
    have hend : lexG src pos l = .inl l := by
      unfold lexG
      rw [dif_neg (by omega)]
    rw [hJ.2, hend] at ho
    subst ho
    refine RunsS.retU ?_
    refine UnwS.deferN lexDN_fn [0, 1, 2] ?_ trivial rfl (fun e => by cases e)
    intro _ _
    conv => whnf
    refine UnwS.ret tab Tryd.func12 rfl (EndS.mk () trivial [(0, 4)] (by exact ⟨by rfl, trivial⟩) rfl rfl (okRet rfl rfl))
end Go.Proofs.YtlminkahdlcikaaDoor

namespace Go.Proofs.YtlminkahdlcikaaDoor
open Go Go.Fw
set_option maxRecDepth 100000
set_option maxHeartbeats 16000000

theorem cls2 (c : Nat) : cls c = 2 ↔ (97 ≤ c ∧ c ≤ 122) ∨ (65 ≤ c ∧ c ≤ 90) := by
  unfold cls; repeat' split
  all_goals omega
theorem cls3 (c : Nat) : cls c = 3 ↔ (48 ≤ c ∧ c ≤ 57) := by
  unfold cls; repeat' split
  all_goals omega
theorem cls1 (c : Nat) : cls c = 1 ↔ (c = 32 ∨ c = 9 ∨ c = 10 ∨ c = 13) := by
  unfold cls; repeat' split
  all_goals omega
theorem cls4 (c : Nat) : cls c = 4 ↔ c ∈ [123, 125, 40, 41, 44, 59, 61, 35, 47, 60, 33, 45, 46, 58, 43] := by
  unfold cls
  simp only [List.mem_cons, List.not_mem_nil, or_false]
  repeat' split
  all_goals omega
theorem nmC_iff (c : Nat) : nmC c = true ↔ (cls c = 2 ∨ cls c = 3 ∨ c = 95) := by
  simp only [nmC, inRun, Bool.or_eq_true, decide_eq_true_eq]
  omega
theorem dgC_iff (c : Nat) : dgC c = true ↔ cls c = 3 := by
  simp only [dgC, inRun, Bool.or_eq_true, decide_eq_true_eq, cls3]
  omega

theorem rLetter_fn {h : Array Obj} (c : Nat) : FnV Tryd.prog 31 #[.int .u8 c] h fun r h' => r = .bool (decide (cls c = 2)) ∧ Keeps h.size h h' := by
  refine Fn.ofS (args := [.int .u8 c]) Tryd.func31 (by kernel_rfl) rfl Tryd.ntmps31 rfl fun w0 cs => ?_
  conv => whnf
  refine goS_run tab 1000 _ _ _ _ ?_
  conv => whnf
  repeat (first | (refine And.intro (by omega) ?_; (try intro _); conv => whnf) | (refine And.intro ?_ (by omega); (try intro _); conv => whnf) | (refine ⟨_, RemV.nonneg (by omega) (by omega), ?_⟩; conv => whnf))
  repeat' (refine And.intro (fun hs => ?_) (fun hs => ?_) <;> (conv => whnf))
  all_goals (
    refine RunsS.retU (UnwS.ret tab Tryd.func31 rfl fun Ez Hz Az Sz K => ⟨_, rfl, ?_, K.keeps⟩)
    first | exact congrArg Value.bool (decide_eq_true ((cls2 c).2 (by omega))).symm | exact congrArg Value.bool (decide_eq_false (fun e => by have := (cls2 c).1 e; omega)).symm | exact congrArg Value.bool (decide_eq_decide.2 ((cls2 c).trans (by omega)).symm))
theorem rFigure_fn {h : Array Obj} (c : Nat) : FnV Tryd.prog 33 #[.int .u8 c] h fun r h' => r = .bool (decide (cls c = 3)) ∧ Keeps h.size h h' := by
  refine Fn.ofS (args := [.int .u8 c]) Tryd.func33 (by kernel_rfl) rfl Tryd.ntmps33 rfl fun w0 cs => ?_
  conv => whnf
  refine goS_run tab 1000 _ _ _ _ ?_
  conv => whnf
  repeat (first | (refine And.intro (by omega) ?_; (try intro _); conv => whnf) | (refine And.intro ?_ (by omega); (try intro _); conv => whnf) | (refine ⟨_, RemV.nonneg (by omega) (by omega), ?_⟩; conv => whnf))
  repeat' (refine And.intro (fun hs => ?_) (fun hs => ?_) <;> (conv => whnf))
  all_goals (
    refine RunsS.retU (UnwS.ret tab Tryd.func33 rfl fun Ez Hz Az Sz K => ⟨_, rfl, ?_, K.keeps⟩)
    first | exact congrArg Value.bool (decide_eq_true ((cls3 c).2 (by omega))).symm | exact congrArg Value.bool (decide_eq_false (fun e => by have := (cls3 c).1 e; omega)).symm | exact congrArg Value.bool (decide_eq_decide.2 ((cls3 c).trans (by omega)).symm))
theorem rSpace_fn {h : Array Obj} (c : Nat) : FnV Tryd.prog 22 #[.int .u8 c] h fun r h' => r = .bool (decide (cls c = 1)) ∧ Keeps h.size h h' := by
  refine Fn.ofS (args := [.int .u8 c]) Tryd.func22 (by kernel_rfl) rfl Tryd.ntmps22 rfl fun w0 cs => ?_
  conv => whnf
  refine goS_run tab 1000 _ _ _ _ ?_
  conv => whnf
  repeat (first | (refine And.intro (by omega) ?_; (try intro _); conv => whnf) | (refine And.intro ?_ (by omega); (try intro _); conv => whnf) | (refine ⟨_, RemV.nonneg (by omega) (by omega), ?_⟩; conv => whnf))
  repeat' (refine And.intro (fun hs => ?_) (fun hs => ?_) <;> (conv => whnf))
  all_goals (
    refine RunsS.retU (UnwS.ret tab Tryd.func22 rfl fun Ez Hz Az Sz K => ⟨_, rfl, ?_, K.keeps⟩)
    first | exact congrArg Value.bool (decide_eq_true ((cls1 c).2 (by omega))).symm | exact congrArg Value.bool (decide_eq_false (fun e => by have := (cls1 c).1 e; omega)).symm | exact congrArg Value.bool (decide_eq_decide.2 ((cls1 c).trans (by omega)).symm))
theorem rPart_fn {h : Array Obj} (c : Nat) : FnV Tryd.prog 32 #[.int .u8 c] h fun r h' => r = .bool (nmC c) ∧ Keeps h.size h h' := by
  refine Fn.ofS (args := [.int .u8 c]) Tryd.func32 (by kernel_rfl) rfl Tryd.ntmps32 rfl fun w0 cs => ?_
  conv => whnf
  refine goS_run tab 1000 _ _ _ _ ?_
  conv => whnf
  repeat (first | (refine And.intro (by omega) ?_; (try intro _); conv => whnf) | (refine And.intro ?_ (by omega); (try intro _); conv => whnf) | (refine ⟨_, RemV.nonneg (by omega) (by omega), ?_⟩; conv => whnf))
  by_cases h2 : cls c = 2
  · refine RunsS.callV (fun Ez Hz Az Sz K => rLetter_fn c) ?_
    conv => whnf
    rw [decide_eq_true h2]
    try dsimp only
    try refine goS_run tab 1000 _ _ _ _ ?_
    conv => whnf
    repeat (first | (refine And.intro (by omega) ?_; (try intro _); conv => whnf) | (refine And.intro ?_ (by omega); (try intro _); conv => whnf) | (refine ⟨_, RemV.nonneg (by omega) (by omega), ?_⟩; conv => whnf))
    refine RunsS.retU (UnwS.ret tab Tryd.func32 rfl fun Ez Hz Az Sz K => ⟨_, rfl, ?_, K.keeps⟩)
    exact congrArg Value.bool ((nmC_iff c).2 (.inl h2)).symm
  · refine RunsS.callV (fun Ez Hz Az Sz K => rLetter_fn c) ?_
    conv => whnf
    rw [decide_eq_false h2]
    try dsimp only
    try refine goS_run tab 1000 _ _ _ _ ?_
    conv => whnf
    repeat (first | (refine And.intro (by omega) ?_; (try intro _); conv => whnf) | (refine And.intro ?_ (by omega); (try intro _); conv => whnf) | (refine ⟨_, RemV.nonneg (by omega) (by omega), ?_⟩; conv => whnf))
    by_cases h3 : cls c = 3
    · refine RunsS.callV (fun Ez Hz Az Sz K => rFigure_fn c) ?_
      conv => whnf
      rw [decide_eq_true h3]
      try dsimp only
      try refine goS_run tab 1000 _ _ _ _ ?_
      conv => whnf
      repeat (first | (refine And.intro (by omega) ?_; (try intro _); conv => whnf) | (refine And.intro ?_ (by omega); (try intro _); conv => whnf) | (refine ⟨_, RemV.nonneg (by omega) (by omega), ?_⟩; conv => whnf))
      refine RunsS.retU (UnwS.ret tab Tryd.func32 rfl fun Ez Hz Az Sz K => ⟨_, rfl, ?_, K.keeps⟩)
      exact congrArg Value.bool ((nmC_iff c).2 (.inr (.inl h3))).symm
    · refine RunsS.callV (fun Ez Hz Az Sz K => rFigure_fn c) ?_
      conv => whnf
      rw [decide_eq_false h3]
      try dsimp only
      try refine goS_run tab 1000 _ _ _ _ ?_
      conv => whnf
      repeat (first | (refine And.intro (by omega) ?_; (try intro _); conv => whnf) | (refine And.intro ?_ (by omega); (try intro _); conv => whnf) | (refine ⟨_, RemV.nonneg (by omega) (by omega), ?_⟩; conv => whnf))
      refine RunsS.retU (UnwS.ret tab Tryd.func32 rfl fun Ez Hz Az Sz K => ⟨_, rfl, ?_, K.keeps⟩)
      refine congrArg Value.bool ?_
      cases hn : nmC c with
      | true =>
        have := (nmC_iff c).1 hn
        exact decide_eq_true (by omega)
      | false =>
        exact decide_eq_false (fun e => by
          have := (nmC_iff c).2 (.inr (.inr (by omega)))
          rw [hn] at this; cases this)
abbrev signB : ByteArray := ⟨#[123, 125, 40, 41, 59, 44, 61, 35, 47, 60, 33, 45, 46, 58, 43]⟩
theorem sign_get : (∀ j, j < 15 → cls (byteAt signB j) = 4) ∧ (∀ c, c ∈ [123, 125, 40, 41, 44, 59, 61, 35, 47, 60, 33, 45, 46, 58, 43] → ∃ j, j < 15 ∧ byteAt signB j = c) := by decide
theorem rSign_fn {h : Array Obj} (c : Nat) : FnV Tryd.prog 35 #[.int .u8 c] h fun r h' => r = .bool (decide (cls c = 4)) ∧ Keeps h.size h h' := by
  refine Fn.ofS (args := [.int .u8 c]) Tryd.func35 (by kernel_rfl) rfl Tryd.ntmps35 rfl fun w0 cs => ?_
  conv => whnf
  refine goS_run tab 1000 _ _ _ _ ?_
  conv => whnf
  repeat (first | (refine And.intro (by omega) ?_; (try intro _); conv => whnf) | (refine And.intro ?_ (by omega); (try intro _); conv => whnf) | (refine ⟨_, RemV.nonneg (by omega) (by omega), ?_⟩; conv => whnf))
  refine RunsS.subR [] (RunsS.loop (fun (i : Nat) => [(4, .v (.int .i64 i)), (3, .v (.string signB)), (0, .v (.int .u8 c))]) (fun (i : Nat) => []) 0 (fun (i : Nat) => i ≤ 15 ∧ ∀ j, j < i → byteAt signB j ≠ c) (fun (i : Nat) => 15 - i) ?round1 (0) ?J01) ?SS1 ?HH1
  case J01 => exact (⟨Nat.zero_le _, fun _ h => absurd h (Nat.not_lt_zero _)⟩)
  case SS1 => repeat (first | exact trivial | refine ⟨by rfl, ?_⟩)
  case HH1 => repeat (first | exact trivial | refine ⟨by rfl, ?_⟩)
  rintro i hJ back
  try dsimp only at hJ back
  conv => whnf
  try dsimp only
  refine goS_run tab 1000 _ _ _ _ ?_
  conv => whnf
  repeat (first | (refine And.intro (by omega) ?_; (try intro _); conv => whnf) | (refine And.intro ?_ (by omega); (try intro _); conv => whnf) | (refine ⟨_, RemV.nonneg (by omega) (by omega), ?_⟩; conv => whnf))
  refine ⟨fun hk => ?_, fun hk => ?_⟩ <;> conv => whnf
  · conv => whnf
    repeat (first | (refine And.intro (by omega) ?_; (try intro _); conv => whnf) | (refine And.intro ?_ (by omega); (try intro _); conv => whnf) | (refine ⟨_, RemV.nonneg (by omega) (by omega), ?_⟩; conv => whnf))
    have hi : i < 15 := by
      have : signB.size = 15 := rfl
      omega
    refine ⟨fun hx => ?_, fun hx => ?_⟩ <;> conv => whnf
    · conv => whnf
      repeat (first | (refine And.intro (by omega) ?_; (try intro _); conv => whnf) | (refine And.intro ?_ (by omega); (try intro _); conv => whnf) | (refine ⟨_, RemV.nonneg (by omega) (by omega), ?_⟩; conv => whnf))
      refine RunsS.retU (UnwS.ret tab Tryd.func35 rfl fun Ez Hz Az Sz K => ⟨_, rfl, ?_, K.keeps⟩)
      have hx' : byteAt signB i = c := by exact_mod_cast hx
      exact congrArg Value.bool (decide_eq_true (hx' ▸ sign_get.1 i hi)).symm
    · conv => whnf
      repeat (first | (refine And.intro (by omega) ?_; (try intro _); conv => whnf) | (refine And.intro ?_ (by omega); (try intro _); conv => whnf) | (refine ⟨_, RemV.nonneg (by omega) (by omega), ?_⟩; conv => whnf))
      have hx' : byteAt signB i ≠ c := fun e => hx (by exact_mod_cast e)
      refine RunsS.subR [] (back (i + 1) ?BJ2 ?BM2) ?SS2 ?HH2
      case BJ2 => exact (⟨hi, fun j hj => (Nat.lt_succ_iff_lt_or_eq.1 hj).elim (hJ.2 j) (fun e => e ▸ hx')⟩)
      case BM2 => (try dsimp only); omega
      case SS2 => repeat (first | exact trivial | refine ⟨by rfl, ?_⟩)
      case HH2 => repeat (first | exact trivial | refine ⟨by rfl, ?_⟩)
  · conv => whnf
    repeat (first | (refine And.intro (by omega) ?_; (try intro _); conv => whnf) | (refine And.intro ?_ (by omega); (try intro _); conv => whnf) | (refine ⟨_, RemV.nonneg (by omega) (by omega), ?_⟩; conv => whnf))
    refine RunsS.retU (UnwS.ret tab Tryd.func35 rfl fun Ez Hz Az Sz K => ⟨_, rfl, ?_, K.keeps⟩)
    have hi : i = 15 := by
      have : signB.size = 15 := rfl
      omega
    refine congrArg Value.bool (decide_eq_false fun e => ?_).symm
    obtain ⟨j, h1, h2⟩ := sign_get.2 c ((cls4 c).1 e)
    exact hJ.2 j (by omega) h2
abbrev NameP (s : ByteArray) : Prop := (1 ≤ s.size ∧ s.size ≤ 32) ∧ cls (byteAt s 0) = 2 ∧ ∀ i, i < s.size → nmC (byteAt s i) = true
theorem rName_fn {h : Array Obj} (s : ByteArray) : FnV Tryd.prog 21 #[.string s] h fun r h' => r = .bool (decide (NameP s)) ∧ Keeps h.size h h' := by
  refine Fn.ofS (args := [.string s]) Tryd.func21 (by kernel_rfl) rfl Tryd.ntmps21 rfl fun w0 cs => ?_
  conv => whnf
  refine goS_run tab 1000 _ _ _ _ ?_
  conv => whnf
  repeat (first | (refine And.intro (by omega) ?_; (try intro _); conv => whnf) | (refine And.intro ?_ (by omega); (try intro _); conv => whnf) | (refine ⟨_, RemV.nonneg (by omega) (by omega), ?_⟩; conv => whnf))
  refine ⟨fun h1 => ?_, fun h1 => ?_⟩ <;> conv => whnf
  · conv => whnf
    repeat (first | (refine And.intro (by omega) ?_; (try intro _); conv => whnf) | (refine And.intro ?_ (by omega); (try intro _); conv => whnf) | (refine ⟨_, RemV.nonneg (by omega) (by omega), ?_⟩; conv => whnf))
    refine RunsS.retU (UnwS.ret tab Tryd.func21 rfl fun Ez Hz Az Sz K => ⟨_, rfl, ?_, K.keeps⟩)
    exact congrArg Value.bool (decide_eq_false fun e => by have := e.1; omega).symm
  · conv => whnf
    repeat (first | (refine And.intro (by omega) ?_; (try intro _); conv => whnf) | (refine And.intro ?_ (by omega); (try intro _); conv => whnf) | (refine ⟨_, RemV.nonneg (by omega) (by omega), ?_⟩; conv => whnf))
    refine ⟨fun h2 => ?_, fun h2 => ?_⟩ <;> conv => whnf
    · conv => whnf
      repeat (first | (refine And.intro (by omega) ?_; (try intro _); conv => whnf) | (refine And.intro ?_ (by omega); (try intro _); conv => whnf) | (refine ⟨_, RemV.nonneg (by omega) (by omega), ?_⟩; conv => whnf))
      refine RunsS.retU (UnwS.ret tab Tryd.func21 rfl fun Ez Hz Az Sz K => ⟨_, rfl, ?_, K.keeps⟩)
      exact congrArg Value.bool (decide_eq_false fun e => by have := e.1; omega).symm
    · conv => whnf
      repeat (first | (refine And.intro (by omega) ?_; (try intro _); conv => whnf) | (refine And.intro ?_ (by omega); (try intro _); conv => whnf) | (refine ⟨_, RemV.nonneg (by omega) (by omega), ?_⟩; conv => whnf))
      by_cases h3 : cls (byteAt s 0) = 2
      · refine RunsS.callV (fun Ez Hz Az Sz K => rLetter_fn (byteAt s 0)) ?_
        conv => whnf
        rw [decide_eq_true h3]
        try dsimp only
        try refine goS_run tab 1000 _ _ _ _ ?_
        conv => whnf
        repeat (first | (refine And.intro (by omega) ?_; (try intro _); conv => whnf) | (refine And.intro ?_ (by omega); (try intro _); conv => whnf) | (refine ⟨_, RemV.nonneg (by omega) (by omega), ?_⟩; conv => whnf))
        refine RunsS.subR [] (RunsS.loop (fun (i : Nat) => [(3, .v (.int .i64 i)), (0, .v (.string s))]) (fun (i : Nat) => []) 0 (fun (i : Nat) => i ≤ s.size ∧ ∀ j, j < i → nmC (byteAt s j) = true) (fun (i : Nat) => s.size - i) ?round3 (0) ?J03) ?SS3 ?HH3
        case J03 => exact (⟨Nat.zero_le _, fun _ h => absurd h (Nat.not_lt_zero _)⟩)
        case SS3 => repeat (first | exact trivial | refine ⟨by rfl, ?_⟩)
        case HH3 => repeat (first | exact trivial | refine ⟨by rfl, ?_⟩)
        rintro i hJ back
        try dsimp only at hJ back
        conv => whnf
        try dsimp only
        refine goS_run tab 1000 _ _ _ _ ?_
        conv => whnf
        repeat (first | (refine And.intro (by omega) ?_; (try intro _); conv => whnf) | (refine And.intro ?_ (by omega); (try intro _); conv => whnf) | (refine ⟨_, RemV.nonneg (by omega) (by omega), ?_⟩; conv => whnf))
        refine ⟨fun hk => ?_, fun hk => ?_⟩ <;> conv => whnf
        · conv => whnf
          repeat (first | (refine And.intro (by omega) ?_; (try intro _); conv => whnf) | (refine And.intro ?_ (by omega); (try intro _); conv => whnf) | (refine ⟨_, RemV.nonneg (by omega) (by omega), ?_⟩; conv => whnf))
          by_cases h4 : nmC (byteAt s i) = true
          · refine RunsS.callV (fun Ez Hz Az Sz K => rPart_fn (byteAt s i)) ?_
            conv => whnf
            rw [h4]
            try dsimp only
            try refine goS_run tab 1000 _ _ _ _ ?_
            conv => whnf
            repeat (first | (refine And.intro (by omega) ?_; (try intro _); conv => whnf) | (refine And.intro ?_ (by omega); (try intro _); conv => whnf) | (refine ⟨_, RemV.nonneg (by omega) (by omega), ?_⟩; conv => whnf))
            refine RunsS.subR [] (back (i + 1) ?BJ4 ?BM4) ?SS4 ?HH4
            case BJ4 => exact (⟨by omega, fun j hj => (Nat.lt_succ_iff_lt_or_eq.1 hj).elim (hJ.2 j) (fun e => e ▸ h4)⟩)
            case BM4 => (try dsimp only); omega
            case SS4 => repeat (first | exact trivial | refine ⟨by rfl, ?_⟩)
            case HH4 => repeat (first | exact trivial | refine ⟨by rfl, ?_⟩)
          · refine RunsS.callV (fun Ez Hz Az Sz K => rPart_fn (byteAt s i)) ?_
            conv => whnf
            rw [Bool.eq_false_iff.2 h4]
            try dsimp only
            try refine goS_run tab 1000 _ _ _ _ ?_
            conv => whnf
            repeat (first | (refine And.intro (by omega) ?_; (try intro _); conv => whnf) | (refine And.intro ?_ (by omega); (try intro _); conv => whnf) | (refine ⟨_, RemV.nonneg (by omega) (by omega), ?_⟩; conv => whnf))
            refine RunsS.retU (UnwS.ret tab Tryd.func21 rfl fun Ez Hz Az Sz K => ⟨_, rfl, ?_, K.keeps⟩)
            exact congrArg Value.bool (decide_eq_false fun e => h4 (e.2.2 i (by omega))).symm
        · conv => whnf
          repeat (first | (refine And.intro (by omega) ?_; (try intro _); conv => whnf) | (refine And.intro ?_ (by omega); (try intro _); conv => whnf) | (refine ⟨_, RemV.nonneg (by omega) (by omega), ?_⟩; conv => whnf))
          refine RunsS.retU (UnwS.ret tab Tryd.func21 rfl fun Ez Hz Az Sz K => ⟨_, rfl, ?_, K.keeps⟩)
          exact congrArg Value.bool (decide_eq_true (⟨by omega, h3, fun j hj => hJ.2 j (by omega)⟩ : NameP s)).symm
      · refine RunsS.callV (fun Ez Hz Az Sz K => rLetter_fn (byteAt s 0)) ?_
        conv => whnf
        rw [decide_eq_false h3]
        try dsimp only
        try refine goS_run tab 1000 _ _ _ _ ?_
        conv => whnf
        repeat (first | (refine And.intro (by omega) ?_; (try intro _); conv => whnf) | (refine And.intro ?_ (by omega); (try intro _); conv => whnf) | (refine ⟨_, RemV.nonneg (by omega) (by omega), ?_⟩; conv => whnf))
        refine RunsS.retU (UnwS.ret tab Tryd.func21 rfl fun Ez Hz Az Sz K => ⟨_, rfl, ?_, K.keeps⟩)
        exact congrArg Value.bool (decide_eq_false fun e => h3 e.2.1).symm

/-- the number of a string: of its digits, and whether it begins well -/
theorem rNumber_fn {h : Array Obj} (s : ByteArray) (hs : 0 < s.size ∧ s.size ≤ 65536) (hd : ∀ i, i < s.size → 48 ≤ byteAt s i ∧ byteAt s i ≤ 57) : FnV Tryd.prog 34 #[.string s] h fun r h' => r = (match numL (bs s) 0 with | none => .tuple #[.int .i64 0, .bool false] | some n => .tuple #[.int .i64 n, .bool (decide (s.size = 1 ∨ byteAt s 0 ≠ 48))]) ∧ Keeps h.size h h' := by
  refine Fn.ofS (args := [.string s]) Tryd.func34 (by kernel_rfl) rfl Tryd.ntmps34 rfl fun w0 cs => ?_
  conv => whnf
  refine goS_run tab 1000 _ _ _ _ ?_
  conv => whnf
  repeat (first | (refine And.intro (by omega) ?_; (try intro _); conv => whnf) | (refine And.intro ?_ (by omega); (try intro _); conv => whnf) | (refine ⟨_, RemV.nonneg (by omega) (by omega), ?_⟩; conv => whnf))
  refine RunsS.subR [] (RunsS.loop (fun (⟨i, a⟩ : Nat × Nat) => [(5, .v (.int .i64 i)), (4, .v (.int .i64 a)), (0, .v (.string s))]) (fun (⟨i, a⟩ : Nat × Nat) => []) 0 (fun (⟨i, a⟩ : Nat × Nat) => (i ≤ s.size ∧ a ≤ 1099511627776) ∧ numL (bs s) 0 = numL ((bs s).drop i) a) (fun (⟨i, a⟩ : Nat × Nat) => s.size - i) ?round5 ((0, 0)) ?J05) ?SS5 ?HH5
  case J05 => exact (⟨⟨Nat.zero_le _, Nat.zero_le _⟩, rfl⟩)
  case SS5 => repeat (first | exact trivial | refine ⟨by rfl, ?_⟩)
  case HH5 => repeat (first | exact trivial | refine ⟨by rfl, ?_⟩)
  rintro ⟨i, a⟩ hJ back
  try dsimp only at hJ back
  conv => whnf
  try dsimp only
  refine goS_run tab 1000 _ _ _ _ ?_
  conv => whnf
  repeat (first | (refine And.intro (by omega) ?_; (try intro _); conv => whnf) | (refine And.intro ?_ (by omega); (try intro _); conv => whnf) | (refine ⟨_, RemV.nonneg (by omega) (by omega), ?_⟩; conv => whnf))
  refine ⟨fun hk => ?_, fun hk => ?_⟩ <;> conv => whnf
  · obtain ⟨c, e1, e2⟩ := bs_drop (s := s) (i := i) (by omega)
    have hdi := hd i (by omega)
    have hm : 10 * (a : Int) + (((byteAt s i : Nat) : Int) - 48) % 256 = ((10 * a + (byteAt s i - 48) : Nat) : Int) := by omega
    obtain ⟨x, hx⟩ : ∃ x, x = byteAt s ((i : Int)).toNat := ⟨_, rfl⟩
    have hx' : byteAt s i = x := hx.symm
    rw [hx'] at hm hdi
    rw [hx'] at e2
    conv => whnf
    repeat (first | (refine And.intro (by omega) ?_; (try intro _); conv => whnf) | (refine And.intro ?_ (by omega); (try intro _); conv => whnf) | (refine ⟨_, RemV.nonneg (by omega) (by omega), ?_⟩; conv => whnf))
    rw [← hx]
    conv => whnf
    repeat (first | (refine And.intro (by omega) ?_; (try intro _); conv => whnf) | (refine And.intro ?_ (by omega); (try intro _); conv => whnf) | (refine ⟨_, RemV.nonneg (by omega) (by omega), ?_⟩; conv => whnf))
    rw [hm]
    refine ⟨fun hg => ?_, fun hg => ?_⟩ <;> conv => whnf
    · conv => whnf
      repeat (first | (refine And.intro (by omega) ?_; (try intro _); conv => whnf) | (refine And.intro ?_ (by omega); (try intro _); conv => whnf) | (refine ⟨_, RemV.nonneg (by omega) (by omega), ?_⟩; conv => whnf))
      have hn : numL (bs s) 0 = none := by
        rw [hJ.2, e1]
        simp only [numL, e2]
        rw [if_neg (by omega)]
      rw [hn]
      refine RunsS.retU (UnwS.ret tab Tryd.func34 rfl fun Ez Hz Az Sz K => ⟨_, rfl, rfl, K.keeps⟩)
    · conv => whnf
      repeat (first | (refine And.intro (by omega) ?_; (try intro _); conv => whnf) | (refine And.intro ?_ (by omega); (try intro _); conv => whnf) | (refine ⟨_, RemV.nonneg (by omega) (by omega), ?_⟩; conv => whnf))
      refine RunsS.subR [] (back ((i + 1, 10 * a + (x - 48))) ?BJ6 ?BM6) ?SS6 ?HH6
      case BJ6 => exact (⟨by dsimp only; omega, by rw [hJ.2, e1]; simp only [numL, e2]; rw [if_pos (by omega)]⟩)
      case BM6 => (try dsimp only); omega
      case SS6 => repeat (first | exact trivial | refine ⟨by rfl, ?_⟩)
      case HH6 => repeat (first | exact trivial | refine ⟨by rfl, ?_⟩)
  · conv => whnf
    repeat (first | (refine And.intro (by omega) ?_; (try intro _); conv => whnf) | (refine And.intro ?_ (by omega); (try intro _); conv => whnf) | (refine ⟨_, RemV.nonneg (by omega) (by omega), ?_⟩; conv => whnf))
    have hn : numL (bs s) 0 = some a := by
      rw [hJ.2, List.drop_eq_nil_of_le (by rw [bs_len]; omega)]; rfl
    rw [hn]
    refine RunsS.held tab (.fl 0 (.fl 1 (.fl 2 (.fl 3 (.fl 4 (.fl 5 (.fl 6 (.fl 7 (.fl 8 (.fl 9 (.fl 10 .done))))))))))) (by kernel_rfl) ?_
    conv => whnf
    try refine goR_run tab _ _ _ _ _ _ ?_
    conv => whnf
    repeat (first | (refine And.intro (by omega) ?_; (try intro _); conv => whnf) | (refine And.intro ?_ (by omega); (try intro _); conv => whnf) | (refine And.intro (by (conv => whnf); (repeat (refine And.intro (by (conv => whnf); first | rfl | exact trivial) ?_; conv => whnf)); exact trivial) ?_; conv => whnf) | (refine ⟨_, RemV.nonneg (by omega) (by omega), ?_⟩; conv => whnf))
    try refine goS_run tab 1000 _ _ _ _ ?_
    conv => whnf
    repeat (first | (refine And.intro (by omega) ?_; (try intro _); conv => whnf) | (refine And.intro ?_ (by omega); (try intro _); conv => whnf) | (refine ⟨_, RemV.nonneg (by omega) (by omega), ?_⟩; conv => whnf))
    refine ⟨fun h1 => ?_, fun h1 => ?_⟩ <;> conv => whnf
    · try refine goR_run tab _ _ _ _ _ _ ?_
      conv => whnf
      repeat (first | (refine And.intro (by omega) ?_; (try intro _); conv => whnf) | (refine And.intro ?_ (by omega); (try intro _); conv => whnf) | (refine And.intro (by (conv => whnf); (repeat (refine And.intro (by (conv => whnf); first | rfl | exact trivial) ?_; conv => whnf)); exact trivial) ?_; conv => whnf) | (refine ⟨_, RemV.nonneg (by omega) (by omega), ?_⟩; conv => whnf))
      try refine goS_run tab 1000 _ _ _ _ ?_
      conv => whnf
      repeat (first | (refine And.intro (by omega) ?_; (try intro _); conv => whnf) | (refine And.intro ?_ (by omega); (try intro _); conv => whnf) | (refine ⟨_, RemV.nonneg (by omega) (by omega), ?_⟩; conv => whnf))
      refine RunsS.retU (UnwS.ret tab Tryd.func34 rfl fun Ez Hz Az Sz K => ⟨_, rfl, ?_, K.keeps⟩)
      simp [show s.size = 1 by omega]
      rfl
    · try refine goR_run tab _ _ _ _ _ _ ?_
      conv => whnf
      repeat (first | (refine And.intro (by omega) ?_; (try intro _); conv => whnf) | (refine And.intro ?_ (by omega); (try intro _); conv => whnf) | (refine And.intro (by (conv => whnf); (repeat (refine And.intro (by (conv => whnf); first | rfl | exact trivial) ?_; conv => whnf)); exact trivial) ?_; conv => whnf) | (refine ⟨_, RemV.nonneg (by omega) (by omega), ?_⟩; conv => whnf))
      try refine goS_run tab 1000 _ _ _ _ ?_
      conv => whnf
      repeat (first | (refine And.intro (by omega) ?_; (try intro _); conv => whnf) | (refine And.intro ?_ (by omega); (try intro _); conv => whnf) | (refine ⟨_, RemV.nonneg (by omega) (by omega), ?_⟩; conv => whnf))
      refine RunsS.retU (UnwS.ret tab Tryd.func34 rfl fun Ez Hz Az Sz K => ⟨_, rfl, ?_, K.keeps⟩)
      have h1' : s.size ≠ 1 := by omega
      have : ((byteAt s 0 : Nat) : Int) = 48 ↔ byteAt s 0 = 48 := by omega
      simp [h1', this]
      rfl
end Go.Proofs.YtlminkahdlcikaaDoor

namespace Go.Proofs.YtlminkahdlcikaaDoor
open Go Go.Fw
set_option maxRecDepth 100000
set_option maxHeartbeats 64000000

theorem rbig_fn {h : Array Obj} (src : ByteArray) (hs : 65536 < src.size) : FnV Tryd.prog 13 #[.string src] h fun r h' => r = .tuple #[.slice none 0 0, .int .i64 0, .int .i64 2] ∧ Keeps h.size h h' := by
  refine Fn.ofS (args := [.string src]) Tryd.func13 (by kernel_rfl) rfl Tryd.ntmps13 rfl fun w0 cs => ?_
  conv => whnf
  refine goS_run tab 1000 _ _ _ _ ?_
  conv => whnf
  repeat (first | (refine And.intro (by omega) ?_; (try intro _); conv => whnf) | (refine And.intro ?_ (by omega); (try intro _); conv => whnf) | (refine ⟨_, RemV.nonneg (by omega) (by omega), ?_⟩; conv => whnf))
  refine RunsS.retU (UnwS.ret tab Tryd.func13 rfl fun Ez Hz Az Sz K => ⟨_, rfl, rfl, K.keeps⟩)
theorem byteAt_ex (s : ByteArray) {lo hi i : Nat} (hh : hi ≤ s.size) (h : lo + i < hi) : byteAt (s.extract lo hi) i = byteAt s (lo + i) := by
  unfold byteAt
  have e : (s.extract lo hi).data.toList = ((bs s).take hi).drop lo := bs_extract s lo hi
  rw [e]
  simp only [List.getD_eq_getElem?_getD, List.getElem?_drop, List.getElem?_take, if_pos h]
theorem size_ex (s : ByteArray) {lo hi : Nat} (hh : hi ≤ s.size) : (s.extract lo hi).size = hi - lo := by
  rw [← bs_len, bs_extract]
  simp [bs_len, Nat.min_eq_left hh]
theorem comm_iff (src : ByteArray) (pos : Nat) (hp : pos < src.size) : comm src pos ↔ (byteAt src pos = 47 ∧ pos + 1 < src.size ∧ byteAt src (pos + 1) = 47) := by
  unfold comm
  rw [size_ex src (Nat.le_refl _)]
  have hz : (⟨#[47, 47]⟩ : ByteArray).size = 2 := rfl
  rw [hz]
  constructor
  · rintro ⟨h1, h2⟩
    have b0 := congrArg (byteAt · 0) h2
    have b1 := congrArg (byteAt · 1) h2
    rw [byteAt_ex _ (by rw [size_ex src (Nat.le_refl _)]; exact h1) (by omega), byteAt_ex _ (Nat.le_refl _) (by omega)] at b0 b1
    exact ⟨b0, by omega, b1⟩
  · rintro ⟨h1, h2, h3⟩
    refine ⟨by omega, ?_⟩
    rw [← toArray_ext (ByteArray.extract _ _ _), bs_extract, bs_extract]
    obtain ⟨c, e1, e2⟩ := bs_drop hp
    obtain ⟨d, e3, e4⟩ := bs_drop h2
    have ht : List.take src.size (bs src) = bs src := List.take_of_length_le (by rw [bs_len]; exact Nat.le_refl _)
    rw [ht, e1, e3]
    have hc : c = 47 := UInt8.toNat_inj.1 (by rw [e2, h1]; rfl)
    have hd : d = 47 := UInt8.toNat_inj.1 (by rw [e4, h3]; rfl)
    rw [hc, hd]
    rfl
theorem app_row (l : List Tok) (a b : Int) (t : ByteArray) (n : Int) : l.map Tok.row ++ chunk 4 1 [Value.int .i64 a, .int .i64 b, .string t, .int .i64 n] = (l ++ [(⟨a, b, t, n⟩ : Tok)]).map Tok.row := by rw [List.map_append]; rfl
theorem rlex_fn (src : ByteArray) (hs : src.size ≤ 65536) : FnS Tryd.prog 13 0 [.v (.string src)] [] (fun _ : Unit => True) (fun _ => lexO src) := by
  obtain ⟨o, ho⟩ : ∃ o, o = lexO src := ⟨_, rfl⟩
  rw [← ho]
  unfold lexO lexA at ho
  refine FnS.of Tryd.func13 (by kernel_rfl) rfl Tryd.ntmps13 rfl fun E0 F h w0 cs => ?_
  conv => whnf
  refine goS_run tab 1000 _ _ _ _ ?_
  conv => whnf
  repeat (first | (refine And.intro (by omega) ?_; (try intro _); conv => whnf) | (refine And.intro ?_ (by omega); (try intro _); conv => whnf) | (refine ⟨_, RemV.nonneg (by omega) (by omega), ?_⟩; conv => whnf))
  refine RunsS.subR [] (RunsS.loop (fun (⟨pos, l⟩ : Nat × List Tok) => [(6, .v (.int .i64 pos)), (5, .buf 0), (0, .v (.string src))]) (fun (⟨pos, l⟩ : Nat × List Tok) => [toksB l 0]) 1 (fun (⟨pos, l⟩ : Nat × List Tok) => (pos ≤ src.size ∧ l.length ≤ pos) ∧ lexG src 0 [] = lexG src pos l) (fun (⟨pos, l⟩ : Nat × List Tok) => src.size - pos) ?round1 ((0, [])) ?J01) ?SS1 ?HH1
  case J01 => exact (⟨by exact ⟨Nat.zero_le _, Nat.zero_le _⟩, rfl⟩)
  case SS1 => repeat (first | exact trivial | refine ⟨by rfl, ?_⟩)
  case HH1 => repeat (first | exact trivial | refine ⟨by rfl, ?_⟩)
  rintro ⟨pos, l⟩ hJ back
  try dsimp only at hJ back
  conv => whnf
  try dsimp only
  refine goS_run tab 1000 _ _ _ _ ?_
  conv => whnf
  repeat (first | (refine And.intro (by omega) ?_; (try intro _); conv => whnf) | (refine And.intro ?_ (by omega); (try intro _); conv => whnf) | (refine ⟨_, RemV.nonneg (by omega) (by omega), ?_⟩; conv => whnf))
  refine ⟨fun hk => ?_, fun hk => ?_⟩ <;> conv => whnf
  · have hP : pos < src.size := by omega
    conv => whnf
    repeat (first | (refine And.intro (by omega) ?_; (try intro _); conv => whnf) | (refine And.intro ?_ (by omega); (try intro _); conv => whnf) | (refine ⟨_, RemV.nonneg (by omega) (by omega), ?_⟩; conv => whnf))
    by_cases h1 : cls (byteAt src pos) = 1
    · refine RunsS.callV (fun Ez Hz Az Sz K => rSpace_fn (byteAt src pos)) ?_
      conv => whnf
      rw [decide_eq_true h1]
      try dsimp only
      try refine goS_run tab 1000 _ _ _ _ ?_
      conv => whnf
      repeat (first | (refine And.intro (by omega) ?_; (try intro _); conv => whnf) | (refine And.intro ?_ (by omega); (try intro _); conv => whnf) | (refine ⟨_, RemV.nonneg (by omega) (by omega), ?_⟩; conv => whnf))
      have hs0 : stepL src pos l = some (pos + 1, l) := by simp [stepL, h1]
      refine RunsS.subR [] (back ((pos + 1, l)) ?BJ2 ?BM2) ?SS2 ?HH2
      case BJ2 => exact (⟨by dsimp only; omega, hJ.2.trans (lexG_some hP hs0)⟩)
      case BM2 => (try dsimp only); omega
      case SS2 => repeat (first | exact trivial | refine ⟨by rfl, ?_⟩)
      case HH2 => repeat (first | exact trivial | refine ⟨by rfl, ?_⟩)
    · refine RunsS.callV (fun Ez Hz Az Sz K => rSpace_fn (byteAt src pos)) ?_
      conv => whnf
      rw [decide_eq_false h1]
      try dsimp only
      try refine goS_run tab 1000 _ _ _ _ ?_
      conv => whnf
      repeat (first | (refine And.intro (by omega) ?_; (try intro _); conv => whnf) | (refine And.intro ?_ (by omega); (try intro _); conv => whnf) | (refine ⟨_, RemV.nonneg (by omega) (by omega), ?_⟩; conv => whnf))
      refine ⟨fun ha => ?_, fun ha => ?_⟩ <;> conv => whnf
      · have h4 : cls (byteAt src pos) = 4 := by rw [show byteAt src pos = 47 by exact_mod_cast ha]; decide
        conv => whnf
        repeat (first | (refine And.intro (by omega) ?_; (try intro _); conv => whnf) | (refine And.intro ?_ (by omega); (try intro _); conv => whnf) | (refine ⟨_, RemV.nonneg (by omega) (by omega), ?_⟩; conv => whnf))
        refine ⟨fun hb => ?_, fun hb => ?_⟩ <;> conv => whnf
        · conv => whnf
          repeat (first | (refine And.intro (by omega) ?_; (try intro _); conv => whnf) | (refine And.intro ?_ (by omega); (try intro _); conv => whnf) | (refine ⟨_, RemV.nonneg (by omega) (by omega), ?_⟩; conv => whnf))
          refine ⟨fun hc => ?_, fun hc => ?_⟩ <;> conv => whnf
          · have hcm : comm src pos := (comm_iff src pos hP).2 ⟨by exact_mod_cast ha, by omega, by exact_mod_cast hc⟩
            have hs0 : stepL src pos l = some (runE src notLf pos, l) := by simp only [stepL, h4, if_pos hcm]; rfl
            have hok := stepL_ok hP hs0
            have back0 := back
            have hJ0 := hJ
            conv => whnf
            repeat (first | (refine And.intro (by omega) ?_; (try intro _); conv => whnf) | (refine And.intro ?_ (by omega); (try intro _); conv => whnf) | (refine ⟨_, RemV.nonneg (by omega) (by omega), ?_⟩; conv => whnf))
            refine RunsS.subR [] (RunsS.loop (fun (i : Nat) => [(6, .v (.int .i64 i)), (5, .buf 0), (0, .v (.string src))]) (fun (i : Nat) => [toksB l 0]) 1 (fun (i : Nat) => (pos ≤ i ∧ i ≤ src.size) ∧ runE src notLf pos = runE src notLf i) (fun (i : Nat) => src.size - i) ?round3 (pos) ?J03) ?SS3 ?HH3
            case J03 => exact (⟨by omega, rfl⟩)
            case SS3 => repeat (first | exact trivial | refine ⟨by rfl, ?_⟩)
            case HH3 => repeat (first | exact trivial | refine ⟨by rfl, ?_⟩)
            rintro i hJ back
            try dsimp only at hJ back
            conv => whnf
            try dsimp only
            refine goS_run tab 1000 _ _ _ _ ?_
            conv => whnf
            repeat (first | (refine And.intro (by omega) ?_; (try intro _); conv => whnf) | (refine And.intro ?_ (by omega); (try intro _); conv => whnf) | (refine ⟨_, RemV.nonneg (by omega) (by omega), ?_⟩; conv => whnf))
            refine ⟨fun hi => ?_, fun hi => ?_⟩ <;> conv => whnf
            · conv => whnf
              repeat (first | (refine And.intro (by omega) ?_; (try intro _); conv => whnf) | (refine And.intro ?_ (by omega); (try intro _); conv => whnf) | (refine ⟨_, RemV.nonneg (by omega) (by omega), ?_⟩; conv => whnf))
              refine ⟨fun hx => ?_, fun hx => ?_⟩ <;> conv => whnf
              · conv => whnf
                repeat (first | (refine And.intro (by omega) ?_; (try intro _); conv => whnf) | (refine And.intro ?_ (by omega); (try intro _); conv => whnf) | (refine ⟨_, RemV.nonneg (by omega) (by omega), ?_⟩; conv => whnf))
                have hx' : byteAt src i = 10 := by exact_mod_cast hx
                have hn : runE src notLf pos = i := by
                  rw [hJ.2]
                  unfold runE
                  rw [dif_pos (by omega), hx']; rfl
                have back := back0
                rw [hn] at hs0 hok
                refine RunsS.subR [] (back ((i, l)) ?BJ4 ?BM4) ?SS4 ?HH4
                case BJ4 => exact (⟨by dsimp only; omega, hJ0.2.trans (lexG_some hP hs0)⟩)
                case BM4 => (try dsimp only); omega
                case SS4 => repeat (first | exact trivial | refine ⟨by rfl, ?_⟩)
                case HH4 => repeat (first | exact trivial | refine ⟨by rfl, ?_⟩)
              · conv => whnf
                repeat (first | (refine And.intro (by omega) ?_; (try intro _); conv => whnf) | (refine And.intro ?_ (by omega); (try intro _); conv => whnf) | (refine ⟨_, RemV.nonneg (by omega) (by omega), ?_⟩; conv => whnf))
                have hx' : ¬ byteAt src i = 10 := fun e => hx (by exact_mod_cast e)
                have hn : runE src notLf pos = runE src notLf (i + 1) := by
                  rw [hJ.2]
                  conv => lhs; unfold runE
                  rw [dif_pos (by omega), if_pos (by simp [notLf, hx'])]
                refine RunsS.subR [] (back (i + 1) ?BJ5 ?BM5) ?SS5 ?HH5
                case BJ5 => exact (⟨by omega, hn⟩)
                case BM5 => (try dsimp only); omega
                case SS5 => repeat (first | exact trivial | refine ⟨by rfl, ?_⟩)
                case HH5 => repeat (first | exact trivial | refine ⟨by rfl, ?_⟩)
            · conv => whnf
              repeat (first | (refine And.intro (by omega) ?_; (try intro _); conv => whnf) | (refine And.intro ?_ (by omega); (try intro _); conv => whnf) | (refine ⟨_, RemV.nonneg (by omega) (by omega), ?_⟩; conv => whnf))
              have hn : runE src notLf pos = i := by
                rw [hJ.2]
                unfold runE
                rw [dif_neg (by omega)]
              have back := back0
              rw [hn] at hs0 hok
              refine RunsS.subR [] (back ((i, l)) ?BJ6 ?BM6) ?SS6 ?HH6
              case BJ6 => exact (⟨by dsimp only; omega, hJ0.2.trans (lexG_some hP hs0)⟩)
              case BM6 => (try dsimp only); omega
              case SS6 => repeat (first | exact trivial | refine ⟨by rfl, ?_⟩)
              case HH6 => repeat (first | exact trivial | refine ⟨by rfl, ?_⟩)
          · have hcm : ¬ comm src pos := fun e => hc (by have := ((comm_iff src pos hP).1 e).2.2; exact_mod_cast this)
            conv => whnf
            repeat (first | (refine And.intro (by omega) ?_; (try intro _); conv => whnf) | (refine And.intro ?_ (by omega); (try intro _); conv => whnf) | (refine ⟨_, RemV.nonneg (by omega) (by omega), ?_⟩; conv => whnf))
            have hs0 : stepL src pos l = some (pos + 1, l ++ [⟨3, pos, src.extract pos (pos + 1), 0⟩]) := by simp only [stepL, h4, if_neg hcm]; rfl
            have hok := stepL_ok hP hs0
            refine RunsS.callV (fun Ez Hz Az Sz K => rLetter_fn (byteAt src pos)) ?_
            conv => whnf
            rw [decide_eq_false (by omega)]
            try dsimp only
            try refine goS_run tab 1000 _ _ _ _ ?_
            conv => whnf
            repeat (first | (refine And.intro (by omega) ?_; (try intro _); conv => whnf) | (refine And.intro ?_ (by omega); (try intro _); conv => whnf) | (refine ⟨_, RemV.nonneg (by omega) (by omega), ?_⟩; conv => whnf))
            refine RunsS.callV (fun Ez Hz Az Sz K => rFigure_fn (byteAt src pos)) ?_
            conv => whnf
            rw [decide_eq_false (by omega)]
            try dsimp only
            try refine goS_run tab 1000 _ _ _ _ ?_
            conv => whnf
            repeat (first | (refine And.intro (by omega) ?_; (try intro _); conv => whnf) | (refine And.intro ?_ (by omega); (try intro _); conv => whnf) | (refine ⟨_, RemV.nonneg (by omega) (by omega), ?_⟩; conv => whnf))
            refine RunsS.callV (fun Ez Hz Az Sz K => rSign_fn (byteAt src pos)) ?_
            conv => whnf
            rw [decide_eq_true h4]
            try dsimp only
            try refine goS_run tab 1000 _ _ _ _ ?_
            conv => whnf
            repeat (first | (refine And.intro (by omega) ?_; (try intro _); conv => whnf) | (refine And.intro ?_ (by omega); (try intro _); conv => whnf) | (refine ⟨_, RemV.nonneg (by omega) (by omega), ?_⟩; conv => whnf))
            refine And.intro (appOb (by rw [List.length_map]; omega)) ?_
            conv => whnf
            try refine goS_run tab 1000 _ _ _ _ ?_
            conv => whnf
            repeat (first | (refine And.intro (by omega) ?_; (try intro _); conv => whnf) | (refine And.intro ?_ (by omega); (try intro _); conv => whnf) | (refine ⟨_, RemV.nonneg (by omega) (by omega), ?_⟩; conv => whnf))
            refine RunsS.rowsEq (2) (app_row l 3 pos (src.extract pos (pos + 1)) 0) ?_
            conv => whnf
            refine RunsS.subR [(0, 2)] (back ((pos + 1, l ++ [⟨3, pos, src.extract pos (pos + 1), 0⟩])) ?BJ7 ?BM7) ?SS7 ?HH7
            case BJ7 => exact (⟨by dsimp only; omega, hJ.2.trans (lexG_some hP hs0)⟩)
            case BM7 => (try dsimp only); omega
            case SS7 => repeat (first | exact trivial | refine ⟨by rfl, ?_⟩)
            case HH7 => repeat (first | exact trivial | refine ⟨by rfl, ?_⟩)
        · have hcm : ¬ comm src pos := fun e => hb (by have := ((comm_iff src pos hP).1 e).2.1; omega)
          conv => whnf
          repeat (first | (refine And.intro (by omega) ?_; (try intro _); conv => whnf) | (refine And.intro ?_ (by omega); (try intro _); conv => whnf) | (refine ⟨_, RemV.nonneg (by omega) (by omega), ?_⟩; conv => whnf))
          have hs0 : stepL src pos l = some (pos + 1, l ++ [⟨3, pos, src.extract pos (pos + 1), 0⟩]) := by simp only [stepL, h4, if_neg hcm]; rfl
          have hok := stepL_ok hP hs0
          refine RunsS.callV (fun Ez Hz Az Sz K => rLetter_fn (byteAt src pos)) ?_
          conv => whnf
          rw [decide_eq_false (by omega)]
          try dsimp only
          try refine goS_run tab 1000 _ _ _ _ ?_
          conv => whnf
          repeat (first | (refine And.intro (by omega) ?_; (try intro _); conv => whnf) | (refine And.intro ?_ (by omega); (try intro _); conv => whnf) | (refine ⟨_, RemV.nonneg (by omega) (by omega), ?_⟩; conv => whnf))
          refine RunsS.callV (fun Ez Hz Az Sz K => rFigure_fn (byteAt src pos)) ?_
          conv => whnf
          rw [decide_eq_false (by omega)]
          try dsimp only
          try refine goS_run tab 1000 _ _ _ _ ?_
          conv => whnf
          repeat (first | (refine And.intro (by omega) ?_; (try intro _); conv => whnf) | (refine And.intro ?_ (by omega); (try intro _); conv => whnf) | (refine ⟨_, RemV.nonneg (by omega) (by omega), ?_⟩; conv => whnf))
          refine RunsS.callV (fun Ez Hz Az Sz K => rSign_fn (byteAt src pos)) ?_
          conv => whnf
          rw [decide_eq_true h4]
          try dsimp only
          try refine goS_run tab 1000 _ _ _ _ ?_
          conv => whnf
          repeat (first | (refine And.intro (by omega) ?_; (try intro _); conv => whnf) | (refine And.intro ?_ (by omega); (try intro _); conv => whnf) | (refine ⟨_, RemV.nonneg (by omega) (by omega), ?_⟩; conv => whnf))
          refine And.intro (appOb (by rw [List.length_map]; omega)) ?_
          conv => whnf
          try refine goS_run tab 1000 _ _ _ _ ?_
          conv => whnf
          repeat (first | (refine And.intro (by omega) ?_; (try intro _); conv => whnf) | (refine And.intro ?_ (by omega); (try intro _); conv => whnf) | (refine ⟨_, RemV.nonneg (by omega) (by omega), ?_⟩; conv => whnf))
          refine RunsS.rowsEq (2) (app_row l 3 pos (src.extract pos (pos + 1)) 0) ?_
          conv => whnf
          refine RunsS.subR [(0, 2)] (back ((pos + 1, l ++ [⟨3, pos, src.extract pos (pos + 1), 0⟩])) ?BJ8 ?BM8) ?SS8 ?HH8
          case BJ8 => exact (⟨by dsimp only; omega, hJ.2.trans (lexG_some hP hs0)⟩)
          case BM8 => (try dsimp only); omega
          case SS8 => repeat (first | exact trivial | refine ⟨by rfl, ?_⟩)
          case HH8 => repeat (first | exact trivial | refine ⟨by rfl, ?_⟩)
      · have ha' : byteAt src pos ≠ 47 := fun e => ha (by exact_mod_cast e)
        have hcm : ¬ comm src pos := fun e => ha' ((comm_iff src pos hP).1 e).1
        conv => whnf
        repeat (first | (refine And.intro (by omega) ?_; (try intro _); conv => whnf) | (refine And.intro ?_ (by omega); (try intro _); conv => whnf) | (refine ⟨_, RemV.nonneg (by omega) (by omega), ?_⟩; conv => whnf))
        by_cases h2 : cls (byteAt src pos) = 2
        · refine RunsS.callV (fun Ez Hz Az Sz K => rLetter_fn (byteAt src pos)) ?_
          conv => whnf
          rw [decide_eq_true h2]
          try dsimp only
          try refine goS_run tab 1000 _ _ _ _ ?_
          conv => whnf
          repeat (first | (refine And.intro (by omega) ?_; (try intro _); conv => whnf) | (refine And.intro ?_ (by omega); (try intro _); conv => whnf) | (refine ⟨_, RemV.nonneg (by omega) (by omega), ?_⟩; conv => whnf))
          refine RunsS.meet (fun (e : Nat) => [(7, .v (.int .i64 pos)), (6, .v (.int .i64 e)), (5, .buf 0), (0, .v (.string src))]) (fun (e : Nat) => [toksB l 0]) 1 (fun (e : Nat) => e = nameE src pos) ?_ (fun meet => ?_)
          · rintro e he
            have g1 : pos < e := he ▸ runE_gt hP (by simp [inRun, h2])
            have g2 : e ≤ src.size := he ▸ runE_le _ _ _ (by omega)
            have hsz := size_ex src (lo := pos) g2
            have hname : NameP (src.extract pos e) ↔ ¬ 32 < e - pos := by
              constructor
              · intro h; have := h.1; omega
              · intro h
                refine ⟨by omega, ?_, fun i hi => ?_⟩
                · rw [byteAt_ex src g2 (by omega)]; exact h2
                · rw [byteAt_ex src g2 (by omega)]
                  exact runE_in src (inRun 2 3 95) pos (pos + i) (by omega) (by rw [show runE src (inRun 2 3 95) pos = e from he.symm]; omega)
            try refine goS_run tab 1000 _ _ _ _ ?_
            conv => whnf
            repeat (first | (refine And.intro (by omega) ?_; (try intro _); conv => whnf) | (refine And.intro ?_ (by omega); (try intro _); conv => whnf) | (refine ⟨_, RemV.nonneg (by omega) (by omega), ?_⟩; conv => whnf))
            by_cases hb : 32 < e - pos
            · refine RunsS.callV (fun Ez Hz Az Sz K => rName_fn (src.extract pos e)) ?_
              conv => whnf
              rw [decide_eq_false (fun h => hname.1 h hb)]
              try dsimp only
              try refine goS_run tab 1000 _ _ _ _ ?_
              conv => whnf
              repeat (first | (refine And.intro (by omega) ?_; (try intro _); conv => whnf) | (refine And.intro ?_ (by omega); (try intro _); conv => whnf) | (refine ⟨_, RemV.nonneg (by omega) (by omega), ?_⟩; conv => whnf))
              have hs0 : stepL src pos l = none := by simp [stepL, h2, ← he, hb]
              rw [hJ.2, lexG_none hP hs0] at ho
              subst ho
              try refine RunsS.retU ?_
              try refine RunsS.finU ?_
              exact UnwS.ret tab Tryd.func13 rfl (EndS.mk (()) (trivial) [] (by repeat (first | exact trivial | refine ⟨by rfl, ?_⟩)) rfl rfl (okRet rfl rfl))
            · refine RunsS.callV (fun Ez Hz Az Sz K => rName_fn (src.extract pos e)) ?_
              conv => whnf
              rw [decide_eq_true (hname.2 hb)]
              try dsimp only
              try refine goS_run tab 1000 _ _ _ _ ?_
              conv => whnf
              repeat (first | (refine And.intro (by omega) ?_; (try intro _); conv => whnf) | (refine And.intro ?_ (by omega); (try intro _); conv => whnf) | (refine ⟨_, RemV.nonneg (by omega) (by omega), ?_⟩; conv => whnf))
              have hs0 : stepL src pos l = some (e, l ++ [⟨1, pos, src.extract pos e, 0⟩]) := by simp [stepL, h2, ← he, hb]
              have hok := stepL_ok hP hs0
              refine And.intro (appOb (by rw [List.length_map]; omega)) ?_
              conv => whnf
              try refine goS_run tab 1000 _ _ _ _ ?_
              conv => whnf
              repeat (first | (refine And.intro (by omega) ?_; (try intro _); conv => whnf) | (refine And.intro ?_ (by omega); (try intro _); conv => whnf) | (refine ⟨_, RemV.nonneg (by omega) (by omega), ?_⟩; conv => whnf))
              refine RunsS.rowsEq (2) (app_row l 1 pos (src.extract pos e) 0) ?_
              conv => whnf
              refine RunsS.subR [(0, 2)] (back ((e, l ++ [⟨1, pos, src.extract pos e, 0⟩])) ?BJ9 ?BM9) ?SS9 ?HH9
              case BJ9 => exact (⟨by dsimp only; omega, hJ.2.trans (lexG_some hP hs0)⟩)
              case BM9 => (try dsimp only); omega
              case SS9 => repeat (first | exact trivial | refine ⟨by rfl, ?_⟩)
              case HH9 => repeat (first | exact trivial | refine ⟨by rfl, ?_⟩)
          · refine RunsS.subR [] (RunsS.loop (fun (i : Nat) => [(7, .v (.int .i64 pos)), (6, .v (.int .i64 i)), (5, .buf 0), (0, .v (.string src))]) (fun (i : Nat) => [toksB l 0]) 1 (fun (i : Nat) => (pos ≤ i ∧ i ≤ src.size) ∧ nameE src pos = runE src nmC i) (fun (i : Nat) => src.size - i) ?round10 (pos) ?J010) ?SS10 ?HH10
            case J010 => exact (⟨by omega, rfl⟩)
            case SS10 => repeat (first | exact trivial | refine ⟨by rfl, ?_⟩)
            case HH10 => repeat (first | exact trivial | refine ⟨by rfl, ?_⟩)
            rintro i hJ back
            try dsimp only at hJ back
            conv => whnf
            try dsimp only
            refine goS_run tab 1000 _ _ _ _ ?_
            conv => whnf
            repeat (first | (refine And.intro (by omega) ?_; (try intro _); conv => whnf) | (refine And.intro ?_ (by omega); (try intro _); conv => whnf) | (refine ⟨_, RemV.nonneg (by omega) (by omega), ?_⟩; conv => whnf))
            refine ⟨fun hi => ?_, fun hi => ?_⟩ <;> conv => whnf
            · conv => whnf
              repeat (first | (refine And.intro (by omega) ?_; (try intro _); conv => whnf) | (refine And.intro ?_ (by omega); (try intro _); conv => whnf) | (refine ⟨_, RemV.nonneg (by omega) (by omega), ?_⟩; conv => whnf))
              by_cases hx : nmC (byteAt src i) = true
              · refine RunsS.callV (fun Ez Hz Az Sz K => rPart_fn (byteAt src i)) ?_
                conv => whnf
                rw [hx]
                try dsimp only
                try refine goS_run tab 1000 _ _ _ _ ?_
                conv => whnf
                repeat (first | (refine And.intro (by omega) ?_; (try intro _); conv => whnf) | (refine And.intro ?_ (by omega); (try intro _); conv => whnf) | (refine ⟨_, RemV.nonneg (by omega) (by omega), ?_⟩; conv => whnf))
                have hn : nameE src pos = runE src nmC (i + 1) := by
                  rw [hJ.2]
                  conv => lhs; unfold runE
                  rw [dif_pos (by omega), if_pos hx]
                refine RunsS.subR [] (back (i + 1) ?BJ11 ?BM11) ?SS11 ?HH11
                case BJ11 => exact (⟨by omega, hn⟩)
                case BM11 => (try dsimp only); omega
                case SS11 => repeat (first | exact trivial | refine ⟨by rfl, ?_⟩)
                case HH11 => repeat (first | exact trivial | refine ⟨by rfl, ?_⟩)
              · refine RunsS.callV (fun Ez Hz Az Sz K => rPart_fn (byteAt src i)) ?_
                conv => whnf
                rw [Bool.eq_false_iff.2 hx]
                try dsimp only
                try refine goS_run tab 1000 _ _ _ _ ?_
                conv => whnf
                repeat (first | (refine And.intro (by omega) ?_; (try intro _); conv => whnf) | (refine And.intro ?_ (by omega); (try intro _); conv => whnf) | (refine ⟨_, RemV.nonneg (by omega) (by omega), ?_⟩; conv => whnf))
                have hn : nameE src pos = i := by
                  rw [hJ.2]
                  unfold runE
                  rw [dif_pos (by omega), if_neg hx]
                refine RunsS.subR [] (meet (i) ?BJ12) ?SS12 ?HH12
                case BJ12 => exact (hn.symm)
                case SS12 => repeat (first | exact trivial | refine ⟨by rfl, ?_⟩)
                case HH12 => repeat (first | exact trivial | refine ⟨by rfl, ?_⟩)
            · conv => whnf
              repeat (first | (refine And.intro (by omega) ?_; (try intro _); conv => whnf) | (refine And.intro ?_ (by omega); (try intro _); conv => whnf) | (refine ⟨_, RemV.nonneg (by omega) (by omega), ?_⟩; conv => whnf))
              have hn : nameE src pos = i := by
                rw [hJ.2]
                unfold runE
                rw [dif_neg (by omega)]
              refine RunsS.subR [] (meet (i) ?BJ13) ?SS13 ?HH13
              case BJ13 => exact (hn.symm)
              case SS13 => repeat (first | exact trivial | refine ⟨by rfl, ?_⟩)
              case HH13 => repeat (first | exact trivial | refine ⟨by rfl, ?_⟩)
        · refine RunsS.callV (fun Ez Hz Az Sz K => rLetter_fn (byteAt src pos)) ?_
          conv => whnf
          rw [decide_eq_false h2]
          try dsimp only
          try refine goS_run tab 1000 _ _ _ _ ?_
          conv => whnf
          repeat (first | (refine And.intro (by omega) ?_; (try intro _); conv => whnf) | (refine And.intro ?_ (by omega); (try intro _); conv => whnf) | (refine ⟨_, RemV.nonneg (by omega) (by omega), ?_⟩; conv => whnf))
          by_cases h3 : cls (byteAt src pos) = 3
          · refine RunsS.callV (fun Ez Hz Az Sz K => rFigure_fn (byteAt src pos)) ?_
            conv => whnf
            rw [decide_eq_true h3]
            try dsimp only
            try refine goS_run tab 1000 _ _ _ _ ?_
            conv => whnf
            repeat (first | (refine And.intro (by omega) ?_; (try intro _); conv => whnf) | (refine And.intro ?_ (by omega); (try intro _); conv => whnf) | (refine ⟨_, RemV.nonneg (by omega) (by omega), ?_⟩; conv => whnf))
            refine RunsS.meet (fun (e : Nat) => [(7, .v (.int .i64 pos)), (6, .v (.int .i64 e)), (5, .buf 0), (0, .v (.string src))]) (fun (e : Nat) => [toksB l 0]) 1 (fun (e : Nat) => e = numE src pos) ?_ (fun meet => ?_)
            · rintro e he
              have g1 : pos < e := he ▸ runE_gt hP (by simp [inRun, h3])
              have g2 : e ≤ src.size := he ▸ runE_le _ _ _ (by omega)
              have hsz := size_ex src (lo := pos) g2
              have hdg : ∀ i, i < (src.extract pos e).size → 48 ≤ byteAt (src.extract pos e) i ∧ byteAt (src.extract pos e) i ≤ 57 := fun i hi => by
                rw [byteAt_ex src g2 (by omega)]
                exact dig_of (runE_in src (inRun 3 3 48) pos (pos + i) (by omega) (by rw [show runE src (inRun 3 3 48) pos = e from he.symm]; omega))
              have hnl : numL (bs (src.extract pos e)) 0 = numF src e pos 0 := by rw [numF_eq src e g2, bs_extract]
              have hb0 : byteAt (src.extract pos e) 0 = byteAt src pos := byteAt_ex src g2 (by omega)
              have hst : stepL src pos l = if 1 < e - pos ∧ byteAt src pos = 48 then none else match numF src e pos 0 with | none => none | some n => some (e, l ++ [⟨2, pos, ⟨#[]⟩, n⟩]) := by simp only [stepL, h3, ← he]; rfl
              cases hz : numF src e pos 0 with
              | none =>
                have hs0 : stepL src pos l = none := by rw [hst, hz]; simp
                rw [hJ.2, lexG_none hP hs0] at ho
                subst ho
                try refine goS_run tab 1000 _ _ _ _ ?_
                conv => whnf
                repeat (first | (refine And.intro (by omega) ?_; (try intro _); conv => whnf) | (refine And.intro ?_ (by omega); (try intro _); conv => whnf) | (refine ⟨_, RemV.nonneg (by omega) (by omega), ?_⟩; conv => whnf))
                refine RunsS.callV (fun Ez Hz Az Sz K => rNumber_fn (src.extract pos e) (by omega) hdg) ?_
                conv => whnf
                rw [hnl, hz]
                try dsimp only
                try refine goS_run tab 1000 _ _ _ _ ?_
                conv => whnf
                repeat (first | (refine And.intro (by omega) ?_; (try intro _); conv => whnf) | (refine And.intro ?_ (by omega); (try intro _); conv => whnf) | (refine ⟨_, RemV.nonneg (by omega) (by omega), ?_⟩; conv => whnf))
                try refine RunsS.retU ?_
                try refine RunsS.finU ?_
                exact UnwS.ret tab Tryd.func13 rfl (EndS.mk (()) (trivial) [] (by repeat (first | exact trivial | refine ⟨by rfl, ?_⟩)) rfl rfl (okRet rfl rfl))
              | some n =>
                by_cases hb : 1 < e - pos ∧ byteAt src pos = 48
                · have hs0 : stepL src pos l = none := by rw [hst, if_pos hb]
                  rw [hJ.2, lexG_none hP hs0] at ho
                  subst ho
                  try refine goS_run tab 1000 _ _ _ _ ?_
                  conv => whnf
                  repeat (first | (refine And.intro (by omega) ?_; (try intro _); conv => whnf) | (refine And.intro ?_ (by omega); (try intro _); conv => whnf) | (refine ⟨_, RemV.nonneg (by omega) (by omega), ?_⟩; conv => whnf))
                  refine RunsS.callV (fun Ez Hz Az Sz K => rNumber_fn (src.extract pos e) (by omega) hdg) ?_
                  conv => whnf
                  rw [hnl, hz, hb0, decide_eq_false (by omega : ¬ ((src.extract pos e).size = 1 ∨ byteAt src pos ≠ 48))]
                  try dsimp only
                  try refine goS_run tab 1000 _ _ _ _ ?_
                  conv => whnf
                  repeat (first | (refine And.intro (by omega) ?_; (try intro _); conv => whnf) | (refine And.intro ?_ (by omega); (try intro _); conv => whnf) | (refine ⟨_, RemV.nonneg (by omega) (by omega), ?_⟩; conv => whnf))
                  try refine RunsS.retU ?_
                  try refine RunsS.finU ?_
                  exact UnwS.ret tab Tryd.func13 rfl (EndS.mk (()) (trivial) [] (by repeat (first | exact trivial | refine ⟨by rfl, ?_⟩)) rfl rfl (okRet rfl rfl))
                · have hs0 : stepL src pos l = some (e, l ++ [⟨2, pos, ⟨#[]⟩, n⟩]) := by rw [hst, if_neg hb, hz]
                  have hok := stepL_ok hP hs0
                  try refine goS_run tab 1000 _ _ _ _ ?_
                  conv => whnf
                  repeat (first | (refine And.intro (by omega) ?_; (try intro _); conv => whnf) | (refine And.intro ?_ (by omega); (try intro _); conv => whnf) | (refine ⟨_, RemV.nonneg (by omega) (by omega), ?_⟩; conv => whnf))
                  refine RunsS.callV (fun Ez Hz Az Sz K => rNumber_fn (src.extract pos e) (by omega) hdg) ?_
                  conv => whnf
                  rw [hnl, hz, hb0, decide_eq_true (by omega : ((src.extract pos e).size = 1 ∨ byteAt src pos ≠ 48))]
                  try dsimp only
                  try refine goS_run tab 1000 _ _ _ _ ?_
                  conv => whnf
                  repeat (first | (refine And.intro (by omega) ?_; (try intro _); conv => whnf) | (refine And.intro ?_ (by omega); (try intro _); conv => whnf) | (refine ⟨_, RemV.nonneg (by omega) (by omega), ?_⟩; conv => whnf))
                  refine And.intro (appOb (by rw [List.length_map]; omega)) ?_
                  conv => whnf
                  try refine goS_run tab 1000 _ _ _ _ ?_
                  conv => whnf
                  repeat (first | (refine And.intro (by omega) ?_; (try intro _); conv => whnf) | (refine And.intro ?_ (by omega); (try intro _); conv => whnf) | (refine ⟨_, RemV.nonneg (by omega) (by omega), ?_⟩; conv => whnf))
                  refine RunsS.rowsEq (2) (app_row l 2 pos ⟨#[]⟩ n) ?_
                  conv => whnf
                  refine RunsS.subR [(0, 2)] (back ((e, l ++ [⟨2, pos, ⟨#[]⟩, n⟩])) ?BJ14 ?BM14) ?SS14 ?HH14
                  case BJ14 => exact (⟨by dsimp only; omega, hJ.2.trans (lexG_some hP hs0)⟩)
                  case BM14 => (try dsimp only); omega
                  case SS14 => repeat (first | exact trivial | refine ⟨by rfl, ?_⟩)
                  case HH14 => repeat (first | exact trivial | refine ⟨by rfl, ?_⟩)
            · refine RunsS.subR [] (RunsS.loop (fun (i : Nat) => [(7, .v (.int .i64 pos)), (6, .v (.int .i64 i)), (5, .buf 0), (0, .v (.string src))]) (fun (i : Nat) => [toksB l 0]) 1 (fun (i : Nat) => (pos ≤ i ∧ i ≤ src.size) ∧ numE src pos = runE src dgC i) (fun (i : Nat) => src.size - i) ?round15 (pos) ?J015) ?SS15 ?HH15
              case J015 => exact (⟨by omega, rfl⟩)
              case SS15 => repeat (first | exact trivial | refine ⟨by rfl, ?_⟩)
              case HH15 => repeat (first | exact trivial | refine ⟨by rfl, ?_⟩)
              rintro i hJ back
              try dsimp only at hJ back
              conv => whnf
              try dsimp only
              refine goS_run tab 1000 _ _ _ _ ?_
              conv => whnf
              repeat (first | (refine And.intro (by omega) ?_; (try intro _); conv => whnf) | (refine And.intro ?_ (by omega); (try intro _); conv => whnf) | (refine ⟨_, RemV.nonneg (by omega) (by omega), ?_⟩; conv => whnf))
              refine ⟨fun hi => ?_, fun hi => ?_⟩ <;> conv => whnf
              · conv => whnf
                repeat (first | (refine And.intro (by omega) ?_; (try intro _); conv => whnf) | (refine And.intro ?_ (by omega); (try intro _); conv => whnf) | (refine ⟨_, RemV.nonneg (by omega) (by omega), ?_⟩; conv => whnf))
                by_cases hx : cls (byteAt src i) = 3
                · refine RunsS.callV (fun Ez Hz Az Sz K => rFigure_fn (byteAt src i)) ?_
                  conv => whnf
                  rw [decide_eq_true hx]
                  try dsimp only
                  try refine goS_run tab 1000 _ _ _ _ ?_
                  conv => whnf
                  repeat (first | (refine And.intro (by omega) ?_; (try intro _); conv => whnf) | (refine And.intro ?_ (by omega); (try intro _); conv => whnf) | (refine ⟨_, RemV.nonneg (by omega) (by omega), ?_⟩; conv => whnf))
                  have hn : numE src pos = runE src dgC (i + 1) := by
                    rw [hJ.2]
                    conv => lhs; unfold runE
                    rw [dif_pos (by omega), if_pos ((dgC_iff _).2 hx)]
                  refine RunsS.subR [] (back (i + 1) ?BJ16 ?BM16) ?SS16 ?HH16
                  case BJ16 => exact (⟨by omega, hn⟩)
                  case BM16 => (try dsimp only); omega
                  case SS16 => repeat (first | exact trivial | refine ⟨by rfl, ?_⟩)
                  case HH16 => repeat (first | exact trivial | refine ⟨by rfl, ?_⟩)
                · refine RunsS.callV (fun Ez Hz Az Sz K => rFigure_fn (byteAt src i)) ?_
                  conv => whnf
                  rw [decide_eq_false hx]
                  try dsimp only
                  try refine goS_run tab 1000 _ _ _ _ ?_
                  conv => whnf
                  repeat (first | (refine And.intro (by omega) ?_; (try intro _); conv => whnf) | (refine And.intro ?_ (by omega); (try intro _); conv => whnf) | (refine ⟨_, RemV.nonneg (by omega) (by omega), ?_⟩; conv => whnf))
                  have hn : numE src pos = i := by
                    rw [hJ.2]
                    unfold runE
                    rw [dif_pos (by omega), if_neg (fun e => hx ((dgC_iff _).1 e))]
                  refine RunsS.subR [] (meet (i) ?BJ17) ?SS17 ?HH17
                  case BJ17 => exact (hn.symm)
                  case SS17 => repeat (first | exact trivial | refine ⟨by rfl, ?_⟩)
                  case HH17 => repeat (first | exact trivial | refine ⟨by rfl, ?_⟩)
              · conv => whnf
                repeat (first | (refine And.intro (by omega) ?_; (try intro _); conv => whnf) | (refine And.intro ?_ (by omega); (try intro _); conv => whnf) | (refine ⟨_, RemV.nonneg (by omega) (by omega), ?_⟩; conv => whnf))
                have hn : numE src pos = i := by
                  rw [hJ.2]
                  unfold runE
                  rw [dif_neg (by omega)]
                refine RunsS.subR [] (meet (i) ?BJ18) ?SS18 ?HH18
                case BJ18 => exact (hn.symm)
                case SS18 => repeat (first | exact trivial | refine ⟨by rfl, ?_⟩)
                case HH18 => repeat (first | exact trivial | refine ⟨by rfl, ?_⟩)
          · refine RunsS.callV (fun Ez Hz Az Sz K => rFigure_fn (byteAt src pos)) ?_
            conv => whnf
            rw [decide_eq_false h3]
            try dsimp only
            try refine goS_run tab 1000 _ _ _ _ ?_
            conv => whnf
            repeat (first | (refine And.intro (by omega) ?_; (try intro _); conv => whnf) | (refine And.intro ?_ (by omega); (try intro _); conv => whnf) | (refine ⟨_, RemV.nonneg (by omega) (by omega), ?_⟩; conv => whnf))
            by_cases h4 : cls (byteAt src pos) = 4
            · have hs0 : stepL src pos l = some (pos + 1, l ++ [⟨3, pos, src.extract pos (pos + 1), 0⟩]) := by simp only [stepL, h4, if_neg hcm]; rfl
              have hok := stepL_ok hP hs0
              refine RunsS.callV (fun Ez Hz Az Sz K => rSign_fn (byteAt src pos)) ?_
              conv => whnf
              rw [decide_eq_true h4]
              try dsimp only
              try refine goS_run tab 1000 _ _ _ _ ?_
              conv => whnf
              repeat (first | (refine And.intro (by omega) ?_; (try intro _); conv => whnf) | (refine And.intro ?_ (by omega); (try intro _); conv => whnf) | (refine ⟨_, RemV.nonneg (by omega) (by omega), ?_⟩; conv => whnf))
              refine And.intro (appOb (by rw [List.length_map]; omega)) ?_
              conv => whnf
              try refine goS_run tab 1000 _ _ _ _ ?_
              conv => whnf
              repeat (first | (refine And.intro (by omega) ?_; (try intro _); conv => whnf) | (refine And.intro ?_ (by omega); (try intro _); conv => whnf) | (refine ⟨_, RemV.nonneg (by omega) (by omega), ?_⟩; conv => whnf))
              refine RunsS.rowsEq (2) (app_row l 3 pos (src.extract pos (pos + 1)) 0) ?_
              conv => whnf
              refine RunsS.subR [(0, 2)] (back ((pos + 1, l ++ [⟨3, pos, src.extract pos (pos + 1), 0⟩])) ?BJ19 ?BM19) ?SS19 ?HH19
              case BJ19 => exact (⟨by dsimp only; omega, hJ.2.trans (lexG_some hP hs0)⟩)
              case BM19 => (try dsimp only); omega
              case SS19 => repeat (first | exact trivial | refine ⟨by rfl, ?_⟩)
              case HH19 => repeat (first | exact trivial | refine ⟨by rfl, ?_⟩)
            · have h0 : cls (byteAt src pos) = 0 := by
                have := cls_cases (byteAt src pos)
                omega
              have hs0 : stepL src pos l = none := by simp [stepL, h0]
              rw [hJ.2, lexG_none hP hs0] at ho
              subst ho
              refine RunsS.callV (fun Ez Hz Az Sz K => rSign_fn (byteAt src pos)) ?_
              conv => whnf
              rw [decide_eq_false h4]
              try dsimp only
              try refine goS_run tab 1000 _ _ _ _ ?_
              conv => whnf
              repeat (first | (refine And.intro (by omega) ?_; (try intro _); conv => whnf) | (refine And.intro ?_ (by omega); (try intro _); conv => whnf) | (refine ⟨_, RemV.nonneg (by omega) (by omega), ?_⟩; conv => whnf))
              try refine RunsS.retU ?_
              try refine RunsS.finU ?_
              exact UnwS.ret tab Tryd.func13 rfl (EndS.mk (()) (trivial) [] (by repeat (first | exact trivial | refine ⟨by rfl, ?_⟩)) rfl rfl (okRet rfl rfl))
  · conv => whnf
    repeat (first | (refine And.intro (by omega) ?_; (try intro _); conv => whnf) | (refine And.intro ?_ (by omega); (try intro _); conv => whnf) | (refine ⟨_, RemV.nonneg (by omega) (by omega), ?_⟩; conv => whnf))
    have hend : lexG src pos l = .inl l := by
      unfold lexG
      rw [dif_neg (by omega)]
    rw [hJ.2, hend] at ho
    subst ho
    try refine RunsS.retU ?_
    try refine RunsS.finU ?_
    exact UnwS.ret tab Tryd.func13 rfl (EndS.mk (()) (trivial) [] (by repeat (first | exact trivial | refine ⟨by rfl, ?_⟩)) rfl rfl (okRet rfl rfl))
end Go.Proofs.YtlminkahdlcikaaDoor

namespace Go.Proofs.YtlminkahdlcikaaDoor
open Go Go.Shelf Go.Proofs

def layR : Ren := ⟨fun x => match x with | 129 => 66 | 143 => 50 | 144 => 44 | 156 => 38 | 165 => 46 | 166 => 47 | 169 => 48 | 171 => 37 | 217 => 61 | 219 => 54 | 224 => 63 | 225 => 62 | 240 => 52 | 241 => 53 | 243 => 45 | 246 => 51 | 266 => 70 | 267 => 64 | 276 => 59 | 277 => 60 | 283 => 55 | 284 => 56 | 285 => 57 | 286 => 58 | 314 => 71 | 317 => 65 | 318 => 67 | 319 => 68 | 320 => 69 | 337 => 72 | 338 => 73 | n => n, fun x => match x with | 0 => 0 | 2 => 2 | 3 => 3 | 4 => 4 | 5 => 5 | 9 => 9 | 20 => 20 | 31 => 40 | 37 => 39 | 46 => 82 | 51 => 85 | 53 => 72 | 70 => 59 | 72 => 61 | 75 => 64 | 76 => 65 | 80 => 67 | 127 => 70 | 146 => 89 | 164 => 77 | 171 => 71 | 173 => 75 | 212 => 84 | 213 => 86 | 232 => 92 | 233 => 93 | n => n, fun x => match x with | 1 => 0 | 17 => 1 | 18 => 2 | 19 => 3 | n => n⟩
theorem layJoin : Lays.n156 Tryd.prog layR := {
  mixed := by kernel_rfl
  f156 := by kernel_rfl
  f165 := by kernel_rfl
  f166 := by kernel_rfl
  f169 := by kernel_rfl
  f240 := by kernel_rfl
  f241 := by kernel_rfl
  f276 := by kernel_rfl
  f277 := by kernel_rfl
  t0 := by kernel_rfl
  a0 := fun _ => by kernel_rfl
  z0 := fun _ => by kernel_rfl
  v0 := fun _ => by kernel_rfl
  t3 := by kernel_rfl
  a3 := fun _ => by kernel_rfl
  z3 := fun _ => by kernel_rfl
  v3 := fun _ => by kernel_rfl
  t4 := by kernel_rfl
  a4 := fun _ => by kernel_rfl
  z4 := fun _ => by kernel_rfl
  v4 := fun _ => by kernel_rfl
  t9 := by kernel_rfl
  a9 := fun _ => by kernel_rfl
  z9 := fun _ => by kernel_rfl
  v9 := fun _ => by kernel_rfl
  t20 := by kernel_rfl
  a20 := fun _ => by kernel_rfl
  z20 := fun _ => by kernel_rfl
  v20 := fun _ => by kernel_rfl
  t31 := by kernel_rfl
  a31 := fun _ => by kernel_rfl
  z31 := fun _ => by kernel_rfl
  v31 := fun _ => by kernel_rfl
  t37 := by kernel_rfl
  a37 := fun _ => by kernel_rfl
  z37 := fun _ => by kernel_rfl
  v37 := fun _ => by kernel_rfl
  t70 := by kernel_rfl
  a70 := fun _ => by kernel_rfl
  z70 := fun _ => by kernel_rfl
  v70 := fun _ => by kernel_rfl
  t72 := by kernel_rfl
  a72 := fun _ => by kernel_rfl
  z72 := fun _ => by kernel_rfl
  v72 := fun _ => by kernel_rfl
  t75 := by kernel_rfl
  a75 := fun _ => by kernel_rfl
  z75 := fun _ => by kernel_rfl
  v75 := fun _ => by kernel_rfl
  t76 := by kernel_rfl
  a76 := fun _ => by kernel_rfl
  z76 := fun _ => by kernel_rfl
  v76 := fun _ => by kernel_rfl
  t127 := by kernel_rfl
  a127 := fun _ => by kernel_rfl
  z127 := fun _ => by kernel_rfl
  v127 := fun _ => by kernel_rfl
  t164 := by kernel_rfl
  a164 := fun _ => by kernel_rfl
  z164 := fun _ => by kernel_rfl
  v164 := fun _ => by kernel_rfl
}
theorem layBuilder : Builder.Extra Tryd.prog layR := {
  sizeBuilder := by kernel_rfl
  liesBuilder := by kernel_rfl
  t5 := by kernel_rfl
  a5 := fun _ => by kernel_rfl
  z5 := fun _ => by kernel_rfl
  v5 := fun _ => by kernel_rfl
  infoByte := by kernel_rfl
  cellsByte := by kernel_rfl
  sizeByte := by kernel_rfl
  neB5 := by decide
}
theorem layItoa : LaysM.n171 Tryd.prog layR := {
  mixed := by kernel_rfl
  f129 := by kernel_rfl
  f171 := by kernel_rfl
  f243 := by kernel_rfl
  f246 := by kernel_rfl
  f283 := by kernel_rfl
  f284 := by kernel_rfl
  f285 := by kernel_rfl
  f286 := by kernel_rfl
  f317 := by kernel_rfl
  f318 := by kernel_rfl
  f319 := by kernel_rfl
  f320 := by kernel_rfl
  f337 := by kernel_rfl
  f338 := by kernel_rfl
  t0 := by kernel_rfl
  a0 := fun _ => by kernel_rfl
  z0 := fun _ => by kernel_rfl
  v0 := fun _ => by kernel_rfl
  t2 := by kernel_rfl
  a2 := fun _ => by kernel_rfl
  z2 := fun _ => by kernel_rfl
  v2 := fun _ => by kernel_rfl
  t3 := by kernel_rfl
  a3 := fun _ => by kernel_rfl
  z3 := fun _ => by kernel_rfl
  v3 := fun _ => by kernel_rfl
  t4 := by kernel_rfl
  a4 := fun _ => by kernel_rfl
  z4 := fun _ => by kernel_rfl
  v4 := fun _ => by kernel_rfl
  t5 := by kernel_rfl
  a5 := fun _ => by kernel_rfl
  z5 := fun _ => by kernel_rfl
  v5 := fun _ => by kernel_rfl
  t9 := by kernel_rfl
  a9 := fun _ => by kernel_rfl
  z9 := fun _ => by kernel_rfl
  v9 := fun _ => by kernel_rfl
  t20 := by kernel_rfl
  a20 := fun _ => by kernel_rfl
  z20 := fun _ => by kernel_rfl
  v20 := fun _ => by kernel_rfl
  t37 := by kernel_rfl
  a37 := fun _ => by kernel_rfl
  z37 := fun _ => by kernel_rfl
  v37 := fun _ => by kernel_rfl
  t46 := by kernel_rfl
  a46 := fun _ => by kernel_rfl
  z46 := fun _ => by kernel_rfl
  v46 := fun _ => by kernel_rfl
  t51 := by kernel_rfl
  a51 := fun _ => by kernel_rfl
  z51 := fun _ => by kernel_rfl
  v51 := fun _ => by kernel_rfl
  t53 := by kernel_rfl
  a53 := fun _ => by kernel_rfl
  z53 := fun _ => by kernel_rfl
  v53 := fun _ => by kernel_rfl
  t171 := by kernel_rfl
  a171 := fun _ => by kernel_rfl
  z171 := fun _ => by kernel_rfl
  v171 := fun _ => by kernel_rfl
  t173 := by kernel_rfl
  a173 := fun _ => by kernel_rfl
  z173 := fun _ => by kernel_rfl
  v173 := fun _ => by kernel_rfl
  t212 := by kernel_rfl
  a212 := fun _ => by kernel_rfl
  z212 := fun _ => by kernel_rfl
  v212 := fun _ => by kernel_rfl
  t213 := by kernel_rfl
  a213 := fun _ => by kernel_rfl
  z213 := fun _ => by kernel_rfl
  t232 := by kernel_rfl
  a232 := fun _ => by kernel_rfl
  z232 := fun _ => by kernel_rfl
  v232 := fun _ => by kernel_rfl
  t233 := by kernel_rfl
  a233 := fun _ => by kernel_rfl
  z233 := fun _ => by kernel_rfl
  v233 := fun _ => by kernel_rfl
  g17 := by kernel_rfl
  g18 := by kernel_rfl
  g19 := by kernel_rfl
  i0 := by kernel_rfl
  i2 := by kernel_rfl
  i3 := by kernel_rfl
  i4 := by kernel_rfl
  i5 := by kernel_rfl
  i9 := by kernel_rfl
  i20 := by kernel_rfl
  i37 := by kernel_rfl
  i46 := by kernel_rfl
  i51 := by kernel_rfl
  i53 := by kernel_rfl
  i171 := by kernel_rfl
  i173 := by kernel_rfl
  i212 := by kernel_rfl
  i232 := by kernel_rfl
  i233 := by kernel_rfl
  m17 := by kernel_rfl
  m18 := by kernel_rfl
  m19 := by kernel_rfl
}
theorem layContains : Lays.n144 Tryd.prog layR := {
  mixed := by kernel_rfl
  f143 := by kernel_rfl
  f144 := by kernel_rfl
  f217 := by kernel_rfl
  f219 := by kernel_rfl
  f224 := by kernel_rfl
  f225 := by kernel_rfl
  f266 := by kernel_rfl
  f267 := by kernel_rfl
  f314 := by kernel_rfl
  t3 := by kernel_rfl
  a3 := fun _ => by kernel_rfl
  z3 := fun _ => by kernel_rfl
  v3 := fun _ => by kernel_rfl
  t4 := by kernel_rfl
  a4 := fun _ => by kernel_rfl
  z4 := fun _ => by kernel_rfl
  v4 := fun _ => by kernel_rfl
  t5 := by kernel_rfl
  a5 := fun _ => by kernel_rfl
  z5 := fun _ => by kernel_rfl
  v5 := fun _ => by kernel_rfl
  t9 := by kernel_rfl
  a9 := fun _ => by kernel_rfl
  z9 := fun _ => by kernel_rfl
  v9 := fun _ => by kernel_rfl
  t46 := by kernel_rfl
  a46 := fun _ => by kernel_rfl
  z46 := fun _ => by kernel_rfl
  v46 := fun _ => by kernel_rfl
  t51 := by kernel_rfl
  a51 := fun _ => by kernel_rfl
  z51 := fun _ => by kernel_rfl
  v51 := fun _ => by kernel_rfl
  t146 := by kernel_rfl
  a146 := fun _ => by kernel_rfl
  z146 := fun _ => by kernel_rfl
  v146 := fun _ => by kernel_rfl
  g1 := by kernel_rfl
}
end Go.Proofs.YtlminkahdlcikaaDoor

namespace Go.Proofs.YtlminkahdlcikaaDoor
open Go Go.Fw Go.RowKit

theorem fnv_calls {P : Program} {f : FuncId} {args : Array Value} {h : Array Obj} {v : Value} (he : Fw.Enters P f) (H : ∀ w : World, w.heap = h → Calls P f args w fun e w' => e = .returned v ∧ Below w.heap.size w w') :
    FnV P f args h fun r h' => r = v ∧ Keeps h.size h h' :=
  ⟨he, fun w hw => (H w hw).mono fun e w' ⟨h1, h2⟩ => ⟨⟨h2.tape, h2.os, h2.output⟩, v, h1, rfl, by rw [← hw]; exact ⟨h2.size, h2.block⟩⟩⟩

/-- the table of the powers of ten -/
def PowH (h : Array Obj) : Prop := (match h[(1 : Nat)]? with | some (Obj.cells cs _ _) => some cs | _ => none) = some (Lib.pow10Tab.map fun z => Value.int .u64 z).toArray
theorem PowH.lt {h : Array Obj} (H : PowH h) : 1 < h.size := by
  unfold PowH at H
  split at H
  · rename_i hx
    exact (Array.getElem?_eq_some_iff.1 hx).1
  · cases H
theorem PowH.keeps {h h' : Array Obj} (H : PowH h) (k : Keeps h.size h h') : PowH h' := by
  have := k.same _ H.lt
  unfold PowH at H ⊢
  rw [this]; exact H
theorem gPow : Tryd.prog.globalNamed "internal/strconv.uint64pow10" = some 1 := by kernel_rfl
theorem PowH.tab {w : World} (H : PowH w.heap) : Lib.TabIs Tryd.prog w "internal/strconv.uint64pow10" .u64 Lib.pow10Tab := by
  unfold Lib.TabIs World.var?
  rw [gPow]
  exact H
theorem Itoa_fn {h : Array Obj} (n : Int) (h0 : 0 ≤ n) (h1 : n ≤ 9223372036854775807) (hT : PowH h) : FnV Tryd.prog 37 #[.int .i64 n] h fun r h' => r = .string ⟨(Lib.itoa n).toArray⟩ ∧ Keeps h.size h h' :=
  fnv_calls ⟨_, _, Tryd.func37, by kernel_rfl, rfl⟩ fun w hw => (Any.strconv_Itoa layItoa n (by omega) h1 w (PowH.tab (by rw [hw]; exact hT))).mono fun e w' ⟨e1, k, os, e2⟩ => ⟨e1, by
    subst e2
    refine ⟨rfl, rfl, rfl, ?_, fun i hi => ?_⟩
    · show w.heap.size ≤ (w.heap ++ os).size
      simp
    · show (w.heap ++ os)[i]? = _
      rw [Array.getElem?_append_left hi]⟩
theorem Contains_fn {h : Array Obj} (s : ByteArray) (c : UInt8) : FnV Tryd.prog 44 #[.string s, .string ⟨#[c]⟩] h fun r h' => r = .bool (decide (0 ≤ Lib.indexByte s.data.toList c)) ∧ Keeps h.size h h' :=
  fnv_calls ⟨_, _, Tryd.func44, by kernel_rfl, rfl⟩ fun w hw => (Any.strings_Contains_one layContains s c w).mono fun e w' ⟨e1, e2⟩ => ⟨e1, e2 ▸ Below.refl _ _⟩
theorem Join_fn {h : Array Obj} {e : TypeId} {v : Value} (xs : List ByteArray) (sep : ByteArray) (hv : Own 0 h e 1 v (xs.map fun x => [Value.string x]).length (xs.map fun x => [Value.string x]).flatten) (hN : xs.length ≤ 65536) (hl : (Lib.join (xs.map (·.data.toList)) sep.data.toList).length ≤ 140737488355328) :
    FnV Tryd.prog 38 #[v, .string sep] h fun r h' => r = .string ⟨(Lib.join (xs.map (·.data.toList)) sep.data.toList).toArray⟩ ∧ Keeps h.size h h' := by
  have hfl : (xs.map fun x => [Value.string x]).flatten = xs.map Value.string := by
    clear hv hN hl
    induction xs with
    | nil => rfl
    | cons x xs ih => simp [ih]
  rw [hfl, List.length_map] at hv
  obtain ⟨_, ⟨rfl, h3⟩ | ⟨g, cap, cur, rfl, _, hat, hc, _, _, ht⟩⟩ := hv
  · refine fnv_calls ⟨_, _, Tryd.func38, by kernel_rfl, rfl⟩ fun w hw => ?_
    have : xs = [] := List.eq_nil_of_length_eq_zero h3
    subst this
    exact (Any.strings_Join_none layJoin layBuilder none 0 sep w).mono fun e w' ⟨e1, e2⟩ => ⟨e1, e2 ▸ Below.refl _ _⟩
  · refine fnv_calls ⟨_, _, Tryd.func38, by kernel_rfl, rfl⟩ fun w hw => ?_
    refine Any.strings_Join layJoin layBuilder g 0 cap xs sep w (fun j x hx => ?_) (by rw [hw]; exact hat.lt) (by omega) hc hl
    refine cell_of ?_
    rw [hw, Nat.zero_add, hat.cell]
    have h1 := congrArg (fun l => l[j]?) ht
    have hj := (List.getElem?_eq_some_iff.1 hx).1
    simp only [Nat.mul_one, List.getElem?_map, hx, Option.map_some, List.getElem?_take, if_pos hj, Array.getElem?_toList] at h1
    exact h1
end Go.Proofs.YtlminkahdlcikaaDoor

namespace Go.Proofs.YtlminkahdlcikaaDoor
open Go Go.Fw
set_option maxRecDepth 100000
set_option maxHeartbeats 16000000

theorem cls_at {c : Nat} (hc : c < 256) : nth clsS (0 + ((c : Int)).toNat * 1) = some (.v (.int .i64 (cls c))) := by
  have := clsS_get hc []
  rw [List.append_nil] at this
  rw [show 0 + ((c : Int)).toNat * 1 = c by simp]
  exact this
theorem Name_fn {h : Array Obj} (s : ByteArray) : FnV Tryd.prog 20 #[.string s] h fun r h' => r = .bool (decide (NameP s)) ∧ Keeps h.size h h' := by
  refine Fn.ofS (args := [.string s]) Tryd.func20 (by kernel_rfl) rfl Tryd.ntmps20 rfl fun w0 cs => ?_
  conv => whnf
  refine goS_run tab 1000 _ _ _ _ ?_
  conv => whnf
  repeat (first | (refine And.intro (by omega) ?_; (try intro _); conv => whnf) | (refine And.intro ?_ (by omega); (try intro _); conv => whnf) | (refine ⟨_, RemV.nonneg (by omega) (by omega), ?_⟩; conv => whnf))
  refine ⟨fun h1 => ?_, fun h1 => ?_⟩ <;> conv => whnf
  · conv => whnf
    repeat (first | (refine And.intro (by omega) ?_; (try intro _); conv => whnf) | (refine And.intro ?_ (by omega); (try intro _); conv => whnf) | (refine ⟨_, RemV.nonneg (by omega) (by omega), ?_⟩; conv => whnf))
    refine RunsS.retU (UnwS.ret tab Tryd.func20 rfl fun Ez Hz Az Sz K => ⟨_, rfl, ?_, K.keeps⟩)
    exact congrArg Value.bool (decide_eq_false fun e => by
      have := e.1
      have hz : s.size = 0 := by rw [h1]; rfl
      omega).symm
  · conv => whnf
    repeat (first | (refine And.intro (by omega) ?_; (try intro _); conv => whnf) | (refine And.intro ?_ (by omega); (try intro _); conv => whnf) | (refine ⟨_, RemV.nonneg (by omega) (by omega), ?_⟩; conv => whnf))
    have hz : s.size ≠ 0 := fun e => h1 (by
      rw [← toArray_ext s]
      rw [List.eq_nil_of_length_eq_zero (l := bs s) (by rw [bs_len]; exact e)])
    refine ⟨fun h2 => ?_, fun h2 => ?_⟩ <;> conv => whnf
    · conv => whnf
      repeat (first | (refine And.intro (by omega) ?_; (try intro _); conv => whnf) | (refine And.intro ?_ (by omega); (try intro _); conv => whnf) | (refine ⟨_, RemV.nonneg (by omega) (by omega), ?_⟩; conv => whnf))
      refine RunsS.retU (UnwS.ret tab Tryd.func20 rfl fun Ez Hz Az Sz K => ⟨_, rfl, ?_, K.keeps⟩)
      exact congrArg Value.bool (decide_eq_false fun e => by have := e.1; omega).symm
    · conv => whnf
      repeat (first | (refine And.intro (by omega) ?_; (try intro _); conv => whnf) | (refine And.intro ?_ (by omega); (try intro _); conv => whnf) | (refine ⟨_, RemV.nonneg (by omega) (by omega), ?_⟩; conv => whnf))
      have hb0 : byteAt s (Int.toNat 0) < 256 := byteAt_lt _ _
      refine RunsS.callV (fun Ez Hz Az Sz K => classes_fn) ?_
      conv => whnf
      try refine goS_run tab 1000 _ _ _ _ ?_
      conv => whnf
      repeat (first | (refine And.intro (by omega) ?_; (try intro _); conv => whnf) | (refine And.intro ?_ (by omega); (try intro _); conv => whnf) | (refine ⟨_, RemV.nonneg (by omega) (by omega), ?_⟩; conv => whnf))
      rw [evO_load (cls_at (byteAt_lt s 0)) (by rfl) (by rfl) (by rfl)]
      conv => whnf
      repeat (first | (refine And.intro (by omega) ?_; (try intro _); conv => whnf) | (refine And.intro ?_ (by omega); (try intro _); conv => whnf) | (refine ⟨_, RemV.nonneg (by omega) (by omega), ?_⟩; conv => whnf))
      refine ⟨fun h3 => ?_, fun h3 => ?_⟩ <;> conv => whnf
      · conv => whnf
        repeat (first | (refine And.intro (by omega) ?_; (try intro _); conv => whnf) | (refine And.intro ?_ (by omega); (try intro _); conv => whnf) | (refine ⟨_, RemV.nonneg (by omega) (by omega), ?_⟩; conv => whnf))
        refine RunsS.subR [] (RunsS.loop (fun (i : Nat) => [(20, .v (.int .i64 i)), (19, .v (.int .i64 s.size)), (3, .ptr 0 0), (0, .v (.string s))]) (fun (i : Nat) => [(0, .cells 45 clsS)]) 1 (fun (i : Nat) => i ≤ s.size ∧ ∀ j, j < i → nmC (byteAt s j) = true) (fun (i : Nat) => s.size - i) ?round1 (0) ?J01) ?SS1 ?HH1
        case J01 => exact (⟨Nat.zero_le _, fun _ h => absurd h (Nat.not_lt_zero _)⟩)
        case SS1 => repeat (first | exact trivial | refine ⟨by rfl, ?_⟩)
        case HH1 => repeat (first | exact trivial | refine ⟨by rfl, ?_⟩)
        rintro i hJ back
        try dsimp only at hJ back
        conv => whnf
        try dsimp only
        refine goS_run tab 1000 _ _ _ _ ?_
        conv => whnf
        repeat (first | (refine And.intro (by omega) ?_; (try intro _); conv => whnf) | (refine And.intro ?_ (by omega); (try intro _); conv => whnf) | (refine ⟨_, RemV.nonneg (by omega) (by omega), ?_⟩; conv => whnf))
        refine ⟨fun hk => ?_, fun hk => ?_⟩ <;> conv => whnf
        · have hbi : byteAt s ((i : Int)).toNat < 256 := byteAt_lt _ _
          conv => whnf
          repeat (first | (refine And.intro (by omega) ?_; (try intro _); conv => whnf) | (refine And.intro ?_ (by omega); (try intro _); conv => whnf) | (refine ⟨_, RemV.nonneg (by omega) (by omega), ?_⟩; conv => whnf))
          rw [evO_load (cls_at (byteAt_lt s i)) (by rfl) (by rfl) (by rfl)]
          conv => whnf
          repeat (first | (refine And.intro (by omega) ?_; (try intro _); conv => whnf) | (refine And.intro ?_ (by omega); (try intro _); conv => whnf) | (refine ⟨_, RemV.nonneg (by omega) (by omega), ?_⟩; conv => whnf))
          refine ⟨fun h4 => ?_, fun h4 => ?_⟩ <;> conv => whnf
          · conv => whnf
            repeat (first | (refine And.intro (by omega) ?_; (try intro _); conv => whnf) | (refine And.intro ?_ (by omega); (try intro _); conv => whnf) | (refine ⟨_, RemV.nonneg (by omega) (by omega), ?_⟩; conv => whnf))
            refine RunsS.subR [] (back (i + 1) ?BJ2 ?BM2) ?SS2 ?HH2
            case BJ2 => exact (⟨by omega, fun j hj => (Nat.lt_succ_iff_lt_or_eq.1 hj).elim (hJ.2 j) (fun e => e ▸ (nmC_iff _).2 (.inl h4))⟩)
            case BM2 => (try dsimp only); omega
            case SS2 => repeat (first | exact trivial | refine ⟨by rfl, ?_⟩)
            case HH2 => repeat (first | exact trivial | refine ⟨by rfl, ?_⟩)
          · conv => whnf
            repeat (first | (refine And.intro (by omega) ?_; (try intro _); conv => whnf) | (refine And.intro ?_ (by omega); (try intro _); conv => whnf) | (refine ⟨_, RemV.nonneg (by omega) (by omega), ?_⟩; conv => whnf))
            rw [evO_load (cls_at (byteAt_lt s i)) (by rfl) (by rfl) (by rfl)]
            conv => whnf
            repeat (first | (refine And.intro (by omega) ?_; (try intro _); conv => whnf) | (refine And.intro ?_ (by omega); (try intro _); conv => whnf) | (refine ⟨_, RemV.nonneg (by omega) (by omega), ?_⟩; conv => whnf))
            refine ⟨fun h5 => ?_, fun h5 => ?_⟩ <;> conv => whnf
            · conv => whnf
              repeat (first | (refine And.intro (by omega) ?_; (try intro _); conv => whnf) | (refine And.intro ?_ (by omega); (try intro _); conv => whnf) | (refine ⟨_, RemV.nonneg (by omega) (by omega), ?_⟩; conv => whnf))
              refine RunsS.subR [] (back (i + 1) ?BJ3 ?BM3) ?SS3 ?HH3
              case BJ3 => exact (⟨by omega, fun j hj => (Nat.lt_succ_iff_lt_or_eq.1 hj).elim (hJ.2 j) (fun e => e ▸ (nmC_iff _).2 (.inr (.inl h5)))⟩)
              case BM3 => (try dsimp only); omega
              case SS3 => repeat (first | exact trivial | refine ⟨by rfl, ?_⟩)
              case HH3 => repeat (first | exact trivial | refine ⟨by rfl, ?_⟩)
            · conv => whnf
              repeat (first | (refine And.intro (by omega) ?_; (try intro _); conv => whnf) | (refine And.intro ?_ (by omega); (try intro _); conv => whnf) | (refine ⟨_, RemV.nonneg (by omega) (by omega), ?_⟩; conv => whnf))
              refine ⟨fun h6 => ?_, fun h6 => ?_⟩ <;> conv => whnf
              · conv => whnf
                repeat (first | (refine And.intro (by omega) ?_; (try intro _); conv => whnf) | (refine And.intro ?_ (by omega); (try intro _); conv => whnf) | (refine ⟨_, RemV.nonneg (by omega) (by omega), ?_⟩; conv => whnf))
                have h6 : byteAt s i = 95 := by exact_mod_cast h6
                refine RunsS.subR [] (back (i + 1) ?BJ4 ?BM4) ?SS4 ?HH4
                case BJ4 => exact (⟨by omega, fun j hj => (Nat.lt_succ_iff_lt_or_eq.1 hj).elim (hJ.2 j) (fun e => e ▸ (nmC_iff _).2 (.inr (.inr h6)))⟩)
                case BM4 => (try dsimp only); omega
                case SS4 => repeat (first | exact trivial | refine ⟨by rfl, ?_⟩)
                case HH4 => repeat (first | exact trivial | refine ⟨by rfl, ?_⟩)
              · conv => whnf
                repeat (first | (refine And.intro (by omega) ?_; (try intro _); conv => whnf) | (refine And.intro ?_ (by omega); (try intro _); conv => whnf) | (refine ⟨_, RemV.nonneg (by omega) (by omega), ?_⟩; conv => whnf))
                refine RunsS.retU (UnwS.ret tab Tryd.func20 rfl fun Ez Hz Az Sz K => ⟨_, rfl, ?_, K.keeps⟩)
                refine congrArg Value.bool (decide_eq_false fun e => ?_).symm
                have h4 : cls (byteAt s i) ≠ 2 := h4
                have h5 : cls (byteAt s i) ≠ 3 := h5
                have h6 : byteAt s i ≠ 95 := fun e => h6 (by exact_mod_cast e)
                have := (nmC_iff _).1 (e.2.2 i (by omega))
                omega
        · conv => whnf
          repeat (first | (refine And.intro (by omega) ?_; (try intro _); conv => whnf) | (refine And.intro ?_ (by omega); (try intro _); conv => whnf) | (refine ⟨_, RemV.nonneg (by omega) (by omega), ?_⟩; conv => whnf))
          refine RunsS.retU (UnwS.ret tab Tryd.func20 rfl fun Ez Hz Az Sz K => ⟨_, rfl, ?_, K.keeps⟩)
          exact congrArg Value.bool (decide_eq_true (⟨by omega, h3, fun j hj => hJ.2 j (by omega)⟩ : NameP s)).symm
      · conv => whnf
        repeat (first | (refine And.intro (by omega) ?_; (try intro _); conv => whnf) | (refine And.intro ?_ (by omega); (try intro _); conv => whnf) | (refine ⟨_, RemV.nonneg (by omega) (by omega), ?_⟩; conv => whnf))
        refine RunsS.retU (UnwS.ret tab Tryd.func20 rfl fun Ez Hz Az Sz K => ⟨_, rfl, ?_, K.keeps⟩)
        exact congrArg Value.bool (decide_eq_false fun e => h3 e.2.1).symm
end Go.Proofs.YtlminkahdlcikaaDoor

namespace Go.Proofs.YtlminkahdlcikaaDoor
open Go Go.Fw
set_option maxRecDepth 100000
set_option maxHeartbeats 16000000

abbrev ValidP (t : Tok) : Prop := (t.kind = 1 ∧ NameP t.text ∧ t.n = 0) ∨ (t.kind = 2 ∧ t.text = ⟨#[]⟩ ∧ 0 ≤ t.n ∧ t.n ≤ 1099511627776) ∨ (t.kind = 3 ∧ t.text.size = 1 ∧ cls (byteAt t.text 0) = 4 ∧ t.n = 0)
def Tok.v (t : Tok) : Value := .agg #[.int .i64 t.kind, .int .i64 t.pos, .string t.text, .int .i64 t.n]
theorem sign_index : ∀ n, n < 256 → decide (0 ≤ Lib.indexByte (⟨#[123, 125, 40, 41, 44, 59, 61, 35, 47, 60, 33, 45, 46, 58, 43]⟩ : ByteArray).data.toList (UInt8.ofNat n)) = decide (cls n = 4) := by decide
theorem one_byte {s : ByteArray} (h : s.size = 1) : ∃ c : UInt8, s = ⟨#[c]⟩ ∧ byteAt s 0 = c.toNat := by
  obtain ⟨c, h1, h2⟩ := bs_drop (s := s) (i := 0) (by omega)
  refine ⟨c, ?_, h2.symm⟩
  rw [List.drop_zero] at h1
  have : (bs s).drop (0 + 1) = [] := List.drop_eq_nil_of_le (by rw [bs_len]; omega)
  rw [this] at h1
  rw [← toArray_ext s, h1]
theorem valid_fn {h : Array Obj} (t : Tok) : FnV Tryd.prog 36 #[t.v] h fun r h' => r = .bool (decide (ValidP t)) ∧ Keeps h.size h h' := by
  obtain ⟨k, p, s, n⟩ := t
  refine Fn.ofS (args := [.agg #[.int .i64 k, .int .i64 p, .string s, .int .i64 n]]) Tryd.func36 (by kernel_rfl) rfl Tryd.ntmps36 rfl fun w0 cs => ?_
  conv => whnf
  refine goS_run tab 1000 _ _ _ _ ?_
  conv => whnf
  repeat (first | (refine And.intro (by omega) ?_; (try intro _); conv => whnf) | (refine And.intro ?_ (by omega); (try intro _); conv => whnf) | (refine ⟨_, RemV.nonneg (by omega) (by omega), ?_⟩; conv => whnf))
  refine ⟨fun h1 => ?_, fun h1 => ?_⟩ <;> conv => whnf
  · subst h1
    conv => whnf
    repeat (first | (refine And.intro (by omega) ?_; (try intro _); conv => whnf) | (refine And.intro ?_ (by omega); (try intro _); conv => whnf) | (refine ⟨_, RemV.nonneg (by omega) (by omega), ?_⟩; conv => whnf))
    by_cases hn : NameP s
    · refine RunsS.callV (fun Ez Hz Az Sz K => Name_fn s) ?_
      conv => whnf
      rw [decide_eq_true hn]
      try dsimp only
      try refine goS_run tab 1000 _ _ _ _ ?_
      conv => whnf
      repeat (first | (refine And.intro (by omega) ?_; (try intro _); conv => whnf) | (refine And.intro ?_ (by omega); (try intro _); conv => whnf) | (refine ⟨_, RemV.nonneg (by omega) (by omega), ?_⟩; conv => whnf))
      refine RunsS.retU (UnwS.ret tab Tryd.func36 rfl fun Ez Hz Az Sz K => ⟨_, rfl, ?_, K.keeps⟩)
      exact congrArg Value.bool (decide_eq_decide.2 ⟨fun e => .inl ⟨rfl, hn, e⟩, fun e => by rcases e with e | e | e <;> first | exact e.2.2 | (have := e.1; simp at this)⟩)
    · refine RunsS.callV (fun Ez Hz Az Sz K => Name_fn s) ?_
      conv => whnf
      rw [decide_eq_false hn]
      try dsimp only
      try refine goS_run tab 1000 _ _ _ _ ?_
      conv => whnf
      repeat (first | (refine And.intro (by omega) ?_; (try intro _); conv => whnf) | (refine And.intro ?_ (by omega); (try intro _); conv => whnf) | (refine ⟨_, RemV.nonneg (by omega) (by omega), ?_⟩; conv => whnf))
      refine RunsS.retU (UnwS.ret tab Tryd.func36 rfl fun Ez Hz Az Sz K => ⟨_, rfl, ?_, K.keeps⟩)
      exact congrArg Value.bool (decide_eq_false (by simp [ValidP, hn])).symm
  · conv => whnf
    repeat (first | (refine And.intro (by omega) ?_; (try intro _); conv => whnf) | (refine And.intro ?_ (by omega); (try intro _); conv => whnf) | (refine ⟨_, RemV.nonneg (by omega) (by omega), ?_⟩; conv => whnf))
    refine ⟨fun h2 => ?_, fun h2 => ?_⟩ <;> conv => whnf
    · subst h2
      conv => whnf
      repeat (first | (refine And.intro (by omega) ?_; (try intro _); conv => whnf) | (refine And.intro ?_ (by omega); (try intro _); conv => whnf) | (refine ⟨_, RemV.nonneg (by omega) (by omega), ?_⟩; conv => whnf))
      refine ⟨fun h3 => ?_, fun h3 => ?_⟩ <;> conv => whnf
      · conv => whnf
        repeat (first | (refine And.intro (by omega) ?_; (try intro _); conv => whnf) | (refine And.intro ?_ (by omega); (try intro _); conv => whnf) | (refine ⟨_, RemV.nonneg (by omega) (by omega), ?_⟩; conv => whnf))
        refine ⟨fun h4 => ?_, fun h4 => ?_⟩ <;> conv => whnf
        · conv => whnf
          repeat (first | (refine And.intro (by omega) ?_; (try intro _); conv => whnf) | (refine And.intro ?_ (by omega); (try intro _); conv => whnf) | (refine ⟨_, RemV.nonneg (by omega) (by omega), ?_⟩; conv => whnf))
          refine RunsS.retU (UnwS.ret tab Tryd.func36 rfl fun Ez Hz Az Sz K => ⟨_, rfl, ?_, K.keeps⟩)
          have h3 : s = ⟨#[]⟩ := h3
          exact congrArg Value.bool (decide_eq_decide.2 (by simp [ValidP, h3, h4]))
        · conv => whnf
          repeat (first | (refine And.intro (by omega) ?_; (try intro _); conv => whnf) | (refine And.intro ?_ (by omega); (try intro _); conv => whnf) | (refine ⟨_, RemV.nonneg (by omega) (by omega), ?_⟩; conv => whnf))
          refine RunsS.retU (UnwS.ret tab Tryd.func36 rfl fun Ez Hz Az Sz K => ⟨_, rfl, ?_, K.keeps⟩)
          exact congrArg Value.bool (decide_eq_false (by simp [ValidP]; omega)).symm
      · conv => whnf
        repeat (first | (refine And.intro (by omega) ?_; (try intro _); conv => whnf) | (refine And.intro ?_ (by omega); (try intro _); conv => whnf) | (refine ⟨_, RemV.nonneg (by omega) (by omega), ?_⟩; conv => whnf))
        refine RunsS.retU (UnwS.ret tab Tryd.func36 rfl fun Ez Hz Az Sz K => ⟨_, rfl, ?_, K.keeps⟩)
        have h3 : s ≠ ⟨#[]⟩ := h3
        exact congrArg Value.bool (decide_eq_false (by simp [ValidP, h3])).symm
    · conv => whnf
      repeat (first | (refine And.intro (by omega) ?_; (try intro _); conv => whnf) | (refine And.intro ?_ (by omega); (try intro _); conv => whnf) | (refine ⟨_, RemV.nonneg (by omega) (by omega), ?_⟩; conv => whnf))
      refine ⟨fun h3 => ?_, fun h3 => ?_⟩ <;> conv => whnf
      · subst h3
        conv => whnf
        repeat (first | (refine And.intro (by omega) ?_; (try intro _); conv => whnf) | (refine And.intro ?_ (by omega); (try intro _); conv => whnf) | (refine ⟨_, RemV.nonneg (by omega) (by omega), ?_⟩; conv => whnf))
        refine ⟨fun h4 => ?_, fun h4 => ?_⟩ <;> conv => whnf
        · have h4 : s.size = 1 := by omega
          obtain ⟨c, rfl, hc⟩ := one_byte h4
          have hs := sign_index c.toNat (UInt8.toNat_lt c)
          rw [UInt8.ofNat_toNat] at hs
          by_cases h5 : cls c.toNat = 4
          · conv => whnf
            repeat (first | (refine And.intro (by omega) ?_; (try intro _); conv => whnf) | (refine And.intro ?_ (by omega); (try intro _); conv => whnf) | (refine ⟨_, RemV.nonneg (by omega) (by omega), ?_⟩; conv => whnf))
            refine RunsS.callV (fun Ez Hz Az Sz K => Contains_fn _ c) ?_
            conv => whnf
            rw [hs, decide_eq_true h5]
            try dsimp only
            try refine goS_run tab 1000 _ _ _ _ ?_
            conv => whnf
            repeat (first | (refine And.intro (by omega) ?_; (try intro _); conv => whnf) | (refine And.intro ?_ (by omega); (try intro _); conv => whnf) | (refine ⟨_, RemV.nonneg (by omega) (by omega), ?_⟩; conv => whnf))
            refine RunsS.retU (UnwS.ret tab Tryd.func36 rfl fun Ez Hz Az Sz K => ⟨_, rfl, ?_, K.keeps⟩)
            exact congrArg Value.bool (decide_eq_decide.2 (by simp [ValidP, h4, hc, h5]))
          · conv => whnf
            repeat (first | (refine And.intro (by omega) ?_; (try intro _); conv => whnf) | (refine And.intro ?_ (by omega); (try intro _); conv => whnf) | (refine ⟨_, RemV.nonneg (by omega) (by omega), ?_⟩; conv => whnf))
            refine RunsS.callV (fun Ez Hz Az Sz K => Contains_fn _ c) ?_
            conv => whnf
            rw [hs, decide_eq_false h5]
            try dsimp only
            try refine goS_run tab 1000 _ _ _ _ ?_
            conv => whnf
            repeat (first | (refine And.intro (by omega) ?_; (try intro _); conv => whnf) | (refine And.intro ?_ (by omega); (try intro _); conv => whnf) | (refine ⟨_, RemV.nonneg (by omega) (by omega), ?_⟩; conv => whnf))
            refine RunsS.retU (UnwS.ret tab Tryd.func36 rfl fun Ez Hz Az Sz K => ⟨_, rfl, ?_, K.keeps⟩)
            exact congrArg Value.bool (decide_eq_false (by simp [ValidP, hc, h5])).symm
        · conv => whnf
          repeat (first | (refine And.intro (by omega) ?_; (try intro _); conv => whnf) | (refine And.intro ?_ (by omega); (try intro _); conv => whnf) | (refine ⟨_, RemV.nonneg (by omega) (by omega), ?_⟩; conv => whnf))
          refine RunsS.retU (UnwS.ret tab Tryd.func36 rfl fun Ez Hz Az Sz K => ⟨_, rfl, ?_, K.keeps⟩)
          exact congrArg Value.bool (decide_eq_false (by simp [ValidP]; omega)).symm
      · conv => whnf
        repeat (first | (refine And.intro (by omega) ?_; (try intro _); conv => whnf) | (refine And.intro ?_ (by omega); (try intro _); conv => whnf) | (refine ⟨_, RemV.nonneg (by omega) (by omega), ?_⟩; conv => whnf))
        refine RunsS.retU (UnwS.ret tab Tryd.func36 rfl fun Ez Hz Az Sz K => ⟨_, rfl, ?_, K.keeps⟩)
        exact congrArg Value.bool (decide_eq_false (by simp [ValidP, h1, h2, h3])).symm
theorem rValid_fn {h : Array Obj} (t : Tok) : FnV Tryd.prog 39 #[t.v] h fun r h' => r = .bool (decide (ValidP t)) ∧ Keeps h.size h h' := by
  obtain ⟨k, p, s, n⟩ := t
  refine Fn.ofS (args := [.agg #[.int .i64 k, .int .i64 p, .string s, .int .i64 n]]) Tryd.func39 (by kernel_rfl) rfl Tryd.ntmps39 rfl fun w0 cs => ?_
  conv => whnf
  refine goS_run tab 1000 _ _ _ _ ?_
  conv => whnf
  repeat (first | (refine And.intro (by omega) ?_; (try intro _); conv => whnf) | (refine And.intro ?_ (by omega); (try intro _); conv => whnf) | (refine ⟨_, RemV.nonneg (by omega) (by omega), ?_⟩; conv => whnf))
  refine ⟨fun h1 => ?_, fun h1 => ?_⟩ <;> conv => whnf
  · subst h1
    conv => whnf
    repeat (first | (refine And.intro (by omega) ?_; (try intro _); conv => whnf) | (refine And.intro ?_ (by omega); (try intro _); conv => whnf) | (refine ⟨_, RemV.nonneg (by omega) (by omega), ?_⟩; conv => whnf))
    by_cases hn : NameP s
    · refine RunsS.callV (fun Ez Hz Az Sz K => rName_fn s) ?_
      conv => whnf
      rw [decide_eq_true hn]
      try dsimp only
      try refine goS_run tab 1000 _ _ _ _ ?_
      conv => whnf
      repeat (first | (refine And.intro (by omega) ?_; (try intro _); conv => whnf) | (refine And.intro ?_ (by omega); (try intro _); conv => whnf) | (refine ⟨_, RemV.nonneg (by omega) (by omega), ?_⟩; conv => whnf))
      refine RunsS.retU (UnwS.ret tab Tryd.func39 rfl fun Ez Hz Az Sz K => ⟨_, rfl, ?_, K.keeps⟩)
      exact congrArg Value.bool (decide_eq_decide.2 ⟨fun e => .inl ⟨rfl, hn, e⟩, fun e => by rcases e with e | e | e <;> first | exact e.2.2 | (have := e.1; simp at this)⟩)
    · refine RunsS.callV (fun Ez Hz Az Sz K => rName_fn s) ?_
      conv => whnf
      rw [decide_eq_false hn]
      try dsimp only
      try refine goS_run tab 1000 _ _ _ _ ?_
      conv => whnf
      repeat (first | (refine And.intro (by omega) ?_; (try intro _); conv => whnf) | (refine And.intro ?_ (by omega); (try intro _); conv => whnf) | (refine ⟨_, RemV.nonneg (by omega) (by omega), ?_⟩; conv => whnf))
      refine RunsS.retU (UnwS.ret tab Tryd.func39 rfl fun Ez Hz Az Sz K => ⟨_, rfl, ?_, K.keeps⟩)
      exact congrArg Value.bool (decide_eq_false (by simp [ValidP, hn])).symm
  · conv => whnf
    repeat (first | (refine And.intro (by omega) ?_; (try intro _); conv => whnf) | (refine And.intro ?_ (by omega); (try intro _); conv => whnf) | (refine ⟨_, RemV.nonneg (by omega) (by omega), ?_⟩; conv => whnf))
    refine ⟨fun h2 => ?_, fun h2 => ?_⟩ <;> conv => whnf
    · subst h2
      conv => whnf
      repeat (first | (refine And.intro (by omega) ?_; (try intro _); conv => whnf) | (refine And.intro ?_ (by omega); (try intro _); conv => whnf) | (refine ⟨_, RemV.nonneg (by omega) (by omega), ?_⟩; conv => whnf))
      refine ⟨fun h3 => ?_, fun h3 => ?_⟩ <;> conv => whnf
      · conv => whnf
        repeat (first | (refine And.intro (by omega) ?_; (try intro _); conv => whnf) | (refine And.intro ?_ (by omega); (try intro _); conv => whnf) | (refine ⟨_, RemV.nonneg (by omega) (by omega), ?_⟩; conv => whnf))
        refine ⟨fun h4 => ?_, fun h4 => ?_⟩ <;> conv => whnf
        · conv => whnf
          repeat (first | (refine And.intro (by omega) ?_; (try intro _); conv => whnf) | (refine And.intro ?_ (by omega); (try intro _); conv => whnf) | (refine ⟨_, RemV.nonneg (by omega) (by omega), ?_⟩; conv => whnf))
          refine RunsS.retU (UnwS.ret tab Tryd.func39 rfl fun Ez Hz Az Sz K => ⟨_, rfl, ?_, K.keeps⟩)
          have h3 : s = ⟨#[]⟩ := h3
          exact congrArg Value.bool (decide_eq_decide.2 (by simp [ValidP, h3, h4]))
        · conv => whnf
          repeat (first | (refine And.intro (by omega) ?_; (try intro _); conv => whnf) | (refine And.intro ?_ (by omega); (try intro _); conv => whnf) | (refine ⟨_, RemV.nonneg (by omega) (by omega), ?_⟩; conv => whnf))
          refine RunsS.retU (UnwS.ret tab Tryd.func39 rfl fun Ez Hz Az Sz K => ⟨_, rfl, ?_, K.keeps⟩)
          exact congrArg Value.bool (decide_eq_false (by simp [ValidP]; omega)).symm
      · conv => whnf
        repeat (first | (refine And.intro (by omega) ?_; (try intro _); conv => whnf) | (refine And.intro ?_ (by omega); (try intro _); conv => whnf) | (refine ⟨_, RemV.nonneg (by omega) (by omega), ?_⟩; conv => whnf))
        refine RunsS.retU (UnwS.ret tab Tryd.func39 rfl fun Ez Hz Az Sz K => ⟨_, rfl, ?_, K.keeps⟩)
        have h3 : s ≠ ⟨#[]⟩ := h3
        exact congrArg Value.bool (decide_eq_false (by simp [ValidP, h3])).symm
    · conv => whnf
      repeat (first | (refine And.intro (by omega) ?_; (try intro _); conv => whnf) | (refine And.intro ?_ (by omega); (try intro _); conv => whnf) | (refine ⟨_, RemV.nonneg (by omega) (by omega), ?_⟩; conv => whnf))
      refine ⟨fun h3 => ?_, fun h3 => ?_⟩ <;> conv => whnf
      · subst h3
        conv => whnf
        repeat (first | (refine And.intro (by omega) ?_; (try intro _); conv => whnf) | (refine And.intro ?_ (by omega); (try intro _); conv => whnf) | (refine ⟨_, RemV.nonneg (by omega) (by omega), ?_⟩; conv => whnf))
        refine ⟨fun h4 => ?_, fun h4 => ?_⟩ <;> conv => whnf
        · have h4 : s.size = 1 := by omega
          by_cases h5 : cls (byteAt s 0) = 4
          · conv => whnf
            repeat (first | (refine And.intro (by omega) ?_; (try intro _); conv => whnf) | (refine And.intro ?_ (by omega); (try intro _); conv => whnf) | (refine ⟨_, RemV.nonneg (by omega) (by omega), ?_⟩; conv => whnf))
            refine RunsS.callV (fun Ez Hz Az Sz K => rSign_fn (byteAt s 0)) ?_
            conv => whnf
            rw [decide_eq_true h5]
            try dsimp only
            try refine goS_run tab 1000 _ _ _ _ ?_
            conv => whnf
            repeat (first | (refine And.intro (by omega) ?_; (try intro _); conv => whnf) | (refine And.intro ?_ (by omega); (try intro _); conv => whnf) | (refine ⟨_, RemV.nonneg (by omega) (by omega), ?_⟩; conv => whnf))
            refine RunsS.retU (UnwS.ret tab Tryd.func39 rfl fun Ez Hz Az Sz K => ⟨_, rfl, ?_, K.keeps⟩)
            exact congrArg Value.bool (decide_eq_decide.2 (by simp [ValidP, h4, h5]))
          · conv => whnf
            repeat (first | (refine And.intro (by omega) ?_; (try intro _); conv => whnf) | (refine And.intro ?_ (by omega); (try intro _); conv => whnf) | (refine ⟨_, RemV.nonneg (by omega) (by omega), ?_⟩; conv => whnf))
            refine RunsS.callV (fun Ez Hz Az Sz K => rSign_fn (byteAt s 0)) ?_
            conv => whnf
            rw [decide_eq_false h5]
            try dsimp only
            try refine goS_run tab 1000 _ _ _ _ ?_
            conv => whnf
            repeat (first | (refine And.intro (by omega) ?_; (try intro _); conv => whnf) | (refine And.intro ?_ (by omega); (try intro _); conv => whnf) | (refine ⟨_, RemV.nonneg (by omega) (by omega), ?_⟩; conv => whnf))
            refine RunsS.retU (UnwS.ret tab Tryd.func39 rfl fun Ez Hz Az Sz K => ⟨_, rfl, ?_, K.keeps⟩)
            exact congrArg Value.bool (decide_eq_false (by simp [ValidP, h5])).symm
        · conv => whnf
          repeat (first | (refine And.intro (by omega) ?_; (try intro _); conv => whnf) | (refine And.intro ?_ (by omega); (try intro _); conv => whnf) | (refine ⟨_, RemV.nonneg (by omega) (by omega), ?_⟩; conv => whnf))
          refine RunsS.retU (UnwS.ret tab Tryd.func39 rfl fun Ez Hz Az Sz K => ⟨_, rfl, ?_, K.keeps⟩)
          exact congrArg Value.bool (decide_eq_false (by simp [ValidP]; omega)).symm
      · conv => whnf
        repeat (first | (refine And.intro (by omega) ?_; (try intro _); conv => whnf) | (refine And.intro ?_ (by omega); (try intro _); conv => whnf) | (refine ⟨_, RemV.nonneg (by omega) (by omega), ?_⟩; conv => whnf))
        refine RunsS.retU (UnwS.ret tab Tryd.func39 rfl fun Ez Hz Az Sz K => ⟨_, rfl, ?_, K.keeps⟩)
        exact congrArg Value.bool (decide_eq_false (by simp [ValidP, h1, h2, h3])).symm
end Go.Proofs.YtlminkahdlcikaaDoor
