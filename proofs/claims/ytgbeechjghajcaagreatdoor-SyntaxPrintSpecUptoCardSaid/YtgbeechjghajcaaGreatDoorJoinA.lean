/- Texts of this seat, joined: The base of the symbolic walk: frames as lists of live slots, worlds modulo draws, one rule for each form of code. The sym -/
import Derived.Calls
import Derived.Defers
import Derived.Deep.Quiet
import Derived.WalkKit
import Derived.Laws.StructEq
import Derived.Laws.BytesString
import Derived.Laws.CopyRow
import Derived.Laws.AppendOwn
import Derived.Laws.MakeOwn
import Derived.StillTail
import Derived.Great.FillDense
import Derived.RangeFuncRecord
import Derived.OrdersHeld
import Derived.Below
import Derived.ChangeSame
import Derived.ChangeMaps5
import Derived.RowKit
import Derived.Recover
import Derived.Laws.Tables
import Derived.MapKept
import Derived.Maps.AppendAt
set_option linter.unusedVariables false
set_option linter.unusedSimpArgs false
namespace Go.Fw
open Go
abbrev Fr:=List (Nat×Value)
def look:Fr→Nat→Option Value
 | [],_=>none
 |(s,v)::l,d=>match Nat.beq s d with
  |true=>some v
  |false=>look l d
structure bO (n:Nat) (l:Fr) (a:Act):Prop where
 size:a.tmps.size=n
 get:∀d v,look l d=some v→a.tmps[d]? = some v
def ev (l:Fr):Operand→Option Value
 | .tmp t=>look l t
 | .const v=>some v
 | .global g=>some (.pointer (some ⟨g,0,none⟩))
 | .func f=>some (.func (.func f) #[] #[])
theorem bO.ev {n:Nat} {l:Fr} {a:Act} (h:bO n l a) {x:Operand} {v:Value} (hx:ev l x=some v):a.eval x=v:=by
 cases x with
 |tmp t=>have:=h.get t v hx;simp [Act.eval,this]
 |const u=>simpa [Fw.ev,Act.eval] using hx
 |global g=>simpa [Fw.ev,Act.eval] using hx
 |func f=>simpa [Fw.ev,Act.eval] using hx
theorem bO.put {n:Nat} {l:Fr} {a:Act} (h:bO n l a) {d:Nat} (hd:d<n) (v:Value):bO n ((d,v)::l) (a.put (some d) v):=by
 refine ⟨by simp [Act.put,h.size],fun d' v' hv=>?_⟩
 simp only [look] at hv
 by_cases e:d=d'
 ·subst e
  simp at hv
  subst hv
  simp only [Act.put]
  rw [Array.getElem?_setIfInBounds_self_of_lt (by rw [h.size];exact hd)]
 have:Nat.beq d d'=false:=by cases hb:Nat.beq d d' with|false=>rfl|true=>exact absurd (Nat.eq_of_beq_eq_true hb) e
 simp only [this] at hv
 simp only [Act.put]
 rw [Array.getElem?_setIfInBounds_ne (by omega)]
 exact h.get _ _ hv
def Sub (l:Fr):Fr→Prop
 | []=>True
 |(s,v)::l'=>look l s=some v∧Sub l l'
theorem Sub.look {l l':Fr} (h:Sub l l') {d:Nat} {v:Value} (hv:look l' d=some v):Fw.look l d=some v:=by
 induction l' with
 |nil=>cases hv
 |cons p l' ih=>
  obtain ⟨s,u⟩:=p
  simp only [Fw.look] at hv
  by_cases e:s=d
  ·have:Nat.beq s d=true:=by simpa using e
   simp only [this,Option.some.injEq] at hv
   subst hv e
   exact h.1
  have:Nat.beq s d=false:=by cases hb:Nat.beq s d with|false=>rfl|true=>exact absurd (Nat.eq_of_beq_eq_true hb) e
  simp only [this] at hv
  exact ih h.2 hv
theorem bO.sub {n:Nat} {l l':Fr} {a:Act} (h:bO n l a) (hs:Sub l l'):bO n l' a:=⟨h.size,fun _ _ hv=>h.get _ _ (hs.look hv)⟩
structure fL (w0 w:World):Prop where
 tape:w.tape=w0.tape
 os:w.os=w0.os
 output:w.output=w0.output
theorem fL.refl (w:World):fL w w:=⟨rfl,rfl,rfl⟩
theorem fL.trans {a b c:World} (h:fL a b) (k:fL b c):fL a c:=⟨k.tape.trans h.tape,k.os.trans h.os,k.output.trans h.output⟩
structure Ctx (P:Program) where
 Z:Machine→Prop
 back:∀m m',step P m=.next m'→Z m'→Z m
 fn:FuncId
 kind:CallKind
 round:Option Nat
 cs:List Frame
 w0:World
 n:Nat
def Ctx.fr {P:Program} (c:Ctx P) (a:Act) (st:List Item):Frame:=
 {fn:=c.fn,tmps:=a.tmps,todo:=st,defers:=a.defers,mode:=.run,kind:=c.kind,roundOf:=c.round}
def nth {α:Type}:List α→Nat→Option α
 | [],_=>none
 |x::_,0=>some x
 |_::l,n+1=>nth l n
theorem iF {α:Type} (l:List α) (n:Nat):nth l n=l[n]? :=by
 induction l generalizing n with
 |nil=>rfl
 |cons x l ih=>cases n with
  |zero=>rfl
  |succ n=>simpa [nth] using ih n
inductive SI where
 |code (c:Code)
 |inBlock (id:Nat)
 |inLoop (body:Code)
 |inScope (body:Code)
 |ops (all:Array Oper) (rest:List Oper)
 |item (i:Item)
 /-- where ways meet: nothing in the machine -/
 |mark
def SI.it:SI→Item
 | .code c=>.code c
 | .inBlock i=>.inBlock i
 | .inLoop b=>.inLoop b
 | .inScope b=>.inScope b
 | .ops all rest=>.inRegion all (List.range' (all.size - rest.length) rest.length)
 | .item i=>i
 | .mark=>.beginRound
def SI.wf:SI→Prop
 | .ops all rest=>rest.length≤all.size∧rest=all.toList.drop (all.size - rest.length)
 | .item (.inBlock _) | .item (.inScope _)=>False
 |_=>True
def its:List SI→List Item
 | []=>[]
 |x::k=>match x with
  | .mark=>its k
  |x=>x.it::its k
def aEN (i:Nat):List SI→Option (List SI)
 | []=>none
 |x::k=>match x with
  | .inBlock j=>match Nat.beq j i with
   |true=>some k
   |false=>aEN i k
  |_=>aEN i k
def aFV (i:Nat):List SI→Option (List SI)
 | []=>none
 |x::k=>match x with
  | .inScope b=>match findLabel b i with
   |some r=>some (.code r::.inScope b::k)
   |none=>aFV i k
  |_=>aFV i k
theorem aVI {i:Nat} {st st':List SI} (hw:∀s∈st,s.wf) (h:aEN i st=some st'):exitTo i (its st)=some (its st') ∧ ∀s∈st',s.wf:=by
 induction st with
 |nil=>cases h
 |cons x k ih=>
  have hk:∀s∈k,s.wf:=fun s hs=>hw s (List.mem_cons_of_mem _ hs)
  have hx:=hw x (List.mem_cons_self ..)
  simp only [aEN] at h
  cases x with
  |inBlock j=>
   simp only at h
   cases hb:Nat.beq j i with
   |true=>
    have:=Nat.eq_of_beq_eq_true hb
    subst this
    simp at h
    subst h
    exact ⟨by simp [its,SI.it,exitTo],hk⟩
   |false=>
    have hne:(j==i)=false:=beq_eq_false_iff_ne.2 (fun e=>by subst e;simp at hb)
    simp only [hb] at h
    simp only [its,SI.it,exitTo,hne]
    exact ih hk h
  |item it=>
   cases it<;>first|exact hx.elim|exact ih hk h
  |code=>exact ih hk h
  |inLoop=>exact ih hk h
  |inScope=>exact ih hk h
  |ops=>exact ih hk h
  |mark=>exact ih hk h
theorem aYW {i:Nat} {st st':List SI} (hw:∀s∈st,s.wf) (h:aFV i st=some st'):gotoIn i (its st)=some (its st') ∧ ∀s∈st',s.wf:=by
 induction st with
 |nil=>cases h
 |cons x k ih=>
  have hk:∀s∈k,s.wf:=fun s hs=>hw s (List.mem_cons_of_mem _ hs)
  have hx:=hw x (List.mem_cons_self ..)
  simp only [aFV] at h
  cases x with
  |inScope b=>
   simp only at h
   cases hb:findLabel b i with
   |some r=>
    simp [hb] at h
    subst h
    refine ⟨by simp [its,SI.it,gotoIn,hb],fun s hs=>?_⟩
    rcases List.mem_cons.1 hs with rfl|hs
    ·trivial
    rcases List.mem_cons.1 hs with rfl|hs
    ·trivial
    exact hk s hs
   |none=>
    simp only [hb] at h
    simp only [its,SI.it,gotoIn,hb]
    exact ih hk h
  |item it=>
   cases it<;>first|exact hx.elim|exact ih hk h
  |code=>exact ih hk h
  |inLoop=>exact ih hk h
  |inBlock=>exact ih hk h
  |ops=>exact ih hk h
  |mark=>exact ih hk h
def aX {P:Program} (c:Ctx P) (ds:List Deferred) (st:List SI) (l:Fr) (h:Array Obj):Prop:=
 (∀s∈st,s.wf) → ∀(a:Act) (w:World),bO c.n l a→a.defers=ds→w.heap=h→fL c.w0 w→c.Z (lone (c.fr a (its st)) c.cs w)
theorem Ctx.eval {P:Program} (c:Ctx P) (a:Act) (st:List Item):(c.fr a st).eval=a.eval:=by
 funext x;cases x<;>rfl
section rules
variable {P:Program} {c:Ctx P} {ds:List Deferred} {k:List SI} {l:Fr} {h:Array Obj}
theorem aX.sub {st:List SI} {l':Fr} (hs:Sub l l') (hr:aX c ds st l' h):aX c ds st l h:=
 fun hwf a w ha hd hh hw=>hr hwf a w (ha.sub hs) hd hh hw
theorem aX.step {st st':List SI} (hs:∀a w,step P (lone (c.fr a (its st)) c.cs w)=.next (lone (c.fr a (its st')) c.cs w)) (hwf:(∀s∈st,s.wf) → ∀s∈st',s.wf) (hr:aX c ds st' l h):aX c ds st l h:=
 fun hw0 a w ha hd hh hw=>c.back _ _ (hs a w) (hr (hwf hw0) a w ha hd hh hw)
theorem cH {x:SI} {k:List SI} (h:∀s∈x::k,s.wf):∀s∈k,s.wf:=fun s hs=>h s (List.mem_cons_of_mem _ hs)
theorem cY {x:SI} {k:List SI} (hx:x.wf) (h:∀s∈k,s.wf):∀s∈x::k,s.wf:=fun s hs=>by
 rcases List.mem_cons.1 hs with rfl|hs
 ·exact hx
 exact h s hs
theorem aX.skip (hr:aX c ds k l h):aX c ds (.code .skip::k) l h:=
 aX.step (fun _ _=>step_lone_go (by simp [its,SI.it,stepG,stepG.exec,Ctx.fr])) cH hr
theorem aX.label {i:Nat} (hr:aX c ds k l h):aX c ds (.code (.label i)::k) l h:=
 aX.step (fun _ _=>step_lone_go (by simp [its,SI.it,stepG,stepG.exec,Ctx.fr])) cH hr
theorem aX.inBlock {i:Nat} (hr:aX c ds k l h):aX c ds (.inBlock i::k) l h:=
 aX.step (fun _ _=>step_lone_go (by simp [its,SI.it,stepG,stepG.exec,Ctx.fr])) cH hr
theorem aX.inScope {x:Code} (hr:aX c ds k l h):aX c ds (.inScope x::k) l h:=
 aX.step (fun _ _=>step_lone_go (by simp [its,SI.it,stepG,stepG.exec,Ctx.fr])) cH hr
theorem aX.seq {x y:Code} (hr:aX c ds (.code x::.code y::k) l h):aX c ds (.code (.seq x y)::k) l h:=
 aX.step (fun _ _=>step_lone_go (by simp [its,SI.it,stepG,stepG.exec,Ctx.fr])) (by exact fun hw=>cY trivial (cY trivial (cH hw))) hr
theorem aX.block {i:Nat} {x:Code} (hr:aX c ds (.code x::.inBlock i::k) l h):aX c ds (.code (.block i x)::k) l h:=
 aX.step (fun _ _=>step_lone_go (by simp [its,SI.it,stepG,stepG.exec,Ctx.fr])) (by exact fun hw=>cY trivial (cY trivial (cH hw))) hr
theorem aX.scope {x:Code} (hr:aX c ds (.code x::.inScope x::k) l h):aX c ds (.code (.scope x)::k) l h:=
 aX.step (fun _ _=>step_lone_go (by simp [its,SI.it,stepG,stepG.exec,Ctx.fr])) (by exact fun hw=>cY trivial (cY trivial (cH hw))) hr
theorem aX.loop1 {x:Code} (hr:aX c ds (.code x::.inLoop x::k) l h):aX c ds (.code (.loop x)::k) l h:=
 aX.step (fun _ _=>step_lone_go (by simp [its,SI.it,stepG,stepG.exec,Ctx.fr])) (by exact fun hw=>cY trivial (cY trivial (cH hw))) hr
theorem aX.inLoop {x:Code} (hr:aX c ds (.code x::.inLoop x::k) l h):aX c ds (.inLoop x::k) l h:=
 aX.step (fun _ _=>step_lone_go (by simp [its,SI.it,stepG,stepG.exec,Ctx.fr])) (by exact fun hw=>cY trivial (cY trivial (cH hw))) hr
theorem aX.exit {i:Nat} {k':List SI} (he:aEN i k=some k') (hr:aX c ds k' l h):aX c ds (.code (.exit i)::k) l h:=by
 intro hwf a w ha hd hh hw
 obtain ⟨h1,h2⟩:=aVI (cH hwf) he
 refine c.back _ _ (step_lone_go ?_) (hr h2 a w ha hd hh hw)
 simp [its,SI.it,stepG,stepG.exec,Ctx.fr,h1]
theorem aX.goto {i:Nat} {k':List SI} (he:aFV i k=some k') (hr:aX c ds k' l h):aX c ds (.code (.goto i)::k) l h:=by
 intro hwf a w ha hd hh hw
 obtain ⟨h1,h2⟩:=aYW (cH hwf) he
 refine c.back _ _ (step_lone_go ?_) (hr h2 a w ha hd hh hw)
 simp [its,SI.it,stepG,stepG.exec,Ctx.fr,h1]
theorem aX.region {i:Nat} {ops:Array Oper} (hr:aX c ds (.ops ops ops.toList::k) l h):aX c ds (.code (.region i ops false)::k) l h:=
 aX.step (fun _ _=>step_lone_go (by simp [its,SI.it,stepG,stepG.exec,Ctx.fr,List.range_eq_range'])) (by exact fun hw=>cY (by simp [SI.wf]) (cH hw)) hr
theorem aX.regionEnd {ops:Array Oper} (hr:aX c ds k l h):aX c ds (.ops ops []::k) l h:=
 aX.step (fun _ _=>step_lone_go (by simp [its,SI.it,stepG,stepG.exec,Ctx.fr])) cH hr
theorem aX.cond {x:Operand} {y z:Code} {b:Bool} (hx:ev l x=some (.bool b)) (hr:aX c ds (.code (if b then y else z)::k) l h):aX c ds (.code (.cond x y z)::k) l h:=by
 intro hwf a w ha hd hh hw
 refine c.back _ _ (step_lone_go ?_) (hr (cY trivial (cH hwf)) a w ha hd hh hw)
 have he:=c.eval a (its (.code (.cond x y z)::k))
 simp only [Ctx.fr,its,SI.it] at he
 simp [its,SI.it,stepG,stepG.exec,Ctx.fr,he,ha.ev hx]
theorem aX.mark (hr:aX c ds k l h):aX c ds (.mark::k) l h:=
 fun hwf a w ha hd hh hw=>hr (cH hwf) a w ha hd hh hw
theorem aX.loop {x:Code} {X:Type} (L:X→Fr) (J:X→Array Obj→Prop) (μ:X→Nat) (x0:X) (h0:J x0 h) (hs:Sub l (L x0))
  (round:∀x0 h,J x0 h→(∀x' h' l',J x' h'→μ x'<μ x0→Sub l' (L x')→aX c ds (.inLoop x::k) l' h')→aX c ds (.code x::.inLoop x::k) (L x0) h):
  aX c ds (.code (.loop x)::k) l h:=by
 refine aX.loop1 (aX.sub hs ?_)
 have key:∀m x0 h,μ x0=m→J x0 h→aX c ds (.code x::.inLoop x::k) (L x0) h:=by
  intro m
  induction m using Nat.strongRecOn with
  |_ m ih=>
   intro x0 h hm hJ
   exact round x0 h hJ fun x' h' l' hJ' hlt hs'=>aX.inLoop (aX.sub hs' (ih (μ x') (hm▸hlt) x' h' rfl hJ'))
 exact key _ x0 h rfl h0
/-! one operation -/
def eC (l:Fr) (ops:Array Oper) (o:Oper):Option Bool:=
 match o.guard with
 |none=>some true
 |some (j,want)=>match nth ops.toList j with
  |none=>none
  |some oj=>match oj.dst with
   |none=>none
   |some d=>match look l d with
    |some (.bool b)=>match b with
     |true=>match want with
      |true=>some true
      |false=>some false
     |false=>match want with
      |true=>some false
      |false=>some true
    |some (.tuple _)=>some false
    |_=>none
theorem bQ {n:Nat} {l:Fr} {a:Act} (ha:bO n l a) {ops:Array Oper} {o:Oper} {b:Bool} (hg:eC l ops o=some b):Region.wanted o (yielded ops a.tmps)=b:=by
 unfold eC at hg
 unfold Region.wanted
 split at hg
 ·rename_i hgn
  simp at hg
  simp [hgn,hg]
 rename_i j want hgn
 simp only [hgn,yielded]
 rw [iF,Array.getElem?_toList] at hg
 cases hj:ops[j]? with
 |none=>simp [hj] at hg
 |some oj=>
  simp only [hj] at hg
  cases hdd:oj.dst with
  |none=>simp [hdd] at hg
  |some d=>
   simp only [hdd] at hg
   cases hl:look l d with
   |none=>simp [hl] at hg
   |some v=>
    have hv:=ha.get d v hl
    simp only [Option.bind_some,hdd,hv]
    simp only [hl] at hg
    cases v<;>(try simp at hg)<;>first
     |(rename_i b';cases b'<;>cases want<;>simp_all)
     |(subst hg;rfl)
theorem lN (all:Array Oper) (r:List Oper) (k:List SI):its (.ops all r::k)=(SI.ops all r).it::its k:=rfl
theorem mY {all:Array Oper} {o:Oper} {rest:List Oper} (hw:(SI.ops all (o::rest)).wf):
  ∃i,(SI.ops all (o::rest)).it=.inRegion all (i::List.range' (i+1) rest.length)∧(SI.ops all rest).it=.inRegion all (List.range' (i+1) rest.length)∧all[i]? = some o∧(SI.ops all rest).wf:=by
 obtain ⟨h1,h2⟩:=hw
 simp only [List.length_cons] at h1 h2
 have e:all.size - rest.length=all.size - (rest.length+1)+1:=by omega
 have ho:all[all.size - (rest.length+1)]? = some o:=by
  have:(all.toList.drop (all.size - (rest.length+1)))[0]? = some o:=by rw [←h2];rfl
  simpa using this
 refine ⟨all.size - (rest.length+1),by simp [SI.it,List.range'_succ],by simp [SI.it,e],ho,by omega,?_⟩
 have:rest=(all.toList.drop (all.size - (rest.length+1))).drop 1:=by rw [←h2];rfl
 rw [this,List.drop_drop]
 simp only [List.length_drop,Array.length_toList]
 congr 1
 omega
theorem iS (a:Act) (all:Array Oper) (i:Nat) (todo:List Nat) (k:List Item) (v:Value):
  (c.fr a (.inRegion all (i::todo)::k)).finish v=c.fr (a.put ((all[i]?).bind (·.dst)) v) (.inRegion all todo::k):=by
 cases h:(all[i]?).bind (·.dst)<;>simp [Frame.finish,Ctx.fr,Act.put,h]
theorem kF {all:Array Oper} {i:Nat} {todo:List Nat} {k:List Item} {o:Oper} {a:Act} {w:World} (ho:all[i]? = some o) (hw:Region.wanted o (yielded all a.tmps)=true) (hnd:c.round=none ∨ ∀cl,o.op ≠ .defer cl):
  stepG P true {frame:=c.fr a (.inRegion all (i::todo)::k),callers:=c.cs,status:=.running,dying:=none} w =
   stepG.apply P true (c.fr a (.inRegion all (i::todo)::k)) c.cs none (execOp a.eval o) w:=by
 have he:=c.eval a (.inRegion all (i::todo)::k)
 simp only [Ctx.fr] at he
 simp only [stepG,stepG.exec,stepG.oper,Frame.oper?,Ctx.fr,ho,hw,Option.map_some,Option.getD_some,if_true,he]
 split
 ·rename_i hro heq
  rcases hnd with hnd|hnd
  ·simp [hnd] at hro
  exact absurd heq (hnd _)
 rfl
theorem aX.op {all:Array Oper} {rest:List Oper} {o:Oper} (hnd:c.round=none ∨ ∀cl,o.op ≠ .defer cl) (hg:eC l all o=some true)
  (V:Value→Array Obj→Prop)
  (hrun:∀a w,bO c.n l a→w.heap=h→fL c.w0 w → ∃v w',(execOp a.eval o).run P w=.ok (.value v) w'∧fL w w'∧V v w'.heap)
  {d:Nat} (hdst:o.dst=some d) (hdn:d<c.n)
  (hr:∀v h',V v h'→aX c ds (.ops all rest::k) ((d,v)::l) h'):aX c ds (.ops all (o::rest)::k) l h:=by
 intro hwf a w ha hd hh hw
 have hwn:=bQ ha hg
 obtain ⟨i,e1,e2,ho,hwf'⟩:=mY (hwf _ (List.mem_cons_self ..))
 obtain ⟨v,w',hrn,hlk,hV⟩:=hrun a w ha hh hw
 have hr':=hr v _ hV (cY hwf' (cH hwf)) _ w' (ha.put hdn _) (by simpa [Act.put] using hd) rfl (hw.trans hlk)
 refine c.back _ _ (step_lone_go ?_) hr'
 simp only [lN,e1,e2]
 have hf:=iS (c:=c) a all i (List.range' (i+1) rest.length) (its k) v
 rw [ho] at hf
 simp only [Option.bind_some,hdst] at hf
 rw [←hf,kF ho hwn hnd]
 simp [stepG.apply,hrn]
end rules
attribute [irreducible] aX
end Go.Fw

namespace Go.Fw
open Go
inductive UD where
 |int (k:IntKind)
 |bool
 |str
 |slice (e sz:Nat)
 |struct (fs:List (Nat×Nat×Bool))
 |map
 |ptr
 |func
 |iface
 |array (len e sz:Nat)
 |other
 deriving Inhabited
def aKM:TypeDesc→Bool
 | .struct _=>true
 | .array .. =>true
 |_=>false
def aSF (P:Program) (f:Field) (x:Nat×Nat×Bool):Prop:=
 f.offset=x.1∧(P.info? f.type).map (·.size)=some x.2.1∧x.2.1≠0 ∧ ∃d,P.underlying f.type=some d∧aKM d=x.2.2
def uY (P:Program):List Field→List (Nat×Nat×Bool)→Prop
 | [],[]=>True
 |f::fs,x::xs=>aSF P f x∧uY P fs xs
 |_,_=>False
def UD.ok (P:Program) (t:Nat):UD→Prop
 | .int k=>P.underlying t=some (.int k)
 | .bool=>P.underlying t=some .bool
 | .str=>P.underlying t=some .string
 | .slice e sz=>P.underlying t=some (.slice e)∧(P.info? e).map (·.size)=some sz
 | .struct fs=>∃a,P.underlying t=some (.struct a)∧uY P a.toList fs
 | .map=>∃k e,P.underlying t=some (.map k e)
 | .ptr=>∃e,P.underlying t=some (.pointer e)
 | .func=>∃a b c,P.underlying t=some (.func a b c)
 | .iface=>∃ms,P.underlying t=some (.interface ms)
 | .array n e sz=>P.underlying t=some (.array n e)∧(P.info? e).map (·.size)=some sz
 | .other=>match P.underlying t with|some (.interface _)=>False|some _=>True|none=>False
def AllU (P:Program):List (Nat×UD)→Prop
 | []=>True
 |p::l=>p.2.ok P p.1∧AllU P l
def bU:List (Nat×UD)→Nat→Option UD
 | [],_=>none
 |(s,u)::l,d=>match Nat.beq s d with
  |true=>some u
  |false=>bU l d
theorem AllU.look {P:Program} {l:List (Nat×UD)} (h:AllU P l) {t:Nat} {u:UD} (hu:bU l t=some u):u.ok P t:=by
 induction l with
 |nil=>cases hu
 |cons p l ih=>
  obtain ⟨s,q⟩:=p
  simp only [bU] at hu
  cases hb:Nat.beq s t with
  |true=>
   simp only [hb,Option.some.injEq] at hu
   have:=Nat.eq_of_beq_eq_true hb
   subst hu this
   exact h.1
  |false=>simp only [hb] at hu;exact ih h.2 hu
structure Inf where
 zero:Value
 size:Nat
 bytes:Nat
def AllI (P:Program):List (Nat×Inf)→Prop
 | []=>True
 |p::l=>(P.info? p.1).map (fun i=>(i.zero,i.size,i.bytes))=some (some p.2.zero,p.2.size,p.2.bytes)∧AllI P l
def eQ:List (Nat×Inf)→Nat→Option Inf
 | [],_=>none
 |(s,u)::l,d=>match Nat.beq s d with
  |true=>some u
  |false=>eQ l d
theorem AllI.look {P:Program} {l:List (Nat×Inf)} (h:AllI P l) {t:Nat} {u:Inf} (hu:eQ l t=some u):
  ∃i,P.info? t=some i∧i.zero=some u.zero∧i.size=u.size∧i.bytes=u.bytes:=by
 induction l with
 |nil=>cases hu
 |cons p l ih=>
  obtain ⟨s,q⟩:=p
  simp only [eQ] at hu
  cases hb:Nat.beq s t with
  |true=>
   simp only [hb,Option.some.injEq] at hu
   have:=Nat.eq_of_beq_eq_true hb
   subst hu this
   have h1:=h.1
   cases hi:P.info? s with
   |none=>simp [hi] at h1
   |some i=>simp [hi] at h1;exact ⟨i,rfl,h1⟩
  |false=>simp only [hb] at hu;exact ih h.2 hu
def aDJ (P:Program) (t:TypeId) (k:Nat):Bool:=
 match P.underlying t with
 |some .bool=>Nat.beq k 0
 |some (.int _)=>Nat.beq k 1
 |some .string=>Nat.beq k 2
 |_=>false
def eqSB (P:Program) (t:TypeId):List Nat→Option (List Nat)
 |k::r=>match aDJ P t k with
  |true=>some r
  |false=>none
 | []=>none
def aMF (P:Program) (g:TypeId→List Nat→Option (List Nat)):List Field→Nat→List Nat→Option (List Nat)
 | [],_,ks=>some ks
 |f::fs,i,ks=>match decide (f.name ≠ "_")&&decide (f.offset=i) with
  |false=>none
  |true=>match g f.type ks with
   |none=>none
   |some r=>match decide ((P.info? f.type).map (·.size)=some (ks.length - r.length)) with
    |false=>none
    |true=>aMF P g fs (i+(ks.length - r.length)) r
def eqTB (P:Program):Nat→TypeId→List Nat→Option (List Nat)
 |0,t,ks=>eqSB P t ks
 |d+1,t,ks=>match P.underlying t with
  |some (.struct fs)=>match P.stoodInHeld t with
   |true=>none
   |false=>aMF P (eqTB P d) fs.toList 0 ks
  |_=>eqSB P t ks
def aBJ (P:Program) (t:TypeId):Bool:=match P.underlying t with
 |some (.struct _)=>true
 |_=>false
def aRI (P:Program) (t:TypeId) (ks:List Nat):Bool:=aBJ P t&&decide (eqTB P 8 t ks=some []) && !P.eqGuardType P.depth t
def AllE (P:Program):List (Nat×List Nat)→Prop
 | []=>True
 |p::l=>aRI P p.1 p.2=true∧AllE P l
def aRV:List (Nat×List Nat)→Nat→Option (List Nat)
 | [],_=>none
 |(s,u)::l,d=>match Nat.beq s d with
  |true=>some u
  |false=>aRV l d
theorem AllE.look {P:Program} {l:List (Nat×List Nat)} (h:AllE P l) {t:Nat} {ks:List Nat} (hu:aRV l t=some ks):aRI P t ks=true:=by
 induction l with
 |nil=>cases hu
 |cons p l ih=>
  obtain ⟨s,q⟩:=p
  simp only [aRV] at hu
  cases hb:Nat.beq s t with
  |true=>
   simp only [hb,Option.some.injEq] at hu
   have:=Nat.eq_of_beq_eq_true hb
   subst this hu
   exact h.1
  |false=>simp only [hb] at hu;exact ih h.2 hu
structure Tab (P:Program) where
 und:List (Nat×UD)
 okU:AllU P und
 inf:List (Nat×Inf)
 okI:AllI P inf
 eqs:List (Nat×List Nat)
 okE:AllE P eqs
 mixed:P.follows .mixedOrders=true
inductive Pu where
 |stop
 |val (v:Value)
 |ob (p:Prop) (v:Value)
 /-- a test: true where p holds -/
 |tst (p:Prop) (i:Decidable p)
 /-- a test: false where p holds -/
 |ntst (p:Prop) (i:Decidable p)
def aN (s:ByteArray) (i:Nat):Nat:=(s.data.toList.getD i 0).toNat
def same:IntKind→IntKind→Bool
 | .i8,.i8 | .i16,.i16 | .i32,.i32 | .i64,.i64 | .u8,.u8 | .u16,.u16 | .u32,.u32 | .u64,.u64=>true
 |_,_=>false
theorem aSI {a b:IntKind} (h:same a b=true):a=b:=by cases a<;>cases b<;>first|rfl|cases h
def aNJ (k:IntKind) (x:Int):Pu:=
 match k with
 | .i64=>.ob (-9223372036854775808≤x∧x≤9223372036854775807) (.int .i64 x)
 | .u64=>.val (.int .u64 (x%18446744073709551616))
 | .u32=>.val (.int .u32 (x%4294967296))
 | .u16=>.val (.int .u16 (x%65536))
 | .u8=>.val (.int .u8 (x%256))
 |k=>.val (.int k (k.wrap x))
def quoI (k:IntKind) (x y:Int):Pu:=
 match k with
 | .i64=>.ob (0≤x∧0<y∧x≤9223372036854775807) (.int .i64 (x/y))
 | .u64=>.ob (0≤x∧0<y∧x≤18446744073709551615) (.int .u64 (x/y))
 | .u8=>.ob (0≤x∧0<y∧x≤255) (.int .u8 (x/y))
 |_=>.stop
def bitI (k:IntKind) (x y:Int) (f:Nat→Nat→Nat):Pu:=
 match k with
 | .u64=>.ob ((0≤x∧x≤18446744073709551615)∧0≤y∧y≤18446744073709551615) (.int .u64 (f x.toNat y.toNat:Nat))
 | .u8=>.ob ((0≤x∧x≤255)∧0≤y∧y≤255) (.int .u8 (f x.toNat y.toNat:Nat))
 |_=>.stop
def binI (op:BinOp) (k:IntKind) (x y:Int):Pu:=
 match op with
 | .add=>aNJ k (x+y)
 | .sub=>aNJ k (x - y)
 | .mul=>aNJ k (x*y)
 | .quo=>quoI k x y
 | .rem=>.ob (0≤x∧0<y) (.int k (x%y))
 | .eql=>.tst (x=y) inferInstance
 | .neq=>.ntst (x=y) inferInstance
 | .lss=>.tst (x<y) inferInstance
 | .leq=>.tst (x≤y) inferInstance
 | .gtr=>.tst (y<x) inferInstance
 | .geq=>.tst (y≤x) inferInstance
 | .and=>bitI k x y (fun a b=>a&&&b)
 | .or=>bitI k x y (fun a b=>a|||b)
 | .xor=>bitI k x y (fun a b=>a ^^^ b)
 |_=>.stop
def shI (op:BinOp) (k:IntKind) (x y:Int):Pu:=
 match op with
 | .shl=>match k with
  | .u64=>.ob (0≤y∧y≤64) (.int .u64 (x*2^y.toNat%18446744073709551616))
  | .i64=>.ob ((0≤y∧y≤64) ∧ -9223372036854775808≤x*2^y.toNat∧x*2^y.toNat≤9223372036854775807) (.int .i64 (x*2^y.toNat))
  |_=>.stop
 | .shr=>match k with
  | .u64=>.ob (0≤y∧y≤64) (.int .u64 (x/2^y.toNat))
  | .i64=>.ob (0≤y∧y≤64) (.int .i64 (x/2^y.toNat))
  |_=>.stop
 |_=>.stop
def shP (op:BinOp) (k:IntKind) (x p:Int):Pu:=
 match op with
 | .shl=>aNJ k (x*p)
 | .shr=>.val (.int k (x/p))
 |_=>.stop
def shC (op:BinOp) (k:IntKind) (x:Int) (s:Nat):Pu:=
 match Nat.ble s k.bits with
 |true=>match s with
  |1=>shP op k x 2
  |8=>shP op k x 256
  |16=>shP op k x 65536
  |32=>shP op k x 4294967296
  |58=>shP op k x 288230376151711744
  |s=>shP op k x (2^s)
 |false=>.stop
def aEQ:Operand→Option Nat
 | .const v=>match v with
  | .int _ n=>match n with
   | .ofNat s=>some s
   |_=>none
  |_=>none
 |_=>none
def isSh:BinOp→Bool
 | .shl | .shr=>true
 |_=>false
def binS (op:BinOp) (x y:ByteArray):Pu:=
 match op with
 | .add=>.ob (x.size+y.size≤9223372036854775807) (.string (x++y))
 | .eql=>.tst (x=y) inferInstance
 | .neq=>.ntst (x=y) inferInstance
 | .lss=>.val (.bool (Op.bytesLess x.toList y.toList))
 |_=>.stop
def binB (op:BinOp) (x y:Bool):Pu:=
 match op with
 | .eql=>.val (.bool (x==y))
 | .neq=>.val (.bool (!(x==y)))
 |_=>.stop
def aBR (op:BinOp) (b:Bool):Pu:=
 match op with
 | .eql=>.val (.bool b)
 | .neq=>.val (.bool (!b))
 |_=>.stop
def binN (op:BinOp) (u:UD) (a b:Value):Pu:=
 match a with
 | .slice x _ _=>match b with
  | .slice y _ _=>match u with
   | .slice _ _=>match x with
    |none=>match y with
     |none=>aBR op true
     |some _=>aBR op false
    |some _=>match y with
     |none=>aBR op false
     |some _=>.stop
   |_=>.stop
  |_=>.stop
 | .pointer x=>match b with
  | .pointer y=>match u with
   | .ptr=>match x with
    |none=>match y with
     |none=>aBR op true
     |some _=>aBR op false
    |some _=>match y with
     |none=>aBR op false
     |some _=>.stop
   |_=>.stop
  |_=>.stop
 | .iface _ _=>match b with
  | .nilIface=>match u with
   | .iface=>aBR op false
   |_=>.stop
  |_=>.stop
 | .map x=>match b with
  | .map y=>match u with
   | .map=>match x with
    |none=>match y with
     |none=>aBR op true
     |some _=>aBR op false
    |some _=>match y with
     |none=>aBR op false
     |some _=>.stop
   |_=>.stop
  |_=>.stop
 |_=>.stop
def bin {P:Program} (T:Tab P) (op:BinOp) (t:TypeId) (a b:Value):Pu:=
 match a with
 | .int k x=>match b with
  | .int k' y=>match isSh op with
   |true=>shI op k x y
   |false=>match same k k' with
    |true=>binI op k x y
    |false=>.stop
  |_=>.stop
 | .string x=>match b with
  | .string y=>binS op x y
  |_=>.stop
 | .bool x=>match b with
  | .bool y=>match bU T.und t with
   |some .bool=>binB op x y
   |_=>.stop
  |_=>.stop
 |_=>match bU T.und t with
  |some u=>binN op u a b
  |none=>.stop
def un (op:UnOp) (a:Value):Pu:=
 match op with
 | .not=>match a with
  | .bool b=>.val (.bool (!b))
  |_=>.stop
 | .neg=>match a with
  | .int k n=>aNJ k (0 - n)
  |_=>.stop
 |_=>.stop
def conv {P:Program} (T:Tab P) (src dst:TypeId) (a:Value):Pu:=
 match bU T.und src with
 |some (.int _)=>match bU T.und dst with
  |some (.int k)=>match a with
   | .int _ n=>aNJ k n
   |_=>.stop
  |_=>.stop
 |some .str=>match bU T.und dst with
  |some .str=>match a with
   | .string s=>.val (.string s)
   |_=>.stop
  |_=>.stop
 |_=>.stop
def lenP {P:Program} (T:Tab P) (t:TypeId) (a:Value):Pu:=
 match bU T.und t with
 |some .str=>match a with
  | .string s=>.val (.int .i64 s.size)
  |_=>.stop
 |some (.slice _ _)=>match a with
  | .slice _ n _=>.val (.int .i64 n)
  |_=>.stop
 |_=>.stop
def aJL (isMax:Bool) (a b:Value):Pu:=
 match a with
 | .int k x=>match b with
  | .int _ y=>match isMax with
   |true=>.val (.int k (max x y))
   |false=>.val (.int k (min x y))
  |_=>.stop
 |_=>.stop
def aPW {P:Program} (T:Tab P) (t:TypeId) (a i:Value):Pu:=
 match bU T.und t with
 |some .str=>match a with
  | .string s=>match i with
   | .int _ n=>.ob (0≤n∧n<s.size) (.int .u8 (aN s n.toNat))
   |_=>.stop
  |_=>.stop
 |_=>.stop
def zS {P:Program} (T:Tab P) (t:TypeId) (a i:Value):Pu:=
 match bU T.und t with
 |some (.slice _ sz)=>match a with
  | .slice (some ⟨b,off,none⟩) len _=>match i with
   | .int _ n=>match Nat.beq sz 1 with
    |true=>.ob (0≤n∧n<len) (.pointer (some ⟨b,off+n.toNat,none⟩))
    |false=>.ob (0≤n∧n<len) (.pointer (some ⟨b,off+n.toNat*sz,none⟩))
   |_=>.stop
  |_=>.stop
 |some (.array len _ sz)=>match a with
  | .pointer (some ⟨b,off,none⟩)=>match i with
   | .int _ n=>match Nat.beq sz 1 with
    |true=>.ob (0≤n∧n<len) (.pointer (some ⟨b,off+n.toNat,none⟩))
    |false=>.ob (0≤n∧n<len) (.pointer (some ⟨b,off+n.toNat*sz,none⟩))
   |_=>.stop
  |_=>.stop
 |_=>.stop
def cutV {P:Program} (T:Tab P) (t:TypeId) (a:Value) (lo hi:Option (Option Value)):Pu:=
 match bU T.und t with
 |some .str=>match a with
  | .string s=>match lo with
   |none=>match hi with
    |some (some (.int _ j))=>.ob (0≤j∧j≤s.size) (.string (s.extract 0 j.toNat))
    |_=>.stop
   |some (some (.int _ i))=>match hi with
    |some (some (.int _ j))=>.ob (0≤i∧i≤j∧j≤s.size) (.string (s.extract i.toNat j.toNat))
    |none=>.ob (0≤i∧i≤s.size) (.string (s.extract i.toNat s.size))
    |_=>.stop
   |_=>.stop
  |_=>.stop
 |some (.slice _ _)=>match a with
  | .slice ad _ cap=>match lo with
   |none=>match hi with
    |some (some (.int _ j))=>.ob (0≤j∧j≤cap) (.slice ad j.toNat cap)
    |_=>.stop
   |_=>.stop
  |_=>.stop
 |_=>.stop
def aKI {P:Program} (T:Tab P) (t:TypeId) (a:Value) (f:Nat):Pu:=
 match bU T.und t with
 |some (.struct fs)=>match a with
  | .pointer (some ⟨b,off,none⟩)=>match nth fs f with
   |some (o,_,_)=>match o with
    |0=>.val (.pointer (some ⟨b,off,none⟩))
    |o+1=>.val (.pointer (some ⟨b,off+(o+1),none⟩))
   |none=>.stop
  |_=>.stop
 |_=>.stop
def wB {P:Program} (T:Tab P) (t:TypeId) (a:Value) (f:Nat):Pu:=
 match bU T.und t with
 |some (.struct fs)=>match a with
  | .agg cs=>match nth fs f with
   |some (o,_,false)=>match nth cs.toList o with
    |some v=>.val v
    |none=>.stop
   |some (o,n,true)=>.val (.agg ((cs.toList.drop o).take n).toArray)
   |_=>.stop
  |_=>.stop
 |_=>.stop
def mQ (l:Fr):List Operand→Option (List Value)
 | []=>some []
 |x::xs=>match ev l x with
  |some v=>match mQ l xs with
   |some vs=>some (v::vs)
   |none=>none
  |none=>none
theorem oG {n:Nat} {l:Fr} {a:Act} (ha:bO n l a):∀ {xs:List Operand} {vs:List Value},mQ l xs=some vs→xs.map a.eval=vs:=by
 intro xs
 induction xs with
 |nil=>intro vs h;simp [mQ] at h;exact h▸rfl
 |cons x xs ih=>
  intro vs h
  simp only [mQ] at h
  cases hx:ev l x with
  |none=>simp [hx] at h
  |some v=>
   cases hxs:mQ l xs with
   |none=>simp [hx,hxs] at h
   |some us=>simp [hx,hxs] at h;subst h;simp [ha.ev hx,ih hxs]
def ev1 {P:Program} (T:Tab P) (l:Fr) (op:Op):Pu:=
 match op with
 | .move x=>match ev l x with
  |some v=>.val v
  |none=>.stop
 | .assign x=>match ev l x with
  |some v=>.val v
  |none=>.stop
 | .pick c a b=>match ev l c with
  |some (.bool true)=>match ev l a with
   |some v=>.val v
   |none=>.stop
  |some (.bool false)=>match ev l b with
   |some v=>.val v
   |none=>.stop
  |_=>.stop
 | .extract t i=>match ev l t with
  |some (.tuple vs)=>match nth vs.toList i with
   |some v=>.val v
   |none=>.stop
  |_=>.stop
 | .binOp op t x y _=>match ev l x with
  |some a=>match isSh op with
   |true=>match aEQ y with
    |some s=>match a with
     | .int k n=>shC op k n s
     |_=>.stop
    |none=>match ev l y with
     |some b=>bin T op t a b
     |none=>.stop
   |false=>match ev l y with
    |some b=>bin T op t a b
    |none=>.stop
  |none=>.stop
 | .unOp op _ x=>match ev l x with
  |some a=>un op a
  |none=>.stop
 | .convert src dst x=>match ev l x with
  |some a=>conv T src dst a
  |none=>.stop
 | .index t x i=>match ev l x with
  |some a=>match ev l i with
   |some b=>aPW T t a b
   |none=>.stop
  |none=>.stop
 | .indexAddr t x i=>match ev l x with
  |some a=>match ev l i with
   |some b=>zS T t a b
   |none=>.stop
  |none=>.stop
 | .slice t x lo hi none=>match ev l x with
  |some a=>cutV T t a (lo.map (ev l)) (hi.map (ev l))
  |none=>.stop
 | .fieldAddr t x f=>match ev l x with
  |some a=>aKI T t a f
  |none=>.stop
 | .field t x f=>match ev l x with
  |some a=>wB T t a f
  |none=>.stop
 | .makeInterface t x=>match bU T.und t with
  |some .iface=>.stop
  |some _=>match ev l x with
   |some a=>.val (.iface t a)
   |none=>.stop
  |none=>.stop
 | .makeFunc fn first captured=>match mQ l first.toList with
  |some vs=>match mQ l captured.toList with
   |some us=>.val (.func fn vs.toArray us.toArray)
   |none=>.stop
  |none=>.stop
 | .nilCheck x=>match ev l x with
  |some (.pointer (some a))=>.val (.pointer (some a))
  |_=>.stop
 | .call c=>match c.callee with
  | .builtin .len=>match c.args.toList with
   | [x]=>match c.argTypes.toList with
    | [t]=>match ev l x with
     |some a=>lenP T t a
     |none=>.stop
    |_=>.stop
   |_=>.stop
  | .builtin .max=>match c.args.toList with
   | [x,y]=>match ev l x with
    |some a=>match ev l y with
     |some b=>aJL true a b
     |none=>.stop
    |none=>.stop
   |_=>.stop
  | .builtin .min=>match c.args.toList with
   | [x,y]=>match ev l x with
    |some a=>match ev l y with
     |some b=>aJL false a b
     |none=>.stop
    |none=>.stop
   |_=>.stop
  |_=>.stop
 |_=>.stop
/-! soundness -/
def fJ (P:Program) (n:Nat) (l:Fr) (op:Op) (v:Value):Prop:=
 ∀(a:Act) (w:World) (o:Oper),bO n l a→o.op=op→(execOp a.eval o).run P w=.ok (.value v) w
def Pu.ok (r:Pu) (G:Value→Prop):Prop:=
 match r with
 | .stop=>True
 | .val v=>G v
 | .ob p v=>p→G v
 | .tst p _=>G (.bool (decide p))
 | .ntst p _=>G (.bool (!decide p))
theorem aMX {x:Int} (h: -9223372036854775808≤x∧x≤9223372036854775807):IntKind.i64.wrap x=x:=by
 obtain ⟨h1,h2⟩:=h
 have e1:((2:Int)^64)=18446744073709551616:=rfl
 have e2:((2:Int)^(64 - 1))=9223372036854775808:=rfl
 simp only [IntKind.wrap,IntKind.bits,IntKind.signed,Bool.true_and,decide_eq_true_eq,ge_iff_le,e1,e2]
 split<;>omega
theorem aZC (x:Int):IntKind.u64.wrap x=x%18446744073709551616∧IntKind.u32.wrap x=x%4294967296∧IntKind.u16.wrap x=x%65536∧IntKind.u8.wrap x=x%256:=by
 refine ⟨?_,?_,?_,?_⟩<;>simp [IntKind.wrap,IntKind.bits,IntKind.signed]
theorem xS (k:IntKind) (x:Int) (G:Value→Prop) (h:G (.int k (k.wrap x))):(aNJ k x).ok G:=by
 obtain ⟨h1,h2,h3,h4⟩:=aZC x
 cases k<;>simp only [aNJ,Pu.ok]<;>first|exact h|exact fun hx=>by rw [aMX hx] at h;exact h|(rw [h1] at h;exact h)|(rw [h2] at h;exact h)|(rw [h3] at h;exact h)|(rw [h4] at h;exact h)
theorem xX (k:IntKind) (hk:k=.u64∨k=.u8) (x y:Int) (hx:0≤x∧x≤k.max) (hy:0≤y∧y≤k.max) (f:Nat→Nat→Nat) (g:BitVec k.bits→BitVec k.bits→BitVec k.bits)
  (hfg:∀a b,(g a b).toNat=f a.toNat b.toNat):k.wrap (g (BitVec.ofInt k.bits x) (BitVec.ofInt k.bits y)).toNat=(f x.toNat y.toNat:Nat):=by
 have e:∀z:Int,0≤z∧z≤k.max→(BitVec.ofInt k.bits z).toNat=z.toNat:=by
  intro z hz
  rw [BitVec.toNat_ofInt]
  rcases hk with rfl|rfl<;>simp only [IntKind.max,IntKind.bits,IntKind.signed] at * <;> simp at hz ⊢ <;> omega
 have hlt:=(g (BitVec.ofInt k.bits x) (BitVec.ofInt k.bits y)).isLt
 rw [hfg,e x hx,e y hy] at *
 rcases hk with rfl|rfl<;>simp only [IntKind.wrap,IntKind.bits,IntKind.signed] at * <;> simp at hlt ⊢ <;> omega
theorem binI_ok (op:BinOp) (hs:isSh op=false) (k:IntKind) (x y:Int) (P:Program) (w:World) (t:TypeId):
  (binI op k x y).ok fun v=>(binOp op t (.int k x) (.int k y)).run P w=.ok v w:=by
 cases op<;>first|(cases hs;done)|skip
 all_goals simp only [binI]
 case add=>exact xS _ _ _ (by simp [binOp,Op.intArith])
 case sub=>exact xS _ _ _ (by simp [binOp,Op.intArith])
 case mul=>exact xS _ _ _ (by simp [binOp,Op.intArith])
 case quo=>
  have key:∀x y:Int,0≤x→0<y→x≤k.max→k.wrap (x/y)=x/y:=by
   intro x y h0 h1 h2
   have a:=Int.ediv_nonneg h0 (Int.le_of_lt h1)
   have b:x/y≤x:=Int.ediv_le_self y h0
   cases k<;>simp only [IntKind.wrap,IntKind.max,IntKind.bits,IntKind.signed] at * <;> simp at h2 ⊢ <;> omega
  have main:0≤x→0<y→x≤k.max→(binOp .quo t (.int k x) (.int k y)).run P w=.ok (.int k (x/y)) w:=by
   intro h0 h1 h2
   have hy:y≠0:=by omega
   simp [binOp,Op.intDiv,hy,Int.tdiv_eq_ediv_of_nonneg h0,key x y h0 h1 h2]
  cases k<;>simp only [quoI,Pu.ok]<;>intro h<;>exact main h.1 h.2.1 h.2.2
 case rem=>
  intro h
  have hy:y≠0:=by omega
  simp [binOp,Op.intDiv,hy,Int.tmod_eq_emod_of_nonneg h.1]
 case and=>
  cases k<;>simp only [bitI,Pu.ok]
  all_goals
   intro h
   simp only [binOp,Op.intBits,ne_eq,not_true_eq_false,if_false,Sem.run_pure]
   first
    |exact congrArg (fun z=>Result.ok (Value.int _ z) w) (xX .u8 (.inr rfl) x y h.1 h.2 (fun a b=>a&&&b) (fun a b=>a&&&b) (fun _ _=>BitVec.toNat_and ..))
    |exact congrArg (fun z=>Result.ok (Value.int _ z) w) (xX .u64 (.inl rfl) x y h.1 h.2 (fun a b=>a&&&b) (fun a b=>a&&&b) (fun _ _=>BitVec.toNat_and ..))
 case or=>
  cases k<;>simp only [bitI,Pu.ok]
  all_goals
   intro h
   simp only [binOp,Op.intBits,ne_eq,not_true_eq_false,if_false,Sem.run_pure]
   first
    |exact congrArg (fun z=>Result.ok (Value.int _ z) w) (xX .u8 (.inr rfl) x y h.1 h.2 (fun a b=>a|||b) (fun a b=>a|||b) (fun _ _=>BitVec.toNat_or ..))
    |exact congrArg (fun z=>Result.ok (Value.int _ z) w) (xX .u64 (.inl rfl) x y h.1 h.2 (fun a b=>a|||b) (fun a b=>a|||b) (fun _ _=>BitVec.toNat_or ..))
 case xor=>
  cases k<;>simp only [bitI,Pu.ok]
  all_goals
   intro h
   simp only [binOp,Op.intBits,ne_eq,not_true_eq_false,if_false,Sem.run_pure]
   first
    |exact congrArg (fun z=>Result.ok (Value.int _ z) w) (xX .u8 (.inr rfl) x y h.1 h.2 (fun a b=>a ^^^ b) (fun a b=>a ^^^ b) (fun _ _=>BitVec.toNat_xor ..))
    |exact congrArg (fun z=>Result.ok (Value.int _ z) w) (xX .u64 (.inl rfl) x y h.1 h.2 (fun a b=>a ^^^ b) (fun a b=>a ^^^ b) (fun _ _=>BitVec.toNat_xor ..))
 case eql=>simp [Pu.ok,binOp,Op.intCmp];rfl
 case neq=>simp [Pu.ok,binOp,Op.intCmp,bne];rfl
 all_goals simp [Pu.ok,binOp,Op.intCmp]

def szB (P:Program) (e sz:Nat):Bool:=match P.info? e with|some i=>Nat.beq i.size sz|none=>false
theorem aQC {P:Program} {e sz:Nat} (h:szB P e sz=true):(P.info? e).map (·.size)=some sz:=by
 unfold szB at h
 split at h
 ·rename_i i hi;rw [hi,←Nat.eq_of_beq_eq_true h];rfl
 cases h
def fB (P:Program):List Field→List (Nat×Nat×Bool)→Bool
 | [],[]=>true
 |f::fs,x::xs=>Nat.beq f.offset x.1&&(szB P f.type x.2.1&&(!(Nat.beq x.2.1 0)&&((match P.underlying f.type with|some d=>aKM d==x.2.2|none=>false)&&fB P fs xs)))
 |_,_=>false
theorem fB_ok {P:Program}:∀ {fs:List Field} {xs:List (Nat×Nat×Bool)},fB P fs xs=true→uY P fs xs
 | [],[],_=>trivial
 |f::fs,x::xs,h=>by
  simp only [fB,Bool.and_eq_true] at h
  obtain ⟨h1,h2,h3,h4,h5⟩:=h
  refine ⟨⟨Nat.eq_of_beq_eq_true h1,aQC h2,fun e=>(by rw [e] at h3;cases h3),?_⟩,fB_ok h5⟩
  split at h4
  ·rename_i d hd;exact ⟨d,hd,by simpa using h4⟩
  cases h4
 | [],_::_,h=>by cases h
 |_::_,[],h=>by cases h
def uB (P:Program) (p:Nat×UD):Bool:=match P.underlying p.1 with
 |none=>false
 |some d=>match p.2,d with
  | .int k,.int k'=>decide (k'=k)
  | .bool,.bool=>true
  | .str,.string=>true
  | .slice e sz,.slice e'=>Nat.beq e' e&&szB P e sz
  | .struct fs,.struct a=>fB P a.toList fs
  | .map,.map _ _=>true
  | .ptr,.pointer _=>true
  | .func,.func _ _ _=>true
  | .iface,.interface _=>true
  | .array n e sz,.array n' e'=>Nat.beq n' n&&(Nat.beq e' e&&szB P e sz)
  |_,_=>false
theorem uB_ok {P:Program} {p:Nat×UD} (h:uB P p=true):p.2.ok P p.1:=by
 obtain ⟨t,u⟩:=p
 unfold uB at h
 cases hd:P.underlying t with
 |none=>simp only [hd] at h;cases h
 |some d=>
  simp only [hd] at h
  split at h
  ·rw [UD.ok,hd,of_decide_eq_true h]
  ·exact hd
  ·exact hd
  ·simp only [Bool.and_eq_true] at h
   obtain rfl:=Nat.eq_of_beq_eq_true h.1
   exact ⟨hd,aQC h.2⟩
  ·exact ⟨_,hd,fB_ok h⟩
  ·exact ⟨_,_,hd⟩
  ·exact ⟨_,hd⟩
  ·exact ⟨_,_,_,hd⟩
  ·exact ⟨_,hd⟩
  ·simp only [Bool.and_eq_true] at h
   obtain rfl:=Nat.eq_of_beq_eq_true h.1
   obtain rfl:=Nat.eq_of_beq_eq_true h.2.1
   exact ⟨hd,aQC h.2.2⟩
  cases h
theorem aRE {P:Program}:∀ {l:List (Nat×UD)},l.all (uB P)=true→AllU P l
 | [],_=>trivial
 |p::l,h=>by
  simp only [List.all_cons,Bool.and_eq_true] at h
  exact ⟨uB_ok h.1,aRE h.2⟩
theorem aRJ {P:Program}:∀ {l:List (Nat×Inf)},(l.map fun p=>(P.info? p.1).map fun i=>(i.zero,i.size,i.bytes))=l.map (fun p=>some (some p.2.zero,p.2.size,p.2.bytes))→AllI P l
 | [],_=>trivial
 |p::l,h=>by
  simp only [List.map_cons,List.cons.injEq] at h
  exact ⟨h.1,aRJ h.2⟩
theorem aSA {P:Program}:∀ {l:List (Nat×List Nat)},(l.all fun p=>aRI P p.1 p.2)=true→AllE P l
 | [],_=>trivial
 |p::l,h=>by
  simp only [List.all_cons,Bool.and_eq_true] at h
  exact ⟨h.1,aSA h.2⟩
end Go.Fw

namespace Go.Fw
open Go
theorem ba_eq (a b:ByteArray):(a.toList==b.toList)=decide (a=b):=by
 rw [Bool.eq_iff_iff]
 simp only [beq_iff_eq,decide_eq_true_eq]
 constructor
 ·intro h
  apply ByteArray.ext
  apply Array.ext'
  simpa [ByteArray.toList_eq] using h
 intro h;rw [h]
variable {P:Program}
theorem aLF (k k':IntKind) (x y:Int) (hy:0≤y∧y≤k.bits) (w:World) (t:TypeId):
  (binOp .shl t (.int k x) (.int k' y)).run P w=.ok (.int k (k.wrap (x*2^y.toNat))) w:=by
 have hm:Nat.min y.toNat k.bits=y.toNat:=Nat.min_eq_left (by omega)
 simp [binOp,Op.shift,Int.not_lt.2 hy.1,hm]
theorem aJV (k k':IntKind) (x y:Int) (hy:0≤y∧y≤k.bits) (w:World) (t:TypeId):
  (binOp .shr t (.int k x) (.int k' y)).run P w=.ok (.int k (x/2^y.toNat)) w:=by
 have hm:Nat.min y.toNat k.bits=y.toNat:=Nat.min_eq_left (by omega)
 have:x.fdiv (2^y.toNat)=x/2^y.toNat:=by
  rw [Int.fdiv_eq_ediv]
  have:(0:Int)≤2^y.toNat:=by
   have:(0:Int)<2^y.toNat:=Int.pow_pos (by decide)
   omega
  simp [this]
 simp [binOp,Op.shift,Int.not_lt.2 hy.1,hm,this]
theorem shI_ok (op:BinOp) (hs:isSh op=true) (k k':IntKind) (x y:Int) (w:World) (t:TypeId):
  (shI op k x y).ok fun v=>(binOp op t (.int k x) (.int k' y)).run P w=.ok v w:=by
 cases op<;>first|(cases hs;done)|skip
 case shl=>
  cases k<;>simp only [shI]<;>first|trivial|skip
  case i64=>
   intro h
   have:=aLF (P:=P) .i64 k' x y ⟨h.1.1,h.1.2⟩ w t
   rwa [aMX h.2] at this
  case u64=>
   intro h
   have:=aLF (P:=P) .u64 k' x y ⟨h.1,h.2⟩ w t
   rwa [(aZC _).1] at this
 case shr=>
  cases k<;>simp only [shI]<;>first|trivial|skip
  case i64=>exact fun h=>aJV (P:=P) .i64 k' x y ⟨h.1,h.2⟩ w t
  case u64=>exact fun h=>aJV (P:=P) .u64 k' x y ⟨h.1,h.2⟩ w t
theorem aMD {y:Operand} {s:Nat} (h:aEQ y=some s) (a:Act):∃k,a.eval y=.int k (s:Int):=by
 unfold aEQ at h
 split at h
 ·split at h
  ·split at h
   ·simp at h;subst h;exact ⟨_,rfl⟩
   cases h
  cases h
 cases h
theorem shC_ok (op:BinOp) (hs:isSh op=true) (k k':IntKind) (x:Int) (s:Nat) (w:World) (t:TypeId):
  (shC op k x s).ok fun v=>(binOp op t (.int k x) (.int k' (s:Int))).run P w=.ok v w:=by
 unfold shC
 split
 ·rename_i hle
  have hle:s≤k.bits:=Nat.le_of_ble_eq_true hle
  have hy:0≤(s:Int)∧(s:Int)≤k.bits:=⟨by omega,by omega⟩
  have main:(shP op k x (2^s)).ok fun v=>(binOp op t (.int k x) (.int k' (s:Int))).run P w=.ok v w:=by
   cases op<;>first|(cases hs;done)|skip
   case shl=>exact xS _ _ _ (aLF (P:=P) k k' x s hy w t)
   case shr=>exact aJV (P:=P) k k' x s hy w t
  split<;>exact main
 trivial
theorem binS_ok (op:BinOp) (x y:ByteArray) (w:World) (t:TypeId):
  (binS op x y).ok fun v=>(binOp op t (.string x) (.string y)).run P w=.ok v w:=by
 cases op<;>simp only [binS,Pu.ok]
 case add=>
  intro h
  have h':¬IntKind.i64.max<((x.size+y.size:Nat):Int):=by
   have:IntKind.i64.max=9223372036854775807:=rfl
   omega
  have h'':¬IntKind.i64.max<(x.size:Int)+(y.size:Int):=by simpa using h'
  simp [binOp,Op.stringOp]
  exact Int.not_lt.1 h''
 case eql=>simp [binOp,Op.stringOp,ba_eq]
 case neq=>simp [binOp,Op.stringOp,ba_eq]
 case lss=>simp [binOp,Op.stringOp]
theorem aKB (d:Nat) (t:TypeId) (x y:Bool) (w:World) (ht:P.underlying t=some .bool):(Op.equalIn (d+1) t (.bool x) (.bool y)).run P w=.ok (x==y) w:=by
 simp [Op.equalIn,run_underlying ht]
theorem aES (t:TypeId) (x y:Bool) (w:World) (ht:P.underlying t=some .bool):(Op.equal t (.bool x) (.bool y)).run P w=.ok (x==y) w:=
 aKB 9999 t x y w ht
theorem binB_ok (op:BinOp) (x y:Bool) (w:World) (t:TypeId) (ht:P.underlying t=some .bool):
  (binB op x y).ok fun v=>(binOp op t (.bool x) (.bool y)).run P w=.ok v w:=by
 cases op<;>simp only [binB,Pu.ok]
 case eql=>simp [binOp,aES t x y w ht]
 case neq=>simp [binOp,aES t x y w ht]
theorem nilB_ok (op:BinOp) (x y:Value) (b:Bool) (w:World) (t:TypeId) (he:(binOp .eql t x y).run P w=.ok (.bool b) w) (hn:(binOp .neq t x y).run P w=.ok (.bool (!b)) w):
  (aBR op b).ok fun v=>(binOp op t x y).run P w=.ok v w:=by
 cases op<;>simp only [aBR,Pu.ok]
 ·exact he
 exact hn
theorem aXS (t:TypeId) (x y:Value) (b:Bool) (w:World) (h:∀d,(Op.equalIn (d+1) t x y).run P w=.ok b w):(Op.equal t x y).run P w=.ok b w:=h 9999
theorem aDV (op:BinOp) (x y:Value) (b:Bool) (w:World) (t:TypeId) (h:∀d,(Op.equalIn (d+1) t x y).run P w=.ok b w) (h1:binOp .eql t x y=(do pure (.bool (←Op.equal t x y)))) (h2:binOp .neq t x y=(do pure (.bool (!(←Op.equal t x y))))):
  (aBR op b).ok fun v=>(binOp op t x y).run P w=.ok v w:=by
 have he:=aXS t x y b w h
 refine nilB_ok op x y b w t ?_ ?_
 ·rw [h1];simp only [Sem.run_bind,he,Result.andThen,Sem.run_pure]
 rw [h2];simp only [Sem.run_bind,he,Result.andThen,Sem.run_pure]
theorem binN_ok (T:Tab P) (op:BinOp) (t:TypeId) (u:UD) (hu:bU T.und t=some u) (a b:Value) (w:World):(binN op u a b).ok fun v=>(binOp op t a b).run P w=.ok v w:=by
 have hk:=T.okU.look hu
 unfold binN
 split
 ·split
  ·split
   ·have h1:=hk.1
    split<;>split<;>first|trivial|exact aDV _ _ _ _ _ _ (fun d=>by simp [Op.equalIn,run_underlying h1]) rfl rfl
   trivial
  trivial
 ·split
  ·split
   ·obtain ⟨e,h1⟩:=hk
    split<;>split<;>first|trivial|exact aDV _ _ _ _ _ _ (fun d=>by simp [Op.equalIn,run_underlying h1]) rfl rfl
   trivial
  trivial
 ·split
  ·split
   ·obtain ⟨e,h1⟩:=hk
    exact aDV _ _ _ _ _ _ (fun d=>by simp [Op.equalIn,run_underlying h1]) rfl rfl
   trivial
  trivial
 ·split
  ·split
   ·obtain ⟨e,e',h1⟩:=hk
    split<;>split<;>first|trivial|exact aDV _ _ _ _ _ _ (fun d=>by simp [Op.equalIn,run_underlying h1]) rfl rfl
   trivial
  trivial
 trivial
theorem bin_ok (T:Tab P) (op:BinOp) (t:TypeId) (a b:Value) (w:World):(bin T op t a b).ok fun v=>(binOp op t a b).run P w=.ok v w:=by
 unfold bin
 split
 ·split
  ·rename_i k x _ k' y
   split
   ·rename_i hs;exact shI_ok op hs k k' x y w t
   rename_i hs
   split
   ·rename_i hk;obtain rfl:=aSI hk;exact binI_ok op hs k x y P w t
   trivial
  trivial
 ·split
  ·exact binS_ok op _ _ w t
  trivial
 ·split
  ·split
   ·rename_i hu;exact binB_ok op _ _ w t (T.okU.look hu)
   trivial
  trivial
 split
 ·rename_i hu;exact binN_ok T op t _ hu a b w
 trivial
theorem aUA (T:Tab P) (op:BinOp) (t:TypeId) (x y:Operand) (a b:Value) (w:World) (G:Pu→Prop) (hstop:G .stop)
  (h:(eqGuard op t x y a b).run P w=.ok () w→G (bin T op t a b)):G (bin T op t a b):=by
 by_cases hs:bin T op t a b=.stop
 ·rw [hs];exact hstop
 apply h
 unfold eqGuard
 cases a<;>cases b<;>first
  |(exact absurd rfl hs)
  |(cases op<;>simp;done)
  |(refine absurd ?_ hs;show (match bU T.und t with|some u=>binN op u _ _|none=>Pu.stop)=Pu.stop;cases bU T.und t<;>rfl)
theorem Pu.ok_mono {r:Pu} {G G':Value→Prop} (h:r.ok G) (hg:∀v,G v→G' v):r.ok G':=by
 cases r with
 |stop=>trivial
 |val v=>exact hg _ h
 |ob p v=>exact fun hp=>hg _ (h hp)
 |tst p i=>exact hg _ h
 |ntst p i=>exact hg _ h
theorem un_ok (op:UnOp) (a:Value) (w:World):(un op a).ok fun v=>(Op.unary op a).run P w=.ok v w:=by
 cases op<;>simp only [un]
 case not=>cases a<;>simp [Pu.ok,Op.unary]
 case neg=>cases a<;>first|trivial|exact xS _ _ _ (by simp [Op.unary,Op.intArith])
 all_goals trivial
theorem conv_ok (T:Tab P) (src dst:TypeId) (a:Value) (w:World):(conv T src dst a).ok fun v=>(convert src dst a).run P w=.ok v w:=by
 unfold conv
 split
 ·rename_i hs
  have h1:=T.okU.look hs
  split
  ·rename_i hd
   have h2:=T.okU.look hd
   split
   ·exact xS _ _ _ (by simp [convert,run_underlying h1,run_underlying h2,Conv.intToInt])
   trivial
  trivial
 ·rename_i hs
  have h1:=T.okU.look hs
  split
  ·rename_i hd
   have h2:=T.okU.look hd
   split
   ·simp [Pu.ok,convert,run_underlying h1,run_underlying h2]
   trivial
  trivial
 trivial
theorem aSH (T:Tab P) (t ty:TypeId) (a:Value) (w:World):(lenP T t a).ok fun v=>(Builtin.len_ #[t] ty #[a]).run P w=.ok v w:=by
 unfold lenP
 split
 ·rename_i hs
  have h1:=T.okU.look hs
  split
  ·simp [Pu.ok,Builtin.len_,run_underlying h1,goInt]
  trivial
 ·rename_i hs
  have h1:=(T.okU.look hs).1
  split
  ·simp [Pu.ok,Builtin.len_,run_underlying h1,goInt]
  trivial
 trivial
theorem aTO (T:Tab P) (t:TypeId) (a i:Value) (w:World):(aPW T t a i).ok fun v=>(Instr.index t a i).run P w=.ok v w:=by
 unfold aPW
 split
 ·rename_i hs
  have h1:=T.okU.look hs
  split
  ·split
   ·rename_i s _ k n
    intro h
    obtain ⟨m,rfl⟩:=Int.eq_ofNat_of_zero_le h.1
    have hm:m<s.size:=by omega
    have hm':m<s.data.size:=hm
    simp [Instr.index,asIntOf,run_underlying h1,aN,List.getD_eq_getElem?_getD,getElem?_pos,hm]
    rfl
   trivial
  trivial
 trivial
theorem jK (b off m:Nat):Addr.add ⟨b,off,none⟩ m=⟨b,off+m,none⟩:=by
 unfold Addr.add
 split
 ·simp
 rfl
theorem iE {t n:Nat} (h:(P.info? t).map (·.size)=some n) (w:World):(sizeOf t).run P w=.ok n w:=by
 cases hi:P.info? t with
 |none=>simp [hi] at h
 |some i=>simp [hi] at h;simp [sizeOf,typeInfo,hi,h]
theorem yT (T:Tab P) (t:TypeId) (a i:Value) (w:World):(zS T t a i).ok fun v=>(Instr.indexAt t a i).run P w=.ok v w:=by
 unfold zS
 split
 ·rename_i sz hs
  obtain ⟨h1,h2⟩:=T.okU.look hs
  split
  ·rename_i b off len cap
   split
   ·rename_i k n
    have main:0≤n∧n<len→(Instr.indexAt t (.slice (some ⟨b,off,none⟩) len cap) (.int k n)).run P w=.ok (.pointer (some ⟨b,off+n.toNat*sz,none⟩)) w:=by
     intro h
     simp [Instr.indexAt,asIntOf,run_underlying h1,h,iE h2,jK]
    split
    ·rename_i hb
     have:=Nat.eq_of_beq_eq_true hb
     subst this
     intro h
     have:=main h
     rwa [Nat.mul_one] at this
    exact main
   trivial
  trivial
 ·rename_i len e sz hs
  obtain ⟨h1,h2⟩:=T.okU.look hs
  split
  ·rename_i b off
   split
   ·rename_i k n
    have main:0≤n∧n<len→(Instr.indexAt t (.pointer (some ⟨b,off,none⟩)) (.int k n)).run P w=.ok (.pointer (some ⟨b,off+n.toNat*sz,none⟩)) w:=by
     intro h
     simp [Instr.indexAt,asIntOf,run_underlying h1,h,iE h2,jK,Instr.sureAddr]
    split
    ·rename_i hb
     have:=Nat.eq_of_beq_eq_true hb
     subst this
     intro h
     have:=main h
     rwa [Nat.mul_one] at this
    exact main
   trivial
  trivial
 trivial
theorem jZ (k:IntKind) (i:Int) (y:Nat) (code:BoundsCode) (h:0≤i∧i≤y) (w:World):(Instr.sliceBound (.int k i) y code).run P w=.ok i.toNat w:=by
 simp [Instr.sliceBound,asIntOf,h]
theorem cutV_ok (T:Tab P) (t:TypeId) (a:Value) (lo hi:Option (Option Value)) (lo' hi':Option Value) (hlo:∀u,lo=some u → ∀z,u=some z→lo'=some z) (hlo0:lo=none→lo'=none)
  (hhi:∀u,hi=some u → ∀z,u=some z→hi'=some z) (hhi0:hi=none→hi'=none) (w:World):
  (cutV T t a lo hi).ok fun v=>(Instr.sliceAt t a lo' hi' none).run P w=.ok v w:=by
 unfold cutV
 split
 ·rename_i hs
  have h1:=T.okU.look hs
  split
  ·split
   ·have e1:=hlo0 rfl
    split
    ·have e2:=hhi _ rfl _ rfl
     intro h
     simp [Instr.sliceAt,Instr.slice,Instr.sliceBounds,run_underlying h1,e1,e2,jZ _ _ _ _ h]
    trivial
   ·have e1:=hlo _ rfl _ rfl
    split
    ·have e2:=hhi _ rfl _ rfl
     intro h
     rename_i s _ _ i _ k j
     have hj:0≤j∧j≤(s.size:Int):=⟨by omega,h.2.2⟩
     have hi:0≤i∧i≤(j.toNat:Int):=⟨h.1,by omega⟩
     simp [Instr.sliceAt,Instr.slice,Instr.sliceBounds,run_underlying h1,e1,e2,jZ _ _ _ _ hj,jZ _ _ _ _ hi]
    ·have e2:=hhi0 rfl
     intro h
     simp [Instr.sliceAt,Instr.slice,Instr.sliceBounds,run_underlying h1,e1,e2,jZ _ _ _ _ h]
    trivial
   trivial
  trivial
 ·rename_i e sz hs
  obtain ⟨h1,h2⟩:=T.okU.look hs
  split
  ·split
   ·have e1:=hlo0 rfl
    split
    ·have e2:=hhi _ rfl _ rfl
     intro h
     rename_i ad _ _ _ _ _ _ _
     simp [Instr.sliceAt,Instr.slice,Instr.sliceBounds,run_underlying h1,e1,e2,jZ _ _ _ _ h,iE h2,Addr.add]
    trivial
   trivial
  trivial
 trivial
theorem tZ {fs:List Field} {xs:List (Nat×Nat×Bool)} (h:uY P fs xs) {f:Nat} {x:Nat×Nat×Bool} (hx:xs[f]? = some x):∃fl,fs[f]? = some fl∧aSF P fl x:=by
 induction fs generalizing xs f with
 |nil=>cases xs with
  |nil=>simp at hx
  |cons x xs=>exact h.elim
 |cons g fs ih=>cases xs with
  |nil=>exact h.elim
  |cons y xs=>cases f with
   |zero=>simp at hx;subst hx;exact ⟨g,rfl,h.1⟩
   |succ f=>simp at hx;simpa using ih h.2 hx
theorem aHZ (T:Tab P) (t:TypeId) (a:Value) (f:Nat) (w:World):(aKI T t a f).ok fun v=>(Instr.fieldAt t a f).run P w=.ok v w:=by
 unfold aKI
 split
 ·rename_i fs hs
  obtain ⟨ar,h1,h2⟩:=T.okU.look hs
  split
  ·rename_i b off
   split
   ·rename_i o n g hn
    rw [iF] at hn
    obtain ⟨fl,hfl,hok⟩:=tZ h2 hn
    have hfl':ar[f]? = some fl:=by simpa using hfl
    have main:(Instr.fieldAt t (.pointer (some ⟨b,off,none⟩)) f).run P w=.ok (.pointer (some ⟨b,off+o,none⟩)) w:=by
     have ho:=hok.1
     simp only at ho
     simp [Instr.fieldAt,run_underlying h1,hfl',Instr.sureAddr,fieldPlace,iE hok.2.1,hok.2.2.1,ho,jK]
    cases o<;>exact main
   trivial
  trivial
 trivial
theorem aHU (T:Tab P) (t:TypeId) (a:Value) (f:Nat) (w:World):(wB T t a f).ok fun v=>(Instr.field t a f).run P w=.ok v w:=by
 unfold wB
 split
 ·rename_i fs hs
  obtain ⟨ar,h1,h2⟩:=T.okU.look hs
  split
  ·rename_i cs
   split
   ·rename_i o n hn
    rw [iF] at hn
    obtain ⟨fl,hfl,hok⟩:=tZ h2 hn
    have hfl':ar[f]? = some fl:=by simpa using hfl
    split
    ·rename_i v hv
     rw [iF] at hv
     have hv':cs[o]? = some v:=by simpa using hv
     have ho:=hok.1
     simp only at ho
     obtain ⟨d,hu,hd⟩:=hok.2.2.2
     cases d<;>simp [aKM] at hd<;>simp [Pu.ok,Instr.field,run_underlying h1,hfl',asAgg,part,isAgg,run_underlying hu,ho,hv']
    trivial
   ·rename_i o n hn
    rw [iF] at hn
    obtain ⟨fl,hfl,hok⟩:=tZ h2 hn
    have hfl':ar[f]? = some fl:=by simpa using hfl
    have ho:=hok.1
    simp only at ho
    obtain ⟨d,hu,hd⟩:=hok.2.2.2
    have hx:cs.extract o (o+n)=((cs.toList.drop o).take n).toArray:=by
     apply Array.ext'
     simp [Nat.add_sub_cancel_left]
    cases d<;>simp [aKM] at hd<;>simp [Pu.ok,Instr.field,run_underlying h1,hfl',asAgg,part,isAgg,run_underlying hu,ho,iE hok.2.1,hx]
   trivial
  trivial
 trivial
end Go.Fw

namespace Go.Fw
open Go
variable {P:Program}
theorem aKK (T:Tab P) (n:Nat) (l:Fr) (op:Op) (a:Act) (w:World) (o:Oper) (ha:bO n l a) (ho:o.op=op):
  (ev1 T l op).ok fun v=>(execOp a.eval o).run P w=.ok (.value v) w:=by
 unfold ev1
 split
 ·split
  ·rename_i hx;simp [Pu.ok,execOp,ho,ha.ev hx]
  trivial
 ·split
  ·rename_i hx;simp [Pu.ok,execOp,ho,ha.ev hx]
  trivial
 ·split
  ·rename_i hc
   split
   ·rename_i hx;simp [Pu.ok,execOp,ho,ha.ev hc,ha.ev hx,asBool]
   trivial
  ·rename_i hc
   split
   ·rename_i hx;simp [Pu.ok,execOp,ho,ha.ev hc,ha.ev hx,asBool]
   trivial
  trivial
 ·split
  ·rename_i ht
   split
   ·rename_i hv
    rw [iF,Array.getElem?_toList] at hv
    simp [Pu.ok,execOp,ho,ha.ev ht,Instr.extract,hv]
   trivial
  trivial
 ·rename_i bop t x y yt
  split
  ·rename_i av hx
   have main:∀bv,ev l y=some bv→(bin T bop t av bv).ok fun v=>(execOp a.eval o).run P w=.ok (.value v) w:=by
    intro bv hy
    refine aUA T bop t x y av bv w (fun r=>r.ok fun v=>(execOp a.eval o).run P w=.ok (.value v) w) trivial (fun hgd=>?_)
    refine Pu.ok_mono (bin_ok T bop t av bv w) (fun v hv=>?_)
    simp [execOp,ho,ha.ev hx,ha.ev hy,hgd,hv]
   split
   ·rename_i hsh
    split
    ·rename_i s hs
     obtain ⟨k',hy⟩:=aMD hs a
     split
     ·rename_i k n
      refine Pu.ok_mono (shC_ok (P:=P) bop hsh k k' n s w t) (fun v hv=>?_)
      have hgd:(eqGuard bop t x y (.int k n) (.int k' (s:Int))).run P w=.ok () w:=by
       cases bop<;>simp [isSh] at hsh<;>simp [eqGuard]
      simp [execOp,ho,ha.ev hx,hy,hgd,hv]
     trivial
    split
    ·rename_i hy;exact main _ hy
    trivial
   split
   ·rename_i hy;exact main _ hy
   trivial
  trivial
 ·split
  ·rename_i hx
   refine Pu.ok_mono (un_ok (P:=P) _ _ w) (fun v hv=>?_)
   simp [execOp,ho,ha.ev hx,hv]
  trivial
 ·split
  ·rename_i hx
   refine Pu.ok_mono (conv_ok T _ _ _ w) (fun v hv=>?_)
   simp [execOp,ho,ha.ev hx,hv]
  trivial
 ·split
  ·rename_i hx
   split
   ·rename_i hy
    refine Pu.ok_mono (aTO T _ _ _ w) (fun v hv=>?_)
    simp [execOp,ho,ha.ev hx,ha.ev hy,hv]
   trivial
  trivial
 ·split
  ·rename_i hx
   split
   ·rename_i hy
    refine Pu.ok_mono (yT T _ _ _ w) (fun v hv=>?_)
    simp [execOp,ho,ha.ev hx,ha.ev hy,hv]
   trivial
  trivial
 ·split
  ·rename_i hx
   rename_i t x lo hi _ av
   refine Pu.ok_mono (cutV_ok T t av (lo.map (ev l)) (hi.map (ev l)) (lo.map a.eval) (hi.map a.eval) ?_ ?_ ?_ ?_ w) (fun v hv=>?_)
   ·intro u hu z hz;cases lo with
    |none=>cases hu
    |some q=>simp at hu;subst hu;simp [ha.ev hz]
   ·intro h;cases lo with
    |none=>rfl
    |some q=>cases h
   ·intro u hu z hz;cases hi with
    |none=>cases hu
    |some q=>simp at hu;subst hu;simp [ha.ev hz]
   ·intro h;cases hi with
    |none=>rfl
    |some q=>cases h
   simp [execOp,ho,ha.ev hx,hv]
  trivial
 ·split
  ·rename_i hx
   refine Pu.ok_mono (aHZ T _ _ _ w) (fun v hv=>?_)
   simp [execOp,ho,ha.ev hx,hv]
  trivial
 ·split
  ·rename_i hx
   refine Pu.ok_mono (aHU T _ _ _ w) (fun v hv=>?_)
   simp [execOp,ho,ha.ev hx,hv]
  trivial
 ·rename_i t x
  split
  ·trivial
  ·rename_i u hne hu
   have hk:=T.okU.look hu
   split
   ·rename_i hx
    have hdesc:∃d,P.underlying t=some d ∧ ∀ms,d ≠ .interface ms:=by
     cases u<;>simp only [UD.ok] at hk
     case int k=>exact ⟨_,hk,by simp⟩
     case bool=>exact ⟨_,hk,by simp⟩
     case str=>exact ⟨_,hk,by simp⟩
     case slice e sz=>exact ⟨_,hk.1,by simp⟩
     case struct fs=>obtain ⟨q,hq,_⟩:=hk;exact ⟨_,hq,by simp⟩
     case map=>obtain ⟨k,e,hq⟩:=hk;exact ⟨_,hq,by simp⟩
     case ptr=>obtain ⟨e,hq⟩:=hk;exact ⟨_,hq,by simp⟩
     case func=>obtain ⟨_,_,_,hq⟩:=hk;exact ⟨_,hq,by simp⟩
     case iface=>exact absurd rfl hne
     case array n e sz=>exact ⟨_,hk.1,by simp⟩
     case other=>
      cases hq:P.underlying t with
      |none=>simp [hq] at hk
      |some d=>refine ⟨d,rfl,fun ms e=>?_⟩;subst e;simp [hq] at hk
    obtain ⟨d,hd,hni⟩:=hdesc
    simp only [Pu.ok,execOp,ho,ha.ev hx,Instr.makeInterface]
    cases d<;>simp [run_underlying hd]<;>exact absurd rfl (hni _)
   trivial
  trivial
 ·split
  ·rename_i hf
   split
   ·rename_i hcp
    have e1:=oG ha hf
    have e2:=oG ha hcp
    rename_i fn first captured _ vs _ us
    have e1':first.map a.eval=vs.toArray:=by apply Array.ext';simpa using e1
    have e2':captured.map a.eval=us.toArray:=by apply Array.ext';simpa using e2
    simp [Pu.ok,execOp,ho,Instr.makeFunc,e1',e2']
   trivial
  trivial
 ·split
  ·rename_i hx;simp [Pu.ok,execOp,ho,ha.ev hx]
  trivial
 ·rename_i cl
  split
  ·rename_i hcl
   split
   ·rename_i x hargs
    split
    ·rename_i t hts
     split
     ·rename_i av hx
      have e1:cl.args = #[x]:=by apply Array.ext';simpa using hargs
      have e2:cl.argTypes = #[t]:=by apply Array.ext';simpa using hts
      refine Pu.ok_mono (aSH T t o.type av w) (fun v hv=>?_)
      simp [execOp,ho,resolve,hcl,e1,e2,invoke,builtin,ha.ev hx,hv]
     trivial
    trivial
   trivial
  ·rename_i hcl
   split
   ·rename_i x y hargs
    split
    ·rename_i av hx
     split
     ·rename_i bv hy
      have e1:cl.args = #[x,y]:=by apply Array.ext';simpa using hargs
      unfold aJL
      split
      ·split
       ·simp [Pu.ok,execOp,ho,resolve,hcl,e1,invoke,builtin,ha.ev hx,ha.ev hy,Builtin.max_,Builtin.max2]
        rw [Int.max_def];split<;>split<;>omega
       trivial
      trivial
     trivial
    trivial
   trivial
  ·rename_i hcl
   split
   ·rename_i x y hargs
    split
    ·rename_i av hx
     split
     ·rename_i bv hy
      have e1:cl.args = #[x,y]:=by apply Array.ext';simpa using hargs
      unfold aJL
      split
      ·split
       ·simp [Pu.ok,execOp,ho,resolve,hcl,e1,invoke,builtin,ha.ev hx,ha.ev hy,Builtin.min_,Builtin.min2]
        rw [Int.min_def];split<;>split<;>omega
       trivial
      trivial
     trivial
    trivial
   trivial
  trivial
 trivial
def aGS (d:Nat):Operand→Bool
 | .tmp t=>Nat.beq t d
 |_=>false
def aGV (d:Nat):Code→Bool
 | .cond x _ _=>aGS d x
 | .seq a _=>aGV d a
 |_=>false
def lW (all:List Oper):List Oper→List SI→Nat→Bool
 | [],k,d=>match k with
  | .code x::_=>aGV d x
  |_=>false
 |o::rest,k,d=>
  (match o.guard with
   |some (j,_)=>match nth all j with
    |some oj=>match oj.dst with
     |some d'=>Nat.beq d' d
     |none=>false
    |none=>false
   |none=>false) ||
  ((match o.op with
    | .pick c a b=>aGS d c||((aGS d a||aGS d b)&&(match o.dst with
     |some d'=>lW all rest k d'
     |none=>false))
    | .move x=>aGS d x&&(match o.dst with
     |some d'=>lW all rest k d'
     |none=>false)
    | .assign x=>aGS d x&&(match o.dst with
     |some d'=>lW all rest k d'
     |none=>false)
    | .unOp .not _ x=>aGS d x&&(match o.dst with
     |some d'=>lW all rest k d'
     |none=>false)
    |_=>false)||lW all rest k d)
def eK (h:Array Obj) (b o:Nat):Option Value:=
 match h[b]? with
 |some (.cells c _ _)=>c[o]?
 |_=>none
theorem kT {w:World} {b o:Nat} {v:Value} (h:eK w.heap b o=some v):w.cell? ⟨b,o,none⟩=some v:=by
 unfold eK at h
 unfold World.cell?
 split at h
 ·rename_i hb;simp [hb,h]
 cases h
def fY {P:Program} (T:Tab P) (t:TypeId):Bool:=
 match bU T.und t with
 |some (.struct _)=>false
 |some (.array ..)=>false
 |some .other=>false
 |some _=>true
 |none=>false
theorem nG (T:Tab P) {t:TypeId} (h:fY T t=true) (w:World):(isAgg t).run P w=.ok false w:=by
 unfold fY at h
 cases hu:bU T.und t with
 |none=>simp [hu] at h
 |some u=>
  have hk:=T.okU.look hu
  cases u<;>simp [hu] at h<;>simp only [UD.ok] at hk
  case int=>simp [isAgg,run_underlying hk]
  case bool=>simp [isAgg,run_underlying hk]
  case str=>simp [isAgg,run_underlying hk]
  case slice=>simp [isAgg,run_underlying hk.1]
  case map=>obtain ⟨_,_,hk⟩:=hk;simp [isAgg,run_underlying hk]
  case ptr=>obtain ⟨_,hk⟩:=hk;simp [isAgg,run_underlying hk]
  case func=>obtain ⟨_,_,_,hk⟩:=hk;simp [isAgg,run_underlying hk]
  case iface=>obtain ⟨_,hk⟩:=hk;simp [isAgg,run_underlying hk]
def loadAt? {P:Program} (T:Tab P) (l:Fr) (op:Op):Option (Nat×Nat):=
 match op with
 | .load t x=>match ev l x with
  |some (.pointer (some ⟨b,off,none⟩))=>match fY T t with
   |true=>some (b,off)
   |false=>none
  |_=>none
 |_=>none
theorem aFP {T:Tab P} {l:Fr} {o:Oper} {b off:Nat} (hl:loadAt? T l o.op=some (b,off)) {n:Nat} {a:Act} (ha:bO n l a) {w:World} {v:Value} (hc:eK w.heap b off=some v):
  (execOp a.eval o).run P w=.ok (.value v) w:=by
 unfold loadAt? at hl
 split at hl
 ·rename_i t x hop
  split at hl
  ·rename_i hx
   split at hl
   ·rename_i hs
    simp at hl
    obtain ⟨rfl,rfl⟩:=hl
    have hcell:=kT hc
    simp [execOp,hop,ha.ev hx,Instr.loadAt,Instr.sureAddr,loadVar,nG T hs,load,Sem.run,hcell]
   cases hl
  cases hl
 cases hl
def go (T:Tab P) (n:Nat) (h:Array Obj) (stop:List SI→Fr→Prop):Nat→List SI→Fr→Prop
 |0,st,l=>stop st l
 |f+1,st,l=>match st with
  | []=>stop st l
  |it::k=>match it with
   | .inBlock _=>go T n h stop f k l
   | .inScope _=>go T n h stop f k l
   | .ops all todo=>match todo with
    | []=>go T n h stop f k l
    |o::rest=>match o.dst with
     |none=>stop st l
     |some d=>match Nat.blt d n with
      |false=>stop st l
      |true=>match eC l all o with
       |none=>stop st l
       |some false=>go T n h stop f (.ops all rest::k) ((d,undef)::l)
       |some true=>match ev1 T l o.op with
        | .stop=>match loadAt? T l o.op with
         |some (b,off)=>∃v,eK h b off=some v∧go T n h stop f (.ops all rest::k) ((d,v)::l)
         |none=>stop st l
        | .tst p i=>match lW all.toList rest k d with
         |true=>(p→go T n h stop f (.ops all rest::k) ((d,.bool true)::l))∧(¬p→go T n h stop f (.ops all rest::k) ((d,.bool false)::l))
         |false=>go T n h stop f (.ops all rest::k) ((d,.bool (@decide p i))::l)
        | .ntst p i=>match lW all.toList rest k d with
         |true=>(p→go T n h stop f (.ops all rest::k) ((d,.bool false)::l))∧(¬p→go T n h stop f (.ops all rest::k) ((d,.bool true)::l))
         |false=>go T n h stop f (.ops all rest::k) ((d,.bool (!@decide p i))::l)
        | .val v=>go T n h stop f (.ops all rest::k) ((d,v)::l)
        | .ob p v=>p∧go T n h stop f (.ops all rest::k) ((d,v)::l)
   | .code c=>match c with
    | .skip=>go T n h stop f k l
    | .label _=>go T n h stop f k l
    | .seq a b=>go T n h stop f (.code a::.code b::k) l
    | .cond x y z=>match ev l x with
     |some (.bool true)=>go T n h stop f (.code y::k) l
     |some (.bool false)=>go T n h stop f (.code z::k) l
     |_=>stop st l
    | .block i b=>go T n h stop f (.code b::.inBlock i::k) l
    | .scope b=>go T n h stop f (.code b::.inScope b::k) l
    | .exit i=>match aEN i k with
     |some k'=>go T n h stop f k' l
     |none=>stop st l
    | .goto i=>match aFV i k with
     |some k'=>go T n h stop f k' l
     |none=>stop st l
    | .region _ ops draw=>match draw with
     |false=>go T n h stop f (.ops ops ops.toList::k) l
     |true=>stop st l
    |_=>stop st l
   |_=>stop st l
variable {c:Ctx P} {ds:List Deferred} {h:Array Obj}
end Go.Fw

namespace Go.Fw
open Go
variable {P:Program}
theorem iY (c:Ctx P) {m m':Machine} (h:Steps P m m') (hz:c.Z m'):c.Z m:=by
 obtain ⟨n,hn⟩:=h
 induction n generalizing m with
 |zero=>simp [runN] at hn;exact hn▸hz
 |succ n ih=>
  simp only [runN] at hn
  cases hs:step P m with
  |next m1=>rw [hs] at hn;exact c.back _ _ hs (ih hn)
  |ended o w=>rw [hs] at hn;simp at hn
def Enters (P:Program) (f:FuncId):Prop:=∃fn code,P.funcs[f]? = some fn∧(fn.name == "runtime.NumGoroutine")=false∧fn.body=some code
structure Fn (P:Program) (f:FuncId) (args:Array Value) (h:Array Obj) (R:Ending→Array Obj→Prop):Prop where
 enters:Enters P f
 calls:∀w:World,w.heap=h→Calls P f args w fun e w'=>fL w w'∧R e w'.heap
def FnV (P:Program) (f:FuncId) (args:Array Value) (h:Array Obj) (R:Value→Array Obj→Prop):Prop:=
 Fn P f args h fun e h'=>∃v,e=.returned v∧R v h'
theorem Fn.mono {f:FuncId} {args:Array Value} {h:Array Obj} {R R':Ending→Array Obj→Prop} (H:Fn P f args h R) (hr:∀e h',R e h'→R' e h'):Fn P f args h R':=
 ⟨H.enters,fun w hw=>(H.calls w hw).mono fun _ _ ⟨a,b⟩=>⟨a,hr _ _ b⟩⟩
theorem FnV.mono {f:FuncId} {args:Array Value} {h:Array Obj} {R R':Value→Array Obj→Prop} (H:FnV P f args h R) (hr:∀v h',R v h'→R' v h'):FnV P f args h R':=
 Fn.mono H fun _ _ ⟨v,a,b⟩=>⟨v,a,hr _ _ b⟩
def gT (P:Program) (f n:Nat) (w0:World) (cs:List Frame) (R:Ending→Array Obj→Prop):Ctx P where
 Z:=fun m=>∃e w' fr,(fL w0 w'∧R e w'.heap)∧Comes P m (lone fr cs w') e∧fr.fn=f∧fr.leaving P w' e
 back:=fun _ _ hs ⟨e,w',fr,hR,hc,hf,hl⟩=>⟨e,w',fr,hR,hc.of_steps (.one hs),hf,hl⟩
 fn:=f
 kind:=.normal
 round:=none
 cs:=cs
 w0:=w0
 n:=n
def yK:Nat→List Value→Fr
 |_,[]=>[]
 |i,v::vs=>(i,v)::yK (i+1) vs
theorem aPH (vs:List Value):∀(i d:Nat) (v:Value),look (yK i vs) d=some v→i≤d∧vs[d - i]? = some v:=by
 induction vs with
 |nil=>intro i d v h;cases h
 |cons u vs ih=>
  intro i d v h
  simp only [yK,look] at h
  cases hb:Nat.beq i d with
  |true=>
   have:=Nat.eq_of_beq_eq_true hb
   subst this
   simp only [hb,Option.some.injEq] at h
   subst h
   exact ⟨Nat.le_refl _,by simp⟩
  |false=>
   simp only [hb] at h
   obtain ⟨h1,h2⟩:=ih _ _ _ h
   refine ⟨by omega,?_⟩
   have:d - i=d - (i+1)+1:=by omega
   rw [this];simpa using h2
theorem aER (args:List Value) (n:Nat) (hn:args.length≤n):bO n (yK 0 args) {tmps:=args.toArray++Array.replicate (n - args.toArray.size) undef,defers:=[]}:=by
 refine ⟨by simp;omega,fun d v hv=>?_⟩
 obtain ⟨_,h2⟩:=aPH _ _ _ _ hv
 simp only [Nat.sub_zero] at h2
 have hlt:d<args.length:=(List.getElem?_eq_some_iff.1 h2).1
 rw [Array.getElem?_append_left (by simpa using hlt)]
 simpa using h2
theorem Fn.of {f:FuncId} {fn:Func} {code:Code} (hf:P.funcs[f]? = some fn) (hname:(fn.name == "runtime.NumGoroutine")=false) (hb:fn.body=some code) {n:Nat} (hnt:fn.ntmps=n)
  {args:List Value} (hargs:Nat.ble args.length n=true) {h:Array Obj} {R:Ending→Array Obj→Prop}
  (H:∀w0 cs,aX (gT P f n w0 cs R) [] [.code code] (yK 0 args) h):Fn P f args.toArray h R:=by
 refine ⟨⟨fn,code,hf,hname,hb⟩,fun w hw cs=>?_⟩
 have hr:=H w cs
 unfold aX at hr
 have:=hr (fun s hs=>by simp at hs;subst hs;trivial) {tmps:=args.toArray++Array.replicate (n - args.toArray.size) undef,defers:=[]} w (aER _ _ (Nat.le_of_ble_eq_true hargs)) rfl hw (fL.refl w)
 have henter:Frame.enter P f args.toArray .normal=(gT P f n w cs R).fr {tmps:=args.toArray++Array.replicate (n - args.toArray.size) undef,defers:=[]} (its [.code code]):=by
  simp [Frame.enter,Ctx.fr,hf,hb,hnt,gT,its,SI.it]
 rw [←henter] at this
 exact this
/-! returns -/
def rH:List ResultVar→Option (List Nat)
 | []=>some []
 |r::rs=>match r with
  | .tmp t=>match rH rs with
   |some l=>some (t::l)
   |none=>none
  |_=>none
def rU (l:Fr):List Nat→Option (List Value)
 | []=>some []
 |t::ts=>match look l t with
  |some v=>match rU l ts with
   |some vs=>some (v::vs)
   |none=>none
  |none=>none
def tup:List Value→Value
 | [v]=>v
 |vs=>.tuple vs.toArray
def jE (tmps:Array Value):ResultVar→Sem Value
 | .tmp t=>pure (tmps.getD t undef)
 | .cell a t=>do loadVar t (←asAddr (tmps.getD a undef))
theorem zB (fn:Func) (tmps:Array Value):results fn tmps=(do
  let vs ←fn.results.mapM (jE tmps)
  pure (if h:vs.size=1 then vs[0] else .tuple vs)):=rfl
theorem aOB {fn:Func} {n:Nat} {l:Fr} {a:Act} (ha:bO n l a) {ts:List Nat} (hts:rH fn.results.toList=some ts) {vs:List Value} (hvs:rU l ts=some vs) (w:World):
  (results fn a.tmps).run P w=.ok (tup vs) w:=by
 have key:∀(rs:List ResultVar) (ts:List Nat) (vs:List Value),rH rs=some ts→rU l ts=some vs →
   (rs.mapM (jE a.tmps)).run P w=.ok vs w:=by
  intro rs
  induction rs with
  |nil=>intro ts vs h1 h2;simp [rH] at h1;subst h1;simp [rU] at h2;subst h2;simp
  |cons r rs ih=>
   intro ts vs h1 h2
   cases r with
   |cell=>cases h1
   |tmp t=>
    simp only [rH] at h1
    cases hr:rH rs with
    |none=>simp [hr] at h1
    |some ts'=>
     simp [hr] at h1
     subst h1
     simp only [rU] at h2
     cases hl:look l t with
     |none=>simp [hl] at h2
     |some v=>
      cases hl':rU l ts' with
      |none=>simp [hl,hl'] at h2
      |some vs'=>
       simp [hl,hl'] at h2
       subst h2
       have hrs:=ih ts' vs' hr hl'
       have hv:=ha.get t v hl
       have h0:(jE a.tmps (.tmp t)).run P w=.ok v w:=by simp [jE,hv]
       simp only [List.mapM_cons,Sem.run_bind,h0,hrs,Result.andThen,Sem.run_pure]
 have hk:=key fn.results.toList ts vs hts hvs
 rw [zB,←Array.toArray_toList (xs:=fn.results),List.mapM_toArray]
 simp only [Sem.run_bind,map_eq_pure_bind,hk,Sem.run_pure,Result.andThen]
 cases vs with
 |nil=>simp [tup]
 |cons v vs=>cases vs<;>simp [tup]
section ret
variable {f n:Nat} {w0:World} {cs:List Frame} {R:Ending→Array Obj→Prop} {k:List SI} {l:Fr} {h:Array Obj}
theorem aGU {fn:Func} (hf:P.funcs[f]? = some fn) {ts:List Nat} (hts:rH fn.results.toList=some ts) {vs:List Value} (hvs:rU l ts=some vs) (hR:R (.returned (tup vs)) h)
  (a:Act) (w:World) (ha:bO n l a) (hd:a.defers=[]) (hh:w.heap=h) (hw:fL w0 w) (todo:List Item):
  (gT P f n w0 cs R).Z (lone { (gT P f n w0 cs R).fr a todo with mode:=.returning} cs w):=by
 refine ⟨.returned (tup vs),w,_,⟨hw,hh▸hR⟩,Steps.refl P _,rfl,rfl,hd,rfl,fn,hf,aOB ha hts hvs w⟩
theorem aX.ret {fn:Func} (hf:P.funcs[f]? = some fn) {ts:List Nat} (hts:rH fn.results.toList=some ts) {vs:List Value} (hvs:rU l ts=some vs) (hR:R (.returned (tup vs)) h):
  aX (gT P f n w0 cs R) [] (.code .ret::k) l h:=by
 unfold aX
 intro hwf a w ha hd hh hw
 refine (gT P f n w0 cs R).back _ _ (step_lone_go ?_) (aGU (n:=n) hf hts hvs hR a w ha hd hh hw (its (.code .ret::k)))
 simp [its,SI.it,stepG,stepG.exec,Ctx.fr,gT]
end ret
section calls
variable {c:Ctx P} {ds:List Deferred} {k:List SI} {l:Fr} {h:Array Obj}
def RunsP (c:Ctx P) (ds:List Deferred) (ch:List PanicEntry) (l:Fr) (h:Array Obj):Prop:=
 ∀(a:Act) (w:World) (todo:List Item),bO c.n l a→a.defers=ds→w.heap=h→fL c.w0 w→c.Z (lone {c.fr a todo with mode:=.panicking ch} c.cs w)
theorem zV {g:FuncId} (hg:Enters P g) (args:Array Value) (w:World):(callFunc g args).run P w=.ok (.enter g args) w:=by
 obtain ⟨fn,code,h1,h2,h3⟩:=hg
 have hp:(program:Sem Program).run P w=.ok P w:=rfl
 simp only [callFunc,Sem.run_bind,hp,Result.andThen,h1,h2,Bool.false_eq_true,if_false,h3,Option.isNone_some,Sem.run_pure]
theorem tE {cl:Call} {o:Oper} (hop:o.op=.call cl) {x:Operand} (hcal:cl.callee=.value x) {n:Nat} {a:Act} (ha:bO n l a) {g:FuncId} {first captured:Array Value}
  (hx:ev l x=some (.func (.func g) first captured)) {vs:List Value} (hargs:mQ l cl.args.toList=some vs) (hg:Enters P g) (w:World):
  (execOp a.eval o).run P w=.ok (.enter g (first++vs.toArray++captured)) w:=by
 have e1:=oG ha hargs
 have e2:cl.args.map a.eval=vs.toArray:=by apply Array.ext';simpa using e1
 simp [execOp,hop,resolve,hcal,ha.ev hx,Deferred.ofValue,invoke,zV hg,e2]
theorem aX.call {all:Array Oper} {rest:List Oper} {o:Oper} {cl:Call} (hop:o.op=.call cl) {x:Operand} (hcal:cl.callee=.value x) {g:FuncId} {first captured:Array Value}
  (hx:ev l x=some (.func (.func g) first captured)) {vs:List Value} (hargs:mQ l cl.args.toList=some vs) (hgd:eC l all o=some true) {d:Nat} (hdst:o.dst=some d) (hdn:Nat.blt d c.n=true)
  {R:Ending→Array Obj→Prop} (H:Fn P g (first++vs.toArray++captured) h R) (hno:∀h',¬R .outgrown h')
  (hp:∀ch h',R (.panicked ch) h'→RunsP c ds ch l h')
  (hr:∀v h',R (.returned v) h'→aX c ds (.ops all rest::k) ((d,v)::l) h'):aX c ds (.ops all (o::rest)::k) l h:=by
 unfold aX
 intro hwf a w ha hd hh hw
 have hwn:=bQ ha hgd
 obtain ⟨i,e1,e2,ho,hwf'⟩:=mY (hwf _ (List.mem_cons_self ..))
 have hrun:=tE hop hcal ha hx hargs H.enters w
 have hd':c.round=none ∨ ∀cl,o.op ≠ .defer cl:=.inr (fun cl' e=>by rw [hop] at e;cases e)
 simp only [lN,e1]
 have hstep:=kF (P:=P) (c:=c) (k:=its k) (todo:=List.range' (i+1) rest.length) (w:=w) ho hwn hd'
 have henter:Go.step P (lone (c.fr a (.inRegion all (i::List.range' (i+1) rest.length)::its k)) c.cs w) =
   .next (lone (Frame.enter P g (first++vs.toArray++captured) .normal) (c.fr a (.inRegion all (i::List.range' (i+1) rest.length)::its k)::c.cs) w):=
  step_lone_go (by rw [hstep];simp [stepG.apply,hrun,Ctx.fr])
 obtain ⟨e,w',fr,⟨hlk,hR⟩,hcomes,hfn,hleave⟩:=H.calls w hh (c.fr a (.inRegion all (i::List.range' (i+1) rest.length)::its k)::c.cs)
 refine c.back _ _ henter ?_
 cases e with
 |outgrown=>exact absurd hR (hno _)
 |returned v=>
  refine iY c hcomes ?_
  refine c.back _ _ (step_leave_returned hleave) ?_
  have hf:=iS (c:=c) a all i (List.range' (i+1) rest.length) (its k) v
  rw [ho] at hf
  simp only [Option.bind_some,hdst] at hf
  rw [hf]
  have hr':=hr v _ hR
  unfold aX at hr'
  have:=hr' (cY hwf' (cH hwf)) (a.put (some d) v) w' (ha.put (Nat.blt_eq.mp hdn) _) (by simpa [Act.put] using hd) rfl (hw.trans hlk)
  simpa only [lN,e2] using this
 |panicked ch=>
  refine iY c hcomes ?_
  refine c.back _ _ (step_leave_panicked hleave) ?_
  exact hp ch _ hR a w' _ ha hd rfl (hw.trans hlk)
theorem aX.callV {all:Array Oper} {rest:List Oper} {o:Oper} {cl:Call} {x:Operand} {g:FuncId} {first captured:Array Value} {vs:List Value} {d:Nat}
  {R:Value→Array Obj→Prop} (H:FnV P g (first++vs.toArray++captured) h R)
  (hr:∀v h',R v h'→aX c ds (.ops all rest::k) ((d,v)::l) h')
  (hop:o.op=.call cl:=by rfl) (hcal:cl.callee=.value x:=by rfl)
  (hx:ev l x=some (.func (.func g) first captured):=by rfl) (hargs:mQ l cl.args.toList=some vs:=by rfl) (hgd:eC l all o=some true:=by rfl) (hdst:o.dst=some d:=by rfl) (hdn:Nat.blt d c.n=true:=by rfl):
  aX c ds (.ops all (o::rest)::k) l h:=
 aX.call hop hcal hx hargs hgd hdst hdn H (fun _ ⟨_,e,_⟩=>by cases e) (fun _ _ ⟨_,e,_⟩=>by cases e) (fun v h' ⟨v',e,hv⟩=>by cases e;exact hr _ _ hv)
end calls
end Go.Fw

namespace Go.Fw
open Go
variable {P:Program}
section one
variable {c:Ctx P} {K:List Item} {Q:Exit→Act→World→Prop} {all:Array Oper}
theorem z_op1 (hP:∀ch a w,Q (.panic ch) a w → ∀todo,c.Z (lone {c.fr a todo with mode:=.panicking ch} c.cs w)) (hO:∀a w,¬Q .outgrown a w) {next:Act→World→Prop} {i:Nat} {rest:List Nat} {o:Oper} {a:Act} {w:World}
  (hround:c.round=none ∨ ∀cl,o.op ≠ .defer cl) (ho:all[i]? = some o) (hw:Region.wanted o (yielded all a.tmps)=true) (hq:o.wp P a w next Q)
  (ih:∀a w,next a w→c.Z (lone (c.fr a (.inRegion all rest::K)) c.cs w)):c.Z (lone (c.fr a (.inRegion all (i::rest)::K)) c.cs w):=by
    have hstep:=kF (P:=P) (c:=c) (k:=K) (todo:=rest) (w:=w) ho hw hround
    have hfin:∀v,(c.fr a (.inRegion all (i::rest)::K)).finish v=c.fr (a.put o.dst v) (.inRegion all rest::K):=by
     intro v
     have hf:=iS (c:=c) a all i rest K v
     rw [ho] at hf
     exact hf
    unfold Oper.wp Oper.upon at hq
    split at hq
    ·rename_i v w' hr
     refine c.back _ _ (step_lone_go ?_) (ih _ _ hq)
     rw [hstep,←hfin];simp [stepG.apply,hr]
    ·rename_i w' hr
     refine c.back _ _ (step_lone_go ?_) (ih _ _ hq)
     rw [hstep,←hfin];simp [stepG.apply,hr]
    ·rename_i d w' hr
     refine c.back _ _ (step_lone_go ?_) (ih _ _ hq)
     have:({c.fr a (.inRegion all (i::rest)::K) with defers:=d::a.defers}:Frame).finish undef=c.fr ({a with defers:=d::a.defers}.put o.dst undef) (.inRegion all rest::K):=by
      have hf:=iS (c:=c) {a with defers:=d::a.defers} all i rest K undef
      rw [ho] at hf;exact hf
     rw [hstep];simp only [stepG.apply,Sem.runT_eq,hr,GStep.bare_after]
     exact congrArg (fun fr=>GStep.go {frame:=fr,callers:=c.cs,status:=.running,dying:=none} w') this
    ·rename_i f args w' hr
     obtain ⟨e,w'',fr,hR,hsteps,_,hleave⟩:=hq (c.fr a (.inRegion all (i::rest)::K)::c.cs)
     have henter:Go.step P (lone (c.fr a (.inRegion all (i::rest)::K)) c.cs w)=.next (lone (Frame.enter P f args .normal) (c.fr a (.inRegion all (i::rest)::K)::c.cs) w'):=
      step_lone_go (by rw [hstep];simp [stepG.apply,hr,Ctx.fr])
     refine c.back _ _ henter ?_
     cases e with
     |returned v=>
      refine iY c hsteps (c.back _ _ (step_leave_returned hleave) ?_)
      rw [hfin];exact ih _ _ hR
     |panicked ch=>
      refine iY c hsteps (c.back _ _ (step_leave_panicked hleave) ?_)
      exact hP ch a w'' hR _
     |outgrown=>
      obtain ⟨a0,w0,h0⟩:=hR
      exact absurd h0 (hO _ _)
    ·rename_i row args w' hr
     obtain ⟨v,w'',hR,hsteps⟩:=hq (c.fr a (.inRegion all (i::rest)::K)) c.cs
     have henter:Go.step P (lone (c.fr a (.inRegion all (i::rest)::K)) c.cs w)=.next (lone (Frame.ofRow P row args .normal) (c.fr a (.inRegion all (i::rest)::K)::c.cs) w'):=
      step_lone_go (by rw [hstep];simp [stepG.apply,hr,Ctx.fr])
     refine c.back _ _ henter (iY c hsteps ?_)
     rw [hfin];exact ih _ _ hR
    ·rename_i v w' hr
     refine c.back _ _ (step_lone_go ?_) (hP _ a w' hq (.inRegion all (i::rest)::K))
     rw [hstep];simp [stepG.apply,hr];rfl
    exact hq.elim
end one
def upd (l:Fr) (dst:Option Nat) (v:Value):Fr:=
 match dst with
 |some d=>(d,v)::l
 |none=>l
def Eff (P:Program) (n:Nat) (l:Fr) (h:Array Obj) (o:Oper) (V:Value→Array Obj→Prop):Prop:=
 ∀a w,bO n l a→w.heap=h → ∀(next:Act→World→Prop) (Q:Exit→Act→World→Prop),(∀v w',fL w w'→V v w'.heap→next (a.put o.dst v) w')→o.wp P a w next Q
theorem Eff.of_value {n:Nat} {l:Fr} {h:Array Obj} {o:Oper} {V:Value→Array Obj→Prop}
  (hrun:∀a w,bO n l a→w.heap=h → ∃v w',(execOp a.eval o).run P w=.ok (.value v) w'∧fL w w'∧V v w'.heap):Eff P n l h o V:=by
 intro a w ha hh next Q hn
 obtain ⟨v,w',h1,h2,h3⟩:=hrun a w ha hh
 unfold Oper.wp
 rw [h1]
 exact hn v w' h2 h3
theorem Eff.of_skip {n:Nat} {l:Fr} {h:Array Obj} {o:Oper} {V:Value→Array Obj→Prop}
  (hrun:∀a w,bO n l a→w.heap=h → ∃w',(execOp a.eval o).run P w=.ok .skip w'∧fL w w'∧V undef w'.heap):Eff P n l h o V:=by
 intro a w ha hh next Q hn
 obtain ⟨w',h1,h2,h3⟩:=hrun a w ha hh
 unfold Oper.wp
 rw [h1]
 exact hn undef w' h2 h3
theorem Eff.of_val1 {n:Nat} {l:Fr} {h:Array Obj} {o:Oper} {v:Value} {h':Array Obj}
  (hrun:∀a w,bO n l a→w.heap=h → ∃w',(execOp a.eval o).run P w=.ok (.value v) w'∧fL w w'∧w'.heap=h'):Eff P n l h o (fun v' h''=>v'=v∧h''=h'):=
 Eff.of_value fun a w ha hh=>let ⟨w',h1,h2,h3⟩:=hrun a w ha hh;⟨v,w',h1,h2,rfl,h3⟩
theorem Eff.call {n:Nat} {l:Fr} {h:Array Obj} {o:Oper} {cl:Call} {x:Operand} {g:FuncId} {first captured:Array Value} {vs:List Value} {R:Value→Array Obj→Prop}
  (H:FnV P g (first++vs.toArray++captured) h R)
  (hop:o.op=.call cl:=by rfl) (hcal:cl.callee=.value x:=by rfl)
  (hx:ev l x=some (.func (.func g) first captured):=by rfl) (hargs:mQ l cl.args.toList=some vs:=by rfl):Eff P n l h o R:=by
 intro a w ha hh next Q hn
 unfold Oper.wp
 rw [tE hop hcal ha hx hargs H.enters w,Oper.upon_enter]
 refine (H.calls w hh).mono fun e w' ⟨hlk,v,he,hR⟩=>?_
 subst he
 exact hn v w' hlk hR
def jL (o:Oper):Bool:=
 match o.op with
 | .defer _=>false
 |_=>true
section
variable {c:Ctx P} {ds:List Deferred} {k:List SI} {l:Fr} {h:Array Obj}
theorem fE {n:Nat} {a:Act} (ha:bO n l a) {dst:Option Nat} (hd:∀d,dst=some d→d<n) (v:Value):bO n (upd l dst v) (a.put dst v):=by
 cases dst with
 |none=>exact ha
 |some d=>exact ha.put (hd d rfl) v
def dD (n:Nat) (dst:Option Nat):Bool:=
 match dst with
 |some d=>Nat.blt d n
 |none=>true
theorem gJ {n:Nat} {dst:Option Nat} (h:dD n dst=true):∀d,dst=some d→d<n:=by
 intro d e;subst e;exact Nat.blt_eq.mp h
theorem aX.eff {all:Array Oper} {rest:List Oper} {o:Oper} {V:Value→Array Obj→Prop} (H:Eff P c.n l h o V)
  (hr:∀v h',V v h'→aX c ds (.ops all rest::k) (upd l o.dst v) h')
  (hgd:eC l all o=some true:=by rfl) (hdst:dD c.n o.dst=true:=by rfl) (hnd:jL o=true:=by rfl):aX c ds (.ops all (o::rest)::k) l h:=by
 unfold aX
 intro hwf a w ha hd hh hw
 have hwn:=bQ ha hgd
 obtain ⟨i,e1,e2,ho,hwf'⟩:=mY (hwf _ (List.mem_cons_self ..))
 simp only [lN,e1]
 refine z_op1 (Q:=fun _ _ _=>False) (fun _ _ _ hq=>hq.elim) (fun _ _ hq=>hq) (.inr fun cl e=>?_) ho hwn (H a w ha hh (fun a' w'=>c.Z (lone (c.fr a' (.inRegion all (List.range' (i+1) rest.length)::its k)) c.cs w')) _ fun v w' hlk hV=>?_) (fun _ _ hq=>hq)
 ·unfold jL at hnd;rw [e] at hnd;cases hnd
 have hr':=hr v _ hV
 unfold aX at hr'
 have:=hr' (cY hwf' (cH hwf)) (a.put o.dst v) w' (fE ha (gJ hdst) v) (by cases o.dst<;>simpa [Act.put] using hd) rfl (hw.trans hlk)
 simpa only [lN,e2] using this
end
end Go.Fw

namespace Go.Fw
open Go
variable {P:Program}
def At (h:Array Obj) (b:Nat) (cs:Array Value) (e:TypeId):Prop:=h[b]? = some (.cells cs e (0,0))
theorem At.cell {h:Array Obj} {b:Nat} {cs:Array Value} {e:TypeId} (H:At h b cs e) (o:Nat):eK h b o=cs[o]? :=by
 unfold At at H
 simp [eK,H]
def sL (h:Array Obj) (b:Nat) (cs:Array Value) (e:TypeId):Array Obj:=h.setIfInBounds b (.cells cs e (0,0))
@[simp] theorem size_setB (h : Array Obj) (b : Nat) (cs : Array Value) (e : TypeId) : (sL h b cs e).size = h.size := by simp [sL]
theorem xA {h:Array Obj} {b:Nat} (hb:b<h.size) (cs:Array Value) (e:TypeId):At (sL h b cs e) b cs e:=by
 unfold At sL
 rw [Array.getElem?_setIfInBounds_self_of_lt hb]
theorem aJO {h:Array Obj} {b b':Nat} (hne:b'≠b) (cs:Array Value) (e:TypeId):(sL h b cs e)[b']? = h[b']? :=by
 unfold sL
 rw [Array.getElem?_setIfInBounds_ne (by omega)]
theorem At.lt {h:Array Obj} {b:Nat} {cs:Array Value} {e:TypeId} (H:At h b cs e):b<h.size:=(Array.getElem?_eq_some_iff.1 H).1
theorem aGH (h:Array Obj) (cs:Array Value) (e:TypeId):At (h.push (.cells cs e (0,0))) h.size cs e:=by simp [At]
theorem aAT {h:Array Obj} {b:Nat} (hb:b<h.size) (o:Obj):(h.push o)[b]? = h[b]? :=by rw [Array.getElem?_push,if_neg (by omega)]
theorem At.push {h:Array Obj} {b:Nat} {cs:Array Value} {e:TypeId} (H:At h b cs e) (o:Obj):At (h.push o) b cs e:=by
 unfold At;rw [aAT H.lt];exact H
structure bW (B:Nat) (h h':Array Obj):Prop where
 size:h.size≤h'.size
 same:∀k,k<B→h'[k]? = h[k]?
theorem bW.refl (B:Nat) (h:Array Obj):bW B h h:=⟨Nat.le_refl _,fun _ _=>rfl⟩
theorem bW.trans {B:Nat} {a b c:Array Obj} (h:bW B a b) (k:bW B b c):bW B a c:=⟨Nat.le_trans h.size k.size,fun i hi=>(k.same i hi).trans (h.same i hi)⟩
theorem bW.mono {B B':Nat} {a b:Array Obj} (h:bW B a b) (hb:B'≤B):bW B' a b:=⟨h.size,fun i hi=>h.same i (by omega)⟩
theorem bW.push {B:Nat} {h h':Array Obj} (hk:bW B h h') (hB:B≤h'.size) (o:Obj):bW B h (h'.push o):=
 hk.trans ⟨by simp,fun k hk=>aAT (by omega) o⟩
theorem bW.cell {B:Nat} {h h':Array Obj} (hk:bW B h h') {b o:Nat} (hb:b<B):eK h' b o=eK h b o:=by
 unfold eK;rw [hk.same b hb]
theorem aMG {w:World} {g:Nat} {cur:Array Value} {t:TypeId} (hg:w.heap[g]? = some (.cells cur t (0,0))) (cs:Array Value):(w.setRow g cs).heap=sL w.heap g cs t:=by
 apply Array.ext
 ·simp [World.setRow,sL]
 intro i h1 h2
 have e:(w.setRow g cs).heap[i]? = (sL w.heap g cs t)[i]? :=by
  by_cases hi:i=g
  ·subst hi
   rw [setRow_heap w i cur cs t (0,0) hg]
   exact (xA (Array.getElem?_eq_some_iff.1 hg).1 cs t).symm
  rw [setRow_other w g i cs hi,aJO hi]
 rw [Array.getElem?_eq_getElem h1,Array.getElem?_eq_getElem h2] at e
 exact Option.some.inj e
def xZ {P:Program} (T:Tab P) (t:TypeId):Bool:=
 match bU T.und t with
 |some (.struct _)=>true
 |some (.array ..)=>true
 |_=>false
theorem xG (T:Tab P) {t:TypeId} (h:xZ T t=true) (w:World):(isAgg t).run P w=.ok true w:=by
 unfold xZ at h
 cases hu:bU T.und t with
 |none=>simp [hu] at h
 |some u=>
  have hk:=T.okU.look hu
  cases u<;>simp [hu] at h<;>simp only [UD.ok] at hk
  case struct=>obtain ⟨_,hk,_⟩:=hk;simp [isAgg,run_underlying hk]
  case array=>simp [isAgg,run_underlying hk.1]
theorem oI (T:Tab P) {t:TypeId} {i:Inf} (h:eQ T.inf t=some i) (w:World):(sizeOf t).run P w=.ok i.size w:=by
 obtain ⟨j,h1,h2,h3,h4⟩:=T.okI.look h
 exact iE (by simp [h1,h3]) w
theorem aMK (T:Tab P) {t:TypeId} {i:Inf} (h:eQ T.inf t=some i) (w:World):(zeroValue t).run P w=.ok i.zero w:=by
 obtain ⟨j,h1,h2,h3,h4⟩:=T.okI.look h
 simp [zeroValue,typeInfo,h1,h2]
def qG (l:Fr):List (Nat×Operand)→Option (List (Nat×Value))
 | []=>some []
 |(i,x)::q=>match ev l x with
  |some v=>match qG l q with
   |some vs=>some ((i,v)::vs)
   |none=>none
  |none=>none
theorem aCK {n:Nat} {l:Fr} {a:Act} (ha:bO n l a):∀ {q:List (Nat×Operand)} {ps:List (Nat×Value)},qG l q=some ps→q.map (fun p=>(p.1,a.eval p.2))=ps:=by
 intro q
 induction q with
 |nil=>intro ps h;simp [qG] at h;exact h▸rfl
 |cons p q ih=>
  obtain ⟨i,x⟩:=p
  intro ps h
  simp only [qG] at h
  cases hv:ev l x with
  |none=>simp [hv] at h
  |some v=>
   cases hq:qG l q with
   |none=>simp [hv,hq] at h
   |some qs=>simp [hv,hq] at h;subst h;simp [ha.ev hv,ih hq]
section ops
variable {n:Nat} {l:Fr} {h:Array Obj} {o:Oper}
theorem aEE (T:Tab P) {t:TypeId} {x:Operand} {b off:Nat} {v:Value} (hc:eK h b off=some v)
  (hop:o.op=.load t x:=by rfl) (hx:ev l x=some (.pointer (some ⟨b,off,none⟩)):=by rfl) (ht:fY T t=true:=by rfl):Eff P n l h o (fun v' h'=>v'=v∧h'=h):=by
 refine Eff.of_val1 fun a w ha hh=>⟨w,?_,fL.refl w,hh⟩
 have hcell:=kT (w:=w) (hh▸hc)
 simp [execOp,hop,ha.ev hx,Instr.loadAt,Instr.sureAddr,loadVar,nG T ht,Go.load,Sem.run,hcell]
theorem vQ (T:Tab P) {t:TypeId} {x:Operand} {b off:Nat} {vs:List Value} {i:Inf} (hc:∀j v,vs[j]? = some v→eK h b (off+j)=some v) (hlen:vs.length=i.size)
  (hop:o.op=.load t x:=by rfl) (hx:ev l x=some (.pointer (some ⟨b,off,none⟩)):=by rfl) (ht:xZ T t=true:=by rfl) (hi:eQ T.inf t=some i:=by rfl):
  Eff P n l h o (fun v' h'=>v'=.agg vs.toArray∧h'=h):=by
 refine Eff.of_val1 fun a w ha hh=>⟨w,?_,fL.refl w,hh⟩
 have hl:=run_loadCells_list (P:=P) w ⟨b,off,none⟩ vs (fun j v hv=>by rw [jK];exact kT (hh▸hc j v hv))
 rw [hlen] at hl
 simp [execOp,hop,ha.ev hx,Instr.loadAt,Instr.sureAddr,loadVar,xG T ht,oI T hi,hl]
theorem eff_box {t:TypeId} {x:Operand} {v:Value}
  (hop:o.op=.box t x:=by rfl) (hx:ev l x=some v:=by rfl):Eff P n l h o (fun v' h'=>v'=.pointer (some ⟨h.size,0,none⟩)∧h'=h.push (.cells v.cells t (0,0))):=by
 refine Eff.of_val1 fun a w ha hh=>⟨w.alloc (.cells v.cells t),?_,⟨rfl,rfl,rfl⟩,by simp [World.alloc,hh]⟩
 simp [execOp,hop,ha.ev hx,Instr.box,newVar,newRow,hh]
theorem aTW (T:Tab P) {t:TypeId} {i:Inf} (hop:o.op=.alloc t:=by rfl) (hi:eQ T.inf t=some i:=by rfl):
  Eff P n l h o (fun v' h'=>v'=.pointer (some ⟨h.size,0,none⟩)∧h'=h.push (.cells i.zero.cells t (0,0))):=by
 refine Eff.of_val1 fun a w ha hh=>⟨w.alloc (.cells i.zero.cells t),?_,⟨rfl,rfl,rfl⟩,by simp [World.alloc,hh]⟩
 simp [execOp,hop,Instr.alloc,aMK T hi,newVar,newRow,hh]
theorem aYY (T:Tab P) {t e sz:Nat} {x y:Operand} {i:Inf} {n1 m:Int} {k1 k2:IntKind}
  (hop:o.op=.makeSlice t x y:=by rfl) (hx:ev l x=some (.int k1 n1):=by rfl) (hy:ev l y=some (.int k2 m):=by rfl) (ht:bU T.und t=some (.slice e sz):=by rfl) (hi:eQ T.inf e=some i:=by rfl)
  (hn:0≤n1∧n1≤m∧(i.bytes:Int)*m≤281474976710656∧m≤9223372036854775807):
  Eff P n l h o (fun v' h'=>v'=.slice (some ⟨h.size,0,none⟩) n1.toNat m.toNat∧h'=h.push (.cells (madeCells i.zero.cells (m.toNat*i.size)) e (0,0))):=by
 refine Eff.of_val1 fun a w ha hh=>⟨w.alloc (.cells (madeCells i.zero.cells (m.toNat*i.size)) e),?_,⟨rfl,rfl,rfl⟩,by simp [World.alloc,hh]⟩
 obtain ⟨j,h1,h2,h3,h4⟩:=T.okI.look hi
 have hm:=run_make (P:=P) w t e j i.zero (T.okU.look ht).1 h1 h2 k1 k2 n1 m hn.1 hn.2.1 (by rw [h4];exact hn.2.2.1) hn.2.2.2
 rw [h3] at hm
 simp [execOp,hop,ha.ev hx,ha.ev hy,hm,hh]
theorem aDZ (T:Tab P) {t e sz m:Nat} {parts:Array (Nat×Operand)} {ps:List (Nat×Value)} {i:Inf} {cells:Array Value}
  (hop:o.op=.buildSlice t m parts:=by rfl) (ht:bU T.und t=some (.slice e sz):=by rfl) (hi:eQ T.inf e=some i:=by rfl)
  (hps:qG l parts.toList=some ps:=by rfl)
  (hsz:Nat.ble (m*i.size) 16777216=true:=by rfl)
  (hfill:Instr.fill (fun j=>some (j*i.size,i.size)) ((Array.range (m*i.size)).map ((if m*i.size=0 then #[] else i.zero.cells)[· % (if m*i.size=0 then #[] else i.zero.cells).size]!)) ps=some cells:=by rfl):
  Eff P n l h o (fun v' h'=>v'=.slice (some ⟨h.size,0,none⟩) m m∧h'=h.push (.cells cells e (0,0))):=by
 refine Eff.of_val1 fun a w ha hh=>⟨w.alloc (.cells cells e),?_,⟨rfl,rfl,rfl⟩,by simp [World.alloc,hh]⟩
 have hp:(parts.map fun (p:Nat×Operand)=>(p.1,a.eval p.2)).toList=ps:=by
  rw [Array.toList_map];exact aCK ha hps
 have hle:¬m*i.size>2^24:=by have:=Nat.le_of_ble_eq_true hsz;omega
 have hz:=aMK T hi w
 have hs:=oI T hi w
 have hu:=(T.okU.look ht).1
 have key:(Instr.buildSlice t m (parts.map fun (p:Nat×Operand)=>(p.1,a.eval p.2))).run P w=.ok (.slice (some ⟨h.size,0,none⟩) m m) (w.alloc (.cells cells e)):=by
  unfold Instr.buildSlice
  simp only [Sem.run_bind,run_underlying hu,Result.andThen,hs]
  rw [if_neg hle,hp]
  by_cases h0:m*i.size=0
  ·simp only [h0,if_true] at hfill ⊢
   simp only [Sem.run_bind,Sem.run_pure,Result.andThen,hfill]
   simp [newRow,hh]
  simp only [h0,if_false] at hfill ⊢
  simp only [Sem.run_bind,Sem.run_pure,Result.andThen,hz,hfill]
  simp [newRow,hh]
 simp only [execOp,hop,Sem.run_bind,key,Result.andThen,Sem.run_pure]
def Own (base:Nat) (h:Array Obj) (e:TypeId) (size:Nat) (v:Value) (m:Nat) (xs:List Value):Prop:=
 xs.length=m*size ∧
 ((v=.slice none 0 0∧m=0) ∨
  ∃g cap cur,v=.slice (some ⟨g,0,none⟩) m cap∧base≤g∧At h g cur e∧m≤cap∧cap≤maxLen∧cur.size=cap*size∧cur.toList.take (m*size)=xs)
theorem aCG {base:Nat} {w:World} {e:TypeId} {size:Nat} {v:Value} {m:Nat} {xs:List Value}:Own base w.heap e size v m xs↔w.ownsRow base e size v m xs:=Iff.rfl
end ops
/-! a function without a body -/
def Ext (P:Program) (g:FuncId) (args:Array Value) (v:Value):Prop:=∀w,(callFunc g args).run P w=.ok (.value v) w
theorem aRB {l:Fr} {cl:Call} {o:Oper} (hop:o.op=.call cl) {x:Operand} (hcal:cl.callee=.value x) {n:Nat} {a:Act} (ha:bO n l a) {g:FuncId} {first captured:Array Value}
  (hx:ev l x=some (.func (.func g) first captured)) {vs:List Value} (hargs:mQ l cl.args.toList=some vs) {v:Value} (hg:Ext P g (first++vs.toArray++captured) v) (w:World):
  (execOp a.eval o).run P w=.ok (.value v) w:=by
 have e1:=oG ha hargs
 have e2:cl.args.map a.eval=vs.toArray:=by apply Array.ext';simpa using e1
 have hg':=hg w
 rw [Array.append_assoc] at hg'
 simp [execOp,hop,resolve,hcal,ha.ev hx,Deferred.ofValue,invoke,hg',e2]
theorem Eff.ext {n:Nat} {l:Fr} {h:Array Obj} {o:Oper} {cl:Call} {x:Operand} {g:FuncId} {first captured:Array Value} {vs:List Value} {v:Value}
  (H:Ext P g (first++vs.toArray++captured) v)
  (hop:o.op=.call cl:=by rfl) (hcal:cl.callee=.value x:=by rfl)
  (hx:ev l x=some (.func (.func g) first captured):=by rfl) (hargs:mQ l cl.args.toList=some vs:=by rfl):Eff P n l h o (fun v' h'=>v'=v∧h'=h):=
 Eff.of_val1 fun _ w ha hh=>⟨w,aRB hop hcal ha hx hargs H w,fL.refl w,hh⟩
end Go.Fw

namespace Go.Fw
open Go
variable {P:Program}
/-! every order, at a frame of whatever kind -/
section any
variable {c:Ctx P} {K:List Item} {Q:Exit→Act→World→Prop} {all:Array Oper}
structure Lands (c:Ctx P) (K:List Item) (Q:Exit→Act→World→Prop):Prop where
 normal:∀a w,Q .normal a w→c.Z (lone (c.fr a K) c.cs w)
 panic:∀ch a w,Q (.panic ch) a w → ∀todo,c.Z (lone {c.fr a todo with mode:=.panicking ch} c.cs w)
 out:∀a w,¬Q .outgrown a w
theorem z_ops (hL:Lands c K Q) (hround:c.round=none ∨ ∀(i:Nat) (o:Oper),all[i]? = some o → ∀cl,o.op ≠ .defer cl):∀(todo:List Nat) (a:Act) (w:World),wpOps P all Q todo a w →
  c.Z (lone (c.fr a (.inRegion all todo::K)) c.cs w):=by
 intro todo
 induction todo with
 |nil=>
  intro a w hq
  exact c.back _ _ (step_lone_go (by simp [stepG,stepG.exec,Ctx.fr])) (hL.normal a w hq)
 |cons i rest ih=>
  intro a w hq
  simp only [wpOps] at hq
  cases ho:all[i]? with
  |none=>
   simp only [ho] at hq
   have hf:=iS (c:=c) a all i rest K undef
   rw [ho] at hf
   simp only [Option.bind_none,Act.put] at hf
   refine c.back _ _ (step_lone_go ?_) (ih a w hq)
   rw [←hf]
   simp only [Ctx.fr]
   simp [stepG,stepG.exec,ho]
  |some o=>
   simp only [ho] at hq
   by_cases hw:Region.wanted o (yielded all a.tmps)=true
   ·simp only [hw,if_true] at hq
    have hq:o.wp P a w (wpOps P all Q rest) Q:=by
     rcases hq with hq|⟨_,a0,w0,h0⟩
     ·exact hq
     exact absurd h0 (hL.out _ _)
    exact z_op1 hL.panic hL.out (hround.imp id (fun hh cl=>hh i o ho cl)) ho hw hq ih
   simp only [hw,if_false,Bool.false_eq_true] at hq
   have hw':Region.wanted o (yielded all a.tmps)=false:=by simpa using hw
   have hf:=iS (c:=c) a all i rest K undef
   rw [ho] at hf
   simp only [Option.bind_some] at hf
   refine c.back _ _ (step_lone_go ?_) (ih _ _ hq)
   rw [←hf]
   simp only [Ctx.fr] at *
   simp [stepG,stepG.exec,ho,hw']
theorem aPN (hm:P.follows .mixedOrders=true) (hL:Lands c K Q) (hround:c.round=none ∨ ∀(i:Nat) (o:Oper),all[i]? = some o → ∀cl,o.op ≠ .defer cl) {id:Nat} {a:Act} {w:World}
  (H:wpAny P .any all Q all.size (Array.replicate all.size false) a {w with drawn:=w.drawn+1}):c.Z (lone (c.fr a (.code (.region id all true)::K)) c.cs w):=by
 have:=fun t=>wpAny_sound all.size t _ a _ H
 refine c.back _ _ (step_lone_go ?_) (z_ops hL hround _ a _ (this (w.tape w.drawn (.order c.fn id))))
 simp [stepG,stepG.exec,Ctx.fr,Region.schedule,hm,choose,Sem.run,Question.forced,Question.cut,Region.linearise]
end any
/-! a quiet head, a forced tail; plain operations float -/
section tail
variable {ops:Array Oper} {md:Region.Mode} {C:World→Prop} {Q:Exit→Act→World→Prop} {E:Nat→Bool}
theorem aYN {j:Nat} {oi oj:Oper} {v:Value} (hj:ops[j]? = some oj) (hap:oi.apart ops oj=true) (hsj:∀cs b,oj.op ≠ .select cs b)
  {Y:Act→Prop} (keep:∀a,Y a → ∀u,Y (a.put oj.dst u)) {K:Act→Prop} {a:Act} (hy:Y a) (h:qOp P ops C j K (a.put oi.dst v)):
  qOp P ops C j (fun a'=>Y a'∧K (a'.put oi.dst v)) a:=by
 obtain ⟨h1,h2,h3⟩:=Oper.apart_spec hap
 unfold qOp at *
 simp only [hj] at *
 rw [wanted_put oj a oi.dst v h1] at h
 split
 ·rename_i hw
  simp only [hw,if_true] at h
  obtain ⟨u,hu,hn⟩:=h
  refine ⟨u,fun w hw'=>?_,keep a hy u,by rw [←Act.put_comm a v u h2];exact hn⟩
  have:=hu w hw'
  unfold Oper.quietAt at *
  rwa [execOp_put oj hsj a oi.dst v h1] at this
 rename_i hw
 simp only [hw] at h
 exact ⟨keep a hy _,by rw [←Act.put_comm a v undef h2];exact h⟩
def zF (P:Program) (md:Region.Mode) (ops:Array Oper) (C:World→Prop) (Q:Exit→Act→World→Prop) (E:Nat→Bool):Nat→Array Bool→Act→Prop
 |0,listed,a=>Region.ready md ops listed=[] ∧ ∀w,C w→Q .normal a w
 |f+1,listed,a=>(Region.ready md ops listed=[] → ∀w,C w→Q .normal a w) ∧
  ∀i∈Region.ready md ops listed,(E i=true → ∀w,C w→wpOp P ops Q i (wpAny P md ops Q f (listed.setIfInBounds i true)) a w) ∧
   (E i=false→qOp P ops C i (zF P md ops C Q E f (listed.setIfInBounds i true)) a)
theorem aGZ:∀(f:Nat) (listed:Array Bool) (a:Act) (w:World),C w→zF P md ops C Q E f listed a→wpAny P md ops Q f listed a w
 |0,_,_,w,hw,h=>⟨h.1,h.2 w hw⟩
 |f+1,_,_,w,hw,h=>⟨fun h0=>h.1 h0 w hw,fun i hi=>by
   have hh:=h.2 i hi
   cases hE:E i with
   |true=>exact hh.1 hE w hw
   |false=>exact wpOp_of_qOp hw (fun a' w' hw'=>aGZ f _ a' w' hw') (hh.2 hE)⟩
def aMY (md:Region.Mode) (ops:Array Oper) (k:Nat):List Nat→List Nat→List Nat
 | [],S=>S
 |j::js,S=>match ops[j]? with
  |some o=>if o.after.any fun e=>Region.binds md e&&(e.on==k||S.contains e.on) then aMY md ops k js (j::S) else aMY md ops k js S
  |none=>aMY md ops k js S
def gH (md:Region.Mode) (ops:Array Oper) (listed:Array Bool):Prop:=
 ∀j oj,ops[j]? = some oj→listed.getD j false=true → ∀e∈oj.after,Region.binds md e=true→listed.getD e.on false=true
theorem gH.set {i:Nat} {listed:Array Bool} (inv:gH md ops listed) (hi:i∈Region.ready md ops listed):gH md ops (listed.setIfInBounds i true):=by
 obtain ⟨_,oi,hoi,hall⟩:=mem_ready.1 hi
 intro j oj hj hl e he hb
 by_cases hij:i=j
 ·subst hij
  have:oj=oi:=Option.some.inj (hj.symm.trans hoi)
  subst this
  exact getD_set_true (hall e he hb)
 rw [getD_set_ne false hij] at hl
 exact getD_set_true (inv j oj hj hl e he hb)
theorem aBE {k:Nat} {listed:Array Bool} (inv:gH md ops listed) (hk:listed.getD k false=false):
  ∀(js S:List Nat),(∀j∈S,listed.getD j false=false∧j∉Region.ready md ops listed) → ∀j∈aMY md ops k js S,listed.getD j false=false∧j∉Region.ready md ops listed:=by
 intro js
 induction js with
 |nil=>intro S hS j hj;exact hS j hj
 |cons x js ih=>
  intro S hS
  unfold aMY
  split
  ·rename_i o ho
   split
   ·rename_i hany
    refine ih _ fun j hj=>?_
    rcases List.mem_cons.1 hj with rfl|hj
    ·obtain ⟨e,he,hb⟩:=Array.any_eq_true'.1 hany
     simp only [Bool.and_eq_true,Bool.or_eq_true,beq_iff_eq] at hb
     have hon:listed.getD e.on false=false:=by
      rcases hb.2 with h|h
      ·rw [h];exact hk
      exact (hS e.on (by simpa using h)).1
     refine ⟨?_,fun hr=>?_⟩
     ·cases hl:listed.getD j false with
      |false=>rfl
      |true=>have:=inv j o ho hl e he hb.1;rw [hon] at this;cases this
     obtain ⟨_,o',ho',hall⟩:=mem_ready.1 hr
     have:o'=o:=Option.some.inj (ho'.symm.trans ho)
     subst this
     have:=hall e he hb.1
     rw [hon] at this
     cases this
    exact hS j hj
   exact ih _ hS
  exact ih _ hS
theorem aKN {i:Nat} {oi:Oper} {v:Value} (hi:ops[i]? = some oi) (hsel:∀(j:Nat) (o:Oper) cs b,ops[j]? = some o→o.op ≠ .select cs b) (hQ:∀c a w,¬Q (.panic c) a w)
  (hE:E i=false) {pure:Bool} (hguard:pure=true ∨ ∀j,j<ops.size→E j=true→j∈aMY md ops i (List.range ops.size) []):
  ∀(f:Nat) (listed:Array Bool) (a:Act),gH md ops listed →
   (∀j oj,ops[j]? = some oj→j≠i→listed.getD j true=false→(∀e∈oj.after,Region.binds md e=true→e.on≠i)→oi.apart ops oj=true) →
   i∈Region.ready md ops listed→YieldsIn P ops C oi v a→(pure=true→Yields P ops oi v a) →
   zF P md ops C Q E f (listed.setIfInBounds i true) (a.put oi.dst v)→zF P md ops C Q E (f+1) listed a:=by
 intro f
 induction f with
 |zero=>
  intro listed a _ _ hr hy _ H
  refine ⟨fun h=>(by rw [h] at hr;cases hr),fun j hj=>?_⟩
  by_cases hji:j=i
  ·subst hji;exact ⟨fun h=>(by rw [hE] at h;cases h),fun _=>hy.qOp hi H⟩
  have:=ready_mono hj hji
  rw [H.1] at this
  cases this
 |succ f ih=>
  intro listed a inv hfree hr hy hyp H
  refine ⟨fun h=>(by rw [h] at hr;cases hr),fun j hj=>?_⟩
  by_cases hji:j=i
  ·subst hji;exact ⟨fun h=>(by rw [hE] at h;cases h),fun _=>hy.qOp hi H⟩
  have hun:=(mem_ready.1 hr).1
  obtain ⟨hjun,oj,hoj,hall⟩:=mem_ready.1 hj
  have hnot:∀e∈oj.after,Region.binds md e=true→e.on≠i:=fun e he hb heq=>by
   have h1:=hall e he hb
   rw [heq,getD_both hun] at h1
   cases h1
  have hap:=hfree j oj hoj hji hjun hnot
  have hfree':∀k ok,ops[k]? = some ok→k≠i→(listed.setIfInBounds j true).getD k true=false →
    (∀e∈ok.after,Region.binds md e=true→e.on≠i)→oi.apart ops ok=true:=fun k ok hk hki hun hno=>by
   refine hfree k ok hk hki ?_ hno
   by_cases hjk:j=k
   ·subst hjk;exact hjun
   rw [getD_set_ne true hjk] at hun;exact hun
  have h1:=H.2 j (ready_mono hj hji)
  refine ⟨fun hEj w hw=>?_,fun hEj=>?_⟩
  ·rcases hguard with hp|hg
   ·have h2:=wpOp_put hoj hap (fun cs b=>hsel i oi cs b hi) (fun cs b=>hsel j oj cs b hoj) (fun c a w hq=>absurd hq (hQ c _ w)) (hyp hp) (h1.1 hEj w hw)
    refine wpOp_mono (fun a' w' h3=>?_) h2
    refine wpAny_first hi hsel (fun c a w hq=>absurd hq (hQ c _ w)) f (listed.setIfInBounds j true) a' w' hfree' (ready_mono hr (Ne.symm hji)) h3.1 ?_
    rw [Array.setIfInBounds_comm _ _ hji]
    exact h3.2
   exact absurd hj (aBE inv (getD_both hun) (List.range ops.size) [] (by simp) j (hg j (Array.getElem?_eq_some_iff.1 hoj).1 hEj)).2
  have ⟨_,_,h3⟩:=Oper.apart_spec hap
  have keep1:∀(a:Act),(YieldsIn P ops C oi v a∧(pure=true→Yields P ops oi v a)) → ∀u,(YieldsIn P ops C oi v (a.put oj.dst u)∧(pure=true→Yields P ops oi v (a.put oj.dst u))):=fun a hy u=>by
   have e1:=execOp_put oi (fun cs b=>hsel i oi cs b hi) a oj.dst u h3
   have e2:=wanted_put oi a oj.dst u h3
   refine ⟨hy.1.of_same e1 e2,fun hp=>?_⟩
   have:=hy.2 hp
   unfold Yields at *
   rw [e1,e2]
   exact this
  have h2:=aYN hoj hap (fun cs b=>hsel j oj cs b hoj) keep1 ⟨hy,hyp⟩ (h1.2 hEj)
  refine qOp_mono (fun a' h4=>ih (listed.setIfInBounds j true) a' (inv.set hj) hfree' (ready_mono hr (Ne.symm hji)) h4.1.1 h4.1.2 ?_) h2
  rw [Array.setIfInBounds_comm _ _ hji]
  exact h4.2
def dQ (o:Oper):Bool:=
 match o.op with
 | .move _=>true
 | .assign _=>true
 | .pick _ _ _=>true
 | .extract _ _=>true
 | .binOp _ _ _ _ _=>true
 | .unOp _ _ _=>true
 | .index _ _ _=>true
 | .indexAddr _ _ _=>true
 | .slice _ _ _ _ _=>true
 | .fieldAddr _ _ _=>true
 | .field _ _ _=>true
 | .makeInterface _ _=>true
 | .makeFunc _ _ _=>true
 | .nilCheck _=>true
 | .convert _ _ _=>true
 | .call c=>match c.callee with
  | .builtin .len=>true
  | .builtin .max=>true
  | .builtin .min=>true
  |_=>false
 |_=>false
def fU (ops:Array Oper) (k:Nat):Bool:=
 match ops[k]? with
 |some o=>dQ o
 |none=>false
def chk1 (md:Region.Mode) (ops:Array Oper) (eff:List Nat) (K:Array Bool→Bool):List Nat→Array Bool→Bool
 | [],listed=>K listed
 |k::ks,listed=>(Region.ready md ops listed).contains k&&Region.free md ops listed k && !eff.contains k &&
   (fU ops k||(let S:=aMY md ops k (List.range ops.size) [];eff.all fun j=>S.contains j))&&chk1 md ops eff K ks (listed.setIfInBounds k true)
def chk2 (md:Region.Mode) (ops:Array Oper):List Nat→Array Bool→Bool
 | [],listed=>decide (Region.ready md ops listed=[])
 |k::ks,listed=>(if fU ops k then (Region.ready md ops listed).contains k&&Region.free md ops listed k else decide (Region.ready md ops listed=[k]))&&chk2 md ops ks (listed.setIfInBounds k true)
def Region.lexX (ops:Array Oper) (head tail:List Nat):Bool:=
 Region.noSelect ops&&decide (head.length+tail.length=ops.size) &&
 (let eff:=tail.filter fun j=> !fU ops j
  chk1 .any ops eff (fun listed=>(Region.ready .any ops listed).all (fun j=>eff.contains j)&&chk2 .any ops tail listed) head (Array.replicate ops.size false))
def sem1 (P:Program) (ops:Array Oper) (C:World→Prop) (K:Act→Prop):List Nat→Act→Prop
 | [],a=>K a
 |k::ks,a=>∃o v,ops[k]? = some o∧YieldsIn P ops C o v a∧(dQ o=true→Yields P ops o v a)∧sem1 P ops C K ks (a.put o.dst v)
def aON (P:Program) (ops:Array Oper) (Q:Exit→Act→World→Prop):List Nat→Act→World→Prop
 | [],a,w=>Q .normal a w
 |k::ks,a,w=>∃o,ops[k]? = some o∧((dQ o=true ∧ ∃v,Yields P ops o v a∧aON P ops Q ks (a.put o.dst v) w)∨(dQ o=false∧wpOp P ops Q k (aON P ops Q ks) a w))
theorem aKC (hsel:Region.noSelect ops=true) (hQ:∀c a w,¬Q (.panic c) a w):∀(ks:List Nat) (listed:Array Bool) (a:Act) (w:World),chk2 md ops ks listed=true→aON P ops Q ks a w→wpAny P md ops Q ks.length listed a w
 | [],listed,a,w,hc,h=>⟨of_decide_eq_true hc,h⟩
 |k::ks,listed,a,w,hc,h=>by
  obtain ⟨o,ho,h⟩:=h
  simp only [chk2,Bool.and_eq_true] at hc
  have hp:fU ops k=dQ o:=by unfold fU;rw [ho]
  rw [hp] at hc
  rcases h with ⟨hpu,v,hy,h⟩|⟨hpu,h⟩
  ·rw [hpu,if_pos rfl] at hc
   simp only [Bool.and_eq_true] at hc
   exact wpAny_take ho hsel hc.1.2 hc.1.1 (fun c a w hq=>absurd hq (hQ c _ w)) hy (aKC hsel hQ ks _ _ w hc.2 h)
  rw [hpu] at hc
  simp only [Bool.false_eq_true,if_false,decide_eq_true_eq] at hc
  refine ⟨fun h0=>(by rw [hc.1] at h0;cases h0),fun i hi=>?_⟩
  rw [hc.1] at hi
  have hik:i=k:=by simpa using hi
  subst hik
  exact wpOp_mono (fun a' w' h'=>aKC hsel hQ ks _ a' w' hc.2 h') h
theorem aYX (hex:∃w,C w):∀(f:Nat) (listed:Array Bool) (a:Act),(∀w,C w→wpAny P md ops Q f listed a w)→(∀i∈Region.ready md ops listed,E i=true)→zF P md ops C Q E f listed a
 |0,listed,a,h,_=>by
  obtain ⟨w,hw⟩:=hex
  exact ⟨(h w hw).1,fun w hw=>(h w hw).2⟩
 |f+1,listed,a,h,hE=>⟨fun h0 w hw=>(h w hw).1 h0,fun i hi=>⟨fun _ w hw=>(h w hw).2 i hi,fun hf=>by rw [hE i hi] at hf;cases hf⟩⟩
theorem aXT (hsel:Region.noSelect ops=true) (hQ:∀c a w,¬Q (.panic c) a w) {eff:List Nat} {g:Nat} {Kb:Array Bool→Bool} {K:Act→Prop}
  (hK:∀listed a,Kb listed=true→K a→zF P md ops C Q eff.contains g listed a):
  ∀(ks:List Nat) (listed:Array Bool) (a:Act),gH md ops listed→chk1 md ops eff Kb ks listed=true→sem1 P ops C K ks a→zF P md ops C Q eff.contains (ks.length+g) listed a
 | [],listed,a,_,hc,h=>by
  simp only [List.length_nil,Nat.zero_add]
  exact hK listed a hc h
 |k::ks,listed,a,inv,hc,h=>by
  obtain ⟨o,v,ho,hy,hp,h⟩:=h
  simp only [chk1,Bool.and_eq_true] at hc
  obtain ⟨⟨⟨⟨hr,hf⟩,hE⟩,hg⟩,hc'⟩:=hc
  have hpo:fU ops k=dQ o:=by unfold fU;rw [ho]
  rw [hpo] at hg
  have hE':eff.contains k=false:=by rw [Bool.not_eq_true'] at hE;exact hE
  rw [show (k::ks).length+g=(ks.length+g)+1 by simp only [List.length_cons];omega]
  refine aKN ho (Region.noSelect_spec hsel) hQ hE' (pure:=dQ o) ?_ (ks.length+g) listed a inv (Region.free_spec ho hf) (by simpa using hr) hy hp (aXT hsel hQ hK ks _ _ (inv.set (by simpa using hr)) hc' h)
  rw [Bool.or_eq_true] at hg
  rcases hg with hg|hg
  ·exact .inl hg
  refine .inr fun j _ hj=>?_
  have:=List.all_eq_true.1 hg j (by simpa using hj)
  simpa using this
theorem aLZ {Q:Exit→Act→World→Prop} {a:Act} {w:World} (head tail:List Nat) (hB:Region.lexX ops head tail=true) (hQ:∀c a w,¬Q (.panic c) a w) (hw:C w)
  (h:sem1 P ops C (fun a'=>∀w',C w'→aON P ops Q tail a' w') head a):wpAny P .any ops Q ops.size (Array.replicate ops.size false) a w:=by
 simp only [Region.lexX,Bool.and_eq_true,decide_eq_true_eq] at hB
 obtain ⟨⟨hsel,hlen⟩,hc⟩:=hB
 refine aGZ (E:=(tail.filter fun j=> !fU ops j).contains) _ _ _ w hw ?_
 have H:=aXT (P:=P) (C:=C) hsel hQ (g:=tail.length) (K:=fun a'=>∀w',C w'→aON P ops Q tail a' w') (fun listed a hk hs=>?_) head _ a (fun j oj _ hl=>(by rw [getD_replicate_false] at hl;cases hl)) hc h
 ·rwa [hlen] at H
 simp only [Bool.and_eq_true] at hk
 exact aYX ⟨w,hw⟩ _ _ _ (fun w' hw'=>aKC hsel hQ tail listed a w' hk.2 (hs w' hw')) (fun i hi=>List.all_eq_true.1 hk.1 i hi)
end tail
/-! the walk through a quiet region -/
def goQ (T:Tab P) (n:Nat) (h:Array Obj) (all:List Oper) (k:List SI) (ops:Array Oper):List Oper→Fr→(Fr→Prop)→Prop
 | [],l,K=>K l
 |o::rest,l,K=>match o.dst with
  |none=>False
  |some d=>match Nat.blt d n with
   |false=>False
   |true=>match eC l ops o with
    |none=>False
    |some false=>goQ T n h all k ops rest ((d,undef)::l) K
    |some true=>match ev1 T l o.op with
     | .val v=>goQ T n h all k ops rest ((d,v)::l) K
     | .ob p v=>p∧goQ T n h all k ops rest ((d,v)::l) K
     | .tst p i=>match lW all rest k d with
      |true=>(p→goQ T n h all k ops rest ((d,.bool true)::l) K)∧(¬p→goQ T n h all k ops rest ((d,.bool false)::l) K)
      |false=>goQ T n h all k ops rest ((d,.bool (@decide p i))::l) K
     | .ntst p i=>match lW all rest k d with
      |true=>(p→goQ T n h all k ops rest ((d,.bool false)::l) K)∧(¬p→goQ T n h all k ops rest ((d,.bool true)::l) K)
      |false=>goQ T n h all k ops rest ((d,.bool (!@decide p i))::l) K
     | .stop=>match loadAt? T l o.op with
      |some (b,off)=>∃v,eK h b off=some v∧goQ T n h all k ops rest ((d,v)::l) K
      |none=>match o.op with
       | .call cl=>match cl.callee with
        | .value x=>match ev l x with
         |some (.func (.func g) first captured)=>match mQ l cl.args.toList with
          |some vs=>∃v,(FnV P g (first++vs.toArray++captured) h (fun v' h'=>v'=v∧h'=h)∨Ext P g (first++vs.toArray++captured) v)∧goQ T n h all k ops rest ((d,v)::l) K
          |none=>False
         |_=>False
        |_=>False
       |_=>False
theorem aEX {T:Tab P} {l:Fr} {o:Oper} {x:Nat×Nat} (h:loadAt? T l o.op=some x):dQ o=false:=by
 unfold loadAt? at h
 split at h
 ·rename_i t y hop
  unfold dQ
  rw [hop]
 cases h
def vH (ops:List Oper):List Nat→List Oper
 | []=>[]
 |k::ks=>match ops[k]? with
  |some o=>o::vH ops ks
  |none=>[]
def inR (n:Nat):List Nat→Bool
 | []=>true
 |k::ks=>Nat.blt k n&&inR n ks
theorem aZD (T:Tab P) {n:Nat} {h:Array Obj} {all:List Oper} {k:List SI} {ops:List Oper} {w0:World} {ds:List Deferred} {K:Fr→Prop}:∀(ks:List Nat),inR ops.length ks=true → ∀(l:Fr),goQ T n h all k ops.toArray (vH ops ks) l K →
  ∀a,bO n l a→a.defers=ds→sem1 P ops.toArray (fun w=>w.heap=h∧fL w0 w) (fun a'=>∃l',bO n l' a'∧a'.defers=ds∧K l') ks a:=by
 intro ks
 induction ks with
 |nil=>intro _ l hg a ha hd;exact ⟨l,ha,hd,hg⟩
 |cons i ks ih=>
  intro hin l hg a ha hd
  simp only [inR,Bool.and_eq_true] at hin
  obtain ⟨hi,hin⟩:=hin
  have hi:=Nat.blt_eq.mp hi
  have ho:ops[i]? = some ops[i]:=List.getElem?_eq_getElem hi
  simp only [vH,ho] at hg
  generalize ops[i]=o at ho hg
  refine ⟨o,?_⟩
  have ho':ops.toArray[i]? = some o:=by simpa using ho
  unfold goQ at hg
  split at hg
  ·exact hg.elim
  rename_i d hdst
  split at hg
  ·exact hg.elim
  rename_i hlt
  have hlt:=Nat.blt_eq.mp hlt
  have put:∀v,bO n ((d,v)::l) (a.put o.dst v)∧(a.put o.dst v).defers=ds:=fun v=>by rw [hdst];exact ⟨ha.put hlt v,by simpa [Act.put] using hd⟩
  split at hg
  ·exact hg.elim
  ·rename_i hgd
   have hw:=bQ ha hgd
   exact ⟨undef,ho',.inr ⟨hw,rfl⟩,fun _=>.inr ⟨hw,rfl⟩,ih hin _ hg _ (put _).1 (put _).2⟩
  rename_i hgd
  have hw:=bQ ha hgd
  have hk:=fun w=>aKK T n l o.op a w o ha rfl
  have val:∀v,(∀w,(execOp a.eval o).run P w=.ok (.value v) w)→goQ T n h all k ops.toArray (vH ops ks) ((d,v)::l) K →
    ∃v,ops.toArray[i]? = some o∧YieldsIn P ops.toArray (fun w=>w.heap=h∧fL w0 w) o v a∧(dQ o=true→Yields P ops.toArray o v a)∧sem1 P ops.toArray (fun w=>w.heap=h∧fL w0 w) (fun a'=>∃l',bO n l' a'∧a'.defers=ds∧K l') ks (a.put o.dst v):=fun v hv hg=>
   ⟨v,ho',.inl ⟨hw,fun w _=>by unfold Oper.quietAt;rw [hv w];exact ⟨rfl,rfl⟩⟩,fun _=>.inl ⟨hw,hv⟩,ih hin _ hg _ (put v).1 (put v).2⟩
  split at hg
  ·rename_i v hv;simp only [hv,Pu.ok] at hk;exact val v hk hg
  ·rename_i p v hv;simp only [hv,Pu.ok] at hk;exact val v (fun w=>hk w hg.1) hg.2
  ·rename_i p i hv
   simp only [hv,Pu.ok] at hk
   split at hg
   ·by_cases hp:p
    ·simp only [hp,decide_true] at hk;exact val _ hk (hg.1 hp)
    simp only [hp,decide_false] at hk;exact val _ hk (hg.2 hp)
   exact val _ hk hg
  ·rename_i p i hv
   simp only [hv,Pu.ok] at hk
   split at hg
   ·by_cases hp:p
    ·simp only [hp,decide_true,Bool.not_true] at hk;exact val _ hk (hg.1 hp)
    simp only [hp,decide_false,Bool.not_false] at hk;exact val _ hk (hg.2 hp)
   exact val _ hk hg
  split at hg
  ·rename_i hl
   obtain ⟨v,hc,hg⟩:=hg
   refine ⟨v,ho',.inl ⟨hw,fun w hw=>?_⟩,fun hp=>(by rw [aEX hl] at hp;cases hp),ih hin _ hg _ (put v).1 (put v).2⟩
   unfold Oper.quietAt
   rw [aFP hl ha (hw.1▸hc)]
   exact ⟨rfl,rfl⟩
  split at hg
  ·rename_i cl hop
   split at hg
   ·rename_i x hcal
    have hnp:dQ o=false:=by unfold dQ;rw [hop];simp only [hcal]
    split at hg
    ·rename_i g first captured hx
     split at hg
     ·rename_i vs hargs
      obtain ⟨v,H,hg⟩:=hg
      refine ⟨v,ho',.inl ⟨hw,fun w hw=>?_⟩,fun hp=>(by rw [hnp] at hp;cases hp),ih hin _ hg _ (put v).1 (put v).2⟩
      unfold Oper.quietAt
      rcases H with H|H
      case inr=>rw [aRB hop hcal ha hx hargs H w];exact ⟨rfl,rfl⟩
      rw [tE hop hcal ha hx hargs H.enters w]
      exact ⟨rfl,(H.calls w hw.1).mono fun e w' ⟨hlk,v',he,hv,hh⟩=>⟨by rw [he,hv],hh,hw.2.trans hlk⟩⟩
     exact hg.elim
    exact hg.elim
   exact hg.elim
  exact hg.elim
section rules
variable {c:Ctx P} {ds:List Deferred} {k:List SI} {l:Fr} {h:Array Obj}
def xJ:List Oper→Bool
 | []=>true
 |o::rest=>match o.op with
  | .defer _=>false
  |_=>xJ rest
theorem zG {l:List Oper} (hb:xJ l=true):∀(i:Nat) (o:Oper),l[i]? = some o → ∀cl,o.op ≠ .defer cl:=by
 induction l with
 |nil=>intro i o h;simp at h
 |cons x l ih=>
  intro i o ho cl e
  unfold xJ at hb
  cases i with
  |zero=>simp at ho;subst ho;rw [e] at hb;cases hb
  |succ i=>
   simp at ho
   split at hb
   ·cases hb
   exact ih hb i o ho cl e
def goT (T:Tab P) (n:Nat) (ops:Array Oper):List Oper→Fr→Array Obj→(Fr→Array Obj→Prop)→Prop
 | [],l,h,K=>K l h
 |o::rest,l,h,K=>match eC l ops o with
  |none=>False
  |some false=>match o.dst with
   |none=>goT T n ops rest l h K
   |some d=>match Nat.blt d n with
    |true=>goT T n ops rest ((d,undef)::l) h K
    |false=>False
  |some true=>match dQ o with
   |true=>match o.dst with
    |none=>False
    |some d=>match Nat.blt d n with
     |false=>False
     |true=>match ev1 T l o.op with
      | .val v=>goT T n ops rest ((d,v)::l) h K
      | .ob p v=>p∧goT T n ops rest ((d,v)::l) h K
      | .tst p i=>goT T n ops rest ((d,.bool (@decide p i))::l) h K
      | .ntst p i=>goT T n ops rest ((d,.bool (!@decide p i))::l) h K
      | .stop=>False
   |false=>dD n o.dst=true ∧ ∃V,Eff P n l h o V ∧ ∀v h',V v h'→goT T n ops rest (upd l o.dst v) h' K
theorem aYH (T:Tab P) {n:Nat} {ops:List Oper} {w0:World} {ds:List Deferred} {K:Fr→Array Obj→Prop} {Q:Exit→Act→World→Prop}
  (hQ:∀l h a w,K l h→bO n l a→a.defers=ds→w.heap=h→fL w0 w→Q .normal a w):∀(ks:List Nat),inR ops.length ks=true → ∀(l:Fr) (h:Array Obj),goT T n ops.toArray (vH ops ks) l h K →
  ∀a w,bO n l a→a.defers=ds→w.heap=h→fL w0 w→aON P ops.toArray Q ks a w:=by
 intro ks
 induction ks with
 |nil=>intro _ l h hg a w ha hd hh hw;exact hQ l h a w hg ha hd hh hw
 |cons i ks ih=>
  intro hin l h hg a w ha hd hh hw
  simp only [inR,Bool.and_eq_true] at hin
  obtain ⟨hi,hin⟩:=hin
  have hi:=Nat.blt_eq.mp hi
  have ho:ops[i]? = some ops[i]:=List.getElem?_eq_getElem hi
  simp only [vH,ho] at hg
  generalize ops[i]=o at ho hg
  have ho':ops.toArray[i]? = some o:=by simpa using ho
  refine ⟨o,ho',?_⟩
  unfold goT at hg
  split at hg
  ·exact hg.elim
  ·rename_i hgd
   have hwn:=bQ ha hgd
   have H:aON P ops.toArray Q ks (a.put o.dst undef) w:=by
    split at hg
    ·rename_i hdst
     rw [hdst]
     exact ih hin _ _ hg _ w ha hd hh hw
    rename_i d hdst
    split at hg
    ·rename_i hlt
     rw [hdst]
     exact ih hin _ _ hg _ w (ha.put (Nat.blt_eq.mp hlt) _) (by simpa [Act.put] using hd) hh hw
    exact hg.elim
   cases hp:dQ o with
   |true=>exact .inl ⟨rfl,undef,.inr ⟨hwn,rfl⟩,H⟩
   |false=>
    refine .inr ⟨rfl,?_⟩
    unfold wpOp
    simp only [ho',hwn,Bool.false_eq_true,if_false]
    exact H
  rename_i hgd
  have hwn:=bQ ha hgd
  split at hg
  ·rename_i hp
   refine .inl ⟨hp,?_⟩
   split at hg
   ·exact hg.elim
   rename_i d hdst
   split at hg
   ·exact hg.elim
   rename_i hlt
   have hlt:=Nat.blt_eq.mp hlt
   have hk:=fun w=>aKK T n l o.op a w o ha rfl
   have val:∀v,(∀w,(execOp a.eval o).run P w=.ok (.value v) w)→goT T n ops.toArray (vH ops ks) ((d,v)::l) h K →
     ∃v,Yields P ops.toArray o v a∧aON P ops.toArray Q ks (a.put o.dst v) w:=fun v hv hg=>
    ⟨v,.inl ⟨hwn,hv⟩,ih hin _ _ hg _ w (by rw [hdst];exact ha.put hlt v) (by rw [hdst];simpa [Act.put] using hd) hh hw⟩
   split at hg
   ·rename_i v hv;simp only [hv,Pu.ok] at hk;exact val v hk hg
   ·rename_i p v hv;simp only [hv,Pu.ok] at hk;exact val v (fun w=>hk w hg.1) hg.2
   ·rename_i p i hv;simp only [hv,Pu.ok] at hk;exact val _ hk hg
   ·rename_i p i hv;simp only [hv,Pu.ok] at hk;exact val _ hk hg
   exact hg.elim
  rename_i hp
  refine .inr ⟨hp,?_⟩
  obtain ⟨hdst,V,hE,hn⟩:=hg
  unfold wpOp
  simp only [ho',hwn,if_true]
  refine .inl (hE a w ha hh _ _ fun v w' hlk hV=>?_)
  exact ih hin _ _ (hn v _ hV) (a.put o.dst v) w' (fE ha (gJ hdst) v) (by cases o.dst<;>simpa [Act.put] using hd) rfl (hw.trans hlk)
def Region.lexY (ops:List Oper) (head tail:List Nat):Bool:=Region.lexX ops.toArray head tail&&inR ops.length head&&inR ops.length tail
theorem aHX {ops:Array Oper} {C:World→Prop} {K K':Act→Prop} (h:∀a,K a→K' a):∀(ks:List Nat) (a:Act),sem1 P ops C K ks a→sem1 P ops C K' ks a
 | [],a,hs=>h a hs
 |_::ks,_,⟨o,v,h1,h2,h3,h4⟩=>⟨o,v,h1,h2,h3,aHX h ks _ h4⟩
theorem aX.drawn (T:Tab P) {id:Nat} {ops:List Oper} (head tail:List Nat) (hB:Region.lexY ops head tail=true)
  (H:goQ T c.n h ops k ops.toArray (vH ops head) l (fun l'=>goT T c.n ops.toArray (vH ops tail) l' h (fun l' h'=>aX c ds k l' h'))) (hnd:xJ ops=true:=by rfl):
  aX c ds (.code (.region id ops.toArray true)::k) l h:=by
 unfold aX
 intro hwf a w ha hd hh hw
 simp only [Region.lexY,Bool.and_eq_true] at hB
 obtain ⟨⟨hB,hi1⟩,hi2⟩:=hB
 refine aPN (K:=its k) (Q:=fun e a' w'=>e=.normal∧c.Z (lone (c.fr a' (its k)) c.cs w')) T.mixed ⟨fun _ _ hq=>hq.2,fun _ _ _ hq=>(by cases hq.1),fun _ _ hq=>(by cases hq.1)⟩ (.inr fun i o ho=>zG hnd i o (by simpa using ho)) ?_
 refine aLZ (C:=fun w'=>w'.heap=h∧fL c.w0 w') head tail hB (fun _ _ _ hq=>by cases hq.1) ⟨hh,hw.trans ⟨rfl,rfl,rfl⟩⟩ ?_
 refine aHX (fun a' ⟨l',hl',hd',hK⟩ w' hw'=>?_) _ _ (aZD T (w0:=c.w0) (ds:=ds) head hi1 l H a ha hd)
 refine aYH T (w0:=c.w0) (ds:=ds) (fun l2 h2 a2 w2 hK2 ha2 hd2 hh2 hw2=>⟨rfl,?_⟩) tail hi2 l' h hK a' w' hl' hd' hw'.1 hw'.2
 unfold aX at hK2
 exact hK2 (cH hwf) a2 w2 ha2 hd2 hh2 hw2
end rules
end Go.Fw

namespace Go.Fw
open Go
theorem Own.push {base:Nat} {h:Array Obj} {e:TypeId} {sz:Nat} {v:Value} {m:Nat} {xs:List Value} (H:Own base h e sz v m xs) (o:Obj):Own base (h.push o) e sz v m xs:=by
 obtain ⟨hl,H⟩:=H
 refine ⟨hl,?_⟩
 rcases H with H|⟨g,cap,cur,h1,h2,h3,h4⟩
 ·exact .inl H
 exact .inr ⟨g,cap,cur,h1,h2,h3.push o,h4⟩
theorem Own.ge {base:Nat} {h:Array Obj} {e:TypeId} {sz:Nat} {v:Value} {m:Nat} {xs:List Value} (H:Own base h e sz v m xs) {g:Nat} (hg:v.ownBlock=some g):base≤g:=by
 obtain ⟨hl,H⟩:=H
 rcases H with ⟨rfl,_⟩|⟨g',cap,cur,rfl,h2,_⟩
 ·cases hg
 cases hg;exact h2
theorem Own.shape {base:Nat} {h:Array Obj} {e:TypeId} {sz:Nat} {v:Value} {m:Nat} {xs:List Value} (H:Own base h e sz v m xs):∃a cap,v=.slice a m cap:=by
 obtain ⟨hl,H⟩:=H
 rcases H with ⟨rfl,rfl⟩|⟨g',cap,cur,rfl,h2,_⟩
 ·exact ⟨_,_,rfl⟩
 exact ⟨_,_,rfl⟩
theorem Own.keeps {base:Nat} {h h':Array Obj} {e:TypeId} {sz:Nat} {v:Value} {m:Nat} {xs:List Value} (H:Own base h e sz v m xs) (hb:base≤h.size) (h1:h.size≤h'.size) (h2:∀k,k<h.size→some k≠v.ownBlock→h'[k]? = h[k]?):bW base h h':=
 ⟨h1,fun k hk=>h2 k (by omega) fun e=>by have:=H.ge e.symm;omega⟩
theorem Own.cells {base:Nat} {h:Array Obj} {e:TypeId} {v:Value} {m:Nat} {xs:List Value} (H:Own base h e 1 v m xs) {a:Option Addr} {cap:Nat} (hv:v=.slice a m cap) (hm:0<m):
  ∃g,a=some ⟨g,0,none⟩ ∧ ∀j u,xs[j]? = some u→eK h g (0+j)=some u:=by
 obtain ⟨hl,H⟩:=H
 rcases H with ⟨e1,h0⟩|⟨g,cap',cur,e1,h2,hat,h3,h4,h5,h6⟩
 ·omega
 rw [hv] at e1
 cases e1
 refine ⟨g,rfl,fun j u hj=>?_⟩
 rw [hat.cell,Nat.zero_add]
 rw [←h6] at hj
 have hjm:j<m:=by
  rcases Nat.lt_or_ge j m with h|h
  ·exact h
  rw [List.getElem?_eq_none (by simp;omega)] at hj;cases hj
 rw [List.getElem?_take_of_lt (by omega)] at hj
 simpa using hj
end Go.Fw

namespace Go.Fw
open Go
variable {P:Program} {c:Ctx P} {ds:List Deferred} {k:List SI} {l:Fr} {h:Array Obj}
end Go.Fw

namespace Go.Fw
open Go
variable {P:Program}
def wY (P:Program) (l:Nat) (args:Array Value) (h:Array Obj) (R:Value→Array Obj→Prop):Prop:=
 ∀w:World,w.heap=h → ∃fn tmps assign body,(invoke (.fn (.yield l) #[]) args).run P w=.ok (.round l fn tmps assign body) w ∧
  ∀(c:Frame) (cs:List Frame),∃v w',(fL w w'∧R v w'.heap)∧Steps P (lone (Frame.round l fn tmps assign body .normal) (c::cs) w) (lone (c.finish v) cs w')
theorem wY.mono {l:Nat} {args:Array Value} {h:Array Obj} {R R':Value→Array Obj→Prop} (H:wY P l args h R) (hr:∀v h',R v h'→R' v h'):wY P l args h R':=
 fun w hw=>let ⟨fn,tmps,asg,body,h1,h2⟩:=H w hw;⟨fn,tmps,asg,body,h1,fun c cs=>let ⟨v,w',⟨h3,h4⟩,h5⟩:=h2 c cs;⟨v,w',⟨h3,hr _ _ h4⟩,h5⟩⟩
/-! the rounds -/
def aVK (P:Program) (f n l:Nat) (w0:World) (fr:Frame) (cs:List Frame) (R:Value→Array Obj→Prop):Ctx P where
 Z:=fun m=>∃v w',(fL w0 w'∧R v w'.heap)∧Steps P m (lone (fr.finish v) cs w')
 back:=fun _ _ hs ⟨v,w',hR,h⟩=>⟨v,w',hR,.head hs h⟩
 fn:=f
 kind:=.normal
 round:=some l
 cs:=fr::cs
 w0:=w0
 n:=n
section
variable {c:Ctx P} {ds:List Deferred} {k:List SI} {L:Fr} {h:Array Obj} {l:Nat} {r:Loop}
theorem aX.beginRound (hl:h[l]? = some (.loop r)) (hs:r.state=.ready) (hr:aX c ds k L (h.setIfInBounds l (.loop {r with state:=.busy}))) (hc:c.round=some l:=by rfl):
  aX c ds (.item .beginRound::k) L h:=by
 unfold aX at hr ⊢
 intro hwf a w ha hd hh hw
 have hb:=run_beginRound (P:=P) (w:=w) (by rw [hh];exact hl) hs
 refine c.back _ _ (step_lone_go ?_) (hr (cH hwf) a (w.putObj l (.loop {r with state:=.busy})) ha hd (by simp [World.putObj,hh]) (hw.trans ⟨rfl,rfl,rfl⟩))
 simp [its,SI.it,stepG,stepG.exec,stepG.apply,Ctx.fr,hc,Sem.runT_eq,hb,Result.andThen,Frame.finish]
variable {f n:Nat} {w0:World} {fr:Frame} {cs:List Frame} {R:Value→Array Obj→Prop}
end
/-! the statement -/
structure Rec (c:Ctx P) (l:Fr) (D:Nat) (params:Array Tmp) (assign body:Code) (r:Loop):Prop where
 state:r.state=.ready
 pending:r.pending=none
 fn:r.fn=c.fn
 params:r.params=params
 assign:r.assign=assign
 body:r.body=body
 defers:r.defers=D
 holds:bO c.n l {tmps:=r.tmps,defers:=[]}
def aKY (ps:List Nat) (vs:List Value) (l:Fr):Fr:=
 match ps,vs with
 |p::ps,v::vs=>aKY ps vs ((p,v)::l)
 |_,_=>l
theorem aIH {n:Nat} {ds:List Deferred}:∀(ps:List Nat) (vs:List Value) (l:Fr) (tmps:Array Value),bO n l {tmps:=tmps,defers:=ds}→ps.all (fun p=>Nat.blt p n)=true →
  bO n (aKY ps vs l) {tmps:=(ps.zip vs).foldl (fun t (x:Nat×Value)=>t.setIfInBounds x.1 x.2) tmps,defers:=ds}
 | [],vs,l,tmps,h,_=>by cases vs<;>exact h
 |p::ps,[],l,tmps,h,_=>h
 |p::ps,v::vs,l,tmps,h,hp=>by
  simp only [List.all_cons,Bool.and_eq_true] at hp
  exact aIH ps vs _ _ (h.put (Nat.blt_eq.mp hp.1) v) hp.2
section
variable {c:Ctx P} {ds:List Deferred} {k:List SI} {l:Fr} {h:Array Obj}
theorem wY.of {c:Ctx P} {L:Fr} {D y:Nat} {params:Array Tmp} {assign body:Code} {r:Loop} (hrec:Rec c L D params assign body r) {r1:Loop} (hr1:r1.fn=r.fn∧r1.tmps=r.tmps∧r1.params=r.params∧r1.assign=r.assign∧r1.body=r.body)
  (hl:h[y]? = some (.loop r1)) {vs:List Value} {R:Value→Array Obj→Prop}
  (H:∀w0 fr cs,aX (aVK P c.fn c.n y w0 fr cs R) [] [.code assign,.item .beginRound,.code body] (aKY params.toList vs L) h)
  (hlen:Nat.beq vs.length params.toList.length=true:=by rfl) (hps:params.toList.all (fun p=>Nat.blt p c.n)=true:=by rfl):wY P y vs.toArray h R:=by
 intro w hw
 obtain ⟨q1,q2,q3,q4,q5⟩:=hr1
 have hlen':vs.length=params.toList.length:=Nat.eq_of_beq_eq_true hlen
 have hy:=run_yield (P:=P) (w:=w) (l:=y) (r:=r1) (args:=vs.toArray) (by rw [hw];exact hl) (by rw [q3,hrec.params];simpa using hlen')
 refine ⟨r1.fn,(r1.params.zip vs.toArray).foldl (fun tmps (x:Nat×Value)=>tmps.setIfInBounds x.1 x.2) r1.tmps,r1.assign,r1.body,hy,fun fr cs=>?_⟩
 have hr:=H w fr cs
 unfold aX at hr
 have hz:bO c.n (aKY params.toList vs L) {tmps:=(r1.params.zip vs.toArray).foldl (fun tmps (x:Nat×Value)=>tmps.setIfInBounds x.1 x.2) r1.tmps,defers:=[]}:=by
  have:=aIH params.toList vs L r.tmps hrec.holds hps
  rw [q2,q3,hrec.params]
  have e:(params.zip vs.toArray).foldl (fun tmps (x:Nat×Value)=>tmps.setIfInBounds x.1 x.2) r.tmps=(params.toList.zip vs).foldl (fun t (x:Nat×Value)=>t.setIfInBounds x.1 x.2) r.tmps:=by
   rw [←Array.foldl_toList];simp
  rw [e];exact this
 have:=hr (fun s hs=>by
  simp only [List.mem_cons,List.not_mem_nil,or_false] at hs
  rcases hs with rfl|rfl|rfl<;>trivial) _ w hz rfl hw (fL.refl w)
 rw [q1,hrec.fn,q4,hrec.assign,q5,hrec.body]
 exact this
end
/-! the return -/
def aIT {P:Program} (T:Tab P) (l:Fr) (h:Array Obj):List ResultVar→List Value→Prop
 | [],[]=>True
 | .tmp t::rs,v::vs=>look l t=some v∧aIT T l h rs vs
 | .cell a t::rs,v::vs=>(∃b o,look l a=some (.pointer (some ⟨b,o,none⟩))∧fY T t=true∧eK h b o=some v)∧aIT T l h rs vs
 |_,_=>False
theorem aAR (T:Tab P) {fn:Func} {n:Nat} {l:Fr} {a:Act} (ha:bO n l a) {w:World} {vs:List Value} (hv:aIT T l w.heap fn.results.toList vs):
  (results fn a.tmps).run P w=.ok (tup vs) w:=by
 have key:∀(rs:List ResultVar) (vs:List Value),aIT T l w.heap rs vs→(rs.mapM (jE a.tmps)).run P w=.ok vs w:=by
  intro rs
  induction rs with
  |nil=>intro vs h;cases vs with
   |nil=>simp
   |cons=>exact h.elim
  |cons r rs ih=>
   intro vs h
   cases vs with
   |nil=>cases r<;>exact h.elim
   |cons v vs=>
    cases r with
    |tmp t=>
     obtain ⟨h1,h2⟩:=h
     have hrs:=ih vs h2
     have h0:(jE a.tmps (.tmp t)).run P w=.ok v w:=by simp [jE,ha.get t v h1]
     simp only [List.mapM_cons,Sem.run_bind,h0,hrs,Result.andThen,Sem.run_pure]
    |cell p t=>
     obtain ⟨⟨b,o,h1,h2,h3⟩,h4⟩:=h
     have hrs:=ih vs h4
     have hcell:=kT h3
     have h0:(jE a.tmps (.cell p t)).run P w=.ok v w:=by
      simp [jE,ha.get p _ h1,asAddr,loadVar,nG T h2,Go.load,Sem.run,hcell]
     simp only [List.mapM_cons,Sem.run_bind,h0,hrs,Result.andThen,Sem.run_pure]
 have hk:=key fn.results.toList vs hv
 rw [zB,←Array.toArray_toList (xs:=fn.results),List.mapM_toArray]
 simp only [Sem.run_bind,map_eq_pure_bind,hk,Sem.run_pure,Result.andThen]
 cases vs with
 |nil=>simp [tup]
 |cons v vs=>cases vs<;>simp [tup]
section ret
variable {f n:Nat} {w0:World} {cs:List Frame} {R:Ending→Array Obj→Prop} {k:List SI} {l:Fr} {h h':Array Obj} {ds:List Deferred}
end ret
/-! blocks beside -/
theorem At.put {h:Array Obj} {b k:Nat} {cs:Array Value} {e:TypeId} (H:At h b cs e) (hne:b≠k) (o:Obj):At (h.setIfInBounds k o) b cs e:=by
 unfold At;rw [Array.getElem?_setIfInBounds_ne (by omega)];exact H
theorem bW.put {B:Nat} {h h':Array Obj} (hk:bW B h h') {b:Nat} (hB:B≤b) (o:Obj):bW B h (h'.setIfInBounds b o):=
 hk.trans ⟨by simp,fun k hk=>by rw [Array.getElem?_setIfInBounds_ne (by omega)]⟩
end Go.Fw

namespace Go.Fw
open Go
variable {P:Program}
def cN (o:Oper):Bool:=
 match o.op with
 | .load _ _=>true
 | .build _ _=>true
 |_=>dQ o
def cT (ops:Array Oper) (k:Nat):Bool:=
 match ops[k]? with
 |some o=>cN o
 |none=>false
section any
variable {ops:Array Oper} {md:Region.Mode} {Q:Exit→Act→World→Prop}
def pY (md:Region.Mode) (ops:Array Oper) (k:Nat):List Nat:=aMY md ops k (List.range ops.size) []
abbrev uP:=List (Nat×(World→Prop))
def After (md:Region.Mode) (ops:Array Oper) (pins:uP) (i:Nat) (w w':World):Prop:=
 (cT ops i=true→w'=w)∧(cT ops i=false → ∀p∈pins,i∈pY md ops p.1∨p.2 w')
def rZ (P:Program) (md:Region.Mode) (ops:Array Oper) (Q:Exit→Act→World→Prop) (pins:uP):Nat→Array Bool→Act→World→Prop
 |0,listed,a,w=>Region.ready md ops listed=[]∧Q .normal a w
 |f+1,listed,a,w=>(Region.ready md ops listed=[]→Q .normal a w) ∧
  ∀i∈Region.ready md ops listed,wpOp P ops Q i (fun a' w'=>After md ops pins i w w'∧rZ P md ops Q pins f (listed.setIfInBounds i true) a' w') a w
theorem yM {pins:uP}:∀(f:Nat) (listed:Array Bool) (a:Act) (w:World),rZ P md ops Q pins f listed a w→wpAny P md ops Q f listed a w
 |0,_,_,_,h=>h
 |f+1,_,_,_,h=>⟨h.1,fun i hi=>wpOp_mono (fun a' w' h'=>yM f _ a' w' h'.2) (h.2 i hi)⟩
theorem vX {p:Nat×(World→Prop)} {pins:uP}:∀(f:Nat) (listed:Array Bool) (a:Act) (w:World),rZ P md ops Q (p::pins) f listed a w→rZ P md ops Q pins f listed a w
 |0,_,_,_,h=>h
 |f+1,_,_,_,h=>⟨h.1,fun i hi=>wpOp_mono (fun a' w' h'=>⟨⟨h'.1.1,fun hf q hq=>h'.1.2 hf q (List.mem_cons_of_mem _ hq)⟩,vX f _ a' w' h'.2⟩) (h.2 i hi)⟩
theorem aKE {pins:uP} {C:World→Prop} {i:Nat} {oi:Oper} {v:Value} (hi:ops[i]? = some oi) (hsel:∀(j:Nat) (o:Oper) cs b,ops[j]? = some o→o.op ≠ .select cs b)
  (hQ:∀c a w,¬Q (.panic c) a w) (hfl:cT ops i=true):
  ∀(f:Nat) (listed:Array Bool) (a:Act) (w:World),gH md ops listed →
   (∀j oj,ops[j]? = some oj→j≠i→listed.getD j true=false→(∀e∈oj.after,Region.binds md e=true→e.on≠i)→oi.apart ops oj=true) →
   i∈Region.ready md ops listed→YieldsIf P ops C oi v a→C w →
   rZ P md ops Q ((i,C)::pins) f (listed.setIfInBounds i true) (a.put oi.dst v) w→rZ P md ops Q pins (f+1) listed a w:=by
 intro f
 induction f with
 |zero=>
  intro listed a w _ _ hr hy hS H
  refine ⟨fun h=>(by rw [h] at hr;cases hr),fun j hj=>?_⟩
  by_cases hji:j=i
  ·subst hji;exact hy.wpOp hi hS ⟨⟨fun _=>rfl,fun h=>(by rw [hfl] at h;cases h)⟩,H⟩
  have:=ready_mono hj hji
  rw [H.1] at this
  cases this
 |succ f ih=>
  intro listed a w inv hfree hr hy hS H
  refine ⟨fun h=>(by rw [h] at hr;cases hr),fun j hj=>?_⟩
  by_cases hji:j=i
  ·subst hji;exact hy.wpOp hi hS ⟨⟨fun _=>rfl,fun h=>(by rw [hfl] at h;cases h)⟩,vX _ _ _ _ H⟩
  have h1:=H.2 j (ready_mono hj hji)
  obtain ⟨hjun,oj,hoj,hall⟩:=mem_ready.1 hj
  have hun:=(mem_ready.1 hr).1
  have hnot:∀e∈oj.after,Region.binds md e=true→e.on≠i:=fun e he hb heq=>by
   have h1:=hall e he hb
   rw [heq,getD_both hun] at h1
   cases h1
  have h2:=wpOp_putIf hoj (hfree j oj hoj hji hjun hnot) (fun cs b=>hsel i oi cs b hi) (fun cs b=>hsel j oj cs b hoj) (fun c a w hq=>absurd hq (hQ c _ w)) hy h1
  have hfree':∀k ok,ops[k]? = some ok→k≠i→(listed.setIfInBounds j true).getD k true=false →
    (∀e∈ok.after,Region.binds md e=true→e.on≠i)→oi.apart ops ok=true:=fun k ok hk hki hun hno=>by
   refine hfree k ok hk hki ?_ hno
   by_cases hjk:j=k
   ·subst hjk;exact hjun
   rw [getD_set_ne true hjk] at hun;exact hun
  refine wpOp_mono (fun a' w' h3=>?_) h2
  obtain ⟨hy',⟨ha1,ha2⟩,hrest⟩:=h3
  have hC:C w':=by
   cases hfj:cT ops j with
   |true=>rw [ha1 hfj];exact hS
   |false=>
    rcases ha2 hfj (i,C) (List.mem_cons_self ..) with hd|hc
    ·exact absurd hj (aBE inv (getD_both hun) (List.range ops.size) [] (by simp) j hd).2
    exact hc
  refine ⟨⟨ha1,fun hf q hq=>ha2 hf q (List.mem_cons_of_mem _ hq)⟩,ih (listed.setIfInBounds j true) a' w' (inv.set hj) hfree' (ready_mono hr (Ne.symm hji)) hy' hC ?_⟩
  rw [Array.setIfInBounds_comm _ _ hji]
  exact hrest
def sem3 (P:Program) (md:Region.Mode) (ops:Array Oper) (Q:Exit→Act→World→Prop):uP→List Nat→Act→World→Prop
 |_,[],a,w=>Q .normal a w
 |pins,k::ks,a,w=>∃o,ops[k]? = some o ∧
  ((cN o=true ∧ ∃v C,YieldsIf P ops C o v a∧C w∧sem3 P md ops Q ((k,C)::pins) ks (a.put o.dst v) w) ∨
   (cN o=false∧wpOp P ops Q k (fun a' w'=>(∀p∈pins,k∈pY md ops p.1∨p.2 w')∧sem3 P md ops Q pins ks a' w') a w))
def chk3 (md:Region.Mode) (ops:Array Oper):List Nat→Array Bool→Bool
 | [],listed=>decide (Region.ready md ops listed=[])
 |k::ks,listed=>(if cT ops k then (Region.ready md ops listed).contains k&&Region.free md ops listed k else decide (Region.ready md ops listed=[k]))&&chk3 md ops ks (listed.setIfInBounds k true)
theorem aPV (hsel:Region.noSelect ops=true) (hQ:∀c a w,¬Q (.panic c) a w):∀(ks:List Nat) (pins:uP) (listed:Array Bool) (a:Act) (w:World),gH md ops listed→chk3 md ops ks listed=true →
  sem3 P md ops Q pins ks a w→rZ P md ops Q pins ks.length listed a w
 | [],pins,listed,a,w,_,hc,h=>⟨of_decide_eq_true hc,h⟩
 |k::ks,pins,listed,a,w,inv,hc,h=>by
  obtain ⟨o,ho,h⟩:=h
  simp only [chk3,Bool.and_eq_true] at hc
  have hp:cT ops k=cN o:=by unfold cT;rw [ho]
  rcases h with ⟨hf,v,C,hy,hC,h⟩|⟨hf,h⟩
  ·rw [hf] at hp
   rw [if_pos hp] at hc
   simp only [Bool.and_eq_true] at hc
   have hr:k∈Region.ready md ops listed:=by simpa using hc.1.1
   exact aKE ho (Region.noSelect_spec hsel) hQ hp ks.length listed a w inv (Region.free_spec ho hc.1.2) hr hy hC (aPV hsel hQ ks _ _ _ w (inv.set hr) hc.2 h)
  rw [hf] at hp
  rw [if_neg (by rw [hp];simp)] at hc
  simp only [decide_eq_true_eq] at hc
  refine ⟨fun h0=>(by rw [hc.1] at h0;cases h0),fun i hi=>?_⟩
  have hik:i=k:=by rw [hc.1] at hi;simpa using hi
  subst hik
  exact wpOp_mono (fun a' w' h'=>⟨⟨fun h=>(by rw [hp] at h;cases h),fun _=>h'.1⟩,aPV hsel hQ ks _ _ a' w' (inv.set hi) hc.2 h'.2⟩) h
end any
/-! the walk -/
inductive Pin where
 |one (b off:Nat) (v:Value)
 |many (b off:Nat) (vs:List Value)
def kW (h:Array Obj) (b off:Nat) (vs:List Value):Prop:=∀j v,vs[j]? = some v→eK h b (off+j)=some v
def Pin.ok (h:Array Obj):Pin→Prop
 | .one b off v=>eK h b off=some v
 | .many b off vs=>kW h b off vs
def uL (k:Nat):List Nat→Bool
 | []=>false
 |j::js=>match Nat.beq k j with
  |true=>true
  |false=>uL k js
theorem iA {k:Nat}:∀ {l:List Nat},uL k l=true↔k∈l
 | []=>by simp [uL]
 |j::js=>by
  unfold uL
  cases hb:Nat.beq k j with
  |true=>simp [Nat.eq_of_beq_eq_true hb]
  |false=>
   have:k≠j:=fun e=>by subst e;simp at hb
   simp [this,iA (l:=js)]
def oT (keep:List Nat):List (Nat×Pin)→List (Nat×Pin)
 | []=>[]
 |(k,p)::ps=>match uL k keep with
  |true=>(k,p)::oT keep ps
  |false=>oT keep ps
def aEL (h h':Array Obj):List (Nat×Pin)→Prop
 | []=>True
 |(_,p)::ps=>(p.ok h→p.ok h')∧aEL h h' ps
def aAM? {P:Program} (T:Tab P) (l:Fr) (op:Op):Option (Nat×Nat×Nat):=
 match op with
 | .load t x=>match xZ T t with
  |true=>match ev l x with
   |some (.pointer (some ⟨b,off,none⟩))=>match eQ T.inf t with
    |some i=>some (b,off,i.size)
    |none=>none
   |_=>none
  |false=>none
 |_=>none
theorem aLI {T:Tab P} {l:Fr} {o:Oper} {b off m:Nat} (hl:aAM? T l o.op=some (b,off,m)) {n:Nat} {a:Act} (ha:bO n l a) {w:World} {vs:List Value} (hlen:vs.length=m) (hc:kW w.heap b off vs):
  (execOp a.eval o).run P w=.ok (.value (.agg vs.toArray)) w:=by
 unfold aAM? at hl
 split at hl
 ·rename_i t x hop
  split at hl
  ·rename_i hag
   split at hl
   ·rename_i b' off' hx
    split at hl
    ·rename_i i hi
     simp only [Option.some.injEq,Prod.mk.injEq] at hl
     obtain ⟨rfl,rfl,rfl⟩:=hl
     have hl:=run_loadCells_list (P:=P) w ⟨b',off',none⟩ vs (fun j v hv=>by rw [jK];exact kT (hc j v hv))
     rw [hlen] at hl
     simp [execOp,hop,ha.ev hx,Instr.loadAt,Instr.sureAddr,loadVar,xG T hag,oI T hi,hl]
    cases hl
   cases hl
  cases hl
 cases hl
theorem aHB {T:Tab P} {l:Fr} {o:Oper} {x:Nat×Nat×Nat} (h:aAM? T l o.op=some x):dQ o=false:=by
 unfold aAM? at h
 split at h
 ·rename_i hop;unfold dQ;rw [hop]
 cases h
def uQ:List (Nat×List Nat)→List Nat
 | []=>[]
 |(k,_)::r=>k::uQ r
def aRT (P:Program) (n:Nat) (l:Fr) (o:Oper) (v:Value):Prop:=∀a w,bO n l a→(execOp a.eval o).run P w=.ok (.value v) w
def goH (T:Tab P) (n:Nat) (all:List Oper) (st:List SI) (ops:Array Oper):List (Nat×List Nat)→List (Nat×Pin)→Fr→Array Obj→(Fr→Array Obj→Prop)→Prop
 | [],_,l,h,K=>K l h
 |(k,keep)::plan,pins,l,h,K=>match nth all k with
  |none=>False
  |some o=>match cN o with
   |false=>match eC l ops o with
    |none=>False
    |some false=>match dD n o.dst with
     |true=>goH T n all st ops plan (oT keep pins) (upd l o.dst undef) h K
     |false=>False
    |some true=>dD n o.dst=true ∧ ∃V,Eff P n l h o V ∧ ∀v h',V v h'→aEL h h' (oT keep pins)∧goH T n all st ops plan (oT keep pins) (upd l o.dst v) h' K
   |true=>match o.dst with
    |none=>False
    |some d=>match Nat.blt d n with
     |false=>False
     |true=>match eC l ops o with
      |none=>False
      |some false=>goH T n all st ops plan pins ((d,undef)::l) h K
      |some true=>match ev1 T l o.op with
       | .val v=>goH T n all st ops plan pins ((d,v)::l) h K
       | .ob p v=>p∧goH T n all st ops plan pins ((d,v)::l) h K
       | .tst p i=>match lW all (vH all (uQ plan)) st d with
        |true=>(p→goH T n all st ops plan pins ((d,.bool true)::l) h K)∧(¬p→goH T n all st ops plan pins ((d,.bool false)::l) h K)
        |false=>goH T n all st ops plan pins ((d,.bool (@decide p i))::l) h K
       | .ntst p i=>match lW all (vH all (uQ plan)) st d with
        |true=>(p→goH T n all st ops plan pins ((d,.bool false)::l) h K)∧(¬p→goH T n all st ops plan pins ((d,.bool true)::l) h K)
        |false=>goH T n all st ops plan pins ((d,.bool (!@decide p i))::l) h K
       | .stop=>match loadAt? T l o.op with
        |some (b,off)=>∃v,eK h b off=some v∧goH T n all st ops plan ((k,.one b off v)::pins) ((d,v)::l) h K
        |none=>match aAM? T l o.op with
         |some (b,off,m)=>∃vs,(vs.length=m∧kW h b off vs)∧goH T n all st ops plan ((k,.many b off vs)::pins) ((d,.agg vs.toArray)::l) h K
         |none=>dQ o=false ∧ ∃v,aRT P n l o v∧goH T n all st ops plan pins ((d,v)::l) h K
def tV (md:Region.Mode) (ops:Array Oper):List (Nat×List Nat)→List Nat→List Nat→Bool
 | [],_,_=>true
 |(k,keep)::plan,taken,alive=>if cT ops k then (if fU ops k then tV md ops plan taken alive else tV md ops plan (k::taken) (k::alive))
  else taken.all (fun p=>uL p keep&&uL p alive||(pY md ops p).contains k)&&tV md ops plan taken (keep.filter fun p=>uL p alive)
theorem oO {keep:List Nat} {k:Nat} {p:Pin}:∀ {ps:List (Nat×Pin)},(k,p)∈oT keep ps↔(k,p)∈ps∧k∈keep
 | []=>by simp [oT]
 |(j,q)::ps=>by
  unfold oT
  cases hm:uL j keep with
  |true=>
   have hj:=iA.1 hm
   simp only [List.mem_cons,Prod.mk.injEq,oO (ps:=ps)]
   constructor
   ·rintro (⟨rfl,rfl⟩|⟨h1,h2⟩)
    ·exact ⟨.inl ⟨rfl,rfl⟩,hj⟩
    exact ⟨.inr h1,h2⟩
   rintro ⟨⟨rfl,rfl⟩|h1,h2⟩
   ·exact .inl ⟨rfl,rfl⟩
   exact .inr ⟨h1,h2⟩
  |false=>
   have hj:j∉keep:=fun h=>by rw [iA.2 h] at hm;cases hm
   simp only [List.mem_cons,Prod.mk.injEq,oO (ps:=ps)]
   constructor
   ·rintro ⟨h1,h2⟩;exact ⟨.inr h1,h2⟩
   rintro ⟨⟨rfl,rfl⟩|h1,h2⟩
   ·exact absurd h2 hj
   exact ⟨h1,h2⟩
theorem aCQ {h h':Array Obj}:∀ {ps:List (Nat×Pin)},aEL h h' ps → ∀k p,(k,p)∈ps→p.ok h→p.ok h'
 | [],_,k,p,hm,_=>by cases hm
 |(j,q)::ps,hk,k,p,hm,hp=>by
  rcases List.mem_cons.1 hm with e|hm
  ·cases e;exact hk.1 hp
  exact aCQ hk.2 k p hm hp
structure qZ (taken alive:List Nat) (ps:List (Nat×Pin)) (F:uP) (h:Array Obj):Prop where
 ok:∀k p,(k,p)∈ps→p.ok h
 full:∀q∈F,(∀w,q.2 w)∨(q.1∈taken∧(q.1∈alive → ∃p,(q.1,p)∈ps ∧ ∀w:World,p.ok w.heap→q.2 w))
theorem qZ.val {taken alive:List Nat} {ps:List (Nat×Pin)} {F:uP} {h:Array Obj} (H:qZ taken alive ps F h) (k:Nat):qZ taken alive ps ((k,fun _=>True)::F) h:=
 ⟨H.ok,fun q hq=>by
  rcases List.mem_cons.1 hq with rfl|hq
  ·exact .inl fun _=>trivial
  exact H.full q hq⟩
theorem qZ.val' {taken alive:List Nat} {ps:List (Nat×Pin)} {F:uP} {h:Array Obj} (H:qZ taken alive ps F h) {k:Nat} (hk:k∉taken):qZ (k::taken) (k::alive) ps ((k,fun _=>True)::F) h:=
 ⟨H.ok,fun q hq=>by
  rcases List.mem_cons.1 hq with rfl|hq
  ·exact .inl fun _=>trivial
  rcases H.full q hq with h1|⟨h1,h2⟩
  ·exact .inl h1
  refine .inr ⟨List.mem_cons_of_mem _ h1,fun ha=>h2 ?_⟩
  rcases List.mem_cons.1 ha with e|ha
  ·exact absurd (e▸h1) hk
  exact ha⟩
theorem qZ.load {taken alive:List Nat} {ps:List (Nat×Pin)} {F:uP} {h:Array Obj} (H:qZ taken alive ps F h) {k:Nat} (hk:k∉taken) {p:Pin} (hp:p.ok h):
  qZ (k::taken) (k::alive) ((k,p)::ps) ((k,fun w=>p.ok w.heap)::F) h:=by
 refine ⟨fun j q hq=>?_,fun q hq=>?_⟩
 ·rcases List.mem_cons.1 hq with e|hq
  ·cases e;exact hp
  exact H.ok j q hq
 rcases List.mem_cons.1 hq with rfl|hq
 ·exact .inr ⟨List.mem_cons_self ..,fun _=>⟨p,List.mem_cons_self ..,fun _ h=>h⟩⟩
 rcases H.full q hq with h1|⟨h1,h2⟩
 ·exact .inl h1
 refine .inr ⟨List.mem_cons_of_mem _ h1,fun ha=>?_⟩
 rcases List.mem_cons.1 ha with e|ha
 ·exact absurd (e▸h1) hk
 obtain ⟨p',h3,h4⟩:=h2 ha
 exact ⟨p',List.mem_cons_of_mem _ h3,h4⟩
theorem aWP (T:Tab P) {n:Nat} {all:List Oper} {st:List SI} {w0:World} {ds:List Deferred} {K:Fr→Array Obj→Prop} {Q:Exit→Act→World→Prop} {md:Region.Mode}
  (hQ:∀l h a w,K l h→bO n l a→a.defers=ds→w.heap=h→fL w0 w→Q .normal a w):∀(plan:List (Nat×List Nat)) (taken alive:List Nat) (ps:List (Nat×Pin)) (F:uP) (l:Fr) (h:Array Obj),
  tV md all.toArray plan taken alive=true→(uQ plan).Nodup→(∀k∈uQ plan,k∉taken)→qZ taken alive ps F h→goH T n all st all.toArray plan ps l h K →
  ∀a w,bO n l a→a.defers=ds→w.heap=h→fL w0 w→sem3 P md all.toArray Q F (uQ plan) a w:=by
 intro plan
 induction plan with
 |nil=>intro taken alive ps F l h _ _ _ _ hg a w ha hd hh hw;exact hQ l h a w hg ha hd hh hw
 |cons x plan ih=>
  obtain ⟨k,keep⟩:=x
  intro taken alive ps F l h hc hnd hnew hrel hg a w ha hd hh hw
  simp only [uQ,List.nodup_cons] at hnd
  simp only [uQ] at hnew
  have hk1:=hnew k (List.mem_cons_self ..)
  have hnew':∀j∈uQ plan,j∉taken:=fun j hj=>hnew j (List.mem_cons_of_mem _ hj)
  have hnew'':∀j∈uQ plan,j∉k::taken:=fun j hj=>by
   rw [List.mem_cons]
   rintro (e|e)
   ·exact hnd.1 (e▸hj)
   exact hnew' j hj e
  unfold goH at hg
  split at hg
  ·exact hg.elim
  rename_i o hn
  rw [iF] at hn
  have ho:all.toArray[k]? = some o:=by simpa using hn
  have hfa:cT all.toArray k=cN o:=by unfold cT;rw [ho]
  refine ⟨o,ho,?_⟩
  split at hg
  ·rename_i hf
   refine .inr ⟨hf,?_⟩
   rw [hf] at hfa
   simp only [tV,hfa,Bool.false_eq_true,if_false,Bool.and_eq_true] at hc
   obtain ⟨hc1,hc2⟩:=hc
   have hpins:∀w':World,(∀k p,(k,p)∈oT keep ps→p.ok w'.heap) → ∀q∈F,k∈pY md all.toArray q.1∨q.2 w':=fun w' hp q hq=>by
    rcases hrel.full q hq with h1|⟨h1,h2⟩
    ·exact .inr (h1 w')
    have:=List.all_eq_true.1 hc1 q.1 h1
    simp only [Bool.or_eq_true,Bool.and_eq_true,iA] at this
    rcases this with ⟨h3,h4⟩|h3
    ·obtain ⟨p,hpp,hp2⟩:=h2 h4
     exact .inr (hp2 w' (hp q.1 p (oO.2 ⟨hpp,h3⟩)))
    exact .inl (by simpa using h3)
   have hrel':∀h',(∀k p,(k,p)∈oT keep ps→p.ok h')→qZ taken (keep.filter fun p=>uL p alive) (oT keep ps) F h':=fun h' hp=>by
    refine ⟨hp,fun q hq=>?_⟩
    rcases hrel.full q hq with h1|⟨h1,h2⟩
    ·exact .inl h1
    refine .inr ⟨h1,fun hal=>?_⟩
    rw [List.mem_filter,iA] at hal
    obtain ⟨p,hpp,hp2⟩:=h2 hal.2
    exact ⟨p,oO.2 ⟨hpp,hal.1⟩,hp2⟩
   split at hg
   ·exact hg.elim
   ·rename_i hgd
    have hwn:=bQ ha hgd
    unfold wpOp
    simp only [ho,hwn,Bool.false_eq_true,if_false]
    split at hg
    ·rename_i hdo
     have hold:∀k p,(k,p)∈oT keep ps→p.ok h:=fun j p hj=>hrel.ok j p (oO.1 hj).1
     refine ⟨hpins w (by rw [hh];exact hold),ih taken _ _ F _ h hc2 hnd.2 hnew' (hrel' h hold) hg _ w (fE ha (gJ hdo) undef) (by cases o.dst<;>simpa [Act.put] using hd) hh hw⟩
    exact hg.elim
   rename_i hgd
   have hwn:=bQ ha hgd
   unfold wpOp
   simp only [ho,hwn,if_true]
   obtain ⟨hdo,V,hE,hnx⟩:=hg
   refine .inl (hE a w ha hh _ _ fun v w' hlk hV=>?_)
   obtain ⟨hkp,hg'⟩:=hnx v _ hV
   have hold:∀k p,(k,p)∈oT keep ps→p.ok w'.heap:=fun j p hj=>aCQ hkp j p hj (hrel.ok j p (oO.1 hj).1)
   exact ⟨hpins w' hold,ih taken _ _ F _ w'.heap hc2 hnd.2 hnew' (hrel' _ hold) hg' _ w' (fE ha (gJ hdo) v) (by cases o.dst<;>simpa [Act.put] using hd) rfl (hw.trans hlk)⟩
  rename_i hf
  refine .inl ⟨hf,?_⟩
  rw [hf] at hfa
  have hpu:fU all.toArray k=dQ o:=by unfold fU;rw [ho]
  simp only [tV,hfa,if_true,hpu] at hc
  -- behind a floating operation that asks nothing of the world
  have next:∀(ps':List (Nat×Pin)),ps'=ps → ∀l' a',goH T n all st all.toArray plan ps' l' h K→bO n l' a'→a'.defers=ds→sem3 P md all.toArray Q ((k,fun _=>True)::F) (uQ plan) a' w:=fun ps' e l' a' hg' ha' hd'=>by
   subst e
   split at hc
   ·exact ih taken alive ps' _ l' h hc hnd.2 hnew' (hrel.val k) hg' a' w ha' hd' hh hw
   exact ih (k::taken) (k::alive) ps' _ l' h hc hnd.2 hnew'' (hrel.val' hk1) hg' a' w ha' hd' hh hw
  split at hg
  ·exact hg.elim
  rename_i d hdst
  split at hg
  ·exact hg.elim
  rename_i hlt
  have hlt:=Nat.blt_eq.mp hlt
  have put:∀v,bO n ((d,v)::l) (a.put o.dst v)∧(a.put o.dst v).defers=ds:=fun v=>by rw [hdst];exact ⟨ha.put hlt v,by simpa [Act.put] using hd⟩
  split at hg
  ·exact hg.elim
  ·rename_i hgd
   have hwn:=bQ ha hgd
   exact ⟨undef,fun _=>True,.inr ⟨hwn,rfl⟩,trivial,next ps rfl _ _ hg (put _).1 (put _).2⟩
  rename_i hgd
  have hwn:=bQ ha hgd
  have hk:=fun w=>aKK T n l o.op a w o ha rfl
  have val:∀v,(∀w,(execOp a.eval o).run P w=.ok (.value v) w)→goH T n all st all.toArray plan ps ((d,v)::l) h K →
    ∃v C,YieldsIf P all.toArray C o v a∧C w∧sem3 P md all.toArray Q ((k,C)::F) (uQ plan) (a.put o.dst v) w:=fun v hv hg=>
   ⟨v,fun _=>True,.inl ⟨hwn,fun w _=>hv w⟩,trivial,next ps rfl _ _ hg (put v).1 (put v).2⟩
  have lod:∀v (p:Pin),p.ok h→dQ o=false→(∀w:World,p.ok w.heap→(execOp a.eval o).run P w=.ok (.value v) w)→goH T n all st all.toArray plan ((k,p)::ps) ((d,v)::l) h K →
    ∃v C,YieldsIf P all.toArray C o v a∧C w∧sem3 P md all.toArray Q ((k,C)::F) (uQ plan) (a.put o.dst v) w:=fun v p hp hno hv hg=>by
   rw [hno,if_neg (by simp)] at hc
   exact ⟨v,fun w=>p.ok w.heap,.inl ⟨hwn,hv⟩,(by show Pin.ok w.heap p;rw [hh];exact hp),ih (k::taken) (k::alive) _ _ _ h hc hnd.2 hnew'' (hrel.load hk1 hp) hg _ w (put v).1 (put v).2 hh hw⟩
  split at hg
  ·rename_i v hv;simp only [hv,Pu.ok] at hk;exact val v hk hg
  ·rename_i p v hv;simp only [hv,Pu.ok] at hk;exact val v (fun w=>hk w hg.1) hg.2
  ·rename_i p i hv
   simp only [hv,Pu.ok] at hk
   split at hg
   ·by_cases hp:p
    ·simp only [hp,decide_true] at hk;exact val _ hk (hg.1 hp)
    simp only [hp,decide_false] at hk;exact val _ hk (hg.2 hp)
   exact val _ hk hg
  ·rename_i p i hv
   simp only [hv,Pu.ok] at hk
   split at hg
   ·by_cases hp:p
    ·simp only [hp,decide_true,Bool.not_true] at hk;exact val _ hk (hg.1 hp)
    simp only [hp,decide_false,Bool.not_false] at hk;exact val _ hk (hg.2 hp)
   exact val _ hk hg
  split at hg
  ·rename_i hl
   obtain ⟨v,hc',hg⟩:=hg
   exact lod v (.one _ _ v) hc' (aEX hl) (fun w hw=>aFP hl ha hw) hg
  split at hg
  ·rename_i hl
   obtain ⟨vs,⟨hlen,hc'⟩,hg⟩:=hg
   exact lod _ (.many _ _ vs) hc' (aHB hl) (fun w hw=>aLI hl ha hlen hw) hg
  obtain ⟨_,v,hv,hg⟩:=hg
  exact val v (fun w=>hv a w ha) hg
theorem aX.held {c:Ctx P} {ds:List Deferred} {k:List SI} {l:Fr} {h:Array Obj} (T:Tab P) {id:Nat} {ops:List Oper} (plan:List (Nat×List Nat))
  (hB:(Region.noSelect ops.toArray&&decide ((uQ plan).length=ops.toArray.size)&&chk3 .any ops.toArray (uQ plan) (Array.replicate ops.toArray.size false)&&tV .any ops.toArray plan [] []&&decide (uQ plan).Nodup)=true)
  (H:goH T c.n ops k ops.toArray plan [] l h (fun l' h'=>aX c ds k l' h')) (hnd:xJ ops=true:=by rfl):
  aX c ds (.code (.region id ops.toArray true)::k) l h:=by
 unfold aX
 intro hwf a w ha hd hh hw
 simp only [Bool.and_eq_true,decide_eq_true_eq] at hB
 obtain ⟨⟨⟨⟨hsel,hlen⟩,hc3⟩,hcp⟩,hnod⟩:=hB
 refine aPN (K:=its k) (Q:=fun e a' w'=>e=.normal∧c.Z (lone (c.fr a' (its k)) c.cs w')) T.mixed ⟨fun _ _ hq=>hq.2,fun _ _ _ hq=>(by cases hq.1),fun _ _ hq=>(by cases hq.1)⟩ (.inr fun i o ho=>zG hnd i o (by simpa using ho)) ?_
 have H3:=aWP T (w0:=c.w0) (ds:=ds) (md:=.any) (Q:=fun e a' w'=>e=.normal∧c.Z (lone (c.fr a' (its k)) c.cs w')) (K:=fun l' h'=>aX c ds k l' h') (fun l2 h2 a2 w2 hK2 ha2 hd2 hh2 hw2=>⟨rfl,by
  unfold aX at hK2
  exact hK2 (cH hwf) a2 w2 ha2 hd2 hh2 hw2⟩) plan [] [] [] [] l h hcp hnod (fun _ _ h=>by cases h) ⟨(fun _ _ h=>by cases h),(fun _ h=>by cases h)⟩ H a {w with drawn:=w.drawn+1} ha hd hh (hw.trans ⟨rfl,rfl,rfl⟩)
 have H4:=aPV hsel (fun _ _ _ hq=>by cases hq.1) (uQ plan) [] (Array.replicate ops.toArray.size false) a _ (fun j oj _ hl=>(by rw [getD_replicate_false] at hl;cases hl)) hc3 H3
 rw [hlen] at H4
 exact yM _ _ _ _ H4
theorem bW.cells {B:Nat} {h h':Array Obj} (hk:bW B h h') {b off:Nat} {vs:List Value} (hb:b<B) (H:kW h b off vs):kW h' b off vs:=
 fun j v hv=>(hk.cell hb).trans (H j v hv)
end Go.Fw

namespace Go.Fw
open Go
variable {P:Program}
structure New (h h':Array Obj) (cs:Array Value) (t:TypeId):Prop where
 size:h'.size=h.size+1
 blk:At h' h.size cs t
 old:∀k,k<h.size→h'[k]? = h[k]?
structure Put (h h':Array Obj) (b:Nat) (cs:Array Value) (t:TypeId):Prop where
 size:h'.size=h.size
 blk:At h' b cs t
 other:∀k,k≠b→h'[k]? = h[k]?
theorem New.of (h:Array Obj) (cs:Array Value) (t:TypeId):New h (h.push (.cells cs t (0,0))) cs t:=⟨by simp,aGH _ _ _,fun k hk=>aAT hk _⟩
theorem Put.of {h:Array Obj} {b:Nat} (hb:b<h.size) (cs:Array Value) (t:TypeId):Put h (sL h b cs t) b cs t:=⟨by simp,xA hb _ _,fun k hk=>aJO hk _ _⟩
theorem New.keeps {h h':Array Obj} {cs:Array Value} {t:TypeId} (N:New h h' cs t):bW h.size h h':=⟨by rw [N.size];omega,N.old⟩
theorem Put.keeps {h h':Array Obj} {b:Nat} {cs:Array Value} {t:TypeId} (N:Put h h' b cs t):bW b h h':=⟨by rw [N.size];omega,fun k hk=>N.other k (by omega)⟩
theorem Put.cell {h h':Array Obj} {g:Nat} {cs:Array Value} {t:TypeId} (N:Put h h' g cs t) {b o:Nat} (hne:b≠g):eK h' b o=eK h b o:=by
 unfold eK;rw [N.other b hne]
theorem At.one {h:Array Obj} {g:Nat} {v:Value} {e:TypeId} (H:At h g #[v] e):eK h g 0=some v:=by rw [H.cell];rfl
section ops
variable {n:Nat} {l:Fr} {h:Array Obj} {o:Oper}
theorem Eff.mono {V V':Value→Array Obj→Prop} (H:Eff P n l h o V) (hv:∀v h',V v h'→V' v h'):Eff P n l h o V':=
 fun a w ha hh next Q hn=>H a w ha hh next Q fun v w' hl hV=>hn v w' hl (hv _ _ hV)
end ops
/-! the loop's record, by what it leaves -/
structure PutO (h h':Array Obj) (b:Nat):Prop where
 size:h'.size=h.size
 other:∀k,k≠b→h'[k]? = h[k]?
theorem PutO.of (h:Array Obj) (b:Nat) (o:Obj):PutO h (h.setIfInBounds b o) b:=⟨by simp,fun k hk=>by rw [Array.getElem?_setIfInBounds_ne (by omega)]⟩
theorem PutO.keeps {h h':Array Obj} {b:Nat} (N:PutO h h' b):bW b h h':=⟨by rw [N.size];omega,fun k hk=>N.other k (by omega)⟩
theorem PutO.cell {h h':Array Obj} {g:Nat} (N:PutO h h' g) {b o:Nat} (hne:b≠g):eK h' b o=eK h b o:=by
 unfold eK;rw [N.other b hne]
structure aBO (h:Array Obj) (y:Nat) (r:Loop) (st:LoopState) (pend:Option Code):Prop where
 ex:∃r1:Loop,h[y]? = some (.loop r1)∧r1.state=st∧r1.pending=pend∧r1.fn=r.fn∧r1.tmps=r.tmps∧r1.params=r.params∧r1.assign=r.assign∧r1.body=r.body
theorem aBO.same {h h':Array Obj} {y:Nat} {r:Loop} {st:LoopState} {pend:Option Code} (H:aBO h y r st pend) (e:h'[y]? = h[y]?):aBO h' y r st pend:=by
 obtain ⟨r1,h1,h2⟩:=H;exact ⟨r1,e.trans h1,h2⟩
theorem aBO.lt {h:Array Obj} {y:Nat} {r:Loop} {st:LoopState} {pend:Option Code} (H:aBO h y r st pend):y<h.size:=by
 obtain ⟨r1,h1,_⟩:=H;exact (Array.getElem?_eq_some_iff.1 h1).1
section loops
variable {c:Ctx P} {ds:List Deferred} {k:List SI} {l:Fr} {h:Array Obj} {y:Nat} {r:Loop}
section ends
variable {f n:Nat} {w0:World} {fr:Frame} {cs:List Frame} {R:Value→Array Obj→Prop}
end ends
structure Laid2 (h h':Array Obj) (r:Loop):Prop where
 size:h'.size=h.size+2
 dfr:h'[h.size]? = some (.deferred (some []))
 loop:aBO h' (h.size+1) r .ready none
 old:∀k,k<h.size→h'[k]? = h[k]?
theorem Laid2.keeps {h h':Array Obj} {r:Loop} (N:Laid2 h h' r):bW h.size h h':=⟨by rw [N.size];omega,N.old⟩
end loops
end Go.Fw

namespace Go.Fw
open Go Go.RowKit Go.WideShapes Go.ChangeShapes
section
variable {H:Type} {enc:TypeId×Value→H} {P:Program}
theorem aHM {f:Func} {s:ChangeSpec} {apart iX handsOn again:Bool} {W W':World} {args:Array Value} {v:Value} {ds gs:List (DataW H)} {before pa pv:List MemPlace}
  (hW:DataW.Whole enc P f.params.toList s.vars apart W args.toList ds gs before)
  (hres:∀(b:Nat) (sp:Nat→Bool) (hd:Bool),DataW.TrodAll enc P W' b sp hd f.resultTypes.toList (v.resultList f.resultTypes.size) (s.fn H (ds++gs)).results [])
  (hargs:∀sp:Nat→Bool,(∀p∈before,sp p.block=true)→DataW.TrodAll enc P W' 0 sp true f.params.toList args.toList (s.fn H (ds++gs)).args pa)
  (hvars:∀sp:Nat→Bool,(∀p∈before,sp p.block=true)→DataW.TrodVars enc P W' sp s.vars (s.fn H (ds++gs)).vars pv)
  (hps:before=pa++pv) (hb:Below W.heap.size W W')
  (hok:∀(j:Nat) (t:TypeId) (r:Value),f.resultTypes[j]? = some t→(v.resultList f.resultTypes.size)[j]? = some r→Value.okWide P W' .any 0 t r):
  s.post enc P f apart iX handsOn again W args v W':=by
 have hlt:∀p∈before,p.block<W.heap.size:=fun p hp=>hW.lt p hp
 have hold:∀p∈before,(fun b=>decide (b<W.heap.size)) p.block=true:=fun p hp=>by simpa using hlt p hp
 refine ⟨ds,gs,before,[],pa,pv,hW,hres _ _ _,hargs _ hold,hvars _ hold,World.keptBut_mono (fun p hp=>⟨hp,?_⟩) (hb.frame (· ∈ before)),fun _=>?_⟩
 ·rw [hps,List.mem_append] at hp
  exact Or.inr hp
 obtain ⟨_,_,_,_,_,hz,hn⟩:=hW
 refine ⟨hok,_,_,([]++pa)++pv,⟨[]++pa,pv,trodAll_append (hargs _ (fun _ _=>rfl)) (hres _ _ _),hvars _ (fun _ _=>rfl),rfl,?_,?_⟩,?_⟩
 ·intro b off hp
  have hin:MemPlace.cell b off∈before:=by rw [hps];simpa using hp
  rw [hb.frozen (hlt _ hin)]
  exact hz b off hin
 ·intro ha
  have:=hn ha
  rw [hps] at this
  simpa using this
 intro p hp _
 rw [hps]
 simpa using hp
end
theorem FnV.below {P:Program} {f:FuncId} {args:Array Value} {W:World} {R:Value→Prop} (H:FnV P f args W.heap fun r h'=>R r∧bW W.heap.size W.heap h'):
  Calls P f args W fun e W'=>∃v,e=.returned v∧R v∧Below W.heap.size W W':=
 (H.calls W rfl).mono fun _ _ ⟨hl,v,he,hR,hk⟩=>⟨v,he,hR,hl.os,hl.tape,hl.output,hk.size,hk.same⟩
theorem aYE {W:World} {b o:Nat} {v:Value} (h:W.cell? ⟨b,o,none⟩=some v):eK W.heap b o=some v:=by
 unfold World.cell? at h
 unfold eK
 split at h
 ·rename_i hc;rw [hc];simpa using h
 cases h
end Go.Fw

namespace Go.Fw
open Go
variable {P:Program}
section
variable {c:Ctx P} {ds:List Deferred} {k:List SI} {l:Fr} {h:Array Obj} {u:FrameMode}
def Unw (c:Ctx P) (ds:List Deferred) (u:FrameMode) (l:Fr) (h:Array Obj):Prop:=
 ∀(a:Act) (w:World) (todo:List Item),bO c.n l a→a.defers=ds→w.heap=h→fL c.w0 w→c.Z (lone {c.fr a todo with mode:=u} c.cs w)
theorem Unw.sub {l':Fr} (hs:Sub l l') (H:Unw c ds u l' h):Unw c ds u l h:=fun a w t ha hd hh hw=>H a w t (ha.sub hs) hd hh hw
theorem aX.retU (H:Unw c ds .returning l h) (hro:c.round=none:=by rfl):aX c ds (.code .ret::k) l h:=by
 unfold aX
 intro hwf a w ha hd hh hw
 refine c.back _ _ (step_lone_go ?_) (H a w (its (.code .ret::k)) ha hd hh hw)
 simp [its,SI.it,stepG,stepG.exec,Ctx.fr,hro]
theorem aX.finU (H:Unw c ds .returning l h) (hro:c.round=none:=by rfl):aX c ds [] l h:=by
 unfold aX
 intro hwf a w ha hd hh hw
 refine c.back _ _ (step_lone_go ?_) (H a w [] ha hd hh hw)
 simp [its,stepG,stepG.exec,Ctx.fr,hro]
theorem aX.panicU {all:Array Oper} {rest:List Oper} {o:Oper} {x:Operand} {t:TypeId} {v:Value} (H:Unw c ds (.panicking [{v:=.iface t v,recovered:=false}]) l h)
  (hop:o.op=.panic x:=by rfl) (hx:ev l x=some (.iface t v):=by rfl) (hgd:eC l all o=some true:=by rfl):aX c ds (.ops all (o::rest)::k) l h:=by
 unfold aX
 intro hwf a w ha hd hh hw
 have hwn:=bQ ha hgd
 obtain ⟨i,e1,e2,ho,hwf'⟩:=mY (hwf _ (List.mem_cons_self ..))
 refine c.back _ _ (step_lone_go ?_) (H a w (its (.ops all (o::rest)::k)) ha hd hh hw)
 have hrun:(execOp a.eval o).run P w=.halt (.panic (.iface t v)) w:=by
  have e:(Instr.panic (.iface t v)).run P w=.halt (.panic (.iface t v)) w:=rfl
  simp [execOp,hop,ha.ev hx,e]
 simp only [lN,e1]
 rw [kF (P:=P) (c:=c) (k:=its k) (todo:=List.range' (i+1) rest.length) (w:=w) ho hwn (.inr fun cl e=>by rw [hop] at e;cases e)]
 simp [stepG.apply,hrun,Frame.raise,Ctx.fr]
theorem aX.callE {all:Array Oper} {rest:List Oper} {o:Oper} {cl:Call} {x:Operand} {g:FuncId} {first captured:Array Value} {vs:List Value}
  {R:Ending→Array Obj→Prop} (H:Fn P g (first++vs.toArray++captured) h R) (hno:∀h',¬R .outgrown h')
  (hp:∀ch h',R (.panicked ch) h'→Unw c ds (.panicking ch) l h')
  (hr:∀v h',R (.returned v) h'→aX c ds (.ops all rest::k) (upd l o.dst v) h')
  (hop:o.op=.call cl:=by rfl) (hcal:cl.callee=.value x:=by rfl)
  (hx:ev l x=some (.func (.func g) first captured):=by rfl) (hargs:mQ l cl.args.toList=some vs:=by rfl) (hgd:eC l all o=some true:=by rfl) (hdn:dD c.n o.dst=true:=by rfl):
  aX c ds (.ops all (o::rest)::k) l h:=by
 unfold aX
 intro hwf a w ha hd hh hw
 have hwn:=bQ ha hgd
 obtain ⟨i,e1,e2,ho,hwf'⟩:=mY (hwf _ (List.mem_cons_self ..))
 have hrun:=tE hop hcal ha hx hargs H.enters w
 have hd':c.round=none ∨ ∀cl,o.op ≠ .defer cl:=.inr (fun cl' e=>by rw [hop] at e;cases e)
 simp only [lN,e1]
 have hstep:=kF (P:=P) (c:=c) (k:=its k) (todo:=List.range' (i+1) rest.length) (w:=w) ho hwn hd'
 have henter:Go.step P (lone (c.fr a (.inRegion all (i::List.range' (i+1) rest.length)::its k)) c.cs w) =
   .next (lone (Frame.enter P g (first++vs.toArray++captured) .normal) (c.fr a (.inRegion all (i::List.range' (i+1) rest.length)::its k)::c.cs) w):=
  step_lone_go (by rw [hstep];simp [stepG.apply,hrun,Ctx.fr])
 obtain ⟨e,w',fr,⟨hlk,hR⟩,hcomes,hfn,hleave⟩:=H.calls w hh (c.fr a (.inRegion all (i::List.range' (i+1) rest.length)::its k)::c.cs)
 refine c.back _ _ henter ?_
 cases e with
 |outgrown=>exact absurd hR (hno _)
 |returned v=>
  refine iY c hcomes ?_
  refine c.back _ _ (step_leave_returned hleave) ?_
  have hf:=iS (c:=c) a all i (List.range' (i+1) rest.length) (its k) v
  rw [ho] at hf
  simp only [Option.bind_some] at hf
  rw [hf]
  have hr':=hr v _ hR
  unfold aX at hr'
  have:=hr' (cY hwf' (cH hwf)) (a.put o.dst v) w' (fE ha (gJ hdn) _) (by cases o.dst<;>simpa [Act.put] using hd) rfl (hw.trans hlk)
  simpa only [lN,e2] using this
 |panicked ch=>
  refine iY c hcomes ?_
  refine c.back _ _ (step_leave_panicked hleave) ?_
  exact hp ch _ hR a w' _ ha hd rfl (hw.trans hlk)
theorem aX.deferU {all:Array Oper} {rest:List Oper} {o:Oper} {cl:Call} {x:Operand} {g:FuncId} {first captured:Array Value} {vs:List Value}
  (hr:aX c ({target:=.fn (.func g) captured,args:=first++vs.toArray}::ds) (.ops all rest::k) l h)
  (hop:o.op=.defer cl:=by rfl) (hcal:cl.callee=.value x:=by rfl) (hx:ev l x=some (.func (.func g) first captured):=by rfl) (hargs:mQ l cl.args.toList=some vs:=by rfl)
  (hgd:eC l all o=some true:=by rfl) (hdst:o.dst=none:=by rfl) (hro:c.round=none:=by rfl):aX c ds (.ops all (o::rest)::k) l h:=by
 unfold aX at hr ⊢
 intro hwf a w ha hd hh hw
 have hwn:=bQ ha hgd
 obtain ⟨i,e1,e2,ho,hwf'⟩:=mY (hwf _ (List.mem_cons_self ..))
 have hr':=hr (cY hwf' (cH hwf)) {a with defers:={target:=.fn (.func g) captured,args:=first++vs.toArray}::ds} w ⟨ha.size,ha.get⟩ rfl hh hw
 refine c.back _ _ (step_lone_go ?_) hr'
 have ea:cl.args.map a.eval=vs.toArray:=by
  have e1:=oG ha hargs
  apply Array.ext';simpa using e1
 have hrun:(execOp a.eval o).run P w=.ok (.defer {target:=.fn (.func g) captured,args:=first++vs.toArray}) w:=by
  simp [execOp,hop,resolve,hcal,ha.ev hx,Deferred.ofValue,ea]
 simp only [lN,e1,e2]
 have hf:=iS (c:=c) {a with defers:={target:=.fn (.func g) captured,args:=first++vs.toArray}::ds} all i (List.range' (i+1) rest.length) (its k) undef
 rw [ho] at hf
 simp only [Option.bind_some,hdst,Act.put] at hf
 rw [←hf,kF ho hwn (.inl hro)]
 simp [stepG.apply,hrun,Ctx.fr,hd]
end
/-! the ends of a function that is called -/
section
variable {f n:Nat} {w0:World} {cs:List Frame} {R:Ending→Array Obj→Prop} {l:Fr} {h h':Array Obj} {ds:List Deferred}
theorem Unw.ret (T:Tab P) {fn:Func} (hf:P.funcs[f]? = some fn) {vs:List Value} (hv:aIT T l h fn.results.toList vs) (hR:R (.returned (tup vs)) h):
  Unw (gT P f n w0 cs R) [] .returning l h:=fun a w todo ha hd hh hw=>
 ⟨.returned (tup vs),w,_,⟨hw,hh▸hR⟩,Steps.refl P _,rfl,rfl,hd,rfl,fn,hf,aAR T ha (hh▸hv)⟩
theorem Unw.pan {ch:List PanicEntry} {fn:Func} (hf:P.funcs[f]? = some fn) (hR:R (.panicked ch) h):Unw (gT P f n w0 cs R) [] (.panicking ch) l h:=fun a w todo ha hd hh hw=>
 ⟨.panicked ch,w,_,⟨hw,hh▸hR⟩,Steps.refl P _,rfl,rfl,hd,fn,hf⟩
end
/-! deferred functions -/
structure FnD (P:Program) (f:FuncId) (args:Array Value) (u:FrameMode) (h:Array Obj) (R:Ending→FrameMode→Array Obj→Prop):Prop where
 enters:Enters P f
 calls:∀w:World,w.heap=h→CallsD P f args u w fun e u' w'=>fL w w'∧R e u' w'.heap
theorem FnD.mono {f:FuncId} {args:Array Value} {u:FrameMode} {h:Array Obj} {R R':Ending→FrameMode→Array Obj→Prop} (H:FnD P f args u h R) (hr:∀e u' h',R e u' h'→R' e u' h'):FnD P f args u h R':=
 ⟨H.enters,fun w hw=>(H.calls w hw).mono fun _ _ _ ⟨a,b⟩=>⟨a,hr _ _ _ b⟩⟩
theorem Unw.defer {c:Ctx P} {ds:List Deferred} {u:FrameMode} {l:Fr} {h:Array Obj} {g:FuncId} {args captured:Array Value} {R:Ending→FrameMode→Array Obj→Prop}
  (H:FnD P g (args++captured) u h R) (hu:u ≠ .run) (hno:∀u' h',¬R .outgrown u' h')
  (hr:∀v u' h',R (.returned v) u' h'→Unw c ds (settle u') l h')
  (hp:∀ch u' h',R (.panicked ch) u' h'→Unw c ds (raised u' ch) l h'):
  Unw c ({target:=.fn (.func g) captured,args:=args}::ds) u l h:=by
 intro a w todo ha hd hh hw
 have hinv:(invoke (.fn (.func g) captured) args).run P w=.ok (.enter g (args++captured)) w:=zV H.enters _ w
 have h1:=step_defer (P:=P) (fr:={c.fr a todo with mode:=u}) (cs:=c.cs) (w:=w) (d:={target:=.fn (.func g) captured,args:=args}) (ds:=ds) hu hd rfl hinv
 obtain ⟨e,u',w',frX,⟨hlk,hR⟩,hsteps,hkX,hgo⟩:=H.calls w hh { {c.fr a todo with mode:=u} with defers:=ds} c.cs rfl
 refine c.back _ _ h1 ?_
 cases e with
 |outgrown=>exact absurd hR (hno _ _)
 |returned v=>
  refine iY c hsteps (c.back _ _ (step_going_returned (cs:=c.cs) hkX hgo) ?_)
  exact hr v u' _ hR {a with defers:=ds} w' todo ⟨ha.size,ha.get⟩ rfl rfl (hw.trans hlk)
 |panicked ch=>
  refine iY c hsteps (c.back _ _ (step_going_panicked (cs:=c.cs) hgo) ?_)
  exact hp ch u' _ hR {a with defers:=ds} w' todo ⟨ha.size,ha.get⟩ rfl rfl (hw.trans hlk)
def dM (P:Program) (f n:Nat) (w0:World) (c0:Frame) (cs:List Frame) (u:FrameMode) (R:Ending→FrameMode→Array Obj→Prop):Ctx P where
 Z:=fun m=>∃e u' w' fr,(fL w0 w'∧R e u' w'.heap)∧Comes P m (lone fr ({c0 with mode:=u'}::cs) w') e∧fr.kind=.deferred∧fr.going P w' e
 back:=fun _ _ hs ⟨e,u',w',fr,hR,hc,hk,hl⟩=>⟨e,u',w',fr,hR,hc.of_steps (.one hs),hk,hl⟩
 fn:=f
 kind:=.deferred
 round:=none
 cs:={c0 with mode:=u}::cs
 w0:=w0
 n:=n
theorem FnD.of {f:FuncId} {fn:Func} {code:Code} (hf:P.funcs[f]? = some fn) (hname:(fn.name == "runtime.NumGoroutine")=false) (hb:fn.body=some code) {n:Nat} (hnt:fn.ntmps=n)
  {args:List Value} (hargs:Nat.ble args.length n=true) {u:FrameMode} {h:Array Obj} {R:Ending→FrameMode→Array Obj→Prop}
  (H:∀w0 c0 cs,aX (dM P f n w0 c0 cs u R) [] [.code code] (yK 0 args) h):FnD P f args.toArray u h R:=by
 refine ⟨⟨fn,code,hf,hname,hb⟩,fun w hw c0 cs hu=>?_⟩
 have hr:=H w c0 cs
 unfold aX at hr
 have:=hr (fun s hs=>by simp at hs;subst hs;trivial) {tmps:=args.toArray++Array.replicate (n - args.toArray.size) undef,defers:=[]} w (aER _ _ (Nat.le_of_ble_eq_true hargs)) rfl hw (fL.refl w)
 have henter:Frame.enter P f args.toArray .deferred=(dM P f n w c0 cs u R).fr {tmps:=args.toArray++Array.replicate (n - args.toArray.size) undef,defers:=[]} (its [.code code]):=by
  simp [Frame.enter,Ctx.fr,hf,hb,hnt,dM,its,SI.it]
 have hc:({c0 with mode:=u}:Frame)=c0:=by subst hu;rfl
 rw [←henter] at this
 obtain ⟨e,u',w',fr,hR,hcs,hk,hl⟩:=this
 refine ⟨e,u',w',fr,hR,?_,hk,hl⟩
 have e2:(dM P f n w c0 cs u R).cs=c0::cs:=by simp only [dM,hc]
 rw [e2] at hcs
 exact hcs
section
variable {f n:Nat} {w0:World} {c0:Frame} {cs:List Frame} {u:FrameMode} {R:Ending→FrameMode→Array Obj→Prop} {k:List SI} {l:Fr} {h:Array Obj} {ds:List Deferred}
theorem Unw.retD (T:Tab P) {fn:Func} (hf:P.funcs[f]? = some fn) {vs:List Value} (hv:aIT T l h fn.results.toList vs) (hR:R (.returned (tup vs)) u h):
  Unw (dM P f n w0 c0 cs u R) [] .returning l h:=fun a w todo ha hd hh hw=>
 ⟨.returned (tup vs),u,w,_,⟨hw,hh▸hR⟩,Steps.refl P _,rfl,rfl,hd,fn,hf,aAR T ha (hh▸hv)⟩
theorem aX.recoverP {all:Array Oper} {rest:List Oper} {o:Oper} {cl:Call} {v:Value} {older:List PanicEntry}
  (hr:aX (dM P f n w0 c0 cs (.panicking ({v,recovered:=true}::older)) R) ds (.ops all rest::k) (upd l o.dst v) h)
  (hop:o.op=.call cl:=by rfl) (hcal:cl.callee=.builtin .recover:=by rfl) (hgd:eC l all o=some true:=by rfl) (hdn:dD n o.dst=true:=by rfl):
  aX (dM P f n w0 c0 cs (.panicking ({v,recovered:=false}::older)) R) ds (.ops all (o::rest)::k) l h:=by
 obtain ⟨c,hc⟩:∃c,c=dM P f n w0 c0 cs (.panicking ({v,recovered:=false}::older)) R:=⟨_,rfl⟩
 obtain ⟨c',hc'⟩:∃c,c=dM P f n w0 c0 cs (.panicking ({v,recovered:=true}::older)) R:=⟨_,rfl⟩
 unfold aX at hr ⊢
 intro hwf a w ha hd hh hw
 have hwn:=bQ ha hgd
 obtain ⟨i,e1,e2,ho,hwf'⟩:=mY (hwf _ (List.mem_cons_self ..))
 have hr':=hr (cY hwf' (cH hwf)) (a.put o.dst v) w (fE ha (gJ hdn) _) (by cases o.dst<;>simpa [Act.put] using hd) hh hw
 have hf:=iS (c:=dM P f n w0 c0 cs (.panicking ({v,recovered:=false}::older)) R) a all i (List.range' (i+1) rest.length) (its k) v
 rw [ho] at hf
 simp only [Option.bind_some] at hf
 have hrun:(execOp a.eval o).run P w=.ok .recover w:=by
  simp [execOp,hop,resolve,hcal,invoke,builtin]
 refine (dM P f n w0 c0 cs (.panicking ({v,recovered:=false}::older)) R).back _ (lone ((dM P f n w0 c0 cs (.panicking ({v,recovered:=true}::older)) R).fr (a.put o.dst v) (its (.ops all rest::k))) (dM P f n w0 c0 cs (.panicking ({v,recovered:=true}::older)) R).cs w) (step_lone_go ?_) hr'
 simp only [lN,e1,e2]
 rw [kF (c:=dM P f n w0 c0 cs (.panicking ({v,recovered:=false}::older)) R) ho hwn (.inl rfl)]
 have htr:tryRecover ((dM P f n w0 c0 cs (.panicking ({v,recovered:=false}::older)) R).fr a (.inRegion all (i::List.range' (i+1) rest.length)::its k)) (dM P f n w0 c0 cs (.panicking ({v,recovered:=false}::older)) R).cs =
   some (v,(dM P f n w0 c0 cs (.panicking ({v,recovered:=true}::older)) R).cs):=by
  rw [tryRecover_deferred (by rfl)];rfl
 have hro:((dM P f n w0 c0 cs (.panicking ({v,recovered:=false}::older)) R).fr a (.inRegion all (i::List.range' (i+1) rest.length)::its k)).roundOf=none:=rfl
 simp only [stepG.apply,Sem.runT_eq,hrun,hro,htr,GStep.bare_after,hf,ite_self]
 rfl
theorem aX.recoverN {all:Array Oper} {rest:List Oper} {o:Oper} {cl:Call}
  (hr:aX (dM P f n w0 c0 cs .returning R) ds (.ops all rest::k) (upd l o.dst .nilIface) h)
  (hop:o.op=.call cl:=by rfl) (hcal:cl.callee=.builtin .recover:=by rfl) (hgd:eC l all o=some true:=by rfl) (hdn:dD n o.dst=true:=by rfl):
  aX (dM P f n w0 c0 cs .returning R) ds (.ops all (o::rest)::k) l h:=by
 unfold aX at hr ⊢
 intro hwf a w ha hd hh hw
 have hwn:=bQ ha hgd
 obtain ⟨i,e1,e2,ho,hwf'⟩:=mY (hwf _ (List.mem_cons_self ..))
 have hr':=hr (cY hwf' (cH hwf)) (a.put o.dst .nilIface) w (fE ha (gJ hdn) _) (by cases o.dst<;>simpa [Act.put] using hd) hh hw
 have hf:=iS (c:=dM P f n w0 c0 cs .returning R) a all i (List.range' (i+1) rest.length) (its k) .nilIface
 rw [ho] at hf
 simp only [Option.bind_some] at hf
 have hrun:(execOp a.eval o).run P w=.ok .recover w:=by
  simp [execOp,hop,resolve,hcal,invoke,builtin]
 refine (dM P f n w0 c0 cs .returning R).back _ _ (step_lone_go ?_) hr'
 simp only [lN,e1,e2]
 rw [kF (c:=dM P f n w0 c0 cs .returning R) ho hwn (.inl rfl)]
 have htr:tryRecover ((dM P f n w0 c0 cs .returning R).fr a (.inRegion all (i::List.range' (i+1) rest.length)::its k)) (dM P f n w0 c0 cs .returning R).cs=none:=by
  rw [tryRecover_deferred (by rfl)];rfl
 have hro:((dM P f n w0 c0 cs .returning R).fr a (.inRegion all (i::List.range' (i+1) rest.length)::its k)).roundOf=none:=rfl
 simp only [stepG.apply,Sem.runT_eq,hrun,hro,htr,GStep.bare_after,hf,ite_self]
 rfl
end
end Go.Fw

namespace Go.Fw
open Go
variable {P:Program} {n:Nat} {l:Fr} {h:Array Obj} {o:Oper}
theorem qS {t xt:TypeId} {d:TypeDesc} {x:Operand} {v:Value} {ok:Bool} (ht:P.underlying t=some d) (hd:∀ms,d ≠ .interface ms)
  (hop:o.op=.typeAssert x xt t ok:=by rfl) (hx:ev l x=some (.iface t v):=by rfl):Eff P n l h o (fun v' h'=>v'=(if ok then .tuple #[v,.bool true] else v)∧h'=h):=by
 refine Eff.of_val1 fun a w ha hh=>⟨w,?_,fL.refl w,hh⟩
 have e:(Instr.typeAssert (.iface t v) xt t ok).run P w=.ok (if ok then .tuple #[v,.bool true] else v) w:=by
  unfold Instr.typeAssert
  simp only [Sem.run_bind,run_underlying ht,Result.andThen_ok]
  cases d<;>first|exact absurd rfl (hd _)|(cases ok<;>simp)
 simp [execOp,hop,ha.ev hx,e]
end Go.Fw

namespace Go.Fw
open Go
variable {P:Program}
def FnO (P:Program) (ch:List PanicEntry) (f:FuncId) (args:Array Value) (h:Array Obj) (r:Option Value):Prop:=
 Fn P f args h fun e h'=>e=(match r with|some v=>.returned v|none=>.panicked ch)∧bW h.size h h'
section
variable {f n:Nat} {w0:World} {cs:List Frame} {l:Fr} {h h0:Array Obj} {ch:List PanicEntry} {r:Option Value}
abbrev outR (ch:List PanicEntry) (h0:Array Obj) (r:Option Value):Ending→Array Obj→Prop:=
 fun e h'=>e=(match r with|some v=>.returned v|none=>.panicked ch)∧bW h0.size h0 h'
end
end Go.Fw

namespace Go.Fw
open Go
variable {P:Program}
def yB (P:Program) (n:Nat) (l:Fr) (h:Array Obj) (o:Oper) (V:Value→Array Obj→Prop) (PN:List PanicEntry→Array Obj→Prop):Prop:=
 ∀a w,bO n l a→w.heap=h → ∀(next:Act→World→Prop) (Q:Exit→Act→World→Prop),(∀v w',fL w w'→V v w'.heap→next (a.put o.dst v) w') →
  (∀ch w',fL w w'→PN ch w'.heap→Q (.panic ch) a w')→o.wp P a w next Q
theorem yB.of_eff {n:Nat} {l:Fr} {h:Array Obj} {o:Oper} {V:Value→Array Obj→Prop} (H:Eff P n l h o V):yB P n l h o V (fun _ _=>False):=
 fun a w ha hh next Q hn _=>H a w ha hh next Q hn
theorem yB.callO {n:Nat} {l:Fr} {h:Array Obj} {o:Oper} {cl:Call} {x:Operand} {g:FuncId} {first captured:Array Value} {vs:List Value} {ch:List PanicEntry} {r:Option Value}
  (H:FnO P ch g (first++vs.toArray++captured) h r)
  (hop:o.op=.call cl:=by rfl) (hcal:cl.callee=.value x:=by rfl)
  (hx:ev l x=some (.func (.func g) first captured):=by rfl) (hargs:mQ l cl.args.toList=some vs:=by rfl):
  yB P n l h o (fun v h'=>r=some v∧bW h.size h h') (fun ch' h'=>r=none∧ch'=ch∧bW h.size h h'):=by
 intro a w ha hh next Q hn hp
 unfold Oper.wp
 rw [tE hop hcal ha hx hargs H.enters w,Oper.upon_enter]
 refine (H.calls w hh).mono fun e w' ⟨hlk,he,hk⟩=>?_
 cases r with
 |some v=>subst he;exact hn v w' hlk ⟨rfl,hk⟩
 |none=>subst he;exact hp ch w' hlk ⟨rfl,rfl,hk⟩
section any
variable {ops:Array Oper} {md:Region.Mode} {Q:Exit→Act→World→Prop}
theorem aHJ {pins:uP} {C:World→Prop} {i:Nat} {oi:Oper} {v:Value} (hi:ops[i]? = some oi) (hsel:∀(j:Nat) (o:Oper) cs b,ops[j]? = some o→o.op ≠ .select cs b)
  (hQ:∀c a w,Q (.panic c) (a.put oi.dst v) w→Q (.panic c) a w) (hfl:cT ops i=true):
  ∀(f:Nat) (listed:Array Bool) (a:Act) (w:World),gH md ops listed →
   (∀j oj,ops[j]? = some oj→j≠i→listed.getD j true=false→(∀e∈oj.after,Region.binds md e=true→e.on≠i)→oi.apart ops oj=true) →
   i∈Region.ready md ops listed→YieldsIf P ops C oi v a→C w →
   rZ P md ops Q ((i,C)::pins) f (listed.setIfInBounds i true) (a.put oi.dst v) w→rZ P md ops Q pins (f+1) listed a w:=by
 intro f
 induction f with
 |zero=>
  intro listed a w _ _ hr hy hS H
  refine ⟨fun h=>(by rw [h] at hr;cases hr),fun j hj=>?_⟩
  by_cases hji:j=i
  ·subst hji;exact hy.wpOp hi hS ⟨⟨fun _=>rfl,fun h=>(by rw [hfl] at h;cases h)⟩,H⟩
  have:=ready_mono hj hji
  rw [H.1] at this
  cases this
 |succ f ih=>
  intro listed a w inv hfree hr hy hS H
  refine ⟨fun h=>(by rw [h] at hr;cases hr),fun j hj=>?_⟩
  by_cases hji:j=i
  ·subst hji;exact hy.wpOp hi hS ⟨⟨fun _=>rfl,fun h=>(by rw [hfl] at h;cases h)⟩,vX _ _ _ _ H⟩
  have h1:=H.2 j (ready_mono hj hji)
  obtain ⟨hjun,oj,hoj,hall⟩:=mem_ready.1 hj
  have hun:=(mem_ready.1 hr).1
  have hnot:∀e∈oj.after,Region.binds md e=true→e.on≠i:=fun e he hb heq=>by
   have h1:=hall e he hb
   rw [heq,getD_both hun] at h1
   cases h1
  have h2:=wpOp_putIf hoj (hfree j oj hoj hji hjun hnot) (fun cs b=>hsel i oi cs b hi) (fun cs b=>hsel j oj cs b hoj) hQ hy h1
  have hfree':∀k ok,ops[k]? = some ok→k≠i→(listed.setIfInBounds j true).getD k true=false →
    (∀e∈ok.after,Region.binds md e=true→e.on≠i)→oi.apart ops ok=true:=fun k ok hk hki hun hno=>by
   refine hfree k ok hk hki ?_ hno
   by_cases hjk:j=k
   ·subst hjk;exact hjun
   rw [getD_set_ne true hjk] at hun;exact hun
  refine wpOp_mono (fun a' w' h3=>?_) h2
  obtain ⟨hy',⟨ha1,ha2⟩,hrest⟩:=h3
  have hC:C w':=by
   cases hfj:cT ops j with
   |true=>rw [ha1 hfj];exact hS
   |false=>
    rcases ha2 hfj (i,C) (List.mem_cons_self ..) with hd|hc
    ·exact absurd hj (aBE inv (getD_both hun) (List.range ops.size) [] (by simp) j hd).2
    exact hc
  refine ⟨⟨ha1,fun hf q hq=>ha2 hf q (List.mem_cons_of_mem _ hq)⟩,ih (listed.setIfInBounds j true) a' w' (inv.set hj) hfree' (ready_mono hr (Ne.symm hji)) hy' hC ?_⟩
  rw [Array.setIfInBounds_comm _ _ hji]
  exact hrest
end any
def aAY:List Oper→List Nat
 | []=>[]
 |o::os=>match o.dst with
  |some d=>d::aAY os
  |none=>aAY os
theorem aNX:∀ {ops:List Oper} {k:Nat} {o:Oper} {d:Nat},ops[k]? = some o→o.dst=some d→d∈aAY ops
 | [],k,o,d,h,_=>by simp at h
 |x::xs,0,o,d,h,hd=>by
  simp at h;subst h
  unfold aAY;rw [hd];exact List.mem_cons_self ..
 |x::xs,k+1,o,d,h,hd=>by
  have:=aNX (ops:=xs) (k:=k) (by simpa using h) hd
  unfold aAY
  split
  ·exact List.mem_cons_of_mem _ this
  exact this
def aGE (D:List Nat):Fr→Fr
 | []=>[]
 |(d,v)::l=>match uL d D with
  |true=>aGE D l
  |false=>(d,v)::aGE D l
theorem aCE {D:List Nat}:∀ {l:Fr} {d:Nat} {v:Value},look (aGE D l) d=some v→d∉D∧look l d=some v
 | [],d,v,h=>by cases h
 |(e,u)::l,d,v,h=>by
  unfold aGE at h
  cases hm:uL e D with
  |true=>
   simp only [hm] at h
   obtain ⟨h1,h2⟩:=aCE h
   refine ⟨h1,?_⟩
   have:Nat.beq e d=false:=by
    cases hb:Nat.beq e d with
    |false=>rfl
    |true=>exact absurd (iA.1 hm) (Nat.eq_of_beq_eq_true hb▸h1)
   simp only [look,this];exact h2
  |false=>
   simp only [hm,look] at h
   cases hb:Nat.beq e d with
   |true=>
    simp only [hb,Option.some.injEq] at h
    have he:=Nat.eq_of_beq_eq_true hb
    subst he h
    exact ⟨fun hc=>(by rw [iA.2 hc] at hm;cases hm),by simp [look]⟩
   |false=>
    simp only [hb] at h
    obtain ⟨h1,h2⟩:=aCE h
    exact ⟨h1,by simp only [look,hb];exact h2⟩
def aAS (D:List Nat) (a a':Act):Prop:=a'.tmps.size=a.tmps.size∧a'.defers=a.defers ∧ ∀d,d∉D→a'.tmps[d]? = a.tmps[d]?
theorem aAS.refl (D:List Nat) (a:Act):aAS D a a:=⟨rfl,rfl,fun _ _=>rfl⟩
theorem aAS.put {D:List Nat} {a a':Act} (H:aAS D a a') {dst:Option Nat} (hd:∀d,dst=some d→d∈D) (v:Value):aAS D (a.put dst v) a':=by
 cases dst with
 |none=>exact H
 |some d=>
  refine ⟨by simpa [Act.put] using H.1,by simpa [Act.put] using H.2.1,fun e he=>?_⟩
  rw [H.2.2 e he]
  have hne:d≠e:=fun h=>he (h▸hd d rfl)
  simp only [Act.put]
  rw [Array.getElem?_setIfInBounds_ne hne]
theorem bO.alike {n:Nat} {l:Fr} {a a':Act} {D:List Nat} (ha:bO n l a) (H:aAS D a a'):bO n (aGE D l) a':=
 ⟨by rw [H.1];exact ha.size,fun d v hv=>by
  obtain ⟨h1,h2⟩:=aCE hv
  rw [H.2.2 d h1];exact ha.get d v h2⟩
end Go.Fw

namespace Go.Fw
open Go
variable {P:Program}
def aBA {P:Program} (T:Tab P) (l:Fr) (h:Array Obj):List ResultVar→List Value→Prop
 | [],[]=>True
 | .tmp t::rs,v::vs=>look l t=some v∧aBA T l h rs vs
 | .cell a t::rs,v::vs=>(∃b o,look l a=some (.pointer (some ⟨b,o,none⟩)) ∧
   ((fY T t=true∧eK h b o=some v) ∨ ∃i ws,xZ T t=true∧eQ T.inf t=some i∧ws.length=i.size∧kW h b o ws∧v=.agg ws.toArray))∧aBA T l h rs vs
 |_,_=>False
theorem aKP (T:Tab P) {fn:Func} {n:Nat} {l:Fr} {a:Act} (ha:bO n l a) {w:World} {vs:List Value} (hv:aBA T l w.heap fn.results.toList vs):
  (results fn a.tmps).run P w=.ok (tup vs) w:=by
 have key:∀(rs:List ResultVar) (vs:List Value),aBA T l w.heap rs vs→(rs.mapM (jE a.tmps)).run P w=.ok vs w:=by
  intro rs
  induction rs with
  |nil=>intro vs h;cases vs with
   |nil=>simp
   |cons=>exact h.elim
  |cons r rs ih=>
   intro vs h
   cases vs with
   |nil=>cases r<;>exact h.elim
   |cons v vs=>
    cases r with
    |tmp t=>
     obtain ⟨h1,h2⟩:=h
     have hrs:=ih vs h2
     have h0:(jE a.tmps (.tmp t)).run P w=.ok v w:=by simp [jE,ha.get t v h1]
     simp only [List.mapM_cons,Sem.run_bind,h0,hrs,Result.andThen,Sem.run_pure]
    |cell p t=>
     obtain ⟨⟨b,o,h1,h2⟩,h4⟩:=h
     have hrs:=ih vs h4
     have h0:(jE a.tmps (.cell p t)).run P w=.ok v w:=by
      rcases h2 with ⟨h2,h3⟩|⟨i,ws,hag,hi,hlen,hc,rfl⟩
      ·have hcell:=kT h3
       simp [jE,ha.get p _ h1,asAddr,loadVar,nG T h2,Go.load,Sem.run,hcell]
      have hl:=run_loadCells_list (P:=P) w ⟨b,o,none⟩ ws (fun j v hv=>by rw [jK];exact kT (hc j v hv))
      rw [hlen] at hl
      simp [jE,ha.get p _ h1,asAddr,loadVar,xG T hag,oI T hi,hl]
     simp only [List.mapM_cons,Sem.run_bind,h0,hrs,Result.andThen,Sem.run_pure]
 have hk:=key fn.results.toList vs hv
 rw [zB,←Array.toArray_toList (xs:=fn.results),List.mapM_toArray]
 simp only [Sem.run_bind,map_eq_pure_bind,hk,Sem.run_pure,Result.andThen]
 cases vs with
 |nil=>simp [tup]
 |cons v vs=>cases vs<;>simp [tup]
section
variable {f n:Nat} {w0:World} {cs:List Frame} {R:Ending→Array Obj→Prop} {l:Fr} {h:Array Obj} {k:List SI}
theorem Unw.retA (T:Tab P) {fn:Func} (hf:P.funcs[f]? = some fn) {vs:List Value} (hv:aBA T l h fn.results.toList vs) (hR:R (.returned (tup vs)) h):
  Unw (gT P f n w0 cs R) [] .returning l h:=fun a w todo ha hd hh hw=>
 ⟨.returned (tup vs),w,_,⟨hw,hh▸hR⟩,Steps.refl P _,rfl,rfl,hd,rfl,fn,hf,aKP T ha (hh▸hv)⟩
end
theorem aNQ {n:Nat} {l:Fr} {o:Oper} {t:TypeId} {parts:Array (Nat×Operand)} {us:List (Nat×Value)} {cells:Array Value} (hb:P.built t us=some cells)
  (hop:o.op=.build t parts:=by rfl) (hps:qG l parts.toList=some us:=by rfl):aRT P n l o (.agg cells):=by
 intro a w ha
 have e1:(parts.map fun (x:Nat×Operand)=>(x.1,a.eval x.2)).toList=us:=by
  rw [Array.toList_map];exact aCK ha hps
 have:=run_build (P:=P) w t (parts.map fun (x:Nat×Operand)=>(x.1,a.eval x.2)) cells (by rw [e1];exact hb)
 simp [execOp,hop,this]
end Go.Fw

namespace Go.Fw
open Go
variable {P:Program}
inductive SV where
 |v (x:Value)
 |ptr (b off:Nat)
 |buf (b:Nat)
 |row (b:Nat) (i:Int) (off sz:Nat)
 |agg (cs:List SV)
 |tup (vs:List SV)
 |ifc (t:TypeId) (x:SV)
 |fn (f:Go.Fn) (first captured:List SV)
abbrev Env:=Nat→Value
def ownB:Value→Option Nat
 | .pointer (some a)=>some a.block
 | .slice (some a) _ _=>some a.block
 | .map (some r)=>some r
 |_=>none
def jH (x:Value):Nat:=(ownB x).getD 0
def aGN:Value→Nat
 | .slice (some a) _ _=>a.off
 |_=>0
mutual
def SV.g (E:Env):SV→Value
 | .v x=>x
 | .ptr b off=>.pointer (some ⟨jH (E b),off,none⟩)
 | .buf b=>E b
 | .row b i off sz=>.pointer (some ⟨jH (E b),aGN (E b)+i.toNat*sz+off,none⟩)
 | .agg cs=>.agg (SV.gs E cs).toArray
 | .tup vs=>.tuple (SV.gs E vs).toArray
 | .ifc t x=>.iface t (SV.g E x)
 | .fn f a b=>.func f (SV.gs E a).toArray (SV.gs E b).toArray
def SV.gs (E:Env):List SV→List Value
 | []=>[]
 |x::xs=>SV.g E x::SV.gs E xs
end
mutual
/-- its names lie below n -/
def SV.bd (n:Nat):SV→Bool
 | .v _=>true
 | .ptr b _=>Nat.blt b n
 | .buf b=>Nat.blt b n
 | .row b _ _ _=>Nat.blt b n
 | .agg cs=>SV.bds n cs
 | .tup vs=>SV.bds n vs
 | .ifc _ x=>SV.bd n x
 | .fn _ a b=>match SV.bds n a with
  |true=>SV.bds n b
  |false=>false
def SV.bds (n:Nat):List SV→Bool
 | []=>true
 |x::xs=>match SV.bd n x with
  |true=>SV.bds n xs
  |false=>false
end
mutual
def SV.ren (f:Nat→Nat):SV→SV
 | .v x=>.v x
 | .ptr b off=>.ptr (f b) off
 | .buf b=>.buf (f b)
 | .row b i off sz=>.row (f b) i off sz
 | .agg cs=>.agg (SV.rens f cs)
 | .tup vs=>.tup (SV.rens f vs)
 | .ifc t x=>.ifc t (SV.ren f x)
 | .fn g a b=>.fn g (SV.rens f a) (SV.rens f b)
def SV.rens (f:Nat→Nat):List SV→List SV
 | []=>[]
 |x::xs=>SV.ren f x::SV.rens f xs
end
def Ag (n:Nat) (E E':Env):Prop:=∀b,b<n→E' b=E b
theorem Ag.refl (n:Nat) (E:Env):Ag n E E:=fun _ _=>rfl
theorem Ag.trans {n:Nat} {E E' E'':Env} (h:Ag n E E') (k:Ag n E' E''):Ag n E E'':=fun b hb=>(k b hb).trans (h b hb)
theorem Ag.mono {n m:Nat} {E E':Env} (h:Ag n E E') (hm:m≤n):Ag m E E':=fun b hb=>h b (by omega)
mutual
theorem SV.g_ag {n:Nat} {E E':Env} (H:Ag n E E'):∀x:SV,x.bd n=true→x.g E'=x.g E
 | .v _,_=>rfl
 | .ptr b off,h=>by simp only [SV.bd] at h;simp only [SV.g,H b (Nat.blt_eq.mp h)]
 | .buf b,h=>by simp only [SV.bd] at h;simp only [SV.g,H b (Nat.blt_eq.mp h)]
 | .row b i off sz,h=>by simp only [SV.bd] at h;simp only [SV.g,H b (Nat.blt_eq.mp h)]
 | .agg cs,h=>by simp only [SV.bd] at h;simp only [SV.g,SV.gs_ag H cs h]
 | .tup vs,h=>by simp only [SV.bd] at h;simp only [SV.g,SV.gs_ag H vs h]
 | .ifc t x,h=>by simp only [SV.bd] at h;simp only [SV.g,SV.g_ag H x h]
 | .fn f a b,h=>by
  simp only [SV.bd] at h
  cases ha:SV.bds n a with
  |false=>simp [ha] at h
  |true=>simp only [ha] at h;simp only [SV.g,SV.gs_ag H a ha,SV.gs_ag H b h]
theorem SV.gs_ag {n:Nat} {E E':Env} (H:Ag n E E'):∀xs:List SV,SV.bds n xs=true→SV.gs E' xs=SV.gs E xs
 | [],_=>rfl
 |x::xs,h=>by
  simp only [SV.bds] at h
  cases hx:SV.bd n x with
  |false=>simp [hx] at h
  |true=>simp only [hx] at h;simp only [SV.gs,SV.g_ag H x hx,SV.gs_ag H xs h]
end
mutual
theorem SV.g_ren (f:Nat→Nat) (E:Env):∀x:SV,(x.ren f).g E=x.g (fun b=>E (f b))
 | .v _=>rfl
 | .ptr b off=>rfl
 | .buf b=>rfl
 | .row b i off sz=>rfl
 | .agg cs=>by simp only [SV.ren,SV.g,SV.gs_ren f E cs]
 | .tup vs=>by simp only [SV.ren,SV.g,SV.gs_ren f E vs]
 | .ifc t x=>by simp only [SV.ren,SV.g,SV.g_ren f E x]
 | .fn g a b=>by simp only [SV.ren,SV.g,SV.gs_ren f E a,SV.gs_ren f E b]
theorem SV.gs_ren (f:Nat→Nat) (E:Env):∀xs:List SV,SV.gs E (SV.rens f xs)=SV.gs (fun b=>E (f b)) xs
 | []=>rfl
 |x::xs=>by simp only [SV.rens,SV.gs,SV.g_ren f E x,SV.gs_ren f E xs]
end
theorem aBP (E:Env):∀xs:List SV,SV.gs E xs=xs.map (SV.g E)
 | []=>rfl
 |x::xs=>by simp only [SV.gs,List.map_cons,aBP E xs]
theorem kL (E:Env) (xs:List SV):(SV.gs E xs).length=xs.length:=by rw [aBP];simp
theorem aKW (E:Env) (xs ys:List SV):SV.gs E (xs++ys)=SV.gs E xs++SV.gs E ys:=by simp [aBP]
theorem vJ (E:Env) (xs:List SV) (i:Nat):(SV.gs E xs)[i]? = (xs[i]?).map (SV.g E):=by simp [aBP]
def toV (l:List Value):List SV:=match l with
 | []=>[]
 |x::xs=>.v x::toV xs
theorem pV (E:Env):∀l:List Value,SV.gs E (toV l)=l
 | []=>rfl
 |x::xs=>by simp only [toV,SV.gs,SV.g,pV E xs]
/-! frames -/
abbrev SFr:=List (Nat×SV)
def wV:SFr→Nat→Option SV
 | [],_=>none
 |(s,v)::l,d=>match Nat.beq s d with
  |true=>some v
  |false=>wV l d
def gF (E:Env):SFr→Fr
 | []=>[]
 |(s,x)::l=>(s,x.g E)::gF E l
theorem aRN (E:Env):∀(l:SFr) (d:Nat),look (gF E l) d=(wV l d).map (SV.g E)
 | [],d=>rfl
 |(s,x)::l,d=>by
  simp only [gF,look,wV]
  cases Nat.beq s d with
  |true=>rfl
  |false=>exact aRN E l d
theorem jC {E:Env} {l:SFr} {d:Nat} {x:SV} (h:wV l d=some x):look (gF E l) d=some (x.g E):=by rw [aRN,h];rfl
def evS (l:SFr):Operand→Option SV
 | .tmp t=>wV l t
 | .const v=>some (.v v)
 | .global g=>some (.v (.pointer (some ⟨g,0,none⟩)))
 | .func f=>some (.v (.func (.func f) #[] #[]))
theorem bT {E:Env} {l:SFr} {x:Operand} {v:SV} (h:evS l x=some v):ev (gF E l) x=some (v.g E):=by
 cases x with
 |tmp t=>exact jC h
 |const u=>simp only [evS,Option.some.injEq] at h;subst h;rfl
 |global g=>simp only [evS,Option.some.injEq] at h;subst h;rfl
 |func f=>simp only [evS,Option.some.injEq] at h;subst h;rfl
def bdF (n:Nat):SFr→Bool
 | []=>true
 |(_,x)::l=>match x.bd n with
  |true=>bdF n l
  |false=>false
theorem nC {n:Nat} {E E':Env} (H:Ag n E E'):∀l:SFr,bdF n l=true→gF E' l=gF E l
 | [],_=>rfl
 |(s,x)::l,h=>by
  simp only [bdF] at h
  cases hx:x.bd n with
  |false=>simp [hx] at h
  |true=>simp only [hx] at h;simp only [gF,SV.g_ag H x hx,nC H l h]
def aKR (l:SFr) (dst:Option Nat) (x:SV):SFr:=
 match dst with
 |some d=>(d,x)::l
 |none=>l
theorem iB (E:Env) (l:SFr) (dst:Option Nat) (x:SV):gF E (aKR l dst x)=upd (gF E l) dst (x.g E):=by
 cases dst<;>rfl
def kH (l:SFr):List Operand→Option (List SV)
 | []=>some []
 |x::xs=>match evS l x with
  |some v=>match kH l xs with
   |some vs=>some (v::vs)
   |none=>none
  |none=>none
theorem lE {E:Env} {l:SFr}:∀ {xs:List Operand} {vs:List SV},kH l xs=some vs→mQ (gF E l) xs=some (SV.gs E vs)
 | [],vs,h=>by simp only [kH,Option.some.injEq] at h;subst h;rfl
 |x::xs,vs,h=>by
  simp only [kH] at h
  cases hx:evS l x with
  |none=>simp [hx] at h
  |some v=>
   cases hxs:kH l xs with
   |none=>simp [hx,hxs] at h
   |some us=>
    simp only [hx,hxs,Option.some.injEq] at h
    subst h
    simp only [mQ,bT hx,lE hxs,SV.gs]
/-! heaps -/
inductive Blk where
 /-- a variable -/
 |cells (t:TypeId) (cs:List SV)
 /-- a slice that owns its array -/
 |own (e:TypeId) (sz:Nat) (rows:List (List Value))
 /-- a slice that is only read -/
 |ro (sz:Nat) (rows:List (List Value))
 /-- a map of the walk's own: keys and values -/
 |map (d:TypeDesc) (es:List (Value×Value))
abbrev SH:=List (Nat×Blk)
def wr:Blk→Bool
 | .ro _ _=>false
 |_=>true
structure Kp (F:Nat→Prop) (h0 h:Array Obj):Prop where
 size:h0.size≤h.size
 same:∀k,F k→h[k]? = h0[k]?
 lt:∀k,F k→k<h0.size
theorem Kp.trans {F:Nat→Prop} {a b c:Array Obj} (h:Kp F a b) (k:Kp F b c):Kp F a c:=⟨Nat.le_trans h.size k.size,fun i hi=>(k.same i hi).trans (h.same i hi),h.lt⟩
theorem Kp.ge {F:Nat→Prop} {a b:Array Obj} (h:Kp F a b) {k:Nat} (hk:b.size≤k):¬F k:=fun hf=>by have:=h.lt k hf;have:=h.size;omega
def jV (F:Nat→Prop) (h:Array Obj) (a:Option Addr) (rows:List (List Value)):Prop:=
 rows=[] ∨ ∃g o,a=some ⟨g,o,none⟩∧F g∧kW h g o rows.flatten
def aFW (h:Array Obj) (g:Nat) (d:TypeDesc) (es:List (Value×Value)):Prop:=
 (∃(en:Array MapEntry) (clock:Nat),h[g]? = some (.map en clock)∧en.toList.map (fun e=>(e.key,e.val))=es) ∧ ∀p∈es,MapKept.IsKey d p.1
theorem aFW.same {h h':Array Obj} {g:Nat} {d:TypeDesc} {es:List (Value×Value)} (H:aFW h g d es) (e:h'[g]? = h[g]?):aFW h' g d es:=⟨by rw [e];exact H.1,H.2⟩
theorem aFW.lt {h:Array Obj} {g:Nat} {d:TypeDesc} {es:List (Value×Value)} (H:aFW h g d es):g<h.size:=by
 obtain ⟨⟨_,_,h1,_⟩,_⟩:=H
 exact (Array.getElem?_eq_some_iff.1 h1).1
def oU (sz:Nat) (rows:List (List Value)):Prop:=∀r∈rows,r.length=sz ∧ ∀u∈r,u.oneCell'=true
def aRL:Value→Prop
 | .slice _ n c=>n≤c
 |_=>True
def Blk.ok (E:Env) (F:Nat→Prop) (h:Array Obj) (x:Value):Blk→Prop
 | .cells t cs=>∃g,x=.pointer (some ⟨g,0,none⟩)∧At h g (SV.gs E cs).toArray t ∧ ¬F g
 | .own e sz rows=>oU sz rows∧Own 0 h e sz x rows.length rows.flatten ∧ ∀g,ownB x=some g → ¬F g
 | .ro sz rows=>oU sz rows∧(rows.length≤maxLen∧aRL x) ∧ ∃a cap,x=.slice a rows.length cap∧jV F h a rows
 | .map d es=>∃g,x=.map (some g)∧aFW h g d es ∧ ¬F g
def qC (E:Env) (p q:Nat×Blk):Prop:=wr p.2=true→wr q.2=true → ∀g,ownB (E p.1)=some g→ownB (E q.1)≠some g
theorem qC.symm {E:Env} {p q:Nat×Blk} (h:qC E p q):qC E q p:=fun hq hp g e1 e2=>h hp hq g e2 e1
structure Sat (E:Env) (F:Nat→Prop) (H:SH) (h:Array Obj):Prop where
 ok:∀p∈H,p.2.ok E F h (E p.1)
 apart:H.Pairwise (qC E)
def dE:SH→Nat→Option Blk
 | [],_=>none
 |(s,v)::l,d=>match Nat.beq s d with
  |true=>some v
  |false=>dE l d
theorem cG:∀ {H:SH} {b:Nat} {x:Blk},dE H b=some x→(b,x)∈H
 | [],_,_,h=>by cases h
 |(s,v)::l,d,x,h=>by
  simp only [dE] at h
  cases hb:Nat.beq s d with
  |true=>
   simp only [hb,Option.some.injEq] at h
   have:=Nat.eq_of_beq_eq_true hb
   subst h this
   exact List.mem_cons_self ..
  |false=>simp only [hb] at h;exact List.mem_cons_of_mem _ (cG h)
def rD:SH→Nat→Blk→SH
 | [],_,_=>[]
 |(s,v)::l,d,x=>match Nat.beq s d with
  |true=>(s,x)::l
  |false=>(s,v)::rD l d x
def aDG:SH→Nat→SH
 | [],_=>[]
 |(s,v)::l,d=>match Nat.beq s d with
  |true=>aDG l d
  |false=>(s,v)::aDG l d
theorem pO:∀(H:SH) (b:Nat),(aDG H b).Sublist H
 | [],_=>List.Sublist.refl _
 |(s,v)::l,d=>by
  simp only [aDG]
  cases Nat.beq s d with
  |true=>exact (pO l d).cons _
  |false=>exact (pO l d).cons_cons _
theorem aAX:∀ {H:SH} {b:Nat} {p:Nat×Blk},p∈aDG H b→p.1≠b
 | [],_,_,h=>by cases h
 |(s,v)::l,d,p,h=>by
  simp only [aDG] at h
  cases hb:Nat.beq s d with
  |true=>simp only [hb] at h;exact aAX h
  |false=>
   simp only [hb] at h
   rcases List.mem_cons.1 h with rfl|h
   ·exact fun e=>by simp only at e;subst e;simp at hb
   exact aAX h
theorem Sat.sub {E:Env} {F:Nat→Prop} {H H':SH} {h:Array Obj} (S:Sat E F H h) (hs:H'.Sublist H):Sat E F H' h:=⟨fun p hp=>S.ok p (hs.subset hp),S.apart.sublist hs⟩
def bdB (n:Nat):Blk→Bool
 | .cells _ cs=>SV.bds n cs
 |_=>true
def bdH (n:Nat):SH→Bool
 | []=>true
 |(b,x)::l=>match Nat.blt b n with
  |true=>match bdB n x with
   |true=>bdH n l
   |false=>false
  |false=>false
theorem lV {n:Nat}:∀ {H:SH} {p:Nat×Blk},bdH n H=true→p∈H→p.1<n∧bdB n p.2=true
 | [],_,_,h=>by cases h
 |(b,x)::l,p,h,hp=>by
  simp only [bdH] at h
  cases hb:Nat.blt b n with
  |false=>simp [hb] at h
  |true=>
   cases hx:bdB n x with
   |false=>simp [hb,hx] at h
   |true=>
    simp only [hb,hx] at h
    rcases List.mem_cons.1 hp with rfl|hp
    ·exact ⟨Nat.blt_eq.mp hb,hx⟩
    exact lV h hp
theorem Blk.ok_ag {n:Nat} {E E':Env} (H:Ag n E E') {F:Nat→Prop} {h:Array Obj} {x:Value} {b:Blk} (hb:bdB n b=true) (hk:b.ok E F h x):b.ok E' F h x:=by
 cases b with
 |cells t cs=>
  obtain ⟨g,h1,h2,h3⟩:=hk
  exact ⟨g,h1,by rw [SV.gs_ag H cs hb];exact h2,h3⟩
 |own=>exact hk
 |ro=>exact hk
 |map=>exact hk
theorem Sat.ag {n:Nat} {E E':Env} (A:Ag n E E') {F:Nat→Prop} {H:SH} {h:Array Obj} (hb:bdH n H=true) (S:Sat E F H h):Sat E' F H h:=by
 refine ⟨fun p hp=>?_,List.Pairwise.imp_of_mem (fun {p q} hp hq hA=>?_) S.apart⟩
 ·obtain ⟨h1,h2⟩:=lV hb hp
  rw [A _ h1]
  exact Blk.ok_ag A h2 (S.ok p hp)
 intro hp' hq' g e1
 rw [A _ (lV hb hp).1] at e1
 rw [A _ (lV hb hq).1]
 exact hA hp' hq' g e1
theorem Blk.lt {E:Env} {F:Nat→Prop} {h:Array Obj} {x:Value} {b:Blk} (hk:b.ok E F h x) (hw:wr b=true) {g:Nat} (hg:ownB x=some g):g<h.size ∧ ¬F g:=by
 cases b with
 |cells t cs=>
  obtain ⟨g',rfl,h2,h3⟩:=hk
  simp only [ownB,Option.some.injEq] at hg
  subst hg
  exact ⟨h2.lt,h3⟩
 |own e sz rows=>
  obtain ⟨_,h2,h3⟩:=hk
  refine ⟨?_,h3 g hg⟩
  obtain ⟨_,⟨rfl,_⟩|⟨g',cap,cur,rfl,_,hat,_⟩⟩:=h2
  ·cases hg
  simp only [ownB,Option.some.injEq] at hg
  subst hg
  exact hat.lt
 |ro=>cases hw
 |map d es=>
  obtain ⟨g',rfl,h2,h3⟩:=hk
  simp only [ownB,Option.some.injEq] at hg
  subst hg
  exact ⟨h2.lt,h3⟩
theorem jV.keep {F:Nat→Prop} {h h':Array Obj} {a:Option Addr} {rows:List (List Value)} (H:jV F h a rows) (hs:∀k,F k→h'[k]? = h[k]?):jV F h' a rows:=by
 rcases H with H|⟨g,o,h1,h2,h3⟩
 ·exact .inl H
 refine .inr ⟨g,o,h1,h2,fun j v hj=>?_⟩
 have:=h3 j v hj
 unfold eK at this ⊢
 rw [hs g h2];exact this
theorem Own.same {base:Nat} {h h':Array Obj} {e:TypeId} {sz:Nat} {v:Value} {m:Nat} {xs:List Value} (H:Own base h e sz v m xs) (hs:∀g,ownB v=some g→h'[g]? = h[g]?):Own base h' e sz v m xs:=by
 obtain ⟨hl,H⟩:=H
 refine ⟨hl,?_⟩
 rcases H with H|⟨g,cap,cur,rfl,h2,h3,h4⟩
 ·exact .inl H
 exact .inr ⟨g,cap,cur,rfl,h2,(hs g rfl).trans h3,h4⟩
theorem Blk.keep {E:Env} {F:Nat→Prop} {h h':Array Obj} {x:Value} {b:Blk} (hk:b.ok E F h x) (hw:wr b=true → ∀g,ownB x=some g→h'[g]? = h[g]?) (hF:∀k,F k→h'[k]? = h[k]?):b.ok E F h' x:=by
 cases b with
 |cells t cs=>
  obtain ⟨g,rfl,h2,h3⟩:=hk
  exact ⟨g,rfl,(hw rfl g rfl).trans h2,h3⟩
 |own e sz rows=>
  obtain ⟨h1,h2,h3⟩:=hk
  exact ⟨h1,h2.same (hw rfl),h3⟩
 |ro sz rows=>
  obtain ⟨h1,h0,a,cap,h2,h3⟩:=hk
  exact ⟨h1,h0,a,cap,h2,h3.keep hF⟩
 |map d es=>
  obtain ⟨g,rfl,h2,h3⟩:=hk
  exact ⟨g,rfl,h2.same (hw rfl g rfl),h3⟩
theorem Sat.keep {E:Env} {F:Nat→Prop} {H:SH} {h h':Array Obj} (S:Sat E F H h) (hw:∀p∈H,wr p.2=true → ∀g,ownB (E p.1)=some g→h'[g]? = h[g]?) (hF:∀k,F k→h'[k]? = h[k]?):Sat E F H h':=
 ⟨fun p hp=>Blk.keep (S.ok p hp) (hw p hp) hF,S.apart⟩
theorem Sat.keeps {E:Env} {F:Nat→Prop} {H:SH} {h0 h h':Array Obj} (S:Sat E F H h) (K:Kp F h0 h) (k:bW h.size h h'):Sat E F H h'∧Kp F h0 h':=by
 have hF:∀i,F i→h'[i]? = h[i]? :=fun i hi=>k.same i (by have:=K.lt i hi;have:=K.size;omega)
 exact ⟨S.keep (fun p hp hw g hg=>k.same g (Blk.lt (S.ok p hp) hw hg).1) hF,⟨Nat.le_trans K.size k.size,fun i hi=>(hF i hi).trans (K.same i hi),K.lt⟩⟩
def push (E:Env) (n:Nat) (x:Value):Env:=fun b=>match Nat.beq b n with
 |true=>x
 |false=>E b
theorem jW (E:Env) (n:Nat) (x:Value):Ag n E (push E n x):=fun b hb=>by
 unfold push
 have:Nat.beq b n=false:=by cases h:Nat.beq b n with|false=>rfl|true=>have:=Nat.eq_of_beq_eq_true h;omega
 simp [this]
theorem jS (E:Env) (n:Nat) (x:Value):push E n x n=x:=by unfold push;simp
theorem Sat.add {n:Nat} {E:Env} {F:Nat→Prop} {H:SH} {h:Array Obj} {x:Value} {b:Blk} (S:Sat E F H h) (hb:bdH n H=true) (hk:b.ok (push E n x) F h x)
  (hap:wr b=true → ∀p∈H,wr p.2=true → ∀g,ownB (E p.1)=some g→ownB x≠some g):Sat (push E n x) F ((n,b)::H) h:=by
 have S':=S.ag (jW E n x) hb
 refine ⟨fun p hp=>?_,List.pairwise_cons.2 ⟨fun q hq=>?_,S'.apart⟩⟩
 ·rcases List.mem_cons.1 hp with rfl|hp
  ·show b.ok _ F h (push E n x n)
   rw [jS]
   exact hk
  exact S'.ok p hp
 intro hw hq' g e1 e2
 simp only [jS] at e1
 rw [jW E n x _ (lV hb hq).1] at e2
 exact hap hw q hq hq' g e2 e1
theorem Sat.set {E:Env} {F:Nat→Prop} {h h':Array Obj} {b:Nat} {x y:Blk} (hwx:wr x=true) (hwy:wr y=true) (hy:y.ok E F h' (E b)) (hF:∀k,F k→h'[k]? = h[k]?)
  (ho:∀g,ownB (E b)≠some g→h'[g]? = h[g]? ∨ h.size≤g):∀ {H:SH},Sat E F H h→dE H b=some x→Sat E F (rD H b y) h'
 | [],_,hl=>by cases hl
 |(s,z)::H,S,hl=>by
  obtain ⟨hp,hps⟩:=List.pairwise_cons.1 S.apart
  have ST:Sat E F H h:=⟨fun p hp=>S.ok p (List.mem_cons_of_mem _ hp),hps⟩
  simp only [dE,rD] at *
  cases hb:Nat.beq s b with
  |true=>
   simp only [hb,Option.some.injEq] at hl ⊢
   have:=Nat.eq_of_beq_eq_true hb
   subst hl this
   have hk:∀p∈H,wr p.2=true → ∀g,ownB (E p.1)=some g→h'[g]? = h[g]? :=fun p hpm hw g hg=>by
    rcases ho g (fun e=>hp p hpm hwx hw g e hg) with h1|h1
    ·exact h1
    have:=(Blk.lt (ST.ok p hpm) hw hg).1;omega
   have ST':=ST.keep hk hF
   refine ⟨fun p hp=>?_,List.pairwise_cons.2 ⟨fun q hq=>?_,ST'.apart⟩⟩
   ·rcases List.mem_cons.1 hp with rfl|hp
    ·exact hy
    exact ST'.ok p hp
   exact fun _ hwq=>hp q hq hwx hwq
  |false=>
   simp only [hb] at hl ⊢
   have IH:=Sat.set hwx hwy hy hF ho ST hl
   have hz:z.ok E F h' (E s):=by
    refine Blk.keep (S.ok _ (List.mem_cons_self ..)) (fun hw g hg=>?_) hF
    rcases ho g (fun e=>hp _ (cG hl) hw hwx g hg e) with h1|h1
    ·exact h1
    have:=(Blk.lt (S.ok (s,z) (List.mem_cons_self ..)) hw hg).1;omega
   refine ⟨fun p hp=>?_,List.pairwise_cons.2 ⟨fun q hq=>?_,IH.apart⟩⟩
   ·rcases List.mem_cons.1 hp with rfl|hp
    ·exact hz
    exact IH.ok p hp
   have hq':q∈H∨q=(b,y):=by
    clear IH S ST hps hp hz
    revert hl hq
    induction H with
    |nil=>intro hl;cases hl
    |cons r H ih=>
     intro hl hq
     obtain ⟨r1,r2⟩:=r
     simp only [rD] at hq
     cases hrb:Nat.beq r1 b with
     |true=>
      simp only [hrb] at hq
      have:=Nat.eq_of_beq_eq_true hrb
      subst this
      rcases List.mem_cons.1 hq with rfl|hq
      ·exact .inr rfl
      exact .inl (List.mem_cons_of_mem _ hq)
     |false=>
      simp only [hrb] at hq
      simp only [dE,hrb] at hl
      rcases List.mem_cons.1 hq with rfl|hq
      ·exact .inl (List.mem_cons_self ..)
      rcases ih hl hq with h1|h1
      ·exact .inl (List.mem_cons_of_mem _ h1)
      exact .inr h1
   rcases hq' with h1|rfl
   ·exact hp q h1
   exact fun hw _=>hp (b,x) (cG hl) hw hwx
/-! walks -/
structure dS where
 g:FuncId
 captured:List SV
 args:List SV
def dS.c (E:Env) (d:dS):Deferred:={target:=.fn (.func d.g) (SV.gs E d.captured).toArray,args:=(SV.gs E d.args).toArray}
def gD (E:Env):List dS→List Deferred
 | []=>[]
 |d::l=>d.c E::gD E l
def bdD (n:Nat):List dS→Bool
 | []=>true
 |d::l=>match SV.bds n d.captured with
  |true=>match SV.bds n d.args with
   |true=>bdD n l
   |false=>false
  |false=>false
theorem mH {n:Nat} {E E':Env} (H:Ag n E E'):∀l:List dS,bdD n l=true→gD E' l=gD E l
 | [],_=>rfl
 |d::l,h=>by
  simp only [bdD] at h
  cases h1:SV.bds n d.captured with
  |false=>simp [h1] at h
  |true=>
   cases h2:SV.bds n d.args with
   |false=>simp [h1,h2] at h
   |true=>simp only [h1,h2] at h;simp only [gD,dS.c,SV.gs_ag H _ h1,SV.gs_ag H _ h2,mH H l h]
structure SCx (P:Program) where
 c:Ctx P
 F:Nat→Prop
 h0:Array Obj
 E0:Env
 n0:Nat
structure aA (s:SCx P) (ds:List dS) (nx:Nat) (st:List SI) (l:SFr) (H:SH):Prop where
 run:∀(E:Env) (h:Array Obj),Ag s.n0 s.E0 E→Sat E s.F H h→Kp s.F s.h0 h→aX s.c (gD E ds) st (gF E l) h
structure aE (s:SCx P) (ds:List dS) (u:FrameMode) (nx:Nat) (l:SFr) (H:SH):Prop where
 run:∀(E:Env) (h:Array Obj),Ag s.n0 s.E0 E→Sat E s.F H h→Kp s.F s.h0 h→Unw s.c (gD E ds) u (gF E l) h
def iX (n0 nx:Nat) (l:SFr) (H:SH) (ds:List dS):Bool:=match Nat.ble n0 nx with
 |true=>match bdF nx l with
  |true=>match bdH nx H with
   |true=>bdD nx ds
   |false=>false
  |false=>false
 |false=>false
theorem eY {n0 nx:Nat} {l:SFr} {H:SH} {ds:List dS} (h:iX n0 nx l H ds=true):n0≤nx∧bdF nx l=true∧bdH nx H=true∧bdD nx ds=true:=by
 unfold iX at h
 split at h
 ·split at h
  ·split at h
   ·exact ⟨Nat.le_of_ble_eq_true (by assumption),by assumption,by assumption,h⟩
   cases h
  cases h
 cases h
def kX (o:Oper):Bool:=
 match o.op with
 | .load _ _=>false
 |_=>cN o
def cV (P:Program) (n:Nat) (F:Nat→Prop) (h0:Array Obj) (l:SFr) (H:SH) (o:Oper) (x:SV) (H':SH):Prop:=
 (∀E h,Sat E F H h→Kp F h0 h→Eff P n (gF E l) h o (fun v h'=>v=x.g E∧Sat E F H' h'∧Kp F h0 h')) ∧
 (kX o=true→H'=H ∧ ∀E h,Sat E F H h→Kp F h0 h → ∀a w,bO n (gF E l) a→(execOp a.eval o).run P w=.ok (.value (x.g E)) w)
def EffL (P:Program) (n:Nat) (F:Nat→Prop) (h0:Array Obj) (l:SFr) (H:SH) (o:Oper) (x:SV) (H':SH):Prop:=
 ∀E h,Sat E F H h→Kp F h0 h→Eff P n (gF E l) h o (fun v h'=>v=x.g E∧Sat E F H' h'∧Kp F h0 h')
theorem cV.of_eff {n:Nat} {F:Nat→Prop} {h0:Array Obj} {l:SFr} {H H':SH} {o:Oper} {x:SV} (hn:kX o=false)
  (hE:∀E h,Sat E F H h→Kp F h0 h→Eff P n (gF E l) h o (fun v h'=>v=x.g E∧Sat E F H' h'∧Kp F h0 h')):cV P n F h0 l H o x H':=
 ⟨hE,fun hp=>by rw [hn] at hp;cases hp⟩
def aEY (P:Program) (n:Nat) (F:Nat→Prop) (h0:Array Obj) (nx:Nat) (l:SFr) (H:SH) (o:Oper) (x:SV) (H':SH):Prop:=
 ∀E h,Sat E F H h→Kp F h0 h→Eff P n (gF E l) h o (fun v h'=>∃E',Ag nx E E'∧v=x.g E'∧Sat E' F H' h'∧Kp F h0 h')
theorem cV.of_plain {n:Nat} {F:Nat→Prop} {h0:Array Obj} {l:SFr} {H:SH} {o:Oper} {x:SV}
  (hr:∀E h,Sat E F H h→Kp F h0 h → ∀a w,bO n (gF E l) a→(execOp a.eval o).run P w=.ok (.value (x.g E)) w):cV P n F h0 l H o x H:=
 ⟨fun E h S K=>Eff.of_value fun a w ha hh=>⟨_,w,hr E h S K a w ha,fL.refl w,rfl,hh▸S,hh▸K⟩,fun _=>⟨rfl,hr⟩⟩
section
variable {s:SCx P} {ds:List dS} {nx:Nat} {k:List SI} {l:SFr} {H:SH}
theorem aA.effL {all:Array Oper} {rest:List Oper} {o:Oper} {x:SV} {H':SH} (hE:EffL P s.c.n s.F s.h0 l H o x H')
  (hgd:∀E,eC (gF E l) all o=some true) (hdst:dD s.c.n o.dst=true) (hnd:jL o=true)
  (hr:aA s ds nx (.ops all rest::k) (aKR l o.dst x) H'):aA s ds nx (.ops all (o::rest)::k) l H:=⟨fun E h hA S K=>
 aX.eff (hE E h S K) (fun v h' ⟨hv,S',K'⟩=>by
  subst hv
  have:=hr.run E h' hA S' K'
  rw [iB] at this
  exact this) (hgd E) hdst hnd⟩
theorem aA.effK {all:Array Oper} {rest:List Oper} {o:Oper} {x:SV} {H':SH} (hE:cV P s.c.n s.F s.h0 l H o x H')
  (hgd:∀E,eC (gF E l) all o=some true) (hdst:dD s.c.n o.dst=true) (hnd:jL o=true)
  (hr:aA s ds nx (.ops all rest::k) (aKR l o.dst x) H'):aA s ds nx (.ops all (o::rest)::k) l H:=aA.effL hE.1 hgd hdst hnd hr
theorem aA.eff {all:Array Oper} {rest:List Oper} {o:Oper} {x:SV} {H':SH} {nx':Nat} (hE:aEY P s.c.n s.F s.h0 nx l H o x H')
  (hgd:∀E,eC (gF E l) all o=some true) (hdst:dD s.c.n o.dst=true) (hnd:jL o=true) (hn:s.n0≤nx) (hb:bdF nx l=true) (hd:bdD nx ds=true)
  (hr:aA s ds nx' (.ops all rest::k) (aKR l o.dst x) H'):aA s ds nx (.ops all (o::rest)::k) l H:=⟨fun E h hA S K=>
 aX.eff (hE E h S K) (fun v h' ⟨E',hag,hv,S',K'⟩=>by
  subst hv
  have:=hr.run E' h' (hA.trans (hag.mono hn)) S' K'
  rw [iB,nC hag l hb,mH hag ds hd] at this
  exact this) (hgd E) hdst hnd⟩
end
/-! guards -/
def cJ (l:SFr) (ops:Array Oper) (o:Oper):Option Bool:=
 match o.guard with
 |none=>some true
 |some (j,want)=>match nth ops.toList j with
  |none=>none
  |some oj=>match oj.dst with
   |none=>none
   |some d=>match wV l d with
    |some (.v (.bool b))=>match b with
     |true=>match want with
      |true=>some true
      |false=>some false
     |false=>match want with
      |true=>some false
      |false=>some true
    |some (.v (.tuple _))=>some false
    |_=>none
theorem cD {E:Env} {l:SFr} {ops:Array Oper} {o:Oper} {b:Bool} (h:cJ l ops o=some b):eC (gF E l) ops o=some b:=by
 unfold cJ at h
 unfold eC
 cases hg:o.guard with
 |none=>rw [hg] at h;exact h
 |some jw=>
  obtain ⟨j,want⟩:=jw
  rw [hg] at h
  simp only at h ⊢
  cases hj:nth ops.toList j with
  |none=>rw [hj] at h;cases h
  |some oj=>
   rw [hj] at h
   simp only at h ⊢
   cases hd:oj.dst with
   |none=>rw [hd] at h;cases h
   |some d=>
    rw [hd] at h
    simp only at h ⊢
    split at h
    ·rename_i hl
     rw [jC hl]
     simp only [SV.g]
     split at h<;>split at h<;>exact h
    ·rename_i hl
     rw [jC hl]
     exact h
    cases h
end Go.Fw

namespace Go.Fw
open Go
variable {P:Program}
inductive PuS where
 |stop
 |val (x:SV)
 |vala (cs:List SV)
 |ob (p:Prop) (x:SV)
 |tst (p:Prop) (i:Decidable p)
 |ntst (p:Prop) (i:Decidable p)
 /-- a new block -/
 |new (x:SV) (b:Blk)
 |newo (p:Prop) (x:SV) (b:Blk)
 /-- append: the old slice's name goes, a new one comes -/
 |app (p:Prop) (r:Option Nat) (b:Blk)
 /-- a block's contents turn -/
 |put (b:Nat) (y:Blk)
 |puto (p:Prop) (b:Nat) (y:Blk)
 /-- a load out of row i -/
 |rowv (rows:List (List Value)) (i:Int) (o:Nat)
 |rowa (rows:List (List Value)) (i:Int) (o n:Nat)
 /-- a store into row i -/
 |rput (b e sz:Nat) (rows:List (List Value)) (i:Int) (o:Nat) (vals:List Value)
 /-- a load out of memory that stays -/
 |old (b off:Nat)
 |olda (b off n:Nat)
 /-- the string of some bytes -/
 |bytes (rows:List (List Value))
 /-- a remainder -/
 |rem (x y:Int)
 /-- a part of a slice that is only read -/
 |sub (p:Prop) (b:Blk)
def aOF (x y r:Int):Prop:=y≠0∧r=Int.tmod x y
theorem aOF.nonneg {x y:Int} (hx:0≤x) (hy:y≠0):aOF x y (x%y):=⟨hy,(Int.tmod_eq_emod_of_nonneg hx).symm⟩
theorem oF {p q X Y:Prop} (h:p→X) (g:q→Y):(p→X)∧(q→Y):=⟨h,g⟩
theorem sH {p:Prop} (h:p:=by repeat (first|exact trivial|refine ⟨by rfl,?_⟩)):p:=h
theorem oN {a b:Prop} (h:b) (g:a:=by first|omega|exact Nat.le_of_ble_eq_true rfl):a∧b:=⟨g,h⟩
theorem oM {x y:Int} {K:Int→Prop} (h:K (x%y)) (a:0≤x:=by omega) (b:y≠0:=by omega):∃r,aOF x y r∧K r:=⟨_,aOF.nonneg a b,h⟩
theorem oL {a b:Prop} (h:b) (g:a:=by omega):a∧b:=⟨g,h⟩
theorem oR {a b:Prop} (h:a) (g:b:=by omega):a∧b:=⟨h,g⟩
theorem oB {a b:Prop} (h:b) (g:a:=by (conv=>whnf);(repeat (guard_target=_∧_;refine And.intro (by (conv=>whnf);first|rfl|exact trivial) ?_;conv=>whnf));exact trivial):a∧b:=⟨g,h⟩
def aJY (is:List Int):ByteArray:=⟨(is.map fun (i:Int)=>UInt8.ofNat i.toNat).toArray⟩
def kA (is:List Int):List (List Value):=is.map fun (i:Int)=>[Value.int .u8 i]
def OldC (F:Nat→Prop) (h0:Array Obj) (b off:Nat) (v:Value):Prop:=F b∧eK h0 b off=some v
def aHS (F:Nat→Prop) (h0:Array Obj) (b off:Nat) (vs:List Value):Prop:=∀j v,vs[j]? = some v→F b∧eK h0 b (off+j)=some v
def opnds:Op→List Operand
 | .unOp _ _ x=>[x]
 | .convert _ _ x=>[x]
 | .binOp _ _ x y _=>[x,y]
 | .index _ x i=>[x,i]
 | .indexAddr _ x i=>[x,i]
 | .slice _ x lo hi none=>x::(lo.toList++hi.toList)
 | .fieldAddr _ x _=>[x]
 | .field _ x _=>[x]
 | .makeInterface _ x=>[x]
 | .extract x _=>[x]
 | .nilCheck x=>[x]
 | .makeFunc _ a b=>a.toList++b.toList
 | .call c=>c.args.toList
 |_=>[]
def evl (l:SFr):List Operand→Fr
 | []=>[]
 |x::xs=>match x with
  | .tmp t=>match wV l t with
   |some (.v v)=>(t,v)::evl l xs
   |_=>evl l xs
  |_=>evl l xs
theorem aDS (E:Env) (l:SFr):∀xs:List Operand,Sub (gF E l) (evl l xs)
 | []=>trivial
 |x::xs=>by
  unfold evl
  split
  ·split
   ·rename_i hl
    exact ⟨jC hl,aDS E l xs⟩
   exact aDS E l xs
  exact aDS E l xs
def kE (T:Tab P) (l:SFr) (op:Op):PuS:=
 match ev1 T (evl l (opnds op)) op with
 | .stop=>.stop
 | .val v=>.val (.v v)
 | .ob p v=>.ob p (.v v)
 | .tst p i=>.tst p i
 | .ntst p i=>.ntst p i
def aCB:SV→Option (List SV)
 | .v x=>match x with
  | .agg cs=>some (toV cs.toList)
  | .tuple _=>none
  |x=>some [.v x]
 | .agg cs=>some cs
 | .tup _=>none
 | .buf _=>none
 |x=>some [x]
theorem aIY (E:Env) {x:SV} {cs:List SV} (h:aCB x=some cs):(x.g E).cells=(SV.gs E cs).toArray:=by
 cases x with
 |v y=>cases y<;>simp only [aCB,Option.some.injEq] at h<;>first|(cases h;done)|(subst h;first|rfl|simp [SV.g,Value.cells,pV])
 |_=>simp only [aCB,Option.some.injEq] at h<;>first|(cases h;done)|(subst h;first|rfl|simp [SV.g,Value.cells])
def vK (H:SH):SV→Option (List SV)
 | .buf b=>match dE H b with
  |some (.own _ _ _)=>some [.buf b]
  |some (.ro _ _)=>some [.buf b]
  |_=>none
 |x=>aCB x
theorem Own.slice {base:Nat} {h:Array Obj} {e:TypeId} {sz:Nat} {v:Value} {m:Nat} {xs:List Value} (H:Own base h e sz v m xs):∃a cap,v=.slice a m cap:=H.shape
def aPP:Blk→Bool
 | .own _ _ _=>true
 | .ro _ _=>true
 |_=>false
theorem aID {E:Env} {F:Nat→Prop} {h:Array Obj} {H:SH} (S:Sat E F H h) {b:Nat} {x:Blk} (hl:dE H b=some x) (hx:aPP x=true):∃a n c,E b=.slice a n c:=by
 have:=S.ok _ (cG hl)
 cases x with
 |cells t cs=>cases hx
 |map d es=>cases hx
 |own e sz rows=>obtain ⟨a,c,h1⟩:=this.2.1.shape;exact ⟨a,_,c,h1⟩
 |ro sz rows=>obtain ⟨_,_,a,c,h1,_⟩:=this;exact ⟨a,_,c,h1⟩
theorem aBD {E:Env} {F:Nat→Prop} {h:Array Obj} {H:SH} (S:Sat E F H h) {x:SV} {cs:List SV} (hc:vK H x=some cs):(x.g E).cells=(SV.gs E cs).toArray:=by
 unfold vK at hc
 split at hc
 ·have key:∀ {b:Nat} {y:Blk},dE H b=some y→aPP y=true→(SV.g E (.buf b)).cells=(SV.gs E [.buf b]).toArray:=by
   intro b y hl hy
   obtain ⟨a,n,c,h1⟩:=aID S hl hy
   simp [SV.g,SV.gs,h1,Value.cells]
  split at hc
  ·simp only [Option.some.injEq] at hc;subst hc;exact key (by assumption) rfl
  ·simp only [Option.some.injEq] at hc;subst hc;exact key (by assumption) rfl
  cases hc
 exact aIY E hc
def oneS (H:SH):SV→Bool
 | .v x=>x.oneCell'
 | .agg _=>false
 | .tup _=>false
 | .buf b=>match dE H b with
  |some (.own _ _ _)=>true
  |some (.ro _ _)=>true
  |_=>false
 |_=>true
def aNN (H:SH):List SV→Bool
 | []=>true
 |x::xs=>match oneS H x with
  |true=>aNN H xs
  |false=>false
theorem oneS_of {E:Env} {F:Nat→Prop} {h:Array Obj} {H:SH} (S:Sat E F H h) {x:SV} (hx:oneS H x=true):(x.g E).oneCell'=true:=by
 cases x with
 |v y=>exact hx
 |agg cs=>cases hx
 |tup vs=>cases hx
 |ptr b off=>rfl
 |row b i off sz=>rfl
 |ifc t y=>rfl
 |fn f a b=>rfl
 |buf b=>
  have key:∀ {y:Blk},dE H b=some y→aPP y=true→(SV.g E (.buf b)).oneCell'=true:=by
   intro y hl hy
   obtain ⟨a,n,c,h1⟩:=aID S hl hy
   simp [SV.g,h1,Value.oneCell']
  simp only [oneS] at hx
  split at hx
  ·exact key (by assumption) rfl
  ·exact key (by assumption) rfl
  cases hx
theorem aLH {E:Env} {F:Nat→Prop} {h:Array Obj} {H:SH} (S:Sat E F H h):∀ {xs:List SV},aNN H xs=true→(SV.gs E xs).all Value.oneCell'=true
 | [],_=>rfl
 |x::xs,hx=>by
  simp only [aNN] at hx
  cases h1:oneS H x with
  |false=>simp [h1] at hx
  |true=>
   simp only [h1] at hx
   simp only [SV.gs,List.all_cons,oneS_of S h1,aLH S hx,Bool.and_self]
def spl (cs:List SV) (off:Nat) (xs:List SV):List SV:=cs.take off++xs++cs.drop (off+xs.length)
theorem aDI (E:Env) (n:Nat) (cs:List SV):SV.gs E (cs.take n)=(SV.gs E cs).take n:=by simp [aBP]
theorem aDR (E:Env) (n:Nat) (cs:List SV):SV.gs E (cs.drop n)=(SV.gs E cs).drop n:=by simp [aBP]
theorem aWD (E:Env) (cs:List SV) (off:Nat) (xs:List SV):SV.gs E (spl cs off xs)=(SV.gs E cs).take off++SV.gs E xs++(SV.gs E cs).drop (off+xs.length):=by
 simp only [spl,aKW,aDI,aDR]
def putS:List SV→Nat→List SV→List SV
 | [],_,_=>[]
 |c::cs,off,xs=>match off with
  |0=>match xs with
   | []=>c::cs
   |x::xs=>x::putS cs 0 xs
  |off+1=>c::putS cs off xs
theorem aJZ:∀(cs:List SV) (off:Nat) (xs:List SV),off+xs.length≤cs.length→putS cs off xs=spl cs off xs
 | [],off,xs,h=>by
  simp only [List.length_nil] at h
  have h1:off=0:=by omega
  have h2:xs=[]:=List.eq_nil_of_length_eq_zero (by omega)
  subst h1 h2;rfl
 |c::cs,0,[],h=>by simp [putS,spl]
 |c::cs,0,x::xs,h=>by
  have:=aJZ cs 0 xs (by simp at h;omega)
  simp only [putS,this,spl]
  simp
 |c::cs,off+1,xs,h=>by
  have:=aJZ cs off xs (by simp at h;omega)
  simp only [putS,this,spl]
  rw [show off+1+xs.length=(off+xs.length)+1 by omega]
  simp
def aCO (H:SH) (dI:Nat→Option (Nat×Nat)) (cells:List SV):List (Nat×SV)→Option (List SV)
 | []=>some cells
 |(i,x)::rest=>match dI i with
  |none=>none
  |some (off,n)=>match vK H x with
   |none=>none
   |some xs=>match Nat.beq xs.length n with
    |false=>none
    |true=>match Nat.ble (off+n) cells.length with
     |false=>none
     |true=>aCO H dI (putS cells off xs) rest
def gP (E:Env):List (Nat×SV)→List (Nat×Value)
 | []=>[]
 |(i,x)::r=>(i,x.g E)::gP E r
theorem aAJ {E:Env} {F:Nat→Prop} {h:Array Obj} {H:SH} (S:Sat E F H h) {dI:Nat→Option (Nat×Nat)}:∀ {ps:List (Nat×SV)} {cells cs:List SV},aCO H dI cells ps=some cs→Instr.fill dI (SV.gs E cells).toArray (gP E ps)=some (SV.gs E cs).toArray
 | [],cells,cs,h=>by simp only [aCO,Option.some.injEq] at h;subst h;rfl
 |(i,x)::rest,cells,cs,h=>by
  simp only [aCO] at h
  simp only [gP,Instr.fill]
  cases hp:dI i with
  |none=>simp [hp] at h
  |some q=>
   obtain ⟨off,n⟩:=q
   simp only [hp] at h ⊢
   cases hc:vK H x with
   |none=>simp [hc] at h
   |some xs=>
    simp only [hc] at h
    cases h1:Nat.beq xs.length n with
    |false=>simp [h1] at h
    |true=>
     cases h2:Nat.ble (off+n) cells.length with
     |false=>simp [h1,h2] at h
     |true=>
      simp only [h1,h2] at h
      have hn:=Nat.eq_of_beq_eq_true h1
      have hle:=Nat.le_of_ble_eq_true h2
      rw [aJZ _ _ _ (by omega)] at h
      have hv:=aBD S hc
      rw [hv,if_neg (by simp [kL];omega)]
      have IH:=aAJ S h
      rw [←IH]
      congr 1
      obtain ⟨g1,g2⟩:=Go.Great.foldl_set off (SV.gs E xs) 0 (SV.gs E cells).toArray
      have e1:((SV.gs E xs).toArray.zipIdx.foldl (fun cs (c,j)=>cs.setIfInBounds (off+j) c) (SV.gs E cells).toArray) =
        ((SV.gs E xs).zipIdx 0).foldl (fun cs (x:Value×Nat)=>cs.setIfInBounds (off+x.2) x.1) (SV.gs E cells).toArray:=by
       rw [←Array.foldl_toList];simp
      rw [e1]
      apply Array.ext_getElem?
      intro j
      rw [g2 j,aWD]
      simp only [Nat.add_zero,List.getElem?_toArray,List.size_toArray,kL]
      by_cases hj:off≤j∧j<off+xs.length∧j<cells.length
      ·rw [if_pos hj,List.append_assoc,List.getElem?_append_right (by simp [kL];omega),List.getElem?_append_left (by simp [kL];omega)]
       simp only [List.length_take,kL]
       rw [Nat.min_eq_left (by omega)]
      rw [if_neg hj]
      by_cases hj1:j<off
      ·rw [List.append_assoc,List.getElem?_append_left (by simp [kL];omega),List.getElem?_take_of_lt hj1]
      rw [List.getElem?_append_right (by simp [kL];omega),List.getElem?_drop]
      simp only [List.length_append,List.length_take,kL]
      rw [Nat.min_eq_left (by omega)]
      congr 1
      omega
def tL (l:SFr):List (Nat×Operand)→Option (List (Nat×SV))
 | []=>some []
 |(i,x)::q=>match evS l x with
  |some v=>match tL l q with
   |some vs=>some ((i,v)::vs)
   |none=>none
  |none=>none
theorem aBZ {E:Env} {l:SFr}:∀ {q:List (Nat×Operand)} {ps:List (Nat×SV)},tL l q=some ps→qG (gF E l) q=some (gP E ps)
 | [],ps,h=>by simp only [tL,Option.some.injEq] at h;subst h;rfl
 |(i,x)::q,ps,h=>by
  simp only [tL] at h
  cases hx:evS l x with
  |none=>simp [hx] at h
  |some v=>
   cases hq:tL l q with
   |none=>simp [hx,hq] at h
   |some vs=>
    simp only [hx,hq,Option.some.injEq] at h
    subst h
    simp only [qG,bT hx,aBZ hq,gP]
def unV:List SV→Option (List Value)
 | []=>some []
 |x::xs=>match x with
  | .v x=>match unV xs with
   |some vs=>some (x::vs)
   |none=>none
  |_=>none
theorem aPT (E:Env):∀ {xs:List SV} {vs:List Value},unV xs=some vs→SV.gs E xs=vs
 | [],vs,h=>by simp only [unV,Option.some.injEq] at h;subst h;rfl
 |x::xs,vs,h=>by
  cases x<;>simp only [unV] at h<;>try (cases h;done)
  cases hv:unV xs with
  |none=>simp [hv] at h
  |some ws=>
   simp only [hv,Option.some.injEq] at h
   subst h
   simp only [SV.gs,SV.g,aPT E hv]
def tC (sz:Nat):Nat→List Value→List (List Value)
 |0,_=>[]
 |m+1,vs=>vs.take sz::tC sz m (vs.drop sz)
theorem aMB (sz:Nat):∀(m:Nat) (vs:List Value),vs.length=m*sz→(∀r∈tC sz m vs,r.length=sz)∧(tC sz m vs).length=m∧(tC sz m vs).flatten=vs
 |0,vs,h=>by
  have:vs=[]:=List.eq_nil_of_length_eq_zero (by simpa using h)
  subst this
  simp [tC]
 |m+1,vs,h=>by
  rw [Nat.add_mul] at h
  obtain ⟨h1,h2,h3⟩:=aMB sz m (vs.drop sz) (by simp;omega)
  refine ⟨fun r hr=>?_,by simp [tC,h2],by simp [tC,h3]⟩
  simp only [tC,List.mem_cons] at hr
  rcases hr with rfl|hr
  ·simp;omega
  exact h1 r hr
def uE (z:List Value):Nat→List Value
 |0=>[]
 |m+1=>z++uE z m
theorem wZ (z:List Value):∀m,(uE z m).length=m*z.length
 |0=>by simp [uE]
 |m+1=>by simp [uE,wZ z m,Nat.add_mul];omega
theorem aCA (z:List Value):∀(m i:Nat),i<m*z.length→(uE z m)[i]? = z[i%z.length]?
 |0,i,h=>by simp at h
 |m+1,i,h=>by
  rw [Nat.add_mul] at h
  simp only [uE]
  by_cases hi:i<z.length
  ·rw [List.getElem?_append_left hi,Nat.mod_eq_of_lt hi]
  rw [List.getElem?_append_right (by omega),aCA z m _ (by omega)]
  congr 1
  conv=>rhs;rw [←Nat.sub_add_cancel (show z.length≤i by omega),Nat.add_mod_right]
theorem aHW (z:List Value):∀m,uE z m=(List.replicate m z).flatten
 |0=>rfl
 |m+1=>by simp [uE,aHW z m,List.replicate_succ]
theorem aQE (z:Array Value) (m:Nat):((Array.range (m*z.size)).map ((if m*z.size=0 then #[] else z)[· % (if m*z.size=0 then #[] else z).size]!))=(uE z.toList m).toArray:=by
 by_cases h0:m*z.size=0
 ·simp only [h0,if_true]
  have:uE z.toList m=[]:=List.eq_nil_of_length_eq_zero (by rw [wZ];simpa using h0)
  rw [this];simp
 simp only [h0,if_false]
 apply Array.ext_getElem?
 intro i
 by_cases hi:i<m*z.size
 ·have h1:=aCA z.toList m i (by simpa using hi)
  have hz:0<z.size:=Nat.pos_of_ne_zero (fun e=>h0 (by simp [e]))
  have hlt:=Nat.mod_lt i hz
  simp only [List.getElem?_toArray,h1,Array.length_toList,Array.getElem?_toList]
  rw [Array.getElem?_map,Array.getElem?_range]
  simp [hi,hlt,getElem!_pos]
 rw [Array.getElem?_eq_none (by simp;omega),Array.getElem?_eq_none (by simp [wZ];omega)]
def remO (H:SH):Option Nat→SH
 |some b=>aDG H b
 |none=>H
def aAQ:List Value→Bool
 | []=>true
 |x::xs=>match x.oneCell' with
  |true=>aAQ xs
  |false=>false
theorem wC:∀ {xs:List Value},aAQ xs=true → ∀v∈xs,v.oneCell'=true
 | [],_,v,h=>by cases h
 |x::xs,hx,v,h=>by
  simp only [aAQ] at hx
  cases h1:x.oneCell' with
  |false=>simp [h1] at hx
  |true=>
   simp only [h1] at hx
   rcases List.mem_cons.1 h with rfl|h
   ·exact h1
   exact wC hx v h
def aBK (row:List Value) (off:Nat) (vals:List Value):List Value:=row.take off++vals++row.drop (off+vals.length)
def rowsAt (H:SH) (b:Nat):Option (Nat×List (List Value)):=
 match dE H b with
 |some (.own _ sz rows)=>some (sz,rows)
 |some (.ro sz rows)=>some (sz,rows)
 |_=>none
structure DP where
 p:Prop
 d:Decidable p
def sA (k:Nat) (x y:SV):Option DP:=
 match k with
 |0=>match x with
  | .v (.bool a)=>match y with
   | .v (.bool b)=>some ⟨a=b,inferInstance⟩
   |_=>none
  |_=>none
 |1=>match x with
  | .v (.int k a)=>match y with
   | .v (.int k' b)=>match same k k' with
    |true=>some ⟨a=b,inferInstance⟩
    |false=>none
   |_=>none
  |_=>none
 |2=>match x with
  | .v (.string a)=>match y with
   | .v (.string b)=>some ⟨a=b,inferInstance⟩
   |_=>none
  |_=>none
 |_=>none
def oY:List Nat→List SV→List SV→Option DP
 | [],[],[]=>some ⟨True,inferInstance⟩
 |k::ks,x::xs,y::ys=>match sA k x y with
  |some ⟨p,i⟩=>match ks with
   | []=>match xs with
    | []=>match ys with
     | []=>some ⟨p,i⟩
     |_::_=>none
    |_::_=>none
   |_::_=>match oY ks xs ys with
    |some ⟨q,j⟩=>some ⟨p∧q,@instDecidableAnd p q i j⟩
    |none=>none
  |none=>none
 |_,_,_=>none
def tK:SV→Option (List SV)
 | .agg cs=>some cs
 | .v (.agg cs)=>some (toV cs.toList)
 |_=>none
def eqA (T:Tab P) (op:BinOp) (t:TypeId) (x y:SV):PuS:=
 match aRV T.eqs t with
 |some ks=>match tK x with
  |some xs=>match tK y with
   |some ys=>match oY ks xs ys with
    |some ⟨p,i⟩=>match op with
     | .eql=>.tst p i
     | .neq=>.ntst p i
     |_=>.stop
    |none=>.stop
   |none=>.stop
  |none=>.stop
 |none=>.stop
def isAggS:SV→Bool
 | .agg _=>true
 | .v (.agg _)=>true
 |_=>false
def evO (T:Tab P) (l:SFr) (H:SH) (nx:Nat) (op:Op):PuS:=
 match op with
 | .move x=>match evS l x with
  |some v=>.val v
  |none=>.stop
 | .assign x=>match evS l x with
  |some v=>.val v
  |none=>.stop
 | .pick c a b=>match evS l c with
  |some (.v (.bool true))=>match evS l a with
   |some v=>.val v
   |none=>.stop
  |some (.v (.bool false))=>match evS l b with
   |some v=>.val v
   |none=>.stop
  |_=>.stop
 | .extract t i=>match evS l t with
  |some (.tup vs)=>match nth vs i with
   |some v=>.val v
   |none=>.stop
  |some (.v _)=>kE T l op
  |_=>.stop
 | .fieldAddr t x f=>match evS l x with
  |some (.ptr b off)=>match bU T.und t with
   |some (.struct fs)=>match nth fs f with
    |some (o,_,_)=>match o with
     |0=>.val (.ptr b off)
     |o+1=>.val (.ptr b (off+(o+1)))
    |none=>.stop
   |_=>.stop
  |some (.row b i off sz)=>match bU T.und t with
   |some (.struct fs)=>match nth fs f with
    |some (o,_,_)=>match o with
     |0=>.val (.row b i off sz)
     |o+1=>.val (.row b i (off+(o+1)) sz)
    |none=>.stop
   |_=>.stop
  |some (.v _)=>kE T l op
  |_=>.stop
 | .field t x f=>match evS l x with
  |some (.agg cs)=>match bU T.und t with
   |some (.struct fs)=>match nth fs f with
    |some (o,_,false)=>match nth cs o with
     |some v=>.val v
     |none=>.stop
    |some (o,n,true)=>.vala ((cs.drop o).take n)
    |none=>.stop
   |_=>.stop
  |some (.v _)=>kE T l op
  |_=>.stop
 | .indexAddr t x i=>match evS l x with
  |some (.buf b)=>match evS l i with
   |some (.v (.int _ n))=>match bU T.und t with
    |some (.slice _ sz)=>match rowsAt H b with
     |some (sz',rows)=>match Nat.beq sz sz' with
      |true=>.ob (0≤n∧n<rows.length) (.row b n 0 sz)
      |false=>.stop
     |none=>.stop
    |_=>.stop
   |_=>.stop
  |some (.ptr b off)=>match evS l i with
   |some (.v (.int _ n))=>match bU T.und t with
    |some (.array len _ sz)=>.ob (0≤n∧n<len) (.ptr b (off+n.toNat*sz))
    |_=>.stop
   |_=>.stop
  |some (.v _)=>kE T l op
  |_=>.stop
 | .nilCheck x=>match evS l x with
  |some (.ptr b off)=>.val (.ptr b off)
  |some (.row b i off sz)=>.val (.row b i off sz)
  |some (.v _)=>kE T l op
  |_=>.stop
 | .makeInterface t x=>match evS l x with
  |some (.v _)=>kE T l op
  |some y=>match bU T.und t with
   |some .iface=>.stop
   |some _=>.val (.ifc t y)
   |none=>.stop
  |none=>.stop
 | .makeFunc fn first captured=>match kH l first.toList with
  |some a=>match kH l captured.toList with
   |some b=>.val (.fn fn a b)
   |none=>.stop
  |none=>.stop
 | .load t x=>match evS l x with
  |some (.ptr b off)=>match dE H b with
   |some (.cells _ cs)=>match fY T t with
    |true=>match nth cs off with
     |some v=>.val v
     |none=>.stop
    |false=>match xZ T t with
     |true=>match eQ T.inf t with
      |some i=>match Nat.ble (off+i.size) cs.length with
       |true=>.vala ((cs.drop off).take i.size)
       |false=>.stop
      |none=>.stop
     |false=>.stop
   |_=>.stop
  |some (.row b i off sz)=>match rowsAt H b with
   |some (sz',rows)=>match Nat.beq sz sz' with
    |true=>match fY T t with
     |true=>.rowv rows i off
     |false=>match xZ T t with
      |true=>match eQ T.inf t with
       |some j=>.rowa rows i off j.size
       |none=>.stop
      |false=>.stop
    |false=>.stop
   |none=>.stop
  |some (.v (.pointer (some ⟨b,off,none⟩)))=>match fY T t with
   |true=>.old b off
   |false=>match xZ T t with
    |true=>match eQ T.inf t with
     |some j=>.olda b off j.size
     |none=>.stop
    |false=>.stop
  |_=>.stop
 | .store t x y=>match evS l x with
  |some (.ptr b off)=>match dE H b with
   |some (.cells t' cs)=>match evS l y with
    |some v=>match eQ T.inf t with
     |some i=>match vK H v with
      |some xs=>match Nat.beq xs.length i.size with
       |true=>match aNN H xs with
        |true=>match Nat.ble (off+xs.length) cs.length with
         |true=>.put b (.cells t' (spl cs off xs))
         |false=>.stop
        |false=>.stop
       |false=>.stop
      |none=>.stop
     |none=>.stop
    |none=>.stop
   |_=>.stop
  |some (.row b i off sz)=>match dE H b with
   |some (.own e sz' rows)=>match Nat.beq sz sz' with
    |true=>match evS l y with
     |some v=>match eQ T.inf t with
      |some j=>match aCB v with
       |some xs=>match unV xs with
        |some vals=>match Nat.beq vals.length j.size with
         |true=>match aAQ vals with
          |true=>match Nat.ble (off+vals.length) sz with
           |true=>.rput b e sz rows i off vals
           |false=>.stop
          |false=>.stop
         |false=>.stop
        |none=>.stop
       |none=>.stop
      |none=>.stop
     |none=>.stop
    |false=>.stop
   |_=>.stop
  |_=>.stop
 | .box t x=>match evS l x with
  |some v=>match vK H v with
   |some cs=>.new (.ptr nx 0) (.cells t cs)
   |none=>.stop
  |none=>.stop
 | .alloc t=>match eQ T.inf t with
  |some i=>.new (.ptr nx 0) (.cells t (toV i.zero.cells.toList))
  |none=>.stop
 | .build t parts=>match tL l parts.toList with
  |some ps=>match eQ T.inf t with
   |some i=>match bU T.und t with
    |some (.struct fs)=>match aCO H (fun k=>match nth fs k with|some (o,n,_)=>some (o,n)|none=>none) (toV i.zero.cells.toList) ps with
     |some cs=>.vala cs
     |none=>.stop
    |some (.array _ _ sz)=>match aCO H (fun k=>some (k*sz,sz)) (toV i.zero.cells.toList) ps with
     |some cs=>.vala cs
     |none=>.stop
    |_=>.stop
   |none=>.stop
  |none=>.stop
 | .buildSlice t m parts=>match bU T.und t with
  |some (.slice e sz)=>match eQ T.inf e with
   |some i=>match Nat.beq i.zero.cells.size i.size with
    |true=>match tL l parts.toList with
     |some ps=>match Nat.ble (m*i.size) 16777216 with
      |true=>match aCO H (fun j=>some (j*i.size,i.size)) (toV (uE i.zero.cells.toList m)) ps with
       |some cs=>match unV cs with
        |some vs=>match Nat.beq vs.length (m*i.size) with
         |true=>match aAQ vs with
          |true=>match Nat.ble m 16777216 with
           |true=>.new (.buf nx) (.own e i.size (tC i.size m vs))
           |false=>.stop
          |false=>.stop
         |false=>.stop
        |none=>.stop
       |none=>.stop
      |false=>.stop
     |none=>.stop
    |false=>.stop
   |none=>.stop
  |_=>.stop
 | .makeSlice t x y=>match evS l x with
  |some (.v (.int _ n))=>match evS l y with
   |some (.v (.int _ m))=>match bU T.und t with
    |some (.slice e _)=>match eQ T.inf e with
     |some i=>match Nat.beq i.zero.cells.size i.size with
      |true=>match aAQ i.zero.cells.toList with
       |true=>.newo (0≤n∧n≤m∧(i.bytes:Int)*m≤281474976710656∧m≤9223372036854775807) (.buf nx) (.own e i.size (List.replicate n.toNat i.zero.cells.toList))
       |false=>.stop
      |false=>.stop
     |none=>.stop
    |_=>.stop
   |_=>.stop
  |_=>.stop
 | .call c=>match c.callee with
  | .builtin .append=>match c.args.toList with
   | [x,y]=>match c.argTypes.toList with
    | [t,t2]=>match Nat.beq t t2 with
     |true=>match bU T.und t with
      |some (.slice e _)=>match eQ T.inf e with
       |some i=>match Nat.beq i.zero.cells.size i.size with
        |true=>match Nat.blt 0 i.size with
         |true=>match evS l y with
          |some (.buf b2)=>match rowsAt H b2 with
           |some (sz2,rows2)=>match Nat.beq sz2 i.size with
            |true=>match evS l x with
             |some (.buf b)=>match dE H b with
              |some (.own e' sz rows)=>match Nat.beq e e' with
               |true=>match Nat.beq sz i.size with
                |true=>.app (0<1∧rows.length+rows2.length≤9223372036854775807∧(rows.length+rows2.length)*i.bytes≤140737488355328∧b≠b2) (some b) (.own e sz (rows++rows2))
                |false=>.stop
               |false=>.stop
              |_=>.stop
             |some (.v (.slice none 0 0))=>.app (0<1∧rows2.length≤9223372036854775807∧rows2.length*i.bytes≤140737488355328) none (.own e i.size rows2)
             |_=>.stop
            |false=>.stop
           |none=>.stop
          |_=>.stop
         |false=>.stop
        |false=>.stop
       |none=>.stop
      |_=>.stop
     |false=>.stop
    |_=>.stop
   |_=>.stop
  | .builtin .len=>match c.args.toList with
   | [x]=>match evS l x with
    |some (.buf b)=>match c.argTypes.toList with
     | [t]=>match bU T.und t with
      |some (.slice _ _)=>match rowsAt H b with
       |some (_,rows)=>.val (.v (.int .i64 rows.length))
       |none=>.stop
      |_=>.stop
     |_=>.stop
    |some (.v _)=>kE T l op
    |_=>.stop
   |_=>.stop
  | .builtin .max=>kE T l op
  | .builtin .min=>kE T l op
  |_=>.stop
 | .binOp bop t x y _=>match evS l x with
  |some a=>match isAggS a with
   |true=>match evS l y with
    |some b=>eqA T bop t a b
    |none=>.stop
   |false=>match bop with
    | .rem=>match a with
     | .v (.int .i64 m)=>match evS l y with
      |some (.v (.int .i64 n))=>.rem m n
      |_=>.stop
     |_=>kE T l op
    |_=>kE T l op
  |none=>.stop
 | .unOp _ _ _=>kE T l op
 | .convert t t2 x=>match evS l x with
  |some (.buf b)=>match bU T.und t with
   |some (.slice e _)=>match bU T.und e with
    |some (.int .u8)=>match bU T.und t2 with
     |some .str=>match rowsAt H b with
      |some (1,rows)=>.bytes rows
      |_=>.stop
     |_=>.stop
    |_=>.stop
   |_=>.stop
  |_=>kE T l op
 | .index _ _ _=>kE T l op
 | .slice t x lo hi none=>match evS l x with
  |some (.buf b)=>match dE H b with
   |some (.ro sz rows)=>match bU T.und t with
    |some (.slice _ sz')=>match Nat.beq sz' sz with
     |true=>match lo with
      |none=>match hi with
       |some y=>match evS l y with
        |some (.v (.int _ n))=>.sub (0≤n∧n≤rows.length) (.ro sz (rows.take n.toNat))
        |_=>.stop
       |none=>.stop
      |some y=>match hi with
       |none=>match evS l y with
        |some (.v (.int _ n))=>.sub (0≤n∧n≤rows.length) (.ro sz (rows.drop n.toNat))
        |_=>.stop
       |some _=>.stop
     |false=>.stop
    |_=>.stop
   |_=>.stop
  |_=>kE T l op
 |_=>.stop
end Go.Fw

namespace Go.Fw
open Go
variable {P:Program}
set_option maxHeartbeats 4000000
section
variable (P) (n:Nat) (F:Nat→Prop) (h0:Array Obj) (nx:Nat) (l:SFr) (H:SH) (o:Oper)
def PuS.ok:PuS→Prop
 | .stop=>True
 | .val x=>cV P n F h0 l H o x H
 | .vala cs=>cV P n F h0 l H o (.agg cs) H
 | .ob p x=>p→cV P n F h0 l H o x H
 | .tst p i=>cV P n F h0 l H o (.v (.bool (@decide p i))) H
 | .ntst p i=>cV P n F h0 l H o (.v (.bool (!@decide p i))) H
 | .new x b=>bdH nx H=true→bdB nx b=true→aEY P n F h0 nx l H o x ((nx,b)::H)
 | .newo p x b=>p→bdH nx H=true→bdB nx b=true→aEY P n F h0 nx l H o x ((nx,b)::H)
 | .app p r b=>p→bdH nx H=true→aEY P n F h0 nx l H o (.buf nx) ((nx,b)::remO H r)
 | .put b y=>cV P n F h0 l H o (.v undef) (rD H b y)
 | .puto p b y=>p→cV P n F h0 l H o (.v undef) (rD H b y)
 | .rowv rows i off=>∀row,rows[i.toNat]? = some row → ∀x,nth row off=some x→cV P n F h0 l H o (.v x) H
 | .rowa rows i off m=>∀row,rows[i.toNat]? = some row→off+m≤row.length→cV P n F h0 l H o (.agg (toV ((row.drop off).take m))) H
 | .rput b e sz rows i off vals=>∀row,rows[i.toNat]? = some row→cV P n F h0 l H o (.v undef) (rD H b (.own e sz (rows.set i.toNat (aBK row off vals))))
 | .rem x y=>∀r,aOF x y r→cV P n F h0 l H o (.v (.int .i64 r)) H
 | .sub p b=>p→bdH nx H=true → ∀E h,Sat E F H h→Kp F h0 h → ∃v,(∀a w,bO n (gF E l) a→(execOp a.eval o).run P w=.ok (.value v) w)∧Sat (push E nx v) F ((nx,b)::H) h
 | .bytes rows=>∀is,rows=kA is→EffL P n F h0 l H o (.v (.string (aJY is))) H
 | .old b off=>∀v,OldC F h0 b off v→cV P n F h0 l H o (.v v) H
 | .olda b off m=>∀vs,vs.length=m→aHS F h0 b off vs→cV P n F h0 l H o (.agg (toV vs)) H
end
section
variable {n:Nat} {F:Nat→Prop} {h0:Array Obj} {nx:Nat} {l:SFr} {H:SH} {o:Oper}
theorem fC (T:Tab P) (op:Op) (ho:o.op=op):(kE T l op).ok P n F h0 nx l H o:=by
 have key:∀E a w,bO n (gF E l) a→(ev1 T (evl l (opnds op)) op).ok fun v=>(execOp a.eval o).run P w=.ok (.value v) w:=fun E a w ha=>aKK T n _ op a w o (ha.sub (aDS E l _)) ho
 unfold kE
 cases hv:ev1 T (evl l (opnds op)) op with
 |stop=>trivial
 |val v=>exact cV.of_plain fun E h S K a w ha=>by have:=key E a w ha;rw [hv] at this;exact this
 |ob p v=>exact fun hp=>cV.of_plain fun E h S K a w ha=>by have:=key E a w ha;rw [hv] at this;exact this hp
 |tst p i=>exact cV.of_plain fun E h S K a w ha=>by have:=key E a w ha;rw [hv] at this;exact this
 |ntst p i=>exact cV.of_plain fun E h S K a w ha=>by have:=key E a w ha;rw [hv] at this;exact this
theorem Sat.cellsAt {E:Env} {h:Array Obj} (S:Sat E F H h) {b:Nat} {t:TypeId} {cs:List SV} (hl:dE H b=some (.cells t cs)):
  E b=.pointer (some ⟨jH (E b),0,none⟩)∧At h (jH (E b)) (SV.gs E cs).toArray t ∧ ¬F (jH (E b)):=by
 obtain ⟨g,h1,h2,h3⟩:=S.ok _ (cG hl)
 simp only at h1
 have:jH (E b)=g:=by rw [h1];rfl
 rw [this];exact ⟨h1,h2,h3⟩
theorem Sat.rowsAt {E:Env} {h:Array Obj} (S:Sat E F H h) {b sz:Nat} {rows:List (List Value)} (hl:rowsAt H b=some (sz,rows)):
  oU sz rows ∧ ∃a cap,E b=.slice a rows.length cap∧(rows=[] ∨ ∃g o,a=some ⟨g,o,none⟩∧kW h g o rows.flatten):=by
 unfold Fw.rowsAt at hl
 split at hl
 ·rename_i e sz' rows' hb
  simp only [Option.some.injEq,Prod.mk.injEq] at hl
  obtain ⟨rfl,rfl⟩:=hl
  obtain ⟨h1,h2,h3⟩:=S.ok _ (cG hb)
  refine ⟨h1,?_⟩
  obtain ⟨h4,⟨h5,h6⟩|⟨g,cap,cur,h5,h6,h7,h8,h9,h10,h11⟩⟩:=h2
  ·simp only at h5
   exact ⟨none,0,by rw [h5,h6],.inl (List.eq_nil_of_length_eq_zero h6)⟩
  refine ⟨_,cap,h5,.inr ⟨g,0,rfl,fun j v hj=>?_⟩⟩
  rw [←h11] at hj
  rw [h7.cell,Nat.zero_add]
  rw [List.getElem?_take] at hj
  split at hj
  ·simpa using hj
  cases hj
 ·rename_i sz' rows' hb
  simp only [Option.some.injEq,Prod.mk.injEq] at hl
  obtain ⟨rfl,rfl⟩:=hl
  obtain ⟨h1,_,a,cap,h2,h3⟩:=S.ok _ (cG hb)
  refine ⟨h1,a,cap,h2,?_⟩
  rcases h3 with h3|⟨g,o,h3,_,h4⟩
  ·exact .inl h3
  exact .inr ⟨g,o,h3,h4⟩
 cases hl
theorem Sat.rowsLen {E:Env} {h:Array Obj} (S:Sat E F H h) {b sz:Nat} {rows:List (List Value)} (hl:Fw.rowsAt H b=some (sz,rows)):rows.length≤9223372036854775807:=by
 unfold Fw.rowsAt at hl
 split at hl
 ·rename_i e sz' rows' hb
  simp only [Option.some.injEq,Prod.mk.injEq] at hl
  obtain ⟨rfl,rfl⟩:=hl
  obtain ⟨h1,⟨h4,⟨h5,h6⟩|⟨g,cap,cur,h5,h6,h7,h8,h9,h10,h11⟩⟩,h3⟩:=S.ok _ (cG hb)
  ·omega
  have e:maxLen=9223372036854775807:=rfl
  omega
 ·rename_i sz' rows' hb
  simp only [Option.some.injEq,Prod.mk.injEq] at hl
  obtain ⟨rfl,rfl⟩:=hl
  obtain ⟨h1,h2,_⟩:=S.ok _ (cG hb)
  exact h2.1
 cases hl
theorem Sat.rowsCap {E:Env} {h:Array Obj} (S:Sat E F H h) {b sz:Nat} {rows:List (List Value)} (hl:Fw.rowsAt H b=some (sz,rows)):aRL (E b):=by
 unfold Fw.rowsAt at hl
 split at hl
 ·rename_i e sz' rows' hb
  obtain ⟨h1,⟨h4,⟨h5,h6⟩|⟨g,cap,cur,h5,h6,h7,h8,h9,h10,h11⟩⟩,h3⟩:=S.ok _ (cG hb)
  ·simp only at h5
   rw [h5];exact Nat.le_refl 0
  simp only at h5
  rw [h5];exact h8
 ·rename_i sz' rows' hb
  obtain ⟨h1,h2,_⟩:=S.ok _ (cG hb)
  exact h2.2
 cases hl
theorem tG {sz:Nat}:∀ {rows:List (List Value)} {i off:Nat} {row:List Value} {x:Value},oU sz rows→rows[i]? = some row→row[off]? = some x→rows.flatten[i*sz+off]? = some x
 | [],i,off,row,x,_,h,_=>by simp at h
 |r::rs,0,off,row,x,hl,h,hx=>by
  simp only [List.getElem?_cons_zero,Option.some.injEq] at h
  subst h
  have:=(List.getElem?_eq_some_iff.1 hx).1
  rw [List.flatten_cons,List.getElem?_append_left (by omega),Nat.zero_mul,Nat.zero_add]
  exact hx
 |r::rs,i+1,off,row,x,hl,h,hx=>by
  have hr:=(hl r (List.mem_cons_self ..)).1
  rw [List.flatten_cons,List.getElem?_append_right (by rw [hr,Nat.add_mul];omega)]
  have:(i+1)*sz+off - r.length=i*sz+off:=by rw [hr,Nat.add_mul];omega
  rw [this]
  exact tG (fun q hq=>hl q (List.mem_cons_of_mem _ hq)) (by simpa using h) hx
theorem aGD (T:Tab P) {L:Fr} {h:Array Obj} {t:TypeId} {x y:Operand} {b off:Nat} {v:Value} {cs:Array Value} {e:TypeId} {i:Inf} (hat:At h b cs e)
  (hop:o.op=.store t x y) (hx:ev L x=some (.pointer (some ⟨b,off,none⟩))) (hy:ev L y=some v) (hi:eQ T.inf t=some i)
  (hsz:v.cells.size=i.size) (h1:v.cells.toList.all Value.oneCell'=true) (hlt:off+v.cells.size≤cs.size):
  Eff P n L h o (fun v' h'=>v'=undef∧h'=sL h b ((cs.toList.take off)++v.cells.toList++(cs.toList.drop (off+v.cells.size))).toArray e):=by
 refine Eff.of_skip fun a w ha hh=>?_
 have hg:w.heap[b]? = some (.cells cs e (0,0)):=by rw [hh];exact hat
 have hst:=run_storeCells_at P b off e v.cells.toList 0 cs w hg (by simpa using hlt) (List.all_eq_true.1 h1)
 simp only [Nat.add_zero,Array.length_toList] at hst
 refine ⟨w.setRow b (cs.toList.take off++v.cells.toList++cs.toList.drop (off+v.cells.size)).toArray,?_,⟨rfl,rfl,rfl⟩,rfl,(aMG hg _).trans (by rw [hh])⟩
 simp [execOp,hop,ha.ev hx,ha.ev hy,Instr.storeAt,Instr.sureAddr,storeVar,oI T hi,hsz,hst]
theorem tY {h:Array Obj} {b k:Nat} (hne:k≠b) (cs:Array Value) (e:TypeId):(sL h b cs e)[k]? = h[k]? :=aJO hne cs e
theorem Sat.putB {E:Env} {h:Array Obj} (S:Sat E F H h) (K:Kp F h0 h) {b:Nat} {t:TypeId} {cs cs':List SV} (hl:dE H b=some (.cells t cs)):
  Sat E F (rD H b (.cells t cs')) (sL h (jH (E b)) (SV.gs E cs').toArray t)∧Kp F h0 (sL h (jH (E b)) (SV.gs E cs').toArray t):=by
 obtain ⟨h1,h2,h3⟩:=S.cellsAt hl
 have hF:∀k,F k→(sL h (jH (E b)) (SV.gs E cs').toArray t)[k]? = h[k]? :=fun k hk=>tY (fun e=>h3 (by rw [←e];exact hk)) _ _
 have hy:(Blk.cells t cs').ok E F (sL h (jH (E b)) (SV.gs E cs').toArray t) (E b):=⟨_,h1,xA h2.lt _ _,h3⟩
 refine ⟨Sat.set (x:=.cells t cs) rfl rfl hy hF (fun g hg=>.inl (tY (fun e=>hg ?_) _ _)) S hl,⟨by simpa [sL] using K.size,fun k hk=>(hF k hk).trans (K.same k hk),K.lt⟩⟩
 rw [h1];simp [ownB,e]
theorem Sat.pushB {E:Env} {h:Array Obj} (S:Sat E F H h) (K:Kp F h0 h) (ob:Obj):Sat E F H (h.push ob)∧Kp F h0 (h.push ob):=
 S.keeps K ⟨by simp,fun k hk=>aAT hk ob⟩
theorem Sat.newCells {E:Env} {h:Array Obj} (S:Sat E F H h) (K:Kp F h0 h) (hb:bdH nx H=true) (t:TypeId) (cs:List SV) (hbs:SV.bds nx cs=true) (vs:Array Value) (hcs:vs=(SV.gs E cs).toArray):
  Sat (push E nx (.pointer (some ⟨h.size,0,none⟩))) F ((nx,.cells t cs)::H) (h.push (.cells vs t (0,0)))∧Kp F h0 (h.push (.cells vs t (0,0))):=by
 obtain ⟨S',K'⟩:=S.pushB K (.cells vs t (0,0))
 refine ⟨S'.add hb ⟨h.size,rfl,?_,K.ge (Nat.le_refl _)⟩ (fun _ p hp hw g hg e=>?_),K'⟩
 ·rw [SV.gs_ag (jW _ _ _) _ hbs,←hcs];exact aGH _ _ _
 have:=(Blk.lt (S.ok p hp) hw hg).1
 simp only [ownB,Option.some.injEq] at e
 omega
theorem yF {v:Value} {a:Option Addr} {m c:Nat} (h:v=.slice a m c):v.ownBlock=ownB v:=by subst h;cases a<;>rfl
end
end Go.Fw
