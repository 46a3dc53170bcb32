/- Texts of this seat, joined: The base of the symbolic walk: frames as lists of live slots, worlds modulo draws, one rule for each form of code. The sym -/
import Derived.Calls
import Derived.Defers
import Derived.Deep.Quiet
import Derived.WalkKit
import Derived.Laws.StructEq
import Derived.Laws.BytesString
import Derived.Laws.CopyRow
import Derived.Laws.AppendOwn
import Derived.Laws.MakeOwn
import Derived.StillTail
import Derived.Great.FillDense
import Derived.RangeFuncRecord
import Derived.OrdersHeld
import Derived.Below
import Derived.ChangeSame
import Derived.ChangeMaps5
import Derived.RowKit
import Derived.Recover
import Derived.Laws.Tables
import Derived.MapKept
import Derived.Maps.AppendAt
set_option linter.unusedVariables false
set_option linter.unusedSimpArgs false
namespace Go.Fw
open Go
abbrev Fr:=List (Nat×Value)
def look:Fr→Nat→Option Value
 | [],_=>none
 |(s,v)::l,d=>match Nat.beq s d with
  |true=>some v
  |false=>look l d
structure Holds (n:Nat) (l:Fr) (a:Act):Prop where
 size:a.tmps.size=n
 get:∀d v,look l d=some v→a.tmps[d]? = some v
def ev (l:Fr):Operand→Option Value
 | .tmp t=>look l t
 | .const v=>some v
 | .global g=>some (.pointer (some ⟨g,0,none⟩))
 | .func f=>some (.func (.func f) #[] #[])
theorem Holds.ev {n:Nat} {l:Fr} {a:Act} (h:Holds n l a) {x:Operand} {v:Value} (hx:ev l x=some v):a.eval x=v:=by
 cases x with
 |tmp t=>have:=h.get t v hx;simp [Act.eval,this]
 |const u=>simpa [Fw.ev,Act.eval] using hx
 |global g=>simpa [Fw.ev,Act.eval] using hx
 |func f=>simpa [Fw.ev,Act.eval] using hx
theorem Holds.put {n:Nat} {l:Fr} {a:Act} (h:Holds n l a) {d:Nat} (hd:d<n) (v:Value):Holds n ((d,v)::l) (a.put (some d) v):=by
 refine ⟨by simp [Act.put,h.size],fun d' v' hv=>?_⟩
 simp only [look] at hv
 by_cases e:d=d'
 ·subst e
  simp at hv
  subst hv
  simp only [Act.put]
  rw [Array.getElem?_setIfInBounds_self_of_lt (by rw [h.size];exact hd)]
 have:Nat.beq d d'=false:=by cases hb:Nat.beq d d' with|false=>rfl|true=>exact absurd (Nat.eq_of_beq_eq_true hb) e
 simp only [this] at hv
 simp only [Act.put]
 rw [Array.getElem?_setIfInBounds_ne (by omega)]
 exact h.get _ _ hv
def Sub (l:Fr):Fr→Prop
 | []=>True
 |(s,v)::l'=>look l s=some v∧Sub l l'
theorem Sub.look {l l':Fr} (h:Sub l l') {d:Nat} {v:Value} (hv:look l' d=some v):Fw.look l d=some v:=by
 induction l' with
 |nil=>cases hv
 |cons p l' ih=>
  obtain ⟨s,u⟩:=p
  simp only [Fw.look] at hv
  by_cases e:s=d
  ·have:Nat.beq s d=true:=by simpa using e
   simp only [this,Option.some.injEq] at hv
   subst hv e
   exact h.1
  have:Nat.beq s d=false:=by cases hb:Nat.beq s d with|false=>rfl|true=>exact absurd (Nat.eq_of_beq_eq_true hb) e
  simp only [this] at hv
  exact ih h.2 hv
theorem Holds.sub {n:Nat} {l l':Fr} {a:Act} (h:Holds n l a) (hs:Sub l l'):Holds n l' a:=⟨h.size,fun _ _ hv=>h.get _ _ (hs.look hv)⟩
structure Like (w0 w:World):Prop where
 tape:w.tape=w0.tape
 os:w.os=w0.os
 output:w.output=w0.output
theorem Like.refl (w:World):Like w w:=⟨rfl,rfl,rfl⟩
theorem Like.trans {a b c:World} (h:Like a b) (k:Like b c):Like a c:=⟨k.tape.trans h.tape,k.os.trans h.os,k.output.trans h.output⟩
structure Ctx (P:Program) where
 Z:Machine→Prop
 back:∀m m',step P m=.next m'→Z m'→Z m
 fn:FuncId
 kind:CallKind
 round:Option Nat
 cs:List Frame
 w0:World
 n:Nat
def Ctx.fr {P:Program} (c:Ctx P) (a:Act) (st:List Item):Frame:=
 {fn:=c.fn,tmps:=a.tmps,todo:=st,defers:=a.defers,mode:=.run,kind:=c.kind,roundOf:=c.round}
def nth {α:Type}:List α→Nat→Option α
 | [],_=>none
 |x::_,0=>some x
 |_::l,n+1=>nth l n
theorem nth_eq {α:Type} (l:List α) (n:Nat):nth l n=l[n]? :=by
 induction l generalizing n with
 |nil=>rfl
 |cons x l ih=>cases n with
  |zero=>rfl
  |succ n=>simpa [nth] using ih n
inductive SI where
 |code (c:Code)
 |inBlock (id:Nat)
 |inLoop (body:Code)
 |inScope (body:Code)
 |ops (all:Array Oper) (rest:List Oper)
 |item (i:Item)
 /-- where ways meet: nothing in the machine -/
 |mark
def SI.it:SI→Item
 | .code c=>.code c
 | .inBlock i=>.inBlock i
 | .inLoop b=>.inLoop b
 | .inScope b=>.inScope b
 | .ops all rest=>.inRegion all (List.range' (all.size - rest.length) rest.length)
 | .item i=>i
 | .mark=>.beginRound
def SI.wf:SI→Prop
 | .ops all rest=>rest.length≤all.size∧rest=all.toList.drop (all.size - rest.length)
 | .item (.inBlock _) | .item (.inScope _)=>False
 |_=>True
def its:List SI→List Item
 | []=>[]
 |x::k=>match x with
  | .mark=>its k
  |x=>x.it::its k
def exitS (i:Nat):List SI→Option (List SI)
 | []=>none
 |x::k=>match x with
  | .inBlock j=>match Nat.beq j i with
   |true=>some k
   |false=>exitS i k
  |_=>exitS i k
def gotoS (i:Nat):List SI→Option (List SI)
 | []=>none
 |x::k=>match x with
  | .inScope b=>match findLabel b i with
   |some r=>some (.code r::.inScope b::k)
   |none=>gotoS i k
  |_=>gotoS i k
theorem exitS_it {i:Nat} {st st':List SI} (hw:∀s∈st,s.wf) (h:exitS i st=some st'):exitTo i (its st)=some (its st') ∧ ∀s∈st',s.wf:=by
 induction st with
 |nil=>cases h
 |cons x k ih=>
  have hk:∀s∈k,s.wf:=fun s hs=>hw s (List.mem_cons_of_mem _ hs)
  have hx:=hw x (List.mem_cons_self ..)
  simp only [exitS] at h
  cases x with
  |inBlock j=>
   simp only at h
   cases hb:Nat.beq j i with
   |true=>
    have:=Nat.eq_of_beq_eq_true hb
    subst this
    simp at h
    subst h
    exact ⟨by simp [its,SI.it,exitTo],hk⟩
   |false=>
    have hne:(j==i)=false:=beq_eq_false_iff_ne.2 (fun e=>by subst e;simp at hb)
    simp only [hb] at h
    simp only [its,SI.it,exitTo,hne]
    exact ih hk h
  |item it=>
   cases it<;>first|exact hx.elim|exact ih hk h
  |code=>exact ih hk h
  |inLoop=>exact ih hk h
  |inScope=>exact ih hk h
  |ops=>exact ih hk h
  |mark=>exact ih hk h
theorem gotoS_it {i:Nat} {st st':List SI} (hw:∀s∈st,s.wf) (h:gotoS i st=some st'):gotoIn i (its st)=some (its st') ∧ ∀s∈st',s.wf:=by
 induction st with
 |nil=>cases h
 |cons x k ih=>
  have hk:∀s∈k,s.wf:=fun s hs=>hw s (List.mem_cons_of_mem _ hs)
  have hx:=hw x (List.mem_cons_self ..)
  simp only [gotoS] at h
  cases x with
  |inScope b=>
   simp only at h
   cases hb:findLabel b i with
   |some r=>
    simp [hb] at h
    subst h
    refine ⟨by simp [its,SI.it,gotoIn,hb],fun s hs=>?_⟩
    rcases List.mem_cons.1 hs with rfl|hs
    ·trivial
    rcases List.mem_cons.1 hs with rfl|hs
    ·trivial
    exact hk s hs
   |none=>
    simp only [hb] at h
    simp only [its,SI.it,gotoIn,hb]
    exact ih hk h
  |item it=>
   cases it<;>first|exact hx.elim|exact ih hk h
  |code=>exact ih hk h
  |inLoop=>exact ih hk h
  |inBlock=>exact ih hk h
  |ops=>exact ih hk h
  |mark=>exact ih hk h
def Runs {P:Program} (c:Ctx P) (ds:List Deferred) (st:List SI) (l:Fr) (h:Array Obj):Prop:=
 (∀s∈st,s.wf) → ∀(a:Act) (w:World),Holds c.n l a→a.defers=ds→w.heap=h→Like c.w0 w→c.Z (lone (c.fr a (its st)) c.cs w)
theorem Ctx.eval {P:Program} (c:Ctx P) (a:Act) (st:List Item):(c.fr a st).eval=a.eval:=by
 funext x;cases x<;>rfl
section rules
variable {P:Program} {c:Ctx P} {ds:List Deferred} {k:List SI} {l:Fr} {h:Array Obj}
theorem Runs.sub {st:List SI} {l':Fr} (hs:Sub l l') (hr:Runs c ds st l' h):Runs c ds st l h:=
 fun hwf a w ha hd hh hw=>hr hwf a w (ha.sub hs) hd hh hw
theorem Runs.step {st st':List SI} (hs:∀a w,step P (lone (c.fr a (its st)) c.cs w)=.next (lone (c.fr a (its st')) c.cs w)) (hwf:(∀s∈st,s.wf) → ∀s∈st',s.wf) (hr:Runs c ds st' l h):Runs c ds st l h:=
 fun hw0 a w ha hd hh hw=>c.back _ _ (hs a w) (hr (hwf hw0) a w ha hd hh hw)
theorem wf_tail {x:SI} {k:List SI} (h:∀s∈x::k,s.wf):∀s∈k,s.wf:=fun s hs=>h s (List.mem_cons_of_mem _ hs)
theorem wf_cons {x:SI} {k:List SI} (hx:x.wf) (h:∀s∈k,s.wf):∀s∈x::k,s.wf:=fun s hs=>by
 rcases List.mem_cons.1 hs with rfl|hs
 ·exact hx
 exact h s hs
theorem Runs.skip (hr:Runs c ds k l h):Runs c ds (.code .skip::k) l h:=
 Runs.step (fun _ _=>step_lone_go (by simp [its,SI.it,stepG,stepG.exec,Ctx.fr])) wf_tail hr
theorem Runs.label {i:Nat} (hr:Runs c ds k l h):Runs c ds (.code (.label i)::k) l h:=
 Runs.step (fun _ _=>step_lone_go (by simp [its,SI.it,stepG,stepG.exec,Ctx.fr])) wf_tail hr
theorem Runs.inBlock {i:Nat} (hr:Runs c ds k l h):Runs c ds (.inBlock i::k) l h:=
 Runs.step (fun _ _=>step_lone_go (by simp [its,SI.it,stepG,stepG.exec,Ctx.fr])) wf_tail hr
theorem Runs.inScope {x:Code} (hr:Runs c ds k l h):Runs c ds (.inScope x::k) l h:=
 Runs.step (fun _ _=>step_lone_go (by simp [its,SI.it,stepG,stepG.exec,Ctx.fr])) wf_tail hr
theorem Runs.seq {x y:Code} (hr:Runs c ds (.code x::.code y::k) l h):Runs c ds (.code (.seq x y)::k) l h:=
 Runs.step (fun _ _=>step_lone_go (by simp [its,SI.it,stepG,stepG.exec,Ctx.fr])) (by exact fun hw=>wf_cons trivial (wf_cons trivial (wf_tail hw))) hr
theorem Runs.block {i:Nat} {x:Code} (hr:Runs c ds (.code x::.inBlock i::k) l h):Runs c ds (.code (.block i x)::k) l h:=
 Runs.step (fun _ _=>step_lone_go (by simp [its,SI.it,stepG,stepG.exec,Ctx.fr])) (by exact fun hw=>wf_cons trivial (wf_cons trivial (wf_tail hw))) hr
theorem Runs.scope {x:Code} (hr:Runs c ds (.code x::.inScope x::k) l h):Runs c ds (.code (.scope x)::k) l h:=
 Runs.step (fun _ _=>step_lone_go (by simp [its,SI.it,stepG,stepG.exec,Ctx.fr])) (by exact fun hw=>wf_cons trivial (wf_cons trivial (wf_tail hw))) hr
theorem Runs.loop1 {x:Code} (hr:Runs c ds (.code x::.inLoop x::k) l h):Runs c ds (.code (.loop x)::k) l h:=
 Runs.step (fun _ _=>step_lone_go (by simp [its,SI.it,stepG,stepG.exec,Ctx.fr])) (by exact fun hw=>wf_cons trivial (wf_cons trivial (wf_tail hw))) hr
theorem Runs.inLoop {x:Code} (hr:Runs c ds (.code x::.inLoop x::k) l h):Runs c ds (.inLoop x::k) l h:=
 Runs.step (fun _ _=>step_lone_go (by simp [its,SI.it,stepG,stepG.exec,Ctx.fr])) (by exact fun hw=>wf_cons trivial (wf_cons trivial (wf_tail hw))) hr
theorem Runs.exit {i:Nat} {k':List SI} (he:exitS i k=some k') (hr:Runs c ds k' l h):Runs c ds (.code (.exit i)::k) l h:=by
 intro hwf a w ha hd hh hw
 obtain ⟨h1,h2⟩:=exitS_it (wf_tail hwf) he
 refine c.back _ _ (step_lone_go ?_) (hr h2 a w ha hd hh hw)
 simp [its,SI.it,stepG,stepG.exec,Ctx.fr,h1]
theorem Runs.goto {i:Nat} {k':List SI} (he:gotoS i k=some k') (hr:Runs c ds k' l h):Runs c ds (.code (.goto i)::k) l h:=by
 intro hwf a w ha hd hh hw
 obtain ⟨h1,h2⟩:=gotoS_it (wf_tail hwf) he
 refine c.back _ _ (step_lone_go ?_) (hr h2 a w ha hd hh hw)
 simp [its,SI.it,stepG,stepG.exec,Ctx.fr,h1]
theorem Runs.region {i:Nat} {ops:Array Oper} (hr:Runs c ds (.ops ops ops.toList::k) l h):Runs c ds (.code (.region i ops false)::k) l h:=
 Runs.step (fun _ _=>step_lone_go (by simp [its,SI.it,stepG,stepG.exec,Ctx.fr,List.range_eq_range'])) (by exact fun hw=>wf_cons (by simp [SI.wf]) (wf_tail hw)) hr
theorem Runs.regionEnd {ops:Array Oper} (hr:Runs c ds k l h):Runs c ds (.ops ops []::k) l h:=
 Runs.step (fun _ _=>step_lone_go (by simp [its,SI.it,stepG,stepG.exec,Ctx.fr])) wf_tail hr
theorem Runs.cond {x:Operand} {y z:Code} {b:Bool} (hx:ev l x=some (.bool b)) (hr:Runs c ds (.code (if b then y else z)::k) l h):Runs c ds (.code (.cond x y z)::k) l h:=by
 intro hwf a w ha hd hh hw
 refine c.back _ _ (step_lone_go ?_) (hr (wf_cons trivial (wf_tail hwf)) a w ha hd hh hw)
 have he:=c.eval a (its (.code (.cond x y z)::k))
 simp only [Ctx.fr,its,SI.it] at he
 simp [its,SI.it,stepG,stepG.exec,Ctx.fr,he,ha.ev hx]
theorem Runs.mark (hr:Runs c ds k l h):Runs c ds (.mark::k) l h:=
 fun hwf a w ha hd hh hw=>hr (wf_tail hwf) a w ha hd hh hw
theorem Runs.loop {x:Code} {X:Type} (L:X→Fr) (J:X→Array Obj→Prop) (μ:X→Nat) (x0:X) (h0:J x0 h) (hs:Sub l (L x0))
  (round:∀x0 h,J x0 h→(∀x' h' l',J x' h'→μ x'<μ x0→Sub l' (L x')→Runs c ds (.inLoop x::k) l' h')→Runs c ds (.code x::.inLoop x::k) (L x0) h):
  Runs c ds (.code (.loop x)::k) l h:=by
 refine Runs.loop1 (Runs.sub hs ?_)
 have key:∀m x0 h,μ x0=m→J x0 h→Runs c ds (.code x::.inLoop x::k) (L x0) h:=by
  intro m
  induction m using Nat.strongRecOn with
  |_ m ih=>
   intro x0 h hm hJ
   exact round x0 h hJ fun x' h' l' hJ' hlt hs'=>Runs.inLoop (Runs.sub hs' (ih (μ x') (hm▸hlt) x' h' rfl hJ'))
 exact key _ x0 h rfl h0
/-! one operation -/
def guardOf (l:Fr) (ops:Array Oper) (o:Oper):Option Bool:=
 match o.guard with
 |none=>some true
 |some (j,want)=>match nth ops.toList j with
  |none=>none
  |some oj=>match oj.dst with
   |none=>none
   |some d=>match look l d with
    |some (.bool b)=>match b with
     |true=>match want with
      |true=>some true
      |false=>some false
     |false=>match want with
      |true=>some false
      |false=>some true
    |some (.tuple _)=>some false
    |_=>none
theorem wanted_of {n:Nat} {l:Fr} {a:Act} (ha:Holds n l a) {ops:Array Oper} {o:Oper} {b:Bool} (hg:guardOf l ops o=some b):Region.wanted o (yielded ops a.tmps)=b:=by
 unfold guardOf at hg
 unfold Region.wanted
 split at hg
 ·rename_i hgn
  simp at hg
  simp [hgn,hg]
 rename_i j want hgn
 simp only [hgn,yielded]
 rw [nth_eq,Array.getElem?_toList] at hg
 cases hj:ops[j]? with
 |none=>simp [hj] at hg
 |some oj=>
  simp only [hj] at hg
  cases hdd:oj.dst with
  |none=>simp [hdd] at hg
  |some d=>
   simp only [hdd] at hg
   cases hl:look l d with
   |none=>simp [hl] at hg
   |some v=>
    have hv:=ha.get d v hl
    simp only [Option.bind_some,hdd,hv]
    simp only [hl] at hg
    cases v<;>(try simp at hg)<;>first
     |(rename_i b';cases b'<;>cases want<;>simp_all)
     |(subst hg;rfl)
theorem its_ops (all:Array Oper) (r:List Oper) (k:List SI):its (.ops all r::k)=(SI.ops all r).it::its k:=rfl
theorem ops_cons {all:Array Oper} {o:Oper} {rest:List Oper} (hw:(SI.ops all (o::rest)).wf):
  ∃i,(SI.ops all (o::rest)).it=.inRegion all (i::List.range' (i+1) rest.length)∧(SI.ops all rest).it=.inRegion all (List.range' (i+1) rest.length)∧all[i]? = some o∧(SI.ops all rest).wf:=by
 obtain ⟨h1,h2⟩:=hw
 simp only [List.length_cons] at h1 h2
 have e:all.size - rest.length=all.size - (rest.length+1)+1:=by omega
 have ho:all[all.size - (rest.length+1)]? = some o:=by
  have:(all.toList.drop (all.size - (rest.length+1)))[0]? = some o:=by rw [←h2];rfl
  simpa using this
 refine ⟨all.size - (rest.length+1),by simp [SI.it,List.range'_succ],by simp [SI.it,e],ho,by omega,?_⟩
 have:rest=(all.toList.drop (all.size - (rest.length+1))).drop 1:=by rw [←h2];rfl
 rw [this,List.drop_drop]
 simp only [List.length_drop,Array.length_toList]
 congr 1
 omega
theorem fr_finish (a:Act) (all:Array Oper) (i:Nat) (todo:List Nat) (k:List Item) (v:Value):
  (c.fr a (.inRegion all (i::todo)::k)).finish v=c.fr (a.put ((all[i]?).bind (·.dst)) v) (.inRegion all todo::k):=by
 cases h:(all[i]?).bind (·.dst)<;>simp [Frame.finish,Ctx.fr,Act.put,h]
theorem stepG_oper {all:Array Oper} {i:Nat} {todo:List Nat} {k:List Item} {o:Oper} {a:Act} {w:World} (ho:all[i]? = some o) (hw:Region.wanted o (yielded all a.tmps)=true) (hnd:c.round=none ∨ ∀cl,o.op ≠ .defer cl):
  stepG P true {frame:=c.fr a (.inRegion all (i::todo)::k),callers:=c.cs,status:=.running,dying:=none} w =
   stepG.apply P true (c.fr a (.inRegion all (i::todo)::k)) c.cs none (execOp a.eval o) w:=by
 have he:=c.eval a (.inRegion all (i::todo)::k)
 simp only [Ctx.fr] at he
 simp only [stepG,stepG.exec,stepG.oper,Frame.oper?,Ctx.fr,ho,hw,Option.map_some,Option.getD_some,if_true,he]
 split
 ·rename_i hro heq
  rcases hnd with hnd|hnd
  ·simp [hnd] at hro
  exact absurd heq (hnd _)
 rfl
theorem Runs.op {all:Array Oper} {rest:List Oper} {o:Oper} (hnd:c.round=none ∨ ∀cl,o.op ≠ .defer cl) (hg:guardOf l all o=some true)
  (V:Value→Array Obj→Prop)
  (hrun:∀a w,Holds c.n l a→w.heap=h→Like c.w0 w → ∃v w',(execOp a.eval o).run P w=.ok (.value v) w'∧Like w w'∧V v w'.heap)
  {d:Nat} (hdst:o.dst=some d) (hdn:d<c.n)
  (hr:∀v h',V v h'→Runs c ds (.ops all rest::k) ((d,v)::l) h'):Runs c ds (.ops all (o::rest)::k) l h:=by
 intro hwf a w ha hd hh hw
 have hwn:=wanted_of ha hg
 obtain ⟨i,e1,e2,ho,hwf'⟩:=ops_cons (hwf _ (List.mem_cons_self ..))
 obtain ⟨v,w',hrn,hlk,hV⟩:=hrun a w ha hh hw
 have hr':=hr v _ hV (wf_cons hwf' (wf_tail hwf)) _ w' (ha.put hdn _) (by simpa [Act.put] using hd) rfl (hw.trans hlk)
 refine c.back _ _ (step_lone_go ?_) hr'
 simp only [its_ops,e1,e2]
 have hf:=fr_finish (c:=c) a all i (List.range' (i+1) rest.length) (its k) v
 rw [ho] at hf
 simp only [Option.bind_some,hdst] at hf
 rw [←hf,stepG_oper ho hwn hnd]
 simp [stepG.apply,hrn]
end rules
attribute [irreducible] Runs
end Go.Fw

namespace Go.Fw
open Go
inductive UD where
 |int (k:IntKind)
 |bool
 |str
 |slice (e sz:Nat)
 |struct (fs:List (Nat×Nat×Bool))
 |map
 |ptr
 |func
 |iface
 |array (len e sz:Nat)
 |other
 deriving Inhabited
def isAggD:TypeDesc→Bool
 | .struct _=>true
 | .array .. =>true
 |_=>false
def FieldOk (P:Program) (f:Field) (x:Nat×Nat×Bool):Prop:=
 f.offset=x.1∧(P.info? f.type).map (·.size)=some x.2.1∧x.2.1≠0 ∧ ∃d,P.underlying f.type=some d∧isAggD d=x.2.2
def FieldsOk (P:Program):List Field→List (Nat×Nat×Bool)→Prop
 | [],[]=>True
 |f::fs,x::xs=>FieldOk P f x∧FieldsOk P fs xs
 |_,_=>False
def UD.ok (P:Program) (t:Nat):UD→Prop
 | .int k=>P.underlying t=some (.int k)
 | .bool=>P.underlying t=some .bool
 | .str=>P.underlying t=some .string
 | .slice e sz=>P.underlying t=some (.slice e)∧(P.info? e).map (·.size)=some sz
 | .struct fs=>∃a,P.underlying t=some (.struct a)∧FieldsOk P a.toList fs
 | .map=>∃k e,P.underlying t=some (.map k e)
 | .ptr=>∃e,P.underlying t=some (.pointer e)
 | .func=>∃a b c,P.underlying t=some (.func a b c)
 | .iface=>∃ms,P.underlying t=some (.interface ms)
 | .array n e sz=>P.underlying t=some (.array n e)∧(P.info? e).map (·.size)=some sz
 | .other=>match P.underlying t with|some (.interface _)=>False|some _=>True|none=>False
def AllU (P:Program):List (Nat×UD)→Prop
 | []=>True
 |p::l=>p.2.ok P p.1∧AllU P l
def lookU:List (Nat×UD)→Nat→Option UD
 | [],_=>none
 |(s,u)::l,d=>match Nat.beq s d with
  |true=>some u
  |false=>lookU l d
theorem AllU.look {P:Program} {l:List (Nat×UD)} (h:AllU P l) {t:Nat} {u:UD} (hu:lookU l t=some u):u.ok P t:=by
 induction l with
 |nil=>cases hu
 |cons p l ih=>
  obtain ⟨s,q⟩:=p
  simp only [lookU] at hu
  cases hb:Nat.beq s t with
  |true=>
   simp only [hb,Option.some.injEq] at hu
   have:=Nat.eq_of_beq_eq_true hb
   subst hu this
   exact h.1
  |false=>simp only [hb] at hu;exact ih h.2 hu
structure Inf where
 zero:Value
 size:Nat
 bytes:Nat
def AllI (P:Program):List (Nat×Inf)→Prop
 | []=>True
 |p::l=>(P.info? p.1).map (fun i=>(i.zero,i.size,i.bytes))=some (some p.2.zero,p.2.size,p.2.bytes)∧AllI P l
def lookI:List (Nat×Inf)→Nat→Option Inf
 | [],_=>none
 |(s,u)::l,d=>match Nat.beq s d with
  |true=>some u
  |false=>lookI l d
theorem AllI.look {P:Program} {l:List (Nat×Inf)} (h:AllI P l) {t:Nat} {u:Inf} (hu:lookI l t=some u):
  ∃i,P.info? t=some i∧i.zero=some u.zero∧i.size=u.size∧i.bytes=u.bytes:=by
 induction l with
 |nil=>cases hu
 |cons p l ih=>
  obtain ⟨s,q⟩:=p
  simp only [lookI] at hu
  cases hb:Nat.beq s t with
  |true=>
   simp only [hb,Option.some.injEq] at hu
   have:=Nat.eq_of_beq_eq_true hb
   subst hu this
   have h1:=h.1
   cases hi:P.info? s with
   |none=>simp [hi] at h1
   |some i=>simp [hi] at h1;exact ⟨i,rfl,h1⟩
  |false=>simp only [hb] at hu;exact ih h.2 hu
def eqKindB (P:Program) (t:TypeId) (k:Nat):Bool:=
 match P.underlying t with
 |some .bool=>Nat.beq k 0
 |some (.int _)=>Nat.beq k 1
 |some .string=>Nat.beq k 2
 |_=>false
def eqSB (P:Program) (t:TypeId):List Nat→Option (List Nat)
 |k::r=>match eqKindB P t k with
  |true=>some r
  |false=>none
 | []=>none
def eqFsB (P:Program) (g:TypeId→List Nat→Option (List Nat)):List Field→Nat→List Nat→Option (List Nat)
 | [],_,ks=>some ks
 |f::fs,i,ks=>match decide (f.name ≠ "_")&&decide (f.offset=i) with
  |false=>none
  |true=>match g f.type ks with
   |none=>none
   |some r=>match decide ((P.info? f.type).map (·.size)=some (ks.length - r.length)) with
    |false=>none
    |true=>eqFsB P g fs (i+(ks.length - r.length)) r
def eqTB (P:Program):Nat→TypeId→List Nat→Option (List Nat)
 |0,t,ks=>eqSB P t ks
 |d+1,t,ks=>match P.underlying t with
  |some (.struct fs)=>match P.stoodInHeld t with
   |true=>none
   |false=>eqFsB P (eqTB P d) fs.toList 0 ks
  |_=>eqSB P t ks
def aggT (P:Program) (t:TypeId):Bool:=match P.underlying t with
 |some (.struct _)=>true
 |_=>false
def eqOkB (P:Program) (t:TypeId) (ks:List Nat):Bool:=aggT P t&&decide (eqTB P 8 t ks=some []) && !P.eqGuardType P.depth t
def AllE (P:Program):List (Nat×List Nat)→Prop
 | []=>True
 |p::l=>eqOkB P p.1 p.2=true∧AllE P l
def lookE:List (Nat×List Nat)→Nat→Option (List Nat)
 | [],_=>none
 |(s,u)::l,d=>match Nat.beq s d with
  |true=>some u
  |false=>lookE l d
theorem AllE.look {P:Program} {l:List (Nat×List Nat)} (h:AllE P l) {t:Nat} {ks:List Nat} (hu:lookE l t=some ks):eqOkB P t ks=true:=by
 induction l with
 |nil=>cases hu
 |cons p l ih=>
  obtain ⟨s,q⟩:=p
  simp only [lookE] at hu
  cases hb:Nat.beq s t with
  |true=>
   simp only [hb,Option.some.injEq] at hu
   have:=Nat.eq_of_beq_eq_true hb
   subst this hu
   exact h.1
  |false=>simp only [hb] at hu;exact ih h.2 hu
structure Tab (P:Program) where
 und:List (Nat×UD)
 okU:AllU P und
 inf:List (Nat×Inf)
 okI:AllI P inf
 eqs:List (Nat×List Nat)
 okE:AllE P eqs
 mixed:P.follows .mixedOrders=true
inductive Pu where
 |stop
 |val (v:Value)
 |ob (p:Prop) (v:Value)
 /-- a test: true where p holds -/
 |tst (p:Prop) (i:Decidable p)
 /-- a test: false where p holds -/
 |ntst (p:Prop) (i:Decidable p)
def byteAt (s:ByteArray) (i:Nat):Nat:=(s.data.toList.getD i 0).toNat
def same:IntKind→IntKind→Bool
 | .i8,.i8 | .i16,.i16 | .i32,.i32 | .i64,.i64 | .u8,.u8 | .u16,.u16 | .u32,.u32 | .u64,.u64=>true
 |_,_=>false
theorem same_eq {a b:IntKind} (h:same a b=true):a=b:=by cases a<;>cases b<;>first|rfl|cases h
def fits (k:IntKind) (x:Int):Pu:=
 match k with
 | .i64=>.ob (-9223372036854775808≤x∧x≤9223372036854775807) (.int .i64 x)
 | .u64=>.val (.int .u64 (x%18446744073709551616))
 | .u32=>.val (.int .u32 (x%4294967296))
 | .u16=>.val (.int .u16 (x%65536))
 | .u8=>.val (.int .u8 (x%256))
 |k=>.val (.int k (k.wrap x))
def quoI (k:IntKind) (x y:Int):Pu:=
 match k with
 | .i64=>.ob (0≤x∧0<y∧x≤9223372036854775807) (.int .i64 (x/y))
 | .u64=>.ob (0≤x∧0<y∧x≤18446744073709551615) (.int .u64 (x/y))
 | .u8=>.ob (0≤x∧0<y∧x≤255) (.int .u8 (x/y))
 |_=>.stop
def bitI (k:IntKind) (x y:Int) (f:Nat→Nat→Nat):Pu:=
 match k with
 | .u64=>.ob ((0≤x∧x≤18446744073709551615)∧0≤y∧y≤18446744073709551615) (.int .u64 (f x.toNat y.toNat:Nat))
 | .u8=>.ob ((0≤x∧x≤255)∧0≤y∧y≤255) (.int .u8 (f x.toNat y.toNat:Nat))
 |_=>.stop
def binI (op:BinOp) (k:IntKind) (x y:Int):Pu:=
 match op with
 | .add=>fits k (x+y)
 | .sub=>fits k (x - y)
 | .mul=>fits k (x*y)
 | .quo=>quoI k x y
 | .rem=>.ob (0≤x∧0<y) (.int k (x%y))
 | .eql=>.tst (x=y) inferInstance
 | .neq=>.ntst (x=y) inferInstance
 | .lss=>.tst (x<y) inferInstance
 | .leq=>.tst (x≤y) inferInstance
 | .gtr=>.tst (y<x) inferInstance
 | .geq=>.tst (y≤x) inferInstance
 | .and=>bitI k x y (fun a b=>a&&&b)
 | .or=>bitI k x y (fun a b=>a|||b)
 | .xor=>bitI k x y (fun a b=>a ^^^ b)
 |_=>.stop
def shI (op:BinOp) (k:IntKind) (x y:Int):Pu:=
 match op with
 | .shl=>match k with
  | .u64=>.ob (0≤y∧y≤64) (.int .u64 (x*2^y.toNat%18446744073709551616))
  | .i64=>.ob ((0≤y∧y≤64) ∧ -9223372036854775808≤x*2^y.toNat∧x*2^y.toNat≤9223372036854775807) (.int .i64 (x*2^y.toNat))
  |_=>.stop
 | .shr=>match k with
  | .u64=>.ob (0≤y∧y≤64) (.int .u64 (x/2^y.toNat))
  | .i64=>.ob (0≤y∧y≤64) (.int .i64 (x/2^y.toNat))
  |_=>.stop
 |_=>.stop
def shP (op:BinOp) (k:IntKind) (x p:Int):Pu:=
 match op with
 | .shl=>fits k (x*p)
 | .shr=>.val (.int k (x/p))
 |_=>.stop
def shC (op:BinOp) (k:IntKind) (x:Int) (s:Nat):Pu:=
 match Nat.ble s k.bits with
 |true=>match s with
  |1=>shP op k x 2
  |8=>shP op k x 256
  |16=>shP op k x 65536
  |32=>shP op k x 4294967296
  |58=>shP op k x 288230376151711744
  |s=>shP op k x (2^s)
 |false=>.stop
def constNat:Operand→Option Nat
 | .const v=>match v with
  | .int _ n=>match n with
   | .ofNat s=>some s
   |_=>none
  |_=>none
 |_=>none
def isSh:BinOp→Bool
 | .shl | .shr=>true
 |_=>false
def binS (op:BinOp) (x y:ByteArray):Pu:=
 match op with
 | .add=>.ob (x.size+y.size≤9223372036854775807) (.string (x++y))
 | .eql=>.tst (x=y) inferInstance
 | .neq=>.ntst (x=y) inferInstance
 | .lss=>.val (.bool (Op.bytesLess x.toList y.toList))
 |_=>.stop
def binB (op:BinOp) (x y:Bool):Pu:=
 match op with
 | .eql=>.val (.bool (x==y))
 | .neq=>.val (.bool (!(x==y)))
 |_=>.stop
def nilB (op:BinOp) (b:Bool):Pu:=
 match op with
 | .eql=>.val (.bool b)
 | .neq=>.val (.bool (!b))
 |_=>.stop
def binN (op:BinOp) (u:UD) (a b:Value):Pu:=
 match a with
 | .slice x _ _=>match b with
  | .slice y _ _=>match u with
   | .slice _ _=>match x with
    |none=>match y with
     |none=>nilB op true
     |some _=>nilB op false
    |some _=>match y with
     |none=>nilB op false
     |some _=>.stop
   |_=>.stop
  |_=>.stop
 | .pointer x=>match b with
  | .pointer y=>match u with
   | .ptr=>match x with
    |none=>match y with
     |none=>nilB op true
     |some _=>nilB op false
    |some _=>match y with
     |none=>nilB op false
     |some _=>.stop
   |_=>.stop
  |_=>.stop
 | .iface _ _=>match b with
  | .nilIface=>match u with
   | .iface=>nilB op false
   |_=>.stop
  |_=>.stop
 | .map x=>match b with
  | .map y=>match u with
   | .map=>match x with
    |none=>match y with
     |none=>nilB op true
     |some _=>nilB op false
    |some _=>match y with
     |none=>nilB op false
     |some _=>.stop
   |_=>.stop
  |_=>.stop
 |_=>.stop
def bin {P:Program} (T:Tab P) (op:BinOp) (t:TypeId) (a b:Value):Pu:=
 match a with
 | .int k x=>match b with
  | .int k' y=>match isSh op with
   |true=>shI op k x y
   |false=>match same k k' with
    |true=>binI op k x y
    |false=>.stop
  |_=>.stop
 | .string x=>match b with
  | .string y=>binS op x y
  |_=>.stop
 | .bool x=>match b with
  | .bool y=>match lookU T.und t with
   |some .bool=>binB op x y
   |_=>.stop
  |_=>.stop
 |_=>match lookU T.und t with
  |some u=>binN op u a b
  |none=>.stop
def un (op:UnOp) (a:Value):Pu:=
 match op with
 | .not=>match a with
  | .bool b=>.val (.bool (!b))
  |_=>.stop
 | .neg=>match a with
  | .int k n=>fits k (0 - n)
  |_=>.stop
 |_=>.stop
def conv {P:Program} (T:Tab P) (src dst:TypeId) (a:Value):Pu:=
 match lookU T.und src with
 |some (.int _)=>match lookU T.und dst with
  |some (.int k)=>match a with
   | .int _ n=>fits k n
   |_=>.stop
  |_=>.stop
 |some .str=>match lookU T.und dst with
  |some .str=>match a with
   | .string s=>.val (.string s)
   |_=>.stop
  |_=>.stop
 |_=>.stop
def lenP {P:Program} (T:Tab P) (t:TypeId) (a:Value):Pu:=
 match lookU T.und t with
 |some .str=>match a with
  | .string s=>.val (.int .i64 s.size)
  |_=>.stop
 |some (.slice _ _)=>match a with
  | .slice _ n _=>.val (.int .i64 n)
  |_=>.stop
 |_=>.stop
def maxmin (isMax:Bool) (a b:Value):Pu:=
 match a with
 | .int k x=>match b with
  | .int _ y=>match isMax with
   |true=>.val (.int k (max x y))
   |false=>.val (.int k (min x y))
  |_=>.stop
 |_=>.stop
def idxStr {P:Program} (T:Tab P) (t:TypeId) (a i:Value):Pu:=
 match lookU T.und t with
 |some .str=>match a with
  | .string s=>match i with
   | .int _ n=>.ob (0≤n∧n<s.size) (.int .u8 (byteAt s n.toNat))
   |_=>.stop
  |_=>.stop
 |_=>.stop
def idxAddr {P:Program} (T:Tab P) (t:TypeId) (a i:Value):Pu:=
 match lookU T.und t with
 |some (.slice _ sz)=>match a with
  | .slice (some ⟨b,off,none⟩) len _=>match i with
   | .int _ n=>match Nat.beq sz 1 with
    |true=>.ob (0≤n∧n<len) (.pointer (some ⟨b,off+n.toNat,none⟩))
    |false=>.ob (0≤n∧n<len) (.pointer (some ⟨b,off+n.toNat*sz,none⟩))
   |_=>.stop
  |_=>.stop
 |some (.array len _ sz)=>match a with
  | .pointer (some ⟨b,off,none⟩)=>match i with
   | .int _ n=>match Nat.beq sz 1 with
    |true=>.ob (0≤n∧n<len) (.pointer (some ⟨b,off+n.toNat,none⟩))
    |false=>.ob (0≤n∧n<len) (.pointer (some ⟨b,off+n.toNat*sz,none⟩))
   |_=>.stop
  |_=>.stop
 |_=>.stop
def cutV {P:Program} (T:Tab P) (t:TypeId) (a:Value) (lo hi:Option (Option Value)):Pu:=
 match lookU T.und t with
 |some .str=>match a with
  | .string s=>match lo with
   |none=>match hi with
    |some (some (.int _ j))=>.ob (0≤j∧j≤s.size) (.string (s.extract 0 j.toNat))
    |_=>.stop
   |some (some (.int _ i))=>match hi with
    |some (some (.int _ j))=>.ob (0≤i∧i≤j∧j≤s.size) (.string (s.extract i.toNat j.toNat))
    |none=>.ob (0≤i∧i≤s.size) (.string (s.extract i.toNat s.size))
    |_=>.stop
   |_=>.stop
  |_=>.stop
 |some (.slice _ _)=>match a with
  | .slice ad _ cap=>match lo with
   |none=>match hi with
    |some (some (.int _ j))=>.ob (0≤j∧j≤cap) (.slice ad j.toNat cap)
    |_=>.stop
   |_=>.stop
  |_=>.stop
 |_=>.stop
def fieldP {P:Program} (T:Tab P) (t:TypeId) (a:Value) (f:Nat):Pu:=
 match lookU T.und t with
 |some (.struct fs)=>match a with
  | .pointer (some ⟨b,off,none⟩)=>match nth fs f with
   |some (o,_,_)=>match o with
    |0=>.val (.pointer (some ⟨b,off,none⟩))
    |o+1=>.val (.pointer (some ⟨b,off+(o+1),none⟩))
   |none=>.stop
  |_=>.stop
 |_=>.stop
def fieldV {P:Program} (T:Tab P) (t:TypeId) (a:Value) (f:Nat):Pu:=
 match lookU T.und t with
 |some (.struct fs)=>match a with
  | .agg cs=>match nth fs f with
   |some (o,_,false)=>match nth cs.toList o with
    |some v=>.val v
    |none=>.stop
   |some (o,n,true)=>.val (.agg ((cs.toList.drop o).take n).toArray)
   |_=>.stop
  |_=>.stop
 |_=>.stop
def allEv (l:Fr):List Operand→Option (List Value)
 | []=>some []
 |x::xs=>match ev l x with
  |some v=>match allEv l xs with
   |some vs=>some (v::vs)
   |none=>none
  |none=>none
theorem allEv_map {n:Nat} {l:Fr} {a:Act} (ha:Holds n l a):∀ {xs:List Operand} {vs:List Value},allEv l xs=some vs→xs.map a.eval=vs:=by
 intro xs
 induction xs with
 |nil=>intro vs h;simp [allEv] at h;exact h▸rfl
 |cons x xs ih=>
  intro vs h
  simp only [allEv] at h
  cases hx:ev l x with
  |none=>simp [hx] at h
  |some v=>
   cases hxs:allEv l xs with
   |none=>simp [hx,hxs] at h
   |some us=>simp [hx,hxs] at h;subst h;simp [ha.ev hx,ih hxs]
def ev1 {P:Program} (T:Tab P) (l:Fr) (op:Op):Pu:=
 match op with
 | .move x=>match ev l x with
  |some v=>.val v
  |none=>.stop
 | .assign x=>match ev l x with
  |some v=>.val v
  |none=>.stop
 | .pick c a b=>match ev l c with
  |some (.bool true)=>match ev l a with
   |some v=>.val v
   |none=>.stop
  |some (.bool false)=>match ev l b with
   |some v=>.val v
   |none=>.stop
  |_=>.stop
 | .extract t i=>match ev l t with
  |some (.tuple vs)=>match nth vs.toList i with
   |some v=>.val v
   |none=>.stop
  |_=>.stop
 | .binOp op t x y _=>match ev l x with
  |some a=>match isSh op with
   |true=>match constNat y with
    |some s=>match a with
     | .int k n=>shC op k n s
     |_=>.stop
    |none=>match ev l y with
     |some b=>bin T op t a b
     |none=>.stop
   |false=>match ev l y with
    |some b=>bin T op t a b
    |none=>.stop
  |none=>.stop
 | .unOp op _ x=>match ev l x with
  |some a=>un op a
  |none=>.stop
 | .convert src dst x=>match ev l x with
  |some a=>conv T src dst a
  |none=>.stop
 | .index t x i=>match ev l x with
  |some a=>match ev l i with
   |some b=>idxStr T t a b
   |none=>.stop
  |none=>.stop
 | .indexAddr t x i=>match ev l x with
  |some a=>match ev l i with
   |some b=>idxAddr T t a b
   |none=>.stop
  |none=>.stop
 | .slice t x lo hi none=>match ev l x with
  |some a=>cutV T t a (lo.map (ev l)) (hi.map (ev l))
  |none=>.stop
 | .fieldAddr t x f=>match ev l x with
  |some a=>fieldP T t a f
  |none=>.stop
 | .field t x f=>match ev l x with
  |some a=>fieldV T t a f
  |none=>.stop
 | .makeInterface t x=>match lookU T.und t with
  |some .iface=>.stop
  |some _=>match ev l x with
   |some a=>.val (.iface t a)
   |none=>.stop
  |none=>.stop
 | .makeFunc fn first captured=>match allEv l first.toList with
  |some vs=>match allEv l captured.toList with
   |some us=>.val (.func fn vs.toArray us.toArray)
   |none=>.stop
  |none=>.stop
 | .nilCheck x=>match ev l x with
  |some (.pointer (some a))=>.val (.pointer (some a))
  |_=>.stop
 | .call c=>match c.callee with
  | .builtin .len=>match c.args.toList with
   | [x]=>match c.argTypes.toList with
    | [t]=>match ev l x with
     |some a=>lenP T t a
     |none=>.stop
    |_=>.stop
   |_=>.stop
  | .builtin .max=>match c.args.toList with
   | [x,y]=>match ev l x with
    |some a=>match ev l y with
     |some b=>maxmin true a b
     |none=>.stop
    |none=>.stop
   |_=>.stop
  | .builtin .min=>match c.args.toList with
   | [x,y]=>match ev l x with
    |some a=>match ev l y with
     |some b=>maxmin false a b
     |none=>.stop
    |none=>.stop
   |_=>.stop
  |_=>.stop
 |_=>.stop
/-! soundness -/
def Pu.ok (r:Pu) (G:Value→Prop):Prop:=
 match r with
 | .stop=>True
 | .val v=>G v
 | .ob p v=>p→G v
 | .tst p _=>G (.bool (decide p))
 | .ntst p _=>G (.bool (!decide p))
theorem wrap_i64 {x:Int} (h: -9223372036854775808≤x∧x≤9223372036854775807):IntKind.i64.wrap x=x:=by
 obtain ⟨h1,h2⟩:=h
 have e1:((2:Int)^64)=18446744073709551616:=rfl
 have e2:((2:Int)^(64 - 1))=9223372036854775808:=rfl
 simp only [IntKind.wrap,IntKind.bits,IntKind.signed,Bool.true_and,decide_eq_true_eq,ge_iff_le,e1,e2]
 split<;>omega
theorem wrap_u (x:Int):IntKind.u64.wrap x=x%18446744073709551616∧IntKind.u32.wrap x=x%4294967296∧IntKind.u16.wrap x=x%65536∧IntKind.u8.wrap x=x%256:=by
 refine ⟨?_,?_,?_,?_⟩<;>simp [IntKind.wrap,IntKind.bits,IntKind.signed]
theorem fits_ok (k:IntKind) (x:Int) (G:Value→Prop) (h:G (.int k (k.wrap x))):(fits k x).ok G:=by
 obtain ⟨h1,h2,h3,h4⟩:=wrap_u x
 cases k<;>simp only [fits,Pu.ok]<;>first|exact h|exact fun hx=>by rw [wrap_i64 hx] at h;exact h|(rw [h1] at h;exact h)|(rw [h2] at h;exact h)|(rw [h3] at h;exact h)|(rw [h4] at h;exact h)
theorem bits_ok (k:IntKind) (hk:k=.u64∨k=.u8) (x y:Int) (hx:0≤x∧x≤k.max) (hy:0≤y∧y≤k.max) (f:Nat→Nat→Nat) (g:BitVec k.bits→BitVec k.bits→BitVec k.bits)
  (hfg:∀a b,(g a b).toNat=f a.toNat b.toNat):k.wrap (g (BitVec.ofInt k.bits x) (BitVec.ofInt k.bits y)).toNat=(f x.toNat y.toNat:Nat):=by
 have e:∀z:Int,0≤z∧z≤k.max→(BitVec.ofInt k.bits z).toNat=z.toNat:=by
  intro z hz
  rw [BitVec.toNat_ofInt]
  rcases hk with rfl|rfl<;>simp only [IntKind.max,IntKind.bits,IntKind.signed] at * <;> simp at hz ⊢ <;> omega
 have hlt:=(g (BitVec.ofInt k.bits x) (BitVec.ofInt k.bits y)).isLt
 rw [hfg,e x hx,e y hy] at *
 rcases hk with rfl|rfl<;>simp only [IntKind.wrap,IntKind.bits,IntKind.signed] at * <;> simp at hlt ⊢ <;> omega
theorem binI_ok (op:BinOp) (hs:isSh op=false) (k:IntKind) (x y:Int) (P:Program) (w:World) (t:TypeId):
  (binI op k x y).ok fun v=>(binOp op t (.int k x) (.int k y)).run P w=.ok v w:=by
 cases op<;>first|(cases hs;done)|skip
 all_goals simp only [binI]
 case add=>exact fits_ok _ _ _ (by simp [binOp,Op.intArith])
 case sub=>exact fits_ok _ _ _ (by simp [binOp,Op.intArith])
 case mul=>exact fits_ok _ _ _ (by simp [binOp,Op.intArith])
 case quo=>
  have key:∀x y:Int,0≤x→0<y→x≤k.max→k.wrap (x/y)=x/y:=by
   intro x y h0 h1 h2
   have a:=Int.ediv_nonneg h0 (Int.le_of_lt h1)
   have b:x/y≤x:=Int.ediv_le_self y h0
   cases k<;>simp only [IntKind.wrap,IntKind.max,IntKind.bits,IntKind.signed] at * <;> simp at h2 ⊢ <;> omega
  have main:0≤x→0<y→x≤k.max→(binOp .quo t (.int k x) (.int k y)).run P w=.ok (.int k (x/y)) w:=by
   intro h0 h1 h2
   have hy:y≠0:=by omega
   simp [binOp,Op.intDiv,hy,Int.tdiv_eq_ediv_of_nonneg h0,key x y h0 h1 h2]
  cases k<;>simp only [quoI,Pu.ok]<;>intro h<;>exact main h.1 h.2.1 h.2.2
 case rem=>
  intro h
  have hy:y≠0:=by omega
  simp [binOp,Op.intDiv,hy,Int.tmod_eq_emod_of_nonneg h.1]
 case and=>
  cases k<;>simp only [bitI,Pu.ok]
  all_goals
   intro h
   simp only [binOp,Op.intBits,ne_eq,not_true_eq_false,if_false,Sem.run_pure]
   first
    |exact congrArg (fun z=>Result.ok (Value.int _ z) w) (bits_ok .u8 (.inr rfl) x y h.1 h.2 (fun a b=>a&&&b) (fun a b=>a&&&b) (fun _ _=>BitVec.toNat_and ..))
    |exact congrArg (fun z=>Result.ok (Value.int _ z) w) (bits_ok .u64 (.inl rfl) x y h.1 h.2 (fun a b=>a&&&b) (fun a b=>a&&&b) (fun _ _=>BitVec.toNat_and ..))
 case or=>
  cases k<;>simp only [bitI,Pu.ok]
  all_goals
   intro h
   simp only [binOp,Op.intBits,ne_eq,not_true_eq_false,if_false,Sem.run_pure]
   first
    |exact congrArg (fun z=>Result.ok (Value.int _ z) w) (bits_ok .u8 (.inr rfl) x y h.1 h.2 (fun a b=>a|||b) (fun a b=>a|||b) (fun _ _=>BitVec.toNat_or ..))
    |exact congrArg (fun z=>Result.ok (Value.int _ z) w) (bits_ok .u64 (.inl rfl) x y h.1 h.2 (fun a b=>a|||b) (fun a b=>a|||b) (fun _ _=>BitVec.toNat_or ..))
 case xor=>
  cases k<;>simp only [bitI,Pu.ok]
  all_goals
   intro h
   simp only [binOp,Op.intBits,ne_eq,not_true_eq_false,if_false,Sem.run_pure]
   first
    |exact congrArg (fun z=>Result.ok (Value.int _ z) w) (bits_ok .u8 (.inr rfl) x y h.1 h.2 (fun a b=>a ^^^ b) (fun a b=>a ^^^ b) (fun _ _=>BitVec.toNat_xor ..))
    |exact congrArg (fun z=>Result.ok (Value.int _ z) w) (bits_ok .u64 (.inl rfl) x y h.1 h.2 (fun a b=>a ^^^ b) (fun a b=>a ^^^ b) (fun _ _=>BitVec.toNat_xor ..))
 case eql=>simp [Pu.ok,binOp,Op.intCmp];rfl
 case neq=>simp [Pu.ok,binOp,Op.intCmp,bne];rfl
 all_goals simp [Pu.ok,binOp,Op.intCmp]

def szB (P:Program) (e sz:Nat):Bool:=match P.info? e with|some i=>Nat.beq i.size sz|none=>false
theorem szB_ok {P:Program} {e sz:Nat} (h:szB P e sz=true):(P.info? e).map (·.size)=some sz:=by
 unfold szB at h
 split at h
 ·rename_i i hi;rw [hi,←Nat.eq_of_beq_eq_true h];rfl
 cases h
def fB (P:Program):List Field→List (Nat×Nat×Bool)→Bool
 | [],[]=>true
 |f::fs,x::xs=>Nat.beq f.offset x.1&&(szB P f.type x.2.1&&(!(Nat.beq x.2.1 0)&&((match P.underlying f.type with|some d=>isAggD d==x.2.2|none=>false)&&fB P fs xs)))
 |_,_=>false
theorem fB_ok {P:Program}:∀ {fs:List Field} {xs:List (Nat×Nat×Bool)},fB P fs xs=true→FieldsOk P fs xs
 | [],[],_=>trivial
 |f::fs,x::xs,h=>by
  simp only [fB,Bool.and_eq_true] at h
  obtain ⟨h1,h2,h3,h4,h5⟩:=h
  refine ⟨⟨Nat.eq_of_beq_eq_true h1,szB_ok h2,fun e=>(by rw [e] at h3;cases h3),?_⟩,fB_ok h5⟩
  split at h4
  ·rename_i d hd;exact ⟨d,hd,by simpa using h4⟩
  cases h4
 | [],_::_,h=>by cases h
 |_::_,[],h=>by cases h
def uB (P:Program) (p:Nat×UD):Bool:=match P.underlying p.1 with
 |none=>false
 |some d=>match p.2,d with
  | .int k,.int k'=>decide (k'=k)
  | .bool,.bool=>true
  | .str,.string=>true
  | .slice e sz,.slice e'=>Nat.beq e' e&&szB P e sz
  | .struct fs,.struct a=>fB P a.toList fs
  | .map,.map _ _=>true
  | .ptr,.pointer _=>true
  | .func,.func _ _ _=>true
  | .iface,.interface _=>true
  | .array n e sz,.array n' e'=>Nat.beq n' n&&(Nat.beq e' e&&szB P e sz)
  |_,_=>false
theorem uB_ok {P:Program} {p:Nat×UD} (h:uB P p=true):p.2.ok P p.1:=by
 obtain ⟨t,u⟩:=p
 unfold uB at h
 cases hd:P.underlying t with
 |none=>simp only [hd] at h;cases h
 |some d=>
  simp only [hd] at h
  split at h
  ·rw [UD.ok,hd,of_decide_eq_true h]
  ·exact hd
  ·exact hd
  ·simp only [Bool.and_eq_true] at h
   obtain rfl:=Nat.eq_of_beq_eq_true h.1
   exact ⟨hd,szB_ok h.2⟩
  ·exact ⟨_,hd,fB_ok h⟩
  ·exact ⟨_,_,hd⟩
  ·exact ⟨_,hd⟩
  ·exact ⟨_,_,_,hd⟩
  ·exact ⟨_,hd⟩
  ·simp only [Bool.and_eq_true] at h
   obtain rfl:=Nat.eq_of_beq_eq_true h.1
   obtain rfl:=Nat.eq_of_beq_eq_true h.2.1
   exact ⟨hd,szB_ok h.2.2⟩
  cases h
theorem allU_of {P:Program}:∀ {l:List (Nat×UD)},l.all (uB P)=true→AllU P l
 | [],_=>trivial
 |p::l,h=>by
  simp only [List.all_cons,Bool.and_eq_true] at h
  exact ⟨uB_ok h.1,allU_of h.2⟩
theorem allI_of {P:Program}:∀ {l:List (Nat×Inf)},(l.map fun p=>(P.info? p.1).map fun i=>(i.zero,i.size,i.bytes))=l.map (fun p=>some (some p.2.zero,p.2.size,p.2.bytes))→AllI P l
 | [],_=>trivial
 |p::l,h=>by
  simp only [List.map_cons,List.cons.injEq] at h
  exact ⟨h.1,allI_of h.2⟩
theorem allE_of {P:Program}:∀ {l:List (Nat×List Nat)},(l.all fun p=>eqOkB P p.1 p.2)=true→AllE P l
 | [],_=>trivial
 |p::l,h=>by
  simp only [List.all_cons,Bool.and_eq_true] at h
  exact ⟨h.1,allE_of h.2⟩
end Go.Fw

namespace Go.Fw
open Go
theorem ba_eq (a b:ByteArray):(a.toList==b.toList)=decide (a=b):=by
 rw [Bool.eq_iff_iff]
 simp only [beq_iff_eq,decide_eq_true_eq]
 constructor
 ·intro h
  apply ByteArray.ext
  apply Array.ext'
  simpa [ByteArray.toList_eq] using h
 intro h;rw [h]
variable {P:Program}
theorem shl_run (k k':IntKind) (x y:Int) (hy:0≤y∧y≤k.bits) (w:World) (t:TypeId):
  (binOp .shl t (.int k x) (.int k' y)).run P w=.ok (.int k (k.wrap (x*2^y.toNat))) w:=by
 have hm:Nat.min y.toNat k.bits=y.toNat:=Nat.min_eq_left (by omega)
 simp [binOp,Op.shift,Int.not_lt.2 hy.1,hm]
theorem shr_run (k k':IntKind) (x y:Int) (hy:0≤y∧y≤k.bits) (w:World) (t:TypeId):
  (binOp .shr t (.int k x) (.int k' y)).run P w=.ok (.int k (x/2^y.toNat)) w:=by
 have hm:Nat.min y.toNat k.bits=y.toNat:=Nat.min_eq_left (by omega)
 have:x.fdiv (2^y.toNat)=x/2^y.toNat:=by
  rw [Int.fdiv_eq_ediv]
  have:(0:Int)≤2^y.toNat:=by
   have:(0:Int)<2^y.toNat:=Int.pow_pos (by decide)
   omega
  simp [this]
 simp [binOp,Op.shift,Int.not_lt.2 hy.1,hm,this]
theorem shI_ok (op:BinOp) (hs:isSh op=true) (k k':IntKind) (x y:Int) (w:World) (t:TypeId):
  (shI op k x y).ok fun v=>(binOp op t (.int k x) (.int k' y)).run P w=.ok v w:=by
 cases op<;>first|(cases hs;done)|skip
 case shl=>
  cases k<;>simp only [shI]<;>first|trivial|skip
  case i64=>
   intro h
   have:=shl_run (P:=P) .i64 k' x y ⟨h.1.1,h.1.2⟩ w t
   rwa [wrap_i64 h.2] at this
  case u64=>
   intro h
   have:=shl_run (P:=P) .u64 k' x y ⟨h.1,h.2⟩ w t
   rwa [(wrap_u _).1] at this
 case shr=>
  cases k<;>simp only [shI]<;>first|trivial|skip
  case i64=>exact fun h=>shr_run (P:=P) .i64 k' x y ⟨h.1,h.2⟩ w t
  case u64=>exact fun h=>shr_run (P:=P) .u64 k' x y ⟨h.1,h.2⟩ w t
theorem constNat_ev {y:Operand} {s:Nat} (h:constNat y=some s) (a:Act):∃k,a.eval y=.int k (s:Int):=by
 unfold constNat at h
 split at h
 ·split at h
  ·split at h
   ·simp at h;subst h;exact ⟨_,rfl⟩
   cases h
  cases h
 cases h
theorem shC_ok (op:BinOp) (hs:isSh op=true) (k k':IntKind) (x:Int) (s:Nat) (w:World) (t:TypeId):
  (shC op k x s).ok fun v=>(binOp op t (.int k x) (.int k' (s:Int))).run P w=.ok v w:=by
 unfold shC
 split
 ·rename_i hle
  have hle:s≤k.bits:=Nat.le_of_ble_eq_true hle
  have hy:0≤(s:Int)∧(s:Int)≤k.bits:=⟨by omega,by omega⟩
  have main:(shP op k x (2^s)).ok fun v=>(binOp op t (.int k x) (.int k' (s:Int))).run P w=.ok v w:=by
   cases op<;>first|(cases hs;done)|skip
   case shl=>exact fits_ok _ _ _ (shl_run (P:=P) k k' x s hy w t)
   case shr=>exact shr_run (P:=P) k k' x s hy w t
  split<;>exact main
 trivial
theorem binS_ok (op:BinOp) (x y:ByteArray) (w:World) (t:TypeId):
  (binS op x y).ok fun v=>(binOp op t (.string x) (.string y)).run P w=.ok v w:=by
 cases op<;>simp only [binS,Pu.ok]
 case add=>
  intro h
  have h':¬IntKind.i64.max<((x.size+y.size:Nat):Int):=by
   have:IntKind.i64.max=9223372036854775807:=rfl
   omega
  have h'':¬IntKind.i64.max<(x.size:Int)+(y.size:Int):=by simpa using h'
  simp [binOp,Op.stringOp]
  exact Int.not_lt.1 h''
 case eql=>simp [binOp,Op.stringOp,ba_eq]
 case neq=>simp [binOp,Op.stringOp,ba_eq]
 case lss=>simp [binOp,Op.stringOp]
theorem equalIn_bool (d:Nat) (t:TypeId) (x y:Bool) (w:World) (ht:P.underlying t=some .bool):(Op.equalIn (d+1) t (.bool x) (.bool y)).run P w=.ok (x==y) w:=by
 simp [Op.equalIn,run_underlying ht]
theorem equal_bool (t:TypeId) (x y:Bool) (w:World) (ht:P.underlying t=some .bool):(Op.equal t (.bool x) (.bool y)).run P w=.ok (x==y) w:=
 equalIn_bool 9999 t x y w ht
theorem binB_ok (op:BinOp) (x y:Bool) (w:World) (t:TypeId) (ht:P.underlying t=some .bool):
  (binB op x y).ok fun v=>(binOp op t (.bool x) (.bool y)).run P w=.ok v w:=by
 cases op<;>simp only [binB,Pu.ok]
 case eql=>simp [binOp,equal_bool t x y w ht]
 case neq=>simp [binOp,equal_bool t x y w ht]
theorem nilB_ok (op:BinOp) (x y:Value) (b:Bool) (w:World) (t:TypeId) (he:(binOp .eql t x y).run P w=.ok (.bool b) w) (hn:(binOp .neq t x y).run P w=.ok (.bool (!b)) w):
  (nilB op b).ok fun v=>(binOp op t x y).run P w=.ok v w:=by
 cases op<;>simp only [nilB,Pu.ok]
 ·exact he
 exact hn
theorem equal_of (t:TypeId) (x y:Value) (b:Bool) (w:World) (h:∀d,(Op.equalIn (d+1) t x y).run P w=.ok b w):(Op.equal t x y).run P w=.ok b w:=h 9999
theorem nilB_of (op:BinOp) (x y:Value) (b:Bool) (w:World) (t:TypeId) (h:∀d,(Op.equalIn (d+1) t x y).run P w=.ok b w) (h1:binOp .eql t x y=(do pure (.bool (←Op.equal t x y)))) (h2:binOp .neq t x y=(do pure (.bool (!(←Op.equal t x y))))):
  (nilB op b).ok fun v=>(binOp op t x y).run P w=.ok v w:=by
 have he:=equal_of t x y b w h
 refine nilB_ok op x y b w t ?_ ?_
 ·rw [h1];simp only [Sem.run_bind,he,Result.andThen,Sem.run_pure]
 rw [h2];simp only [Sem.run_bind,he,Result.andThen,Sem.run_pure]
theorem binN_ok (T:Tab P) (op:BinOp) (t:TypeId) (u:UD) (hu:lookU T.und t=some u) (a b:Value) (w:World):(binN op u a b).ok fun v=>(binOp op t a b).run P w=.ok v w:=by
 have hk:=T.okU.look hu
 unfold binN
 split
 ·split
  ·split
   ·have h1:=hk.1
    split<;>split<;>first|trivial|exact nilB_of _ _ _ _ _ _ (fun d=>by simp [Op.equalIn,run_underlying h1]) rfl rfl
   trivial
  trivial
 ·split
  ·split
   ·obtain ⟨e,h1⟩:=hk
    split<;>split<;>first|trivial|exact nilB_of _ _ _ _ _ _ (fun d=>by simp [Op.equalIn,run_underlying h1]) rfl rfl
   trivial
  trivial
 ·split
  ·split
   ·obtain ⟨e,h1⟩:=hk
    exact nilB_of _ _ _ _ _ _ (fun d=>by simp [Op.equalIn,run_underlying h1]) rfl rfl
   trivial
  trivial
 ·split
  ·split
   ·obtain ⟨e,e',h1⟩:=hk
    split<;>split<;>first|trivial|exact nilB_of _ _ _ _ _ _ (fun d=>by simp [Op.equalIn,run_underlying h1]) rfl rfl
   trivial
  trivial
 trivial
theorem bin_ok (T:Tab P) (op:BinOp) (t:TypeId) (a b:Value) (w:World):(bin T op t a b).ok fun v=>(binOp op t a b).run P w=.ok v w:=by
 unfold bin
 split
 ·split
  ·rename_i k x _ k' y
   split
   ·rename_i hs;exact shI_ok op hs k k' x y w t
   rename_i hs
   split
   ·rename_i hk;obtain rfl:=same_eq hk;exact binI_ok op hs k x y P w t
   trivial
  trivial
 ·split
  ·exact binS_ok op _ _ w t
  trivial
 ·split
  ·split
   ·rename_i hu;exact binB_ok op _ _ w t (T.okU.look hu)
   trivial
  trivial
 split
 ·rename_i hu;exact binN_ok T op t _ hu a b w
 trivial
theorem bin_guard (T:Tab P) (op:BinOp) (t:TypeId) (x y:Operand) (a b:Value) (w:World) (G:Pu→Prop) (hstop:G .stop)
  (h:(eqGuard op t x y a b).run P w=.ok () w→G (bin T op t a b)):G (bin T op t a b):=by
 by_cases hs:bin T op t a b=.stop
 ·rw [hs];exact hstop
 apply h
 unfold eqGuard
 cases a<;>cases b<;>first
  |(exact absurd rfl hs)
  |(cases op<;>simp;done)
  |(refine absurd ?_ hs;show (match lookU T.und t with|some u=>binN op u _ _|none=>Pu.stop)=Pu.stop;cases lookU T.und t<;>rfl)
theorem Pu.ok_mono {r:Pu} {G G':Value→Prop} (h:r.ok G) (hg:∀v,G v→G' v):r.ok G':=by
 cases r with
 |stop=>trivial
 |val v=>exact hg _ h
 |ob p v=>exact fun hp=>hg _ (h hp)
 |tst p i=>exact hg _ h
 |ntst p i=>exact hg _ h
theorem un_ok (op:UnOp) (a:Value) (w:World):(un op a).ok fun v=>(Op.unary op a).run P w=.ok v w:=by
 cases op<;>simp only [un]
 case not=>cases a<;>simp [Pu.ok,Op.unary]
 case neg=>cases a<;>first|trivial|exact fits_ok _ _ _ (by simp [Op.unary,Op.intArith])
 all_goals trivial
theorem conv_ok (T:Tab P) (src dst:TypeId) (a:Value) (w:World):(conv T src dst a).ok fun v=>(convert src dst a).run P w=.ok v w:=by
 unfold conv
 split
 ·rename_i hs
  have h1:=T.okU.look hs
  split
  ·rename_i hd
   have h2:=T.okU.look hd
   split
   ·exact fits_ok _ _ _ (by simp [convert,run_underlying h1,run_underlying h2,Conv.intToInt])
   trivial
  trivial
 ·rename_i hs
  have h1:=T.okU.look hs
  split
  ·rename_i hd
   have h2:=T.okU.look hd
   split
   ·simp [Pu.ok,convert,run_underlying h1,run_underlying h2]
   trivial
  trivial
 trivial
theorem lenP_ok (T:Tab P) (t ty:TypeId) (a:Value) (w:World):(lenP T t a).ok fun v=>(Builtin.len_ #[t] ty #[a]).run P w=.ok v w:=by
 unfold lenP
 split
 ·rename_i hs
  have h1:=T.okU.look hs
  split
  ·simp [Pu.ok,Builtin.len_,run_underlying h1,goInt]
  trivial
 ·rename_i hs
  have h1:=(T.okU.look hs).1
  split
  ·simp [Pu.ok,Builtin.len_,run_underlying h1,goInt]
  trivial
 trivial
theorem idxStr_ok (T:Tab P) (t:TypeId) (a i:Value) (w:World):(idxStr T t a i).ok fun v=>(Instr.index t a i).run P w=.ok v w:=by
 unfold idxStr
 split
 ·rename_i hs
  have h1:=T.okU.look hs
  split
  ·split
   ·rename_i s _ k n
    intro h
    obtain ⟨m,rfl⟩:=Int.eq_ofNat_of_zero_le h.1
    have hm:m<s.size:=by omega
    have hm':m<s.data.size:=hm
    simp [Instr.index,asIntOf,run_underlying h1,byteAt,List.getD_eq_getElem?_getD,getElem?_pos,hm]
    rfl
   trivial
  trivial
 trivial
theorem add_none (b off m:Nat):Addr.add ⟨b,off,none⟩ m=⟨b,off+m,none⟩:=by
 unfold Addr.add
 split
 ·simp
 rfl
theorem run_sizeOf {t n:Nat} (h:(P.info? t).map (·.size)=some n) (w:World):(sizeOf t).run P w=.ok n w:=by
 cases hi:P.info? t with
 |none=>simp [hi] at h
 |some i=>simp [hi] at h;simp [sizeOf,typeInfo,hi,h]
theorem idxAddr_ok (T:Tab P) (t:TypeId) (a i:Value) (w:World):(idxAddr T t a i).ok fun v=>(Instr.indexAt t a i).run P w=.ok v w:=by
 unfold idxAddr
 split
 ·rename_i sz hs
  obtain ⟨h1,h2⟩:=T.okU.look hs
  split
  ·rename_i b off len cap
   split
   ·rename_i k n
    have main:0≤n∧n<len→(Instr.indexAt t (.slice (some ⟨b,off,none⟩) len cap) (.int k n)).run P w=.ok (.pointer (some ⟨b,off+n.toNat*sz,none⟩)) w:=by
     intro h
     simp [Instr.indexAt,asIntOf,run_underlying h1,h,run_sizeOf h2,add_none]
    split
    ·rename_i hb
     have:=Nat.eq_of_beq_eq_true hb
     subst this
     intro h
     have:=main h
     rwa [Nat.mul_one] at this
    exact main
   trivial
  trivial
 ·rename_i len e sz hs
  obtain ⟨h1,h2⟩:=T.okU.look hs
  split
  ·rename_i b off
   split
   ·rename_i k n
    have main:0≤n∧n<len→(Instr.indexAt t (.pointer (some ⟨b,off,none⟩)) (.int k n)).run P w=.ok (.pointer (some ⟨b,off+n.toNat*sz,none⟩)) w:=by
     intro h
     simp [Instr.indexAt,asIntOf,run_underlying h1,h,run_sizeOf h2,add_none,Instr.sureAddr]
    split
    ·rename_i hb
     have:=Nat.eq_of_beq_eq_true hb
     subst this
     intro h
     have:=main h
     rwa [Nat.mul_one] at this
    exact main
   trivial
  trivial
 trivial
theorem sliceBound_run (k:IntKind) (i:Int) (y:Nat) (code:BoundsCode) (h:0≤i∧i≤y) (w:World):(Instr.sliceBound (.int k i) y code).run P w=.ok i.toNat w:=by
 simp [Instr.sliceBound,asIntOf,h]
theorem cutV_ok (T:Tab P) (t:TypeId) (a:Value) (lo hi:Option (Option Value)) (lo' hi':Option Value) (hlo:∀u,lo=some u → ∀z,u=some z→lo'=some z) (hlo0:lo=none→lo'=none)
  (hhi:∀u,hi=some u → ∀z,u=some z→hi'=some z) (hhi0:hi=none→hi'=none) (w:World):
  (cutV T t a lo hi).ok fun v=>(Instr.sliceAt t a lo' hi' none).run P w=.ok v w:=by
 unfold cutV
 split
 ·rename_i hs
  have h1:=T.okU.look hs
  split
  ·split
   ·have e1:=hlo0 rfl
    split
    ·have e2:=hhi _ rfl _ rfl
     intro h
     simp [Instr.sliceAt,Instr.slice,Instr.sliceBounds,run_underlying h1,e1,e2,sliceBound_run _ _ _ _ h]
    trivial
   ·have e1:=hlo _ rfl _ rfl
    split
    ·have e2:=hhi _ rfl _ rfl
     intro h
     rename_i s _ _ i _ k j
     have hj:0≤j∧j≤(s.size:Int):=⟨by omega,h.2.2⟩
     have hi:0≤i∧i≤(j.toNat:Int):=⟨h.1,by omega⟩
     simp [Instr.sliceAt,Instr.slice,Instr.sliceBounds,run_underlying h1,e1,e2,sliceBound_run _ _ _ _ hj,sliceBound_run _ _ _ _ hi]
    ·have e2:=hhi0 rfl
     intro h
     simp [Instr.sliceAt,Instr.slice,Instr.sliceBounds,run_underlying h1,e1,e2,sliceBound_run _ _ _ _ h]
    trivial
   trivial
  trivial
 ·rename_i e sz hs
  obtain ⟨h1,h2⟩:=T.okU.look hs
  split
  ·split
   ·have e1:=hlo0 rfl
    split
    ·have e2:=hhi _ rfl _ rfl
     intro h
     rename_i ad _ _ _ _ _ _ _
     simp [Instr.sliceAt,Instr.slice,Instr.sliceBounds,run_underlying h1,e1,e2,sliceBound_run _ _ _ _ h,run_sizeOf h2,Addr.add]
    trivial
   trivial
  trivial
 trivial
theorem fieldsOk_nth {fs:List Field} {xs:List (Nat×Nat×Bool)} (h:FieldsOk P fs xs) {f:Nat} {x:Nat×Nat×Bool} (hx:xs[f]? = some x):∃fl,fs[f]? = some fl∧FieldOk P fl x:=by
 induction fs generalizing xs f with
 |nil=>cases xs with
  |nil=>simp at hx
  |cons x xs=>exact h.elim
 |cons g fs ih=>cases xs with
  |nil=>exact h.elim
  |cons y xs=>cases f with
   |zero=>simp at hx;subst hx;exact ⟨g,rfl,h.1⟩
   |succ f=>simp at hx;simpa using ih h.2 hx
theorem fieldP_ok (T:Tab P) (t:TypeId) (a:Value) (f:Nat) (w:World):(fieldP T t a f).ok fun v=>(Instr.fieldAt t a f).run P w=.ok v w:=by
 unfold fieldP
 split
 ·rename_i fs hs
  obtain ⟨ar,h1,h2⟩:=T.okU.look hs
  split
  ·rename_i b off
   split
   ·rename_i o n g hn
    rw [nth_eq] at hn
    obtain ⟨fl,hfl,hok⟩:=fieldsOk_nth h2 hn
    have hfl':ar[f]? = some fl:=by simpa using hfl
    have main:(Instr.fieldAt t (.pointer (some ⟨b,off,none⟩)) f).run P w=.ok (.pointer (some ⟨b,off+o,none⟩)) w:=by
     have ho:=hok.1
     simp only at ho
     simp [Instr.fieldAt,run_underlying h1,hfl',Instr.sureAddr,fieldPlace,run_sizeOf hok.2.1,hok.2.2.1,ho,add_none]
    cases o<;>exact main
   trivial
  trivial
 trivial
theorem fieldV_ok (T:Tab P) (t:TypeId) (a:Value) (f:Nat) (w:World):(fieldV T t a f).ok fun v=>(Instr.field t a f).run P w=.ok v w:=by
 unfold fieldV
 split
 ·rename_i fs hs
  obtain ⟨ar,h1,h2⟩:=T.okU.look hs
  split
  ·rename_i cs
   split
   ·rename_i o n hn
    rw [nth_eq] at hn
    obtain ⟨fl,hfl,hok⟩:=fieldsOk_nth h2 hn
    have hfl':ar[f]? = some fl:=by simpa using hfl
    split
    ·rename_i v hv
     rw [nth_eq] at hv
     have hv':cs[o]? = some v:=by simpa using hv
     have ho:=hok.1
     simp only at ho
     obtain ⟨d,hu,hd⟩:=hok.2.2.2
     cases d<;>simp [isAggD] at hd<;>simp [Pu.ok,Instr.field,run_underlying h1,hfl',asAgg,part,isAgg,run_underlying hu,ho,hv']
    trivial
   ·rename_i o n hn
    rw [nth_eq] at hn
    obtain ⟨fl,hfl,hok⟩:=fieldsOk_nth h2 hn
    have hfl':ar[f]? = some fl:=by simpa using hfl
    have ho:=hok.1
    simp only at ho
    obtain ⟨d,hu,hd⟩:=hok.2.2.2
    have hx:cs.extract o (o+n)=((cs.toList.drop o).take n).toArray:=by
     apply Array.ext'
     simp [Nat.add_sub_cancel_left]
    cases d<;>simp [isAggD] at hd<;>simp [Pu.ok,Instr.field,run_underlying h1,hfl',asAgg,part,isAgg,run_underlying hu,ho,run_sizeOf hok.2.1,hx]
   trivial
  trivial
 trivial
end Go.Fw

namespace Go.Fw
open Go
variable {P:Program}
theorem ev1_ok (T:Tab P) (n:Nat) (l:Fr) (op:Op) (a:Act) (w:World) (o:Oper) (ha:Holds n l a) (ho:o.op=op):
  (ev1 T l op).ok fun v=>(execOp a.eval o).run P w=.ok (.value v) w:=by
 unfold ev1
 split
 ·split
  ·rename_i hx;simp [Pu.ok,execOp,ho,ha.ev hx]
  trivial
 ·split
  ·rename_i hx;simp [Pu.ok,execOp,ho,ha.ev hx]
  trivial
 ·split
  ·rename_i hc
   split
   ·rename_i hx;simp [Pu.ok,execOp,ho,ha.ev hc,ha.ev hx,asBool]
   trivial
  ·rename_i hc
   split
   ·rename_i hx;simp [Pu.ok,execOp,ho,ha.ev hc,ha.ev hx,asBool]
   trivial
  trivial
 ·split
  ·rename_i ht
   split
   ·rename_i hv
    rw [nth_eq,Array.getElem?_toList] at hv
    simp [Pu.ok,execOp,ho,ha.ev ht,Instr.extract,hv]
   trivial
  trivial
 ·rename_i bop t x y yt
  split
  ·rename_i av hx
   have main:∀bv,ev l y=some bv→(bin T bop t av bv).ok fun v=>(execOp a.eval o).run P w=.ok (.value v) w:=by
    intro bv hy
    refine bin_guard T bop t x y av bv w (fun r=>r.ok fun v=>(execOp a.eval o).run P w=.ok (.value v) w) trivial (fun hgd=>?_)
    refine Pu.ok_mono (bin_ok T bop t av bv w) (fun v hv=>?_)
    simp [execOp,ho,ha.ev hx,ha.ev hy,hgd,hv]
   split
   ·rename_i hsh
    split
    ·rename_i s hs
     obtain ⟨k',hy⟩:=constNat_ev hs a
     split
     ·rename_i k n
      refine Pu.ok_mono (shC_ok (P:=P) bop hsh k k' n s w t) (fun v hv=>?_)
      have hgd:(eqGuard bop t x y (.int k n) (.int k' (s:Int))).run P w=.ok () w:=by
       cases bop<;>simp [isSh] at hsh<;>simp [eqGuard]
      simp [execOp,ho,ha.ev hx,hy,hgd,hv]
     trivial
    split
    ·rename_i hy;exact main _ hy
    trivial
   split
   ·rename_i hy;exact main _ hy
   trivial
  trivial
 ·split
  ·rename_i hx
   refine Pu.ok_mono (un_ok (P:=P) _ _ w) (fun v hv=>?_)
   simp [execOp,ho,ha.ev hx,hv]
  trivial
 ·split
  ·rename_i hx
   refine Pu.ok_mono (conv_ok T _ _ _ w) (fun v hv=>?_)
   simp [execOp,ho,ha.ev hx,hv]
  trivial
 ·split
  ·rename_i hx
   split
   ·rename_i hy
    refine Pu.ok_mono (idxStr_ok T _ _ _ w) (fun v hv=>?_)
    simp [execOp,ho,ha.ev hx,ha.ev hy,hv]
   trivial
  trivial
 ·split
  ·rename_i hx
   split
   ·rename_i hy
    refine Pu.ok_mono (idxAddr_ok T _ _ _ w) (fun v hv=>?_)
    simp [execOp,ho,ha.ev hx,ha.ev hy,hv]
   trivial
  trivial
 ·split
  ·rename_i hx
   rename_i t x lo hi _ av
   refine Pu.ok_mono (cutV_ok T t av (lo.map (ev l)) (hi.map (ev l)) (lo.map a.eval) (hi.map a.eval) ?_ ?_ ?_ ?_ w) (fun v hv=>?_)
   ·intro u hu z hz;cases lo with
    |none=>cases hu
    |some q=>simp at hu;subst hu;simp [ha.ev hz]
   ·intro h;cases lo with
    |none=>rfl
    |some q=>cases h
   ·intro u hu z hz;cases hi with
    |none=>cases hu
    |some q=>simp at hu;subst hu;simp [ha.ev hz]
   ·intro h;cases hi with
    |none=>rfl
    |some q=>cases h
   simp [execOp,ho,ha.ev hx,hv]
  trivial
 ·split
  ·rename_i hx
   refine Pu.ok_mono (fieldP_ok T _ _ _ w) (fun v hv=>?_)
   simp [execOp,ho,ha.ev hx,hv]
  trivial
 ·split
  ·rename_i hx
   refine Pu.ok_mono (fieldV_ok T _ _ _ w) (fun v hv=>?_)
   simp [execOp,ho,ha.ev hx,hv]
  trivial
 ·rename_i t x
  split
  ·trivial
  ·rename_i u hne hu
   have hk:=T.okU.look hu
   split
   ·rename_i hx
    have hdesc:∃d,P.underlying t=some d ∧ ∀ms,d ≠ .interface ms:=by
     cases u<;>simp only [UD.ok] at hk
     case int k=>exact ⟨_,hk,by simp⟩
     case bool=>exact ⟨_,hk,by simp⟩
     case str=>exact ⟨_,hk,by simp⟩
     case slice e sz=>exact ⟨_,hk.1,by simp⟩
     case struct fs=>obtain ⟨q,hq,_⟩:=hk;exact ⟨_,hq,by simp⟩
     case map=>obtain ⟨k,e,hq⟩:=hk;exact ⟨_,hq,by simp⟩
     case ptr=>obtain ⟨e,hq⟩:=hk;exact ⟨_,hq,by simp⟩
     case func=>obtain ⟨_,_,_,hq⟩:=hk;exact ⟨_,hq,by simp⟩
     case iface=>exact absurd rfl hne
     case array n e sz=>exact ⟨_,hk.1,by simp⟩
     case other=>
      cases hq:P.underlying t with
      |none=>simp [hq] at hk
      |some d=>refine ⟨d,rfl,fun ms e=>?_⟩;subst e;simp [hq] at hk
    obtain ⟨d,hd,hni⟩:=hdesc
    simp only [Pu.ok,execOp,ho,ha.ev hx,Instr.makeInterface]
    cases d<;>simp [run_underlying hd]<;>exact absurd rfl (hni _)
   trivial
  trivial
 ·split
  ·rename_i hf
   split
   ·rename_i hcp
    have e1:=allEv_map ha hf
    have e2:=allEv_map ha hcp
    rename_i fn first captured _ vs _ us
    have e1':first.map a.eval=vs.toArray:=by apply Array.ext';simpa using e1
    have e2':captured.map a.eval=us.toArray:=by apply Array.ext';simpa using e2
    simp [Pu.ok,execOp,ho,Instr.makeFunc,e1',e2']
   trivial
  trivial
 ·split
  ·rename_i hx;simp [Pu.ok,execOp,ho,ha.ev hx]
  trivial
 ·rename_i cl
  split
  ·rename_i hcl
   split
   ·rename_i x hargs
    split
    ·rename_i t hts
     split
     ·rename_i av hx
      have e1:cl.args = #[x]:=by apply Array.ext';simpa using hargs
      have e2:cl.argTypes = #[t]:=by apply Array.ext';simpa using hts
      refine Pu.ok_mono (lenP_ok T t o.type av w) (fun v hv=>?_)
      simp [execOp,ho,resolve,hcl,e1,e2,invoke,builtin,ha.ev hx,hv]
     trivial
    trivial
   trivial
  ·rename_i hcl
   split
   ·rename_i x y hargs
    split
    ·rename_i av hx
     split
     ·rename_i bv hy
      have e1:cl.args = #[x,y]:=by apply Array.ext';simpa using hargs
      unfold maxmin
      split
      ·split
       ·simp [Pu.ok,execOp,ho,resolve,hcl,e1,invoke,builtin,ha.ev hx,ha.ev hy,Builtin.max_,Builtin.max2]
        rw [Int.max_def];split<;>split<;>omega
       trivial
      trivial
     trivial
    trivial
   trivial
  ·rename_i hcl
   split
   ·rename_i x y hargs
    split
    ·rename_i av hx
     split
     ·rename_i bv hy
      have e1:cl.args = #[x,y]:=by apply Array.ext';simpa using hargs
      unfold maxmin
      split
      ·split
       ·simp [Pu.ok,execOp,ho,resolve,hcl,e1,invoke,builtin,ha.ev hx,ha.ev hy,Builtin.min_,Builtin.min2]
        rw [Int.min_def];split<;>split<;>omega
       trivial
      trivial
     trivial
    trivial
   trivial
  trivial
 trivial
def usesT (d:Nat):Operand→Bool
 | .tmp t=>Nat.beq t d
 |_=>false
def testsFirst (d:Nat):Code→Bool
 | .cond x _ _=>usesT d x
 | .seq a _=>testsFirst d a
 |_=>false
def tested (all:List Oper):List Oper→List SI→Nat→Bool
 | [],k,d=>match k with
  | .code x::_=>testsFirst d x
  |_=>false
 |o::rest,k,d=>
  (match o.guard with
   |some (j,_)=>match nth all j with
    |some oj=>match oj.dst with
     |some d'=>Nat.beq d' d
     |none=>false
    |none=>false
   |none=>false) ||
  ((match o.op with
    | .pick c a b=>usesT d c||((usesT d a||usesT d b)&&(match o.dst with
     |some d'=>tested all rest k d'
     |none=>false))
    | .move x=>usesT d x&&(match o.dst with
     |some d'=>tested all rest k d'
     |none=>false)
    | .assign x=>usesT d x&&(match o.dst with
     |some d'=>tested all rest k d'
     |none=>false)
    | .unOp .not _ x=>usesT d x&&(match o.dst with
     |some d'=>tested all rest k d'
     |none=>false)
    |_=>false)||tested all rest k d)
def cellH (h:Array Obj) (b o:Nat):Option Value:=
 match h[b]? with
 |some (.cells c _ _)=>c[o]?
 |_=>none
theorem cell_of {w:World} {b o:Nat} {v:Value} (h:cellH w.heap b o=some v):w.cell? ⟨b,o,none⟩=some v:=by
 unfold cellH at h
 unfold World.cell?
 split at h
 ·rename_i hb;simp [hb,h]
 cases h
def scalarB {P:Program} (T:Tab P) (t:TypeId):Bool:=
 match lookU T.und t with
 |some (.struct _)=>false
 |some (.array ..)=>false
 |some .other=>false
 |some _=>true
 |none=>false
theorem isAgg_scalar (T:Tab P) {t:TypeId} (h:scalarB T t=true) (w:World):(isAgg t).run P w=.ok false w:=by
 unfold scalarB at h
 cases hu:lookU T.und t with
 |none=>simp [hu] at h
 |some u=>
  have hk:=T.okU.look hu
  cases u<;>simp [hu] at h<;>simp only [UD.ok] at hk
  case int=>simp [isAgg,run_underlying hk]
  case bool=>simp [isAgg,run_underlying hk]
  case str=>simp [isAgg,run_underlying hk]
  case slice=>simp [isAgg,run_underlying hk.1]
  case map=>obtain ⟨_,_,hk⟩:=hk;simp [isAgg,run_underlying hk]
  case ptr=>obtain ⟨_,hk⟩:=hk;simp [isAgg,run_underlying hk]
  case func=>obtain ⟨_,_,_,hk⟩:=hk;simp [isAgg,run_underlying hk]
  case iface=>obtain ⟨_,hk⟩:=hk;simp [isAgg,run_underlying hk]
def loadAt? {P:Program} (T:Tab P) (l:Fr) (op:Op):Option (Nat×Nat):=
 match op with
 | .load t x=>match ev l x with
  |some (.pointer (some ⟨b,off,none⟩))=>match scalarB T t with
   |true=>some (b,off)
   |false=>none
  |_=>none
 |_=>none
def go (T:Tab P) (n:Nat) (h:Array Obj) (stop:List SI→Fr→Prop):Nat→List SI→Fr→Prop
 |0,st,l=>stop st l
 |f+1,st,l=>match st with
  | []=>stop st l
  |it::k=>match it with
   | .inBlock _=>go T n h stop f k l
   | .inScope _=>go T n h stop f k l
   | .ops all todo=>match todo with
    | []=>go T n h stop f k l
    |o::rest=>match o.dst with
     |none=>stop st l
     |some d=>match Nat.blt d n with
      |false=>stop st l
      |true=>match guardOf l all o with
       |none=>stop st l
       |some false=>go T n h stop f (.ops all rest::k) ((d,undef)::l)
       |some true=>match ev1 T l o.op with
        | .stop=>match loadAt? T l o.op with
         |some (b,off)=>∃v,cellH h b off=some v∧go T n h stop f (.ops all rest::k) ((d,v)::l)
         |none=>stop st l
        | .tst p i=>match tested all.toList rest k d with
         |true=>(p→go T n h stop f (.ops all rest::k) ((d,.bool true)::l))∧(¬p→go T n h stop f (.ops all rest::k) ((d,.bool false)::l))
         |false=>go T n h stop f (.ops all rest::k) ((d,.bool (@decide p i))::l)
        | .ntst p i=>match tested all.toList rest k d with
         |true=>(p→go T n h stop f (.ops all rest::k) ((d,.bool false)::l))∧(¬p→go T n h stop f (.ops all rest::k) ((d,.bool true)::l))
         |false=>go T n h stop f (.ops all rest::k) ((d,.bool (!@decide p i))::l)
        | .val v=>go T n h stop f (.ops all rest::k) ((d,v)::l)
        | .ob p v=>p∧go T n h stop f (.ops all rest::k) ((d,v)::l)
   | .code c=>match c with
    | .skip=>go T n h stop f k l
    | .label _=>go T n h stop f k l
    | .seq a b=>go T n h stop f (.code a::.code b::k) l
    | .cond x y z=>match ev l x with
     |some (.bool true)=>go T n h stop f (.code y::k) l
     |some (.bool false)=>go T n h stop f (.code z::k) l
     |_=>stop st l
    | .block i b=>go T n h stop f (.code b::.inBlock i::k) l
    | .scope b=>go T n h stop f (.code b::.inScope b::k) l
    | .exit i=>match exitS i k with
     |some k'=>go T n h stop f k' l
     |none=>stop st l
    | .goto i=>match gotoS i k with
     |some k'=>go T n h stop f k' l
     |none=>stop st l
    | .region _ ops draw=>match draw with
     |false=>go T n h stop f (.ops ops ops.toList::k) l
     |true=>stop st l
    |_=>stop st l
   |_=>stop st l
variable {c:Ctx P} {ds:List Deferred} {h:Array Obj}
end Go.Fw

namespace Go.Fw
open Go
variable {P:Program}
theorem back_steps (c:Ctx P) {m m':Machine} (h:Steps P m m') (hz:c.Z m'):c.Z m:=by
 obtain ⟨n,hn⟩:=h
 induction n generalizing m with
 |zero=>simp [runN] at hn;exact hn▸hz
 |succ n ih=>
  simp only [runN] at hn
  cases hs:step P m with
  |next m1=>rw [hs] at hn;exact c.back _ _ hs (ih hn)
  |ended o w=>rw [hs] at hn;simp at hn
def Enters (P:Program) (f:FuncId):Prop:=∃fn code,P.funcs[f]? = some fn∧(fn.name == "runtime.NumGoroutine")=false∧fn.body=some code
structure Fn (P:Program) (f:FuncId) (args:Array Value) (h:Array Obj) (R:Ending→Array Obj→Prop):Prop where
 enters:Enters P f
 calls:∀w:World,w.heap=h→Calls P f args w fun e w'=>Like w w'∧R e w'.heap
def FnV (P:Program) (f:FuncId) (args:Array Value) (h:Array Obj) (R:Value→Array Obj→Prop):Prop:=
 Fn P f args h fun e h'=>∃v,e=.returned v∧R v h'
theorem Fn.mono {f:FuncId} {args:Array Value} {h:Array Obj} {R R':Ending→Array Obj→Prop} (H:Fn P f args h R) (hr:∀e h',R e h'→R' e h'):Fn P f args h R':=
 ⟨H.enters,fun w hw=>(H.calls w hw).mono fun _ _ ⟨a,b⟩=>⟨a,hr _ _ b⟩⟩
def callCtx (P:Program) (f n:Nat) (w0:World) (cs:List Frame) (R:Ending→Array Obj→Prop):Ctx P where
 Z:=fun m=>∃e w' fr,(Like w0 w'∧R e w'.heap)∧Comes P m (lone fr cs w') e∧fr.fn=f∧fr.leaving P w' e
 back:=fun _ _ hs ⟨e,w',fr,hR,hc,hf,hl⟩=>⟨e,w',fr,hR,hc.of_steps (.one hs),hf,hl⟩
 fn:=f
 kind:=.normal
 round:=none
 cs:=cs
 w0:=w0
 n:=n
def argFr:Nat→List Value→Fr
 |_,[]=>[]
 |i,v::vs=>(i,v)::argFr (i+1) vs
theorem argFr_look (vs:List Value):∀(i d:Nat) (v:Value),look (argFr i vs) d=some v→i≤d∧vs[d - i]? = some v:=by
 induction vs with
 |nil=>intro i d v h;cases h
 |cons u vs ih=>
  intro i d v h
  simp only [argFr,look] at h
  cases hb:Nat.beq i d with
  |true=>
   have:=Nat.eq_of_beq_eq_true hb
   subst this
   simp only [hb,Option.some.injEq] at h
   subst h
   exact ⟨Nat.le_refl _,by simp⟩
  |false=>
   simp only [hb] at h
   obtain ⟨h1,h2⟩:=ih _ _ _ h
   refine ⟨by omega,?_⟩
   have:d - i=d - (i+1)+1:=by omega
   rw [this];simpa using h2
theorem holds_args (args:List Value) (n:Nat) (hn:args.length≤n):Holds n (argFr 0 args) {tmps:=args.toArray++Array.replicate (n - args.toArray.size) undef,defers:=[]}:=by
 refine ⟨by simp;omega,fun d v hv=>?_⟩
 obtain ⟨_,h2⟩:=argFr_look _ _ _ _ hv
 simp only [Nat.sub_zero] at h2
 have hlt:d<args.length:=(List.getElem?_eq_some_iff.1 h2).1
 rw [Array.getElem?_append_left (by simpa using hlt)]
 simpa using h2
theorem Fn.of {f:FuncId} {fn:Func} {code:Code} (hf:P.funcs[f]? = some fn) (hname:(fn.name == "runtime.NumGoroutine")=false) (hb:fn.body=some code) {n:Nat} (hnt:fn.ntmps=n)
  {args:List Value} (hargs:Nat.ble args.length n=true) {h:Array Obj} {R:Ending→Array Obj→Prop}
  (H:∀w0 cs,Runs (callCtx P f n w0 cs R) [] [.code code] (argFr 0 args) h):Fn P f args.toArray h R:=by
 refine ⟨⟨fn,code,hf,hname,hb⟩,fun w hw cs=>?_⟩
 have hr:=H w cs
 unfold Runs at hr
 have:=hr (fun s hs=>by simp at hs;subst hs;trivial) {tmps:=args.toArray++Array.replicate (n - args.toArray.size) undef,defers:=[]} w (holds_args _ _ (Nat.le_of_ble_eq_true hargs)) rfl hw (Like.refl w)
 have henter:Frame.enter P f args.toArray .normal=(callCtx P f n w cs R).fr {tmps:=args.toArray++Array.replicate (n - args.toArray.size) undef,defers:=[]} (its [.code code]):=by
  simp [Frame.enter,Ctx.fr,hf,hb,hnt,callCtx,its,SI.it]
 rw [←henter] at this
 exact this
/-! returns -/
def tup:List Value→Value
 | [v]=>v
 |vs=>.tuple vs.toArray
def resRead (tmps:Array Value):ResultVar→Sem Value
 | .tmp t=>pure (tmps.getD t undef)
 | .cell a t=>do loadVar t (←asAddr (tmps.getD a undef))
theorem results_eq (fn:Func) (tmps:Array Value):results fn tmps=(do
  let vs ←fn.results.mapM (resRead tmps)
  pure (if h:vs.size=1 then vs[0] else .tuple vs)):=rfl
section ret
variable {f n:Nat} {w0:World} {cs:List Frame} {R:Ending→Array Obj→Prop} {k:List SI} {l:Fr} {h:Array Obj}
end ret
section calls
variable {c:Ctx P} {ds:List Deferred} {k:List SI} {l:Fr} {h:Array Obj}
theorem callFunc_run {g:FuncId} (hg:Enters P g) (args:Array Value) (w:World):(callFunc g args).run P w=.ok (.enter g args) w:=by
 obtain ⟨fn,code,h1,h2,h3⟩:=hg
 have hp:(program:Sem Program).run P w=.ok P w:=rfl
 simp only [callFunc,Sem.run_bind,hp,Result.andThen,h1,h2,Bool.false_eq_true,if_false,h3,Option.isNone_some,Sem.run_pure]
theorem run_call {cl:Call} {o:Oper} (hop:o.op=.call cl) {x:Operand} (hcal:cl.callee=.value x) {n:Nat} {a:Act} (ha:Holds n l a) {g:FuncId} {first captured:Array Value}
  (hx:ev l x=some (.func (.func g) first captured)) {vs:List Value} (hargs:allEv l cl.args.toList=some vs) (hg:Enters P g) (w:World):
  (execOp a.eval o).run P w=.ok (.enter g (first++vs.toArray++captured)) w:=by
 have e1:=allEv_map ha hargs
 have e2:cl.args.map a.eval=vs.toArray:=by apply Array.ext';simpa using e1
 simp [execOp,hop,resolve,hcal,ha.ev hx,Deferred.ofValue,invoke,callFunc_run hg,e2]
end calls
end Go.Fw

namespace Go.Fw
open Go
variable {P:Program}
section one
variable {c:Ctx P} {K:List Item} {Q:Exit→Act→World→Prop} {all:Array Oper}
theorem z_op1 (hP:∀ch a w,Q (.panic ch) a w → ∀todo,c.Z (lone {c.fr a todo with mode:=.panicking ch} c.cs w)) (hO:∀a w,¬Q .outgrown a w) {next:Act→World→Prop} {i:Nat} {rest:List Nat} {o:Oper} {a:Act} {w:World}
  (hround:c.round=none ∨ ∀cl,o.op ≠ .defer cl) (ho:all[i]? = some o) (hw:Region.wanted o (yielded all a.tmps)=true) (hq:o.wp P a w next Q)
  (ih:∀a w,next a w→c.Z (lone (c.fr a (.inRegion all rest::K)) c.cs w)):c.Z (lone (c.fr a (.inRegion all (i::rest)::K)) c.cs w):=by
    have hstep:=stepG_oper (P:=P) (c:=c) (k:=K) (todo:=rest) (w:=w) ho hw hround
    have hfin:∀v,(c.fr a (.inRegion all (i::rest)::K)).finish v=c.fr (a.put o.dst v) (.inRegion all rest::K):=by
     intro v
     have hf:=fr_finish (c:=c) a all i rest K v
     rw [ho] at hf
     exact hf
    unfold Oper.wp Oper.upon at hq
    split at hq
    ·rename_i v w' hr
     refine c.back _ _ (step_lone_go ?_) (ih _ _ hq)
     rw [hstep,←hfin];simp [stepG.apply,hr]
    ·rename_i w' hr
     refine c.back _ _ (step_lone_go ?_) (ih _ _ hq)
     rw [hstep,←hfin];simp [stepG.apply,hr]
    ·rename_i d w' hr
     refine c.back _ _ (step_lone_go ?_) (ih _ _ hq)
     have:({c.fr a (.inRegion all (i::rest)::K) with defers:=d::a.defers}:Frame).finish undef=c.fr ({a with defers:=d::a.defers}.put o.dst undef) (.inRegion all rest::K):=by
      have hf:=fr_finish (c:=c) {a with defers:=d::a.defers} all i rest K undef
      rw [ho] at hf;exact hf
     rw [hstep];simp only [stepG.apply,Sem.runT_eq,hr,GStep.bare_after]
     exact congrArg (fun fr=>GStep.go {frame:=fr,callers:=c.cs,status:=.running,dying:=none} w') this
    ·rename_i f args w' hr
     obtain ⟨e,w'',fr,hR,hsteps,_,hleave⟩:=hq (c.fr a (.inRegion all (i::rest)::K)::c.cs)
     have henter:Go.step P (lone (c.fr a (.inRegion all (i::rest)::K)) c.cs w)=.next (lone (Frame.enter P f args .normal) (c.fr a (.inRegion all (i::rest)::K)::c.cs) w'):=
      step_lone_go (by rw [hstep];simp [stepG.apply,hr,Ctx.fr])
     refine c.back _ _ henter ?_
     cases e with
     |returned v=>
      refine back_steps c hsteps (c.back _ _ (step_leave_returned hleave) ?_)
      rw [hfin];exact ih _ _ hR
     |panicked ch=>
      refine back_steps c hsteps (c.back _ _ (step_leave_panicked hleave) ?_)
      exact hP ch a w'' hR _
     |outgrown=>
      obtain ⟨a0,w0,h0⟩:=hR
      exact absurd h0 (hO _ _)
    ·rename_i row args w' hr
     obtain ⟨v,w'',hR,hsteps⟩:=hq (c.fr a (.inRegion all (i::rest)::K)) c.cs
     have henter:Go.step P (lone (c.fr a (.inRegion all (i::rest)::K)) c.cs w)=.next (lone (Frame.ofRow P row args .normal) (c.fr a (.inRegion all (i::rest)::K)::c.cs) w'):=
      step_lone_go (by rw [hstep];simp [stepG.apply,hr,Ctx.fr])
     refine c.back _ _ henter (back_steps c hsteps ?_)
     rw [hfin];exact ih _ _ hR
    ·rename_i v w' hr
     refine c.back _ _ (step_lone_go ?_) (hP _ a w' hq (.inRegion all (i::rest)::K))
     rw [hstep];simp [stepG.apply,hr];rfl
    exact hq.elim
end one
def upd (l:Fr) (dst:Option Nat) (v:Value):Fr:=
 match dst with
 |some d=>(d,v)::l
 |none=>l
def Eff (P:Program) (n:Nat) (l:Fr) (h:Array Obj) (o:Oper) (V:Value→Array Obj→Prop):Prop:=
 ∀a w,Holds n l a→w.heap=h → ∀(next:Act→World→Prop) (Q:Exit→Act→World→Prop),(∀v w',Like w w'→V v w'.heap→next (a.put o.dst v) w')→o.wp P a w next Q
theorem Eff.of_value {n:Nat} {l:Fr} {h:Array Obj} {o:Oper} {V:Value→Array Obj→Prop}
  (hrun:∀a w,Holds n l a→w.heap=h → ∃v w',(execOp a.eval o).run P w=.ok (.value v) w'∧Like w w'∧V v w'.heap):Eff P n l h o V:=by
 intro a w ha hh next Q hn
 obtain ⟨v,w',h1,h2,h3⟩:=hrun a w ha hh
 unfold Oper.wp
 rw [h1]
 exact hn v w' h2 h3
theorem Eff.of_skip {n:Nat} {l:Fr} {h:Array Obj} {o:Oper} {V:Value→Array Obj→Prop}
  (hrun:∀a w,Holds n l a→w.heap=h → ∃w',(execOp a.eval o).run P w=.ok .skip w'∧Like w w'∧V undef w'.heap):Eff P n l h o V:=by
 intro a w ha hh next Q hn
 obtain ⟨w',h1,h2,h3⟩:=hrun a w ha hh
 unfold Oper.wp
 rw [h1]
 exact hn undef w' h2 h3
theorem Eff.of_val1 {n:Nat} {l:Fr} {h:Array Obj} {o:Oper} {v:Value} {h':Array Obj}
  (hrun:∀a w,Holds n l a→w.heap=h → ∃w',(execOp a.eval o).run P w=.ok (.value v) w'∧Like w w'∧w'.heap=h'):Eff P n l h o (fun v' h''=>v'=v∧h''=h'):=
 Eff.of_value fun a w ha hh=>let ⟨w',h1,h2,h3⟩:=hrun a w ha hh;⟨v,w',h1,h2,rfl,h3⟩
def noDefer1 (o:Oper):Bool:=
 match o.op with
 | .defer _=>false
 |_=>true
section
variable {c:Ctx P} {ds:List Deferred} {k:List SI} {l:Fr} {h:Array Obj}
theorem holds_upd {n:Nat} {a:Act} (ha:Holds n l a) {dst:Option Nat} (hd:∀d,dst=some d→d<n) (v:Value):Holds n (upd l dst v) (a.put dst v):=by
 cases dst with
 |none=>exact ha
 |some d=>exact ha.put (hd d rfl) v
def dstOk (n:Nat) (dst:Option Nat):Bool:=
 match dst with
 |some d=>Nat.blt d n
 |none=>true
theorem dstOk_lt {n:Nat} {dst:Option Nat} (h:dstOk n dst=true):∀d,dst=some d→d<n:=by
 intro d e;subst e;exact Nat.blt_eq.mp h
theorem Runs.eff {all:Array Oper} {rest:List Oper} {o:Oper} {V:Value→Array Obj→Prop} (H:Eff P c.n l h o V)
  (hr:∀v h',V v h'→Runs c ds (.ops all rest::k) (upd l o.dst v) h')
  (hgd:guardOf l all o=some true:=by rfl) (hdst:dstOk c.n o.dst=true:=by rfl) (hnd:noDefer1 o=true:=by rfl):Runs c ds (.ops all (o::rest)::k) l h:=by
 unfold Runs
 intro hwf a w ha hd hh hw
 have hwn:=wanted_of ha hgd
 obtain ⟨i,e1,e2,ho,hwf'⟩:=ops_cons (hwf _ (List.mem_cons_self ..))
 simp only [its_ops,e1]
 refine z_op1 (Q:=fun _ _ _=>False) (fun _ _ _ hq=>hq.elim) (fun _ _ hq=>hq) (.inr fun cl e=>?_) ho hwn (H a w ha hh (fun a' w'=>c.Z (lone (c.fr a' (.inRegion all (List.range' (i+1) rest.length)::its k)) c.cs w')) _ fun v w' hlk hV=>?_) (fun _ _ hq=>hq)
 ·unfold noDefer1 at hnd;rw [e] at hnd;cases hnd
 have hr':=hr v _ hV
 unfold Runs at hr'
 have:=hr' (wf_cons hwf' (wf_tail hwf)) (a.put o.dst v) w' (holds_upd ha (dstOk_lt hdst) v) (by cases o.dst<;>simpa [Act.put] using hd) rfl (hw.trans hlk)
 simpa only [its_ops,e2] using this
end
end Go.Fw

namespace Go.Fw
open Go
variable {P:Program}
def At (h:Array Obj) (b:Nat) (cs:Array Value) (e:TypeId):Prop:=h[b]? = some (.cells cs e (0,0))
theorem At.cell {h:Array Obj} {b:Nat} {cs:Array Value} {e:TypeId} (H:At h b cs e) (o:Nat):cellH h b o=cs[o]? :=by
 unfold At at H
 simp [cellH,H]
def setB (h:Array Obj) (b:Nat) (cs:Array Value) (e:TypeId):Array Obj:=h.setIfInBounds b (.cells cs e (0,0))
@[simp] theorem size_setB (h : Array Obj) (b : Nat) (cs : Array Value) (e : TypeId) : (setB h b cs e).size = h.size := by simp [setB]
theorem setB_same {h:Array Obj} {b:Nat} (hb:b<h.size) (cs:Array Value) (e:TypeId):At (setB h b cs e) b cs e:=by
 unfold At setB
 rw [Array.getElem?_setIfInBounds_self_of_lt hb]
theorem setB_ne {h:Array Obj} {b b':Nat} (hne:b'≠b) (cs:Array Value) (e:TypeId):(setB h b cs e)[b']? = h[b']? :=by
 unfold setB
 rw [Array.getElem?_setIfInBounds_ne (by omega)]
theorem At.lt {h:Array Obj} {b:Nat} {cs:Array Value} {e:TypeId} (H:At h b cs e):b<h.size:=(Array.getElem?_eq_some_iff.1 H).1
theorem push_new (h:Array Obj) (cs:Array Value) (e:TypeId):At (h.push (.cells cs e (0,0))) h.size cs e:=by simp [At]
theorem push_old {h:Array Obj} {b:Nat} (hb:b<h.size) (o:Obj):(h.push o)[b]? = h[b]? :=by rw [Array.getElem?_push,if_neg (by omega)]
structure Keeps (B:Nat) (h h':Array Obj):Prop where
 size:h.size≤h'.size
 same:∀k,k<B→h'[k]? = h[k]?
theorem Keeps.trans {B:Nat} {a b c:Array Obj} (h:Keeps B a b) (k:Keeps B b c):Keeps B a c:=⟨Nat.le_trans h.size k.size,fun i hi=>(k.same i hi).trans (h.same i hi)⟩
theorem Keeps.cell {B:Nat} {h h':Array Obj} (hk:Keeps B h h') {b o:Nat} (hb:b<B):cellH h' b o=cellH h b o:=by
 unfold cellH;rw [hk.same b hb]
theorem setRow_setB {w:World} {g:Nat} {cur:Array Value} {t:TypeId} (hg:w.heap[g]? = some (.cells cur t (0,0))) (cs:Array Value):(w.setRow g cs).heap=setB w.heap g cs t:=by
 apply Array.ext
 ·simp [World.setRow,setB]
 intro i h1 h2
 have e:(w.setRow g cs).heap[i]? = (setB w.heap g cs t)[i]? :=by
  by_cases hi:i=g
  ·subst hi
   rw [setRow_heap w i cur cs t (0,0) hg]
   exact (setB_same (Array.getElem?_eq_some_iff.1 hg).1 cs t).symm
  rw [setRow_other w g i cs hi,setB_ne hi]
 rw [Array.getElem?_eq_getElem h1,Array.getElem?_eq_getElem h2] at e
 exact Option.some.inj e
def aggB {P:Program} (T:Tab P) (t:TypeId):Bool:=
 match lookU T.und t with
 |some (.struct _)=>true
 |some (.array ..)=>true
 |_=>false
theorem isAgg_agg (T:Tab P) {t:TypeId} (h:aggB T t=true) (w:World):(isAgg t).run P w=.ok true w:=by
 unfold aggB at h
 cases hu:lookU T.und t with
 |none=>simp [hu] at h
 |some u=>
  have hk:=T.okU.look hu
  cases u<;>simp [hu] at h<;>simp only [UD.ok] at hk
  case struct=>obtain ⟨_,hk,_⟩:=hk;simp [isAgg,run_underlying hk]
  case array=>simp [isAgg,run_underlying hk.1]
theorem sizeOf_inf (T:Tab P) {t:TypeId} {i:Inf} (h:lookI T.inf t=some i) (w:World):(sizeOf t).run P w=.ok i.size w:=by
 obtain ⟨j,h1,h2,h3,h4⟩:=T.okI.look h
 exact run_sizeOf (by simp [h1,h3]) w
theorem zero_inf (T:Tab P) {t:TypeId} {i:Inf} (h:lookI T.inf t=some i) (w:World):(zeroValue t).run P w=.ok i.zero w:=by
 obtain ⟨j,h1,h2,h3,h4⟩:=T.okI.look h
 simp [zeroValue,typeInfo,h1,h2]
def evParts (l:Fr):List (Nat×Operand)→Option (List (Nat×Value))
 | []=>some []
 |(i,x)::q=>match ev l x with
  |some v=>match evParts l q with
   |some vs=>some ((i,v)::vs)
   |none=>none
  |none=>none
theorem evParts_map {n:Nat} {l:Fr} {a:Act} (ha:Holds n l a):∀ {q:List (Nat×Operand)} {ps:List (Nat×Value)},evParts l q=some ps→q.map (fun p=>(p.1,a.eval p.2))=ps:=by
 intro q
 induction q with
 |nil=>intro ps h;simp [evParts] at h;exact h▸rfl
 |cons p q ih=>
  obtain ⟨i,x⟩:=p
  intro ps h
  simp only [evParts] at h
  cases hv:ev l x with
  |none=>simp [hv] at h
  |some v=>
   cases hq:evParts l q with
   |none=>simp [hv,hq] at h
   |some qs=>simp [hv,hq] at h;subst h;simp [ha.ev hv,ih hq]
section ops
variable {n:Nat} {l:Fr} {h:Array Obj} {o:Oper}
theorem eff_load (T:Tab P) {t:TypeId} {x:Operand} {b off:Nat} {v:Value} (hc:cellH h b off=some v)
  (hop:o.op=.load t x:=by rfl) (hx:ev l x=some (.pointer (some ⟨b,off,none⟩)):=by rfl) (ht:scalarB T t=true:=by rfl):Eff P n l h o (fun v' h'=>v'=v∧h'=h):=by
 refine Eff.of_val1 fun a w ha hh=>⟨w,?_,Like.refl w,hh⟩
 have hcell:=cell_of (w:=w) (hh▸hc)
 simp [execOp,hop,ha.ev hx,Instr.loadAt,Instr.sureAddr,loadVar,isAgg_scalar T ht,Go.load,Sem.run,hcell]
theorem eff_loadAgg (T:Tab P) {t:TypeId} {x:Operand} {b off:Nat} {vs:List Value} {i:Inf} (hc:∀j v,vs[j]? = some v→cellH h b (off+j)=some v) (hlen:vs.length=i.size)
  (hop:o.op=.load t x:=by rfl) (hx:ev l x=some (.pointer (some ⟨b,off,none⟩)):=by rfl) (ht:aggB T t=true:=by rfl) (hi:lookI T.inf t=some i:=by rfl):
  Eff P n l h o (fun v' h'=>v'=.agg vs.toArray∧h'=h):=by
 refine Eff.of_val1 fun a w ha hh=>⟨w,?_,Like.refl w,hh⟩
 have hl:=run_loadCells_list (P:=P) w ⟨b,off,none⟩ vs (fun j v hv=>by rw [add_none];exact cell_of (hh▸hc j v hv))
 rw [hlen] at hl
 simp [execOp,hop,ha.ev hx,Instr.loadAt,Instr.sureAddr,loadVar,isAgg_agg T ht,sizeOf_inf T hi,hl]
theorem eff_box {t:TypeId} {x:Operand} {v:Value}
  (hop:o.op=.box t x:=by rfl) (hx:ev l x=some v:=by rfl):Eff P n l h o (fun v' h'=>v'=.pointer (some ⟨h.size,0,none⟩)∧h'=h.push (.cells v.cells t (0,0))):=by
 refine Eff.of_val1 fun a w ha hh=>⟨w.alloc (.cells v.cells t),?_,⟨rfl,rfl,rfl⟩,by simp [World.alloc,hh]⟩
 simp [execOp,hop,ha.ev hx,Instr.box,newVar,newRow,hh]
theorem eff_alloc (T:Tab P) {t:TypeId} {i:Inf} (hop:o.op=.alloc t:=by rfl) (hi:lookI T.inf t=some i:=by rfl):
  Eff P n l h o (fun v' h'=>v'=.pointer (some ⟨h.size,0,none⟩)∧h'=h.push (.cells i.zero.cells t (0,0))):=by
 refine Eff.of_val1 fun a w ha hh=>⟨w.alloc (.cells i.zero.cells t),?_,⟨rfl,rfl,rfl⟩,by simp [World.alloc,hh]⟩
 simp [execOp,hop,Instr.alloc,zero_inf T hi,newVar,newRow,hh]
theorem eff_make (T:Tab P) {t e sz:Nat} {x y:Operand} {i:Inf} {n1 m:Int} {k1 k2:IntKind}
  (hop:o.op=.makeSlice t x y:=by rfl) (hx:ev l x=some (.int k1 n1):=by rfl) (hy:ev l y=some (.int k2 m):=by rfl) (ht:lookU T.und t=some (.slice e sz):=by rfl) (hi:lookI T.inf e=some i:=by rfl)
  (hn:0≤n1∧n1≤m∧(i.bytes:Int)*m≤281474976710656∧m≤9223372036854775807):
  Eff P n l h o (fun v' h'=>v'=.slice (some ⟨h.size,0,none⟩) n1.toNat m.toNat∧h'=h.push (.cells (madeCells i.zero.cells (m.toNat*i.size)) e (0,0))):=by
 refine Eff.of_val1 fun a w ha hh=>⟨w.alloc (.cells (madeCells i.zero.cells (m.toNat*i.size)) e),?_,⟨rfl,rfl,rfl⟩,by simp [World.alloc,hh]⟩
 obtain ⟨j,h1,h2,h3,h4⟩:=T.okI.look hi
 have hm:=run_make (P:=P) w t e j i.zero (T.okU.look ht).1 h1 h2 k1 k2 n1 m hn.1 hn.2.1 (by rw [h4];exact hn.2.2.1) hn.2.2.2
 rw [h3] at hm
 simp [execOp,hop,ha.ev hx,ha.ev hy,hm,hh]
theorem eff_buildSlice (T:Tab P) {t e sz m:Nat} {parts:Array (Nat×Operand)} {ps:List (Nat×Value)} {i:Inf} {cells:Array Value}
  (hop:o.op=.buildSlice t m parts:=by rfl) (ht:lookU T.und t=some (.slice e sz):=by rfl) (hi:lookI T.inf e=some i:=by rfl)
  (hps:evParts l parts.toList=some ps:=by rfl)
  (hsz:Nat.ble (m*i.size) 16777216=true:=by rfl)
  (hfill:Instr.fill (fun j=>some (j*i.size,i.size)) ((Array.range (m*i.size)).map ((if m*i.size=0 then #[] else i.zero.cells)[· % (if m*i.size=0 then #[] else i.zero.cells).size]!)) ps=some cells:=by rfl):
  Eff P n l h o (fun v' h'=>v'=.slice (some ⟨h.size,0,none⟩) m m∧h'=h.push (.cells cells e (0,0))):=by
 refine Eff.of_val1 fun a w ha hh=>⟨w.alloc (.cells cells e),?_,⟨rfl,rfl,rfl⟩,by simp [World.alloc,hh]⟩
 have hp:(parts.map fun (p:Nat×Operand)=>(p.1,a.eval p.2)).toList=ps:=by
  rw [Array.toList_map];exact evParts_map ha hps
 have hle:¬m*i.size>2^24:=by have:=Nat.le_of_ble_eq_true hsz;omega
 have hz:=zero_inf T hi w
 have hs:=sizeOf_inf T hi w
 have hu:=(T.okU.look ht).1
 have key:(Instr.buildSlice t m (parts.map fun (p:Nat×Operand)=>(p.1,a.eval p.2))).run P w=.ok (.slice (some ⟨h.size,0,none⟩) m m) (w.alloc (.cells cells e)):=by
  unfold Instr.buildSlice
  simp only [Sem.run_bind,run_underlying hu,Result.andThen,hs]
  rw [if_neg hle,hp]
  by_cases h0:m*i.size=0
  ·simp only [h0,if_true] at hfill ⊢
   simp only [Sem.run_bind,Sem.run_pure,Result.andThen,hfill]
   simp [newRow,hh]
  simp only [h0,if_false] at hfill ⊢
  simp only [Sem.run_bind,Sem.run_pure,Result.andThen,hz,hfill]
  simp [newRow,hh]
 simp only [execOp,hop,Sem.run_bind,key,Result.andThen,Sem.run_pure]
def Own (base:Nat) (h:Array Obj) (e:TypeId) (size:Nat) (v:Value) (m:Nat) (xs:List Value):Prop:=
 xs.length=m*size ∧
 ((v=.slice none 0 0∧m=0) ∨
  ∃g cap cur,v=.slice (some ⟨g,0,none⟩) m cap∧base≤g∧At h g cur e∧m≤cap∧cap≤maxLen∧cur.size=cap*size∧cur.toList.take (m*size)=xs)
theorem own_world {base:Nat} {w:World} {e:TypeId} {size:Nat} {v:Value} {m:Nat} {xs:List Value}:Own base w.heap e size v m xs↔w.ownsRow base e size v m xs:=Iff.rfl
end ops
/-! a function without a body -/
end Go.Fw

namespace Go.Fw
open Go
variable {P:Program}
/-! every order, at a frame of whatever kind -/
section any
variable {c:Ctx P} {K:List Item} {Q:Exit→Act→World→Prop} {all:Array Oper}
structure Lands (c:Ctx P) (K:List Item) (Q:Exit→Act→World→Prop):Prop where
 normal:∀a w,Q .normal a w→c.Z (lone (c.fr a K) c.cs w)
 panic:∀ch a w,Q (.panic ch) a w → ∀todo,c.Z (lone {c.fr a todo with mode:=.panicking ch} c.cs w)
 out:∀a w,¬Q .outgrown a w
theorem z_ops (hL:Lands c K Q) (hround:c.round=none ∨ ∀(i:Nat) (o:Oper),all[i]? = some o → ∀cl,o.op ≠ .defer cl):∀(todo:List Nat) (a:Act) (w:World),wpOps P all Q todo a w →
  c.Z (lone (c.fr a (.inRegion all todo::K)) c.cs w):=by
 intro todo
 induction todo with
 |nil=>
  intro a w hq
  exact c.back _ _ (step_lone_go (by simp [stepG,stepG.exec,Ctx.fr])) (hL.normal a w hq)
 |cons i rest ih=>
  intro a w hq
  simp only [wpOps] at hq
  cases ho:all[i]? with
  |none=>
   simp only [ho] at hq
   have hf:=fr_finish (c:=c) a all i rest K undef
   rw [ho] at hf
   simp only [Option.bind_none,Act.put] at hf
   refine c.back _ _ (step_lone_go ?_) (ih a w hq)
   rw [←hf]
   simp only [Ctx.fr]
   simp [stepG,stepG.exec,ho]
  |some o=>
   simp only [ho] at hq
   by_cases hw:Region.wanted o (yielded all a.tmps)=true
   ·simp only [hw,if_true] at hq
    have hq:o.wp P a w (wpOps P all Q rest) Q:=by
     rcases hq with hq|⟨_,a0,w0,h0⟩
     ·exact hq
     exact absurd h0 (hL.out _ _)
    exact z_op1 hL.panic hL.out (hround.imp id (fun hh cl=>hh i o ho cl)) ho hw hq ih
   simp only [hw,if_false,Bool.false_eq_true] at hq
   have hw':Region.wanted o (yielded all a.tmps)=false:=by simpa using hw
   have hf:=fr_finish (c:=c) a all i rest K undef
   rw [ho] at hf
   simp only [Option.bind_some] at hf
   refine c.back _ _ (step_lone_go ?_) (ih _ _ hq)
   rw [←hf]
   simp only [Ctx.fr] at *
   simp [stepG,stepG.exec,ho,hw']
theorem z_draw (hm:P.follows .mixedOrders=true) (hL:Lands c K Q) (hround:c.round=none ∨ ∀(i:Nat) (o:Oper),all[i]? = some o → ∀cl,o.op ≠ .defer cl) {id:Nat} {a:Act} {w:World}
  (H:wpAny P .any all Q all.size (Array.replicate all.size false) a {w with drawn:=w.drawn+1}):c.Z (lone (c.fr a (.code (.region id all true)::K)) c.cs w):=by
 have:=fun t=>wpAny_sound all.size t _ a _ H
 refine c.back _ _ (step_lone_go ?_) (z_ops hL hround _ a _ (this (w.tape w.drawn (.order c.fn id))))
 simp [stepG,stepG.exec,Ctx.fr,Region.schedule,hm,choose,Sem.run,Question.forced,Question.cut,Region.linearise]
end any
/-! a quiet head, a forced tail; plain operations float -/
section tail
variable {ops:Array Oper} {md:Region.Mode} {C:World→Prop} {Q:Exit→Act→World→Prop} {E:Nat→Bool}
def deps (md:Region.Mode) (ops:Array Oper) (k:Nat):List Nat→List Nat→List Nat
 | [],S=>S
 |j::js,S=>match ops[j]? with
  |some o=>if o.after.any fun e=>Region.binds md e&&(e.on==k||S.contains e.on) then deps md ops k js (j::S) else deps md ops k js S
  |none=>deps md ops k js S
def Closed (md:Region.Mode) (ops:Array Oper) (listed:Array Bool):Prop:=
 ∀j oj,ops[j]? = some oj→listed.getD j false=true → ∀e∈oj.after,Region.binds md e=true→listed.getD e.on false=true
theorem Closed.set {i:Nat} {listed:Array Bool} (inv:Closed md ops listed) (hi:i∈Region.ready md ops listed):Closed md ops (listed.setIfInBounds i true):=by
 obtain ⟨_,oi,hoi,hall⟩:=mem_ready.1 hi
 intro j oj hj hl e he hb
 by_cases hij:i=j
 ·subst hij
  have:oj=oi:=Option.some.inj (hj.symm.trans hoi)
  subst this
  exact getD_set_true (hall e he hb)
 rw [getD_set_ne false hij] at hl
 exact getD_set_true (inv j oj hj hl e he hb)
theorem deps_spec {k:Nat} {listed:Array Bool} (inv:Closed md ops listed) (hk:listed.getD k false=false):
  ∀(js S:List Nat),(∀j∈S,listed.getD j false=false∧j∉Region.ready md ops listed) → ∀j∈deps md ops k js S,listed.getD j false=false∧j∉Region.ready md ops listed:=by
 intro js
 induction js with
 |nil=>intro S hS j hj;exact hS j hj
 |cons x js ih=>
  intro S hS
  unfold deps
  split
  ·rename_i o ho
   split
   ·rename_i hany
    refine ih _ fun j hj=>?_
    rcases List.mem_cons.1 hj with rfl|hj
    ·obtain ⟨e,he,hb⟩:=Array.any_eq_true'.1 hany
     simp only [Bool.and_eq_true,Bool.or_eq_true,beq_iff_eq] at hb
     have hon:listed.getD e.on false=false:=by
      rcases hb.2 with h|h
      ·rw [h];exact hk
      exact (hS e.on (by simpa using h)).1
     refine ⟨?_,fun hr=>?_⟩
     ·cases hl:listed.getD j false with
      |false=>rfl
      |true=>have:=inv j o ho hl e he hb.1;rw [hon] at this;cases this
     obtain ⟨_,o',ho',hall⟩:=mem_ready.1 hr
     have:o'=o:=Option.some.inj (ho'.symm.trans ho)
     subst this
     have:=hall e he hb.1
     rw [hon] at this
     cases this
    exact hS j hj
   exact ih _ hS
  exact ih _ hS
def pureO (o:Oper):Bool:=
 match o.op with
 | .move _=>true
 | .assign _=>true
 | .pick _ _ _=>true
 | .extract _ _=>true
 | .binOp _ _ _ _ _=>true
 | .unOp _ _ _=>true
 | .index _ _ _=>true
 | .indexAddr _ _ _=>true
 | .slice _ _ _ _ _=>true
 | .fieldAddr _ _ _=>true
 | .field _ _ _=>true
 | .makeInterface _ _=>true
 | .makeFunc _ _ _=>true
 | .nilCheck _=>true
 | .convert _ _ _=>true
 | .call c=>match c.callee with
  | .builtin .len=>true
  | .builtin .max=>true
  | .builtin .min=>true
  |_=>false
 |_=>false
def pureAt (ops:Array Oper) (k:Nat):Bool:=
 match ops[k]? with
 |some o=>pureO o
 |none=>false
end tail
/-! the walk through a quiet region -/
section rules
variable {c:Ctx P} {ds:List Deferred} {k:List SI} {l:Fr} {h:Array Obj}
def noDefer:List Oper→Bool
 | []=>true
 |o::rest=>match o.op with
  | .defer _=>false
  |_=>noDefer rest
theorem noDefer_of {l:List Oper} (hb:noDefer l=true):∀(i:Nat) (o:Oper),l[i]? = some o → ∀cl,o.op ≠ .defer cl:=by
 induction l with
 |nil=>intro i o h;simp at h
 |cons x l ih=>
  intro i o ho cl e
  unfold noDefer at hb
  cases i with
  |zero=>simp at ho;subst ho;rw [e] at hb;cases hb
  |succ i=>
   simp at ho
   split at hb
   ·cases hb
   exact ih hb i o ho cl e
end rules
end Go.Fw

namespace Go.Fw
open Go
theorem Own.shape {base:Nat} {h:Array Obj} {e:TypeId} {sz:Nat} {v:Value} {m:Nat} {xs:List Value} (H:Own base h e sz v m xs):∃a cap,v=.slice a m cap:=by
 obtain ⟨hl,H⟩:=H
 rcases H with ⟨rfl,rfl⟩|⟨g',cap,cur,rfl,h2,_⟩
 ·exact ⟨_,_,rfl⟩
 exact ⟨_,_,rfl⟩
end Go.Fw

namespace Go.Fw
open Go
variable {P:Program} {c:Ctx P} {ds:List Deferred} {k:List SI} {l:Fr} {h:Array Obj}
end Go.Fw

namespace Go.Fw
open Go
variable {P:Program}
/-! the rounds -/
/-! the statement -/
def zipPut (ps:List Nat) (vs:List Value) (l:Fr):Fr:=
 match ps,vs with
 |p::ps,v::vs=>zipPut ps vs ((p,v)::l)
 |_,_=>l
/-! the return -/
def ResOk {P:Program} (T:Tab P) (l:Fr) (h:Array Obj):List ResultVar→List Value→Prop
 | [],[]=>True
 | .tmp t::rs,v::vs=>look l t=some v∧ResOk T l h rs vs
 | .cell a t::rs,v::vs=>(∃b o,look l a=some (.pointer (some ⟨b,o,none⟩))∧scalarB T t=true∧cellH h b o=some v)∧ResOk T l h rs vs
 |_,_=>False
theorem results_runC (T:Tab P) {fn:Func} {n:Nat} {l:Fr} {a:Act} (ha:Holds n l a) {w:World} {vs:List Value} (hv:ResOk T l w.heap fn.results.toList vs):
  (results fn a.tmps).run P w=.ok (tup vs) w:=by
 have key:∀(rs:List ResultVar) (vs:List Value),ResOk T l w.heap rs vs→(rs.mapM (resRead a.tmps)).run P w=.ok vs w:=by
  intro rs
  induction rs with
  |nil=>intro vs h;cases vs with
   |nil=>simp
   |cons=>exact h.elim
  |cons r rs ih=>
   intro vs h
   cases vs with
   |nil=>cases r<;>exact h.elim
   |cons v vs=>
    cases r with
    |tmp t=>
     obtain ⟨h1,h2⟩:=h
     have hrs:=ih vs h2
     have h0:(resRead a.tmps (.tmp t)).run P w=.ok v w:=by simp [resRead,ha.get t v h1]
     simp only [List.mapM_cons,Sem.run_bind,h0,hrs,Result.andThen,Sem.run_pure]
    |cell p t=>
     obtain ⟨⟨b,o,h1,h2,h3⟩,h4⟩:=h
     have hrs:=ih vs h4
     have hcell:=cell_of h3
     have h0:(resRead a.tmps (.cell p t)).run P w=.ok v w:=by
      simp [resRead,ha.get p _ h1,asAddr,loadVar,isAgg_scalar T h2,Go.load,Sem.run,hcell]
     simp only [List.mapM_cons,Sem.run_bind,h0,hrs,Result.andThen,Sem.run_pure]
 have hk:=key fn.results.toList vs hv
 rw [results_eq,←Array.toArray_toList (xs:=fn.results),List.mapM_toArray]
 simp only [Sem.run_bind,map_eq_pure_bind,hk,Sem.run_pure,Result.andThen]
 cases vs with
 |nil=>simp [tup]
 |cons v vs=>cases vs<;>simp [tup]
section ret
variable {f n:Nat} {w0:World} {cs:List Frame} {R:Ending→Array Obj→Prop} {k:List SI} {l:Fr} {h h':Array Obj} {ds:List Deferred}
end ret
/-! blocks beside -/
theorem At.put {h:Array Obj} {b k:Nat} {cs:Array Value} {e:TypeId} (H:At h b cs e) (hne:b≠k) (o:Obj):At (h.setIfInBounds k o) b cs e:=by
 unfold At;rw [Array.getElem?_setIfInBounds_ne (by omega)];exact H
theorem Keeps.put {B:Nat} {h h':Array Obj} (hk:Keeps B h h') {b:Nat} (hB:B≤b) (o:Obj):Keeps B h (h'.setIfInBounds b o):=
 hk.trans ⟨by simp,fun k hk=>by rw [Array.getElem?_setIfInBounds_ne (by omega)]⟩
end Go.Fw

namespace Go.Fw
open Go
variable {P:Program}
def floatO (o:Oper):Bool:=
 match o.op with
 | .load _ _=>true
 | .build _ _=>true
 |_=>pureO o
def floatAt (ops:Array Oper) (k:Nat):Bool:=
 match ops[k]? with
 |some o=>floatO o
 |none=>false
section any
variable {ops:Array Oper} {md:Region.Mode} {Q:Exit→Act→World→Prop}
def depsOf (md:Region.Mode) (ops:Array Oper) (k:Nat):List Nat:=deps md ops k (List.range ops.size) []
abbrev PinL:=List (Nat×(World→Prop))
def After (md:Region.Mode) (ops:Array Oper) (pins:PinL) (i:Nat) (w w':World):Prop:=
 (floatAt ops i=true→w'=w)∧(floatAt ops i=false → ∀p∈pins,i∈depsOf md ops p.1∨p.2 w')
def wpAnyC (P:Program) (md:Region.Mode) (ops:Array Oper) (Q:Exit→Act→World→Prop) (pins:PinL):Nat→Array Bool→Act→World→Prop
 |0,listed,a,w=>Region.ready md ops listed=[]∧Q .normal a w
 |f+1,listed,a,w=>(Region.ready md ops listed=[]→Q .normal a w) ∧
  ∀i∈Region.ready md ops listed,wpOp P ops Q i (fun a' w'=>After md ops pins i w w'∧wpAnyC P md ops Q pins f (listed.setIfInBounds i true) a' w') a w
theorem wpAny_of_C {pins:PinL}:∀(f:Nat) (listed:Array Bool) (a:Act) (w:World),wpAnyC P md ops Q pins f listed a w→wpAny P md ops Q f listed a w
 |0,_,_,_,h=>h
 |f+1,_,_,_,h=>⟨h.1,fun i hi=>wpOp_mono (fun a' w' h'=>wpAny_of_C f _ a' w' h'.2) (h.2 i hi)⟩
theorem wpAnyC_tail {p:Nat×(World→Prop)} {pins:PinL}:∀(f:Nat) (listed:Array Bool) (a:Act) (w:World),wpAnyC P md ops Q (p::pins) f listed a w→wpAnyC P md ops Q pins f listed a w
 |0,_,_,_,h=>h
 |f+1,_,_,_,h=>⟨h.1,fun i hi=>wpOp_mono (fun a' w' h'=>⟨⟨h'.1.1,fun hf q hq=>h'.1.2 hf q (List.mem_cons_of_mem _ hq)⟩,wpAnyC_tail f _ a' w' h'.2⟩) (h.2 i hi)⟩
end any
/-! the walk -/
inductive Pin where
 |one (b off:Nat) (v:Value)
 |many (b off:Nat) (vs:List Value)
def CellsH (h:Array Obj) (b off:Nat) (vs:List Value):Prop:=∀j v,vs[j]? = some v→cellH h b (off+j)=some v
def Pin.ok (h:Array Obj):Pin→Prop
 | .one b off v=>cellH h b off=some v
 | .many b off vs=>CellsH h b off vs
def memN (k:Nat):List Nat→Bool
 | []=>false
 |j::js=>match Nat.beq k j with
  |true=>true
  |false=>memN k js
theorem memN_iff {k:Nat}:∀ {l:List Nat},memN k l=true↔k∈l
 | []=>by simp [memN]
 |j::js=>by
  unfold memN
  cases hb:Nat.beq k j with
  |true=>simp [Nat.eq_of_beq_eq_true hb]
  |false=>
   have:k≠j:=fun e=>by subst e;simp at hb
   simp [this,memN_iff (l:=js)]
def PlainIs (P:Program) (n:Nat) (l:Fr) (o:Oper) (v:Value):Prop:=∀a w,Holds n l a→(execOp a.eval o).run P w=.ok (.value v) w
structure PinRel (taken alive:List Nat) (ps:List (Nat×Pin)) (F:PinL) (h:Array Obj):Prop where
 ok:∀k p,(k,p)∈ps→p.ok h
 full:∀q∈F,(∀w,q.2 w)∨(q.1∈taken∧(q.1∈alive → ∃p,(q.1,p)∈ps ∧ ∀w:World,p.ok w.heap→q.2 w))
theorem PinRel.val {taken alive:List Nat} {ps:List (Nat×Pin)} {F:PinL} {h:Array Obj} (H:PinRel taken alive ps F h) (k:Nat):PinRel taken alive ps ((k,fun _=>True)::F) h:=
 ⟨H.ok,fun q hq=>by
  rcases List.mem_cons.1 hq with rfl|hq
  ·exact .inl fun _=>trivial
  exact H.full q hq⟩
theorem PinRel.load {taken alive:List Nat} {ps:List (Nat×Pin)} {F:PinL} {h:Array Obj} (H:PinRel taken alive ps F h) {k:Nat} (hk:k∉taken) {p:Pin} (hp:p.ok h):
  PinRel (k::taken) (k::alive) ((k,p)::ps) ((k,fun w=>p.ok w.heap)::F) h:=by
 refine ⟨fun j q hq=>?_,fun q hq=>?_⟩
 ·rcases List.mem_cons.1 hq with e|hq
  ·cases e;exact hp
  exact H.ok j q hq
 rcases List.mem_cons.1 hq with rfl|hq
 ·exact .inr ⟨List.mem_cons_self ..,fun _=>⟨p,List.mem_cons_self ..,fun _ h=>h⟩⟩
 rcases H.full q hq with h1|⟨h1,h2⟩
 ·exact .inl h1
 refine .inr ⟨List.mem_cons_of_mem _ h1,fun ha=>?_⟩
 rcases List.mem_cons.1 ha with e|ha
 ·exact absurd (e▸h1) hk
 obtain ⟨p',h3,h4⟩:=h2 ha
 exact ⟨p',List.mem_cons_of_mem _ h3,h4⟩
end Go.Fw

namespace Go.Fw
open Go
variable {P:Program}
structure Put (h h':Array Obj) (b:Nat) (cs:Array Value) (t:TypeId):Prop where
 size:h'.size=h.size
 blk:At h' b cs t
 other:∀k,k≠b→h'[k]? = h[k]?
theorem Put.cell {h h':Array Obj} {g:Nat} {cs:Array Value} {t:TypeId} (N:Put h h' g cs t) {b o:Nat} (hne:b≠g):cellH h' b o=cellH h b o:=by
 unfold cellH;rw [N.other b hne]
theorem At.one {h:Array Obj} {g:Nat} {v:Value} {e:TypeId} (H:At h g #[v] e):cellH h g 0=some v:=by rw [H.cell];rfl
section ops
variable {n:Nat} {l:Fr} {h:Array Obj} {o:Oper}
theorem Eff.mono {V V':Value→Array Obj→Prop} (H:Eff P n l h o V) (hv:∀v h',V v h'→V' v h'):Eff P n l h o V':=
 fun a w ha hh next Q hn=>H a w ha hh next Q fun v w' hl hV=>hn v w' hl (hv _ _ hV)
end ops
/-! the loop's record, by what it leaves -/
structure PutO (h h':Array Obj) (b:Nat):Prop where
 size:h'.size=h.size
 other:∀k,k≠b→h'[k]? = h[k]?
theorem PutO.cell {h h':Array Obj} {g:Nat} (N:PutO h h' g) {b o:Nat} (hne:b≠g):cellH h' b o=cellH h b o:=by
 unfold cellH;rw [N.other b hne]
structure LoopAt (h:Array Obj) (y:Nat) (r:Loop) (st:LoopState) (pend:Option Code):Prop where
 ex:∃r1:Loop,h[y]? = some (.loop r1)∧r1.state=st∧r1.pending=pend∧r1.fn=r.fn∧r1.tmps=r.tmps∧r1.params=r.params∧r1.assign=r.assign∧r1.body=r.body
theorem LoopAt.same {h h':Array Obj} {y:Nat} {r:Loop} {st:LoopState} {pend:Option Code} (H:LoopAt h y r st pend) (e:h'[y]? = h[y]?):LoopAt h' y r st pend:=by
 obtain ⟨r1,h1,h2⟩:=H;exact ⟨r1,e.trans h1,h2⟩
section loops
variable {c:Ctx P} {ds:List Deferred} {k:List SI} {l:Fr} {h:Array Obj} {y:Nat} {r:Loop}
section ends
variable {f n:Nat} {w0:World} {fr:Frame} {cs:List Frame} {R:Value→Array Obj→Prop}
end ends
end loops
end Go.Fw

namespace Go.Fw
open Go Go.RowKit Go.WideShapes Go.ChangeShapes
section
variable {H:Type} {enc:TypeId×Value→H} {P:Program}
theorem post_of_below {f:Func} {s:ChangeSpec} {apart fresh handsOn again:Bool} {W W':World} {args:Array Value} {v:Value} {ds gs:List (DataW H)} {before pa pv:List MemPlace}
  (hW:DataW.Whole enc P f.params.toList s.vars apart W args.toList ds gs before)
  (hres:∀(b:Nat) (sp:Nat→Bool) (hd:Bool),DataW.TrodAll enc P W' b sp hd f.resultTypes.toList (v.resultList f.resultTypes.size) (s.fn H (ds++gs)).results [])
  (hargs:∀sp:Nat→Bool,(∀p∈before,sp p.block=true)→DataW.TrodAll enc P W' 0 sp true f.params.toList args.toList (s.fn H (ds++gs)).args pa)
  (hvars:∀sp:Nat→Bool,(∀p∈before,sp p.block=true)→DataW.TrodVars enc P W' sp s.vars (s.fn H (ds++gs)).vars pv)
  (hps:before=pa++pv) (hb:Below W.heap.size W W')
  (hok:∀(j:Nat) (t:TypeId) (r:Value),f.resultTypes[j]? = some t→(v.resultList f.resultTypes.size)[j]? = some r→Value.okWide P W' .any 0 t r):
  s.post enc P f apart fresh handsOn again W args v W':=by
 have hlt:∀p∈before,p.block<W.heap.size:=fun p hp=>hW.lt p hp
 have hold:∀p∈before,(fun b=>decide (b<W.heap.size)) p.block=true:=fun p hp=>by simpa using hlt p hp
 refine ⟨ds,gs,before,[],pa,pv,hW,hres _ _ _,hargs _ hold,hvars _ hold,World.keptBut_mono (fun p hp=>⟨hp,?_⟩) (hb.frame (· ∈ before)),fun _=>?_⟩
 ·rw [hps,List.mem_append] at hp
  exact Or.inr hp
 obtain ⟨_,_,_,_,_,hz,hn⟩:=hW
 refine ⟨hok,_,_,([]++pa)++pv,⟨[]++pa,pv,trodAll_append (hargs _ (fun _ _=>rfl)) (hres _ _ _),hvars _ (fun _ _=>rfl),rfl,?_,?_⟩,?_⟩
 ·intro b off hp
  have hin:MemPlace.cell b off∈before:=by rw [hps];simpa using hp
  rw [hb.frozen (hlt _ hin)]
  exact hz b off hin
 ·intro ha
  have:=hn ha
  rw [hps] at this
  simpa using this
 intro p hp _
 rw [hps]
 simpa using hp
end
theorem FnV.below {P:Program} {f:FuncId} {args:Array Value} {W:World} {R:Value→Prop} (H:FnV P f args W.heap fun r h'=>R r∧Keeps W.heap.size W.heap h'):
  Calls P f args W fun e W'=>∃v,e=.returned v∧R v∧Below W.heap.size W W':=
 (H.calls W rfl).mono fun _ _ ⟨hl,v,he,hR,hk⟩=>⟨v,he,hR,hl.os,hl.tape,hl.output,hk.size,hk.same⟩
end Go.Fw

namespace Go.Fw
open Go
variable {P:Program}
section
variable {c:Ctx P} {ds:List Deferred} {k:List SI} {l:Fr} {h:Array Obj} {u:FrameMode}
def Unw (c:Ctx P) (ds:List Deferred) (u:FrameMode) (l:Fr) (h:Array Obj):Prop:=
 ∀(a:Act) (w:World) (todo:List Item),Holds c.n l a→a.defers=ds→w.heap=h→Like c.w0 w→c.Z (lone {c.fr a todo with mode:=u} c.cs w)
theorem Unw.sub {l':Fr} (hs:Sub l l') (H:Unw c ds u l' h):Unw c ds u l h:=fun a w t ha hd hh hw=>H a w t (ha.sub hs) hd hh hw
theorem Runs.retU (H:Unw c ds .returning l h) (hro:c.round=none:=by rfl):Runs c ds (.code .ret::k) l h:=by
 unfold Runs
 intro hwf a w ha hd hh hw
 refine c.back _ _ (step_lone_go ?_) (H a w (its (.code .ret::k)) ha hd hh hw)
 simp [its,SI.it,stepG,stepG.exec,Ctx.fr,hro]
theorem Runs.finU (H:Unw c ds .returning l h) (hro:c.round=none:=by rfl):Runs c ds [] l h:=by
 unfold Runs
 intro hwf a w ha hd hh hw
 refine c.back _ _ (step_lone_go ?_) (H a w [] ha hd hh hw)
 simp [its,stepG,stepG.exec,Ctx.fr,hro]
theorem Runs.panicU {all:Array Oper} {rest:List Oper} {o:Oper} {x:Operand} {t:TypeId} {v:Value} (H:Unw c ds (.panicking [{v:=.iface t v,recovered:=false}]) l h)
  (hop:o.op=.panic x:=by rfl) (hx:ev l x=some (.iface t v):=by rfl) (hgd:guardOf l all o=some true:=by rfl):Runs c ds (.ops all (o::rest)::k) l h:=by
 unfold Runs
 intro hwf a w ha hd hh hw
 have hwn:=wanted_of ha hgd
 obtain ⟨i,e1,e2,ho,hwf'⟩:=ops_cons (hwf _ (List.mem_cons_self ..))
 refine c.back _ _ (step_lone_go ?_) (H a w (its (.ops all (o::rest)::k)) ha hd hh hw)
 have hrun:(execOp a.eval o).run P w=.halt (.panic (.iface t v)) w:=by
  have e:(Instr.panic (.iface t v)).run P w=.halt (.panic (.iface t v)) w:=rfl
  simp [execOp,hop,ha.ev hx,e]
 simp only [its_ops,e1]
 rw [stepG_oper (P:=P) (c:=c) (k:=its k) (todo:=List.range' (i+1) rest.length) (w:=w) ho hwn (.inr fun cl e=>by rw [hop] at e;cases e)]
 simp [stepG.apply,hrun,Frame.raise,Ctx.fr]
theorem Runs.callE {all:Array Oper} {rest:List Oper} {o:Oper} {cl:Call} {x:Operand} {g:FuncId} {first captured:Array Value} {vs:List Value}
  {R:Ending→Array Obj→Prop} (H:Fn P g (first++vs.toArray++captured) h R) (hno:∀h',¬R .outgrown h')
  (hp:∀ch h',R (.panicked ch) h'→Unw c ds (.panicking ch) l h')
  (hr:∀v h',R (.returned v) h'→Runs c ds (.ops all rest::k) (upd l o.dst v) h')
  (hop:o.op=.call cl:=by rfl) (hcal:cl.callee=.value x:=by rfl)
  (hx:ev l x=some (.func (.func g) first captured):=by rfl) (hargs:allEv l cl.args.toList=some vs:=by rfl) (hgd:guardOf l all o=some true:=by rfl) (hdn:dstOk c.n o.dst=true:=by rfl):
  Runs c ds (.ops all (o::rest)::k) l h:=by
 unfold Runs
 intro hwf a w ha hd hh hw
 have hwn:=wanted_of ha hgd
 obtain ⟨i,e1,e2,ho,hwf'⟩:=ops_cons (hwf _ (List.mem_cons_self ..))
 have hrun:=run_call hop hcal ha hx hargs H.enters w
 have hd':c.round=none ∨ ∀cl,o.op ≠ .defer cl:=.inr (fun cl' e=>by rw [hop] at e;cases e)
 simp only [its_ops,e1]
 have hstep:=stepG_oper (P:=P) (c:=c) (k:=its k) (todo:=List.range' (i+1) rest.length) (w:=w) ho hwn hd'
 have henter:Go.step P (lone (c.fr a (.inRegion all (i::List.range' (i+1) rest.length)::its k)) c.cs w) =
   .next (lone (Frame.enter P g (first++vs.toArray++captured) .normal) (c.fr a (.inRegion all (i::List.range' (i+1) rest.length)::its k)::c.cs) w):=
  step_lone_go (by rw [hstep];simp [stepG.apply,hrun,Ctx.fr])
 obtain ⟨e,w',fr,⟨hlk,hR⟩,hcomes,hfn,hleave⟩:=H.calls w hh (c.fr a (.inRegion all (i::List.range' (i+1) rest.length)::its k)::c.cs)
 refine c.back _ _ henter ?_
 cases e with
 |outgrown=>exact absurd hR (hno _)
 |returned v=>
  refine back_steps c hcomes ?_
  refine c.back _ _ (step_leave_returned hleave) ?_
  have hf:=fr_finish (c:=c) a all i (List.range' (i+1) rest.length) (its k) v
  rw [ho] at hf
  simp only [Option.bind_some] at hf
  rw [hf]
  have hr':=hr v _ hR
  unfold Runs at hr'
  have:=hr' (wf_cons hwf' (wf_tail hwf)) (a.put o.dst v) w' (holds_upd ha (dstOk_lt hdn) _) (by cases o.dst<;>simpa [Act.put] using hd) rfl (hw.trans hlk)
  simpa only [its_ops,e2] using this
 |panicked ch=>
  refine back_steps c hcomes ?_
  refine c.back _ _ (step_leave_panicked hleave) ?_
  exact hp ch _ hR a w' _ ha hd rfl (hw.trans hlk)
theorem Runs.deferU {all:Array Oper} {rest:List Oper} {o:Oper} {cl:Call} {x:Operand} {g:FuncId} {first captured:Array Value} {vs:List Value}
  (hr:Runs c ({target:=.fn (.func g) captured,args:=first++vs.toArray}::ds) (.ops all rest::k) l h)
  (hop:o.op=.defer cl:=by rfl) (hcal:cl.callee=.value x:=by rfl) (hx:ev l x=some (.func (.func g) first captured):=by rfl) (hargs:allEv l cl.args.toList=some vs:=by rfl)
  (hgd:guardOf l all o=some true:=by rfl) (hdst:o.dst=none:=by rfl) (hro:c.round=none:=by rfl):Runs c ds (.ops all (o::rest)::k) l h:=by
 unfold Runs at hr ⊢
 intro hwf a w ha hd hh hw
 have hwn:=wanted_of ha hgd
 obtain ⟨i,e1,e2,ho,hwf'⟩:=ops_cons (hwf _ (List.mem_cons_self ..))
 have hr':=hr (wf_cons hwf' (wf_tail hwf)) {a with defers:={target:=.fn (.func g) captured,args:=first++vs.toArray}::ds} w ⟨ha.size,ha.get⟩ rfl hh hw
 refine c.back _ _ (step_lone_go ?_) hr'
 have ea:cl.args.map a.eval=vs.toArray:=by
  have e1:=allEv_map ha hargs
  apply Array.ext';simpa using e1
 have hrun:(execOp a.eval o).run P w=.ok (.defer {target:=.fn (.func g) captured,args:=first++vs.toArray}) w:=by
  simp [execOp,hop,resolve,hcal,ha.ev hx,Deferred.ofValue,ea]
 simp only [its_ops,e1,e2]
 have hf:=fr_finish (c:=c) {a with defers:={target:=.fn (.func g) captured,args:=first++vs.toArray}::ds} all i (List.range' (i+1) rest.length) (its k) undef
 rw [ho] at hf
 simp only [Option.bind_some,hdst,Act.put] at hf
 rw [←hf,stepG_oper ho hwn (.inl hro)]
 simp [stepG.apply,hrun,Ctx.fr,hd]
end
/-! the ends of a function that is called -/
section
variable {f n:Nat} {w0:World} {cs:List Frame} {R:Ending→Array Obj→Prop} {l:Fr} {h h':Array Obj} {ds:List Deferred}
theorem Unw.pan {ch:List PanicEntry} {fn:Func} (hf:P.funcs[f]? = some fn) (hR:R (.panicked ch) h):Unw (callCtx P f n w0 cs R) [] (.panicking ch) l h:=fun a w todo ha hd hh hw=>
 ⟨.panicked ch,w,_,⟨hw,hh▸hR⟩,Steps.refl P _,rfl,rfl,hd,fn,hf⟩
end
/-! deferred functions -/
structure FnD (P:Program) (f:FuncId) (args:Array Value) (u:FrameMode) (h:Array Obj) (R:Ending→FrameMode→Array Obj→Prop):Prop where
 enters:Enters P f
 calls:∀w:World,w.heap=h→CallsD P f args u w fun e u' w'=>Like w w'∧R e u' w'.heap
theorem Unw.defer {c:Ctx P} {ds:List Deferred} {u:FrameMode} {l:Fr} {h:Array Obj} {g:FuncId} {args captured:Array Value} {R:Ending→FrameMode→Array Obj→Prop}
  (H:FnD P g (args++captured) u h R) (hu:u ≠ .run) (hno:∀u' h',¬R .outgrown u' h')
  (hr:∀v u' h',R (.returned v) u' h'→Unw c ds (settle u') l h')
  (hp:∀ch u' h',R (.panicked ch) u' h'→Unw c ds (raised u' ch) l h'):
  Unw c ({target:=.fn (.func g) captured,args:=args}::ds) u l h:=by
 intro a w todo ha hd hh hw
 have hinv:(invoke (.fn (.func g) captured) args).run P w=.ok (.enter g (args++captured)) w:=callFunc_run H.enters _ w
 have h1:=step_defer (P:=P) (fr:={c.fr a todo with mode:=u}) (cs:=c.cs) (w:=w) (d:={target:=.fn (.func g) captured,args:=args}) (ds:=ds) hu hd rfl hinv
 obtain ⟨e,u',w',frX,⟨hlk,hR⟩,hsteps,hkX,hgo⟩:=H.calls w hh { {c.fr a todo with mode:=u} with defers:=ds} c.cs rfl
 refine c.back _ _ h1 ?_
 cases e with
 |outgrown=>exact absurd hR (hno _ _)
 |returned v=>
  refine back_steps c hsteps (c.back _ _ (step_going_returned (cs:=c.cs) hkX hgo) ?_)
  exact hr v u' _ hR {a with defers:=ds} w' todo ⟨ha.size,ha.get⟩ rfl rfl (hw.trans hlk)
 |panicked ch=>
  refine back_steps c hsteps (c.back _ _ (step_going_panicked (cs:=c.cs) hgo) ?_)
  exact hp ch u' _ hR {a with defers:=ds} w' todo ⟨ha.size,ha.get⟩ rfl rfl (hw.trans hlk)
def defCtx (P:Program) (f n:Nat) (w0:World) (c0:Frame) (cs:List Frame) (u:FrameMode) (R:Ending→FrameMode→Array Obj→Prop):Ctx P where
 Z:=fun m=>∃e u' w' fr,(Like w0 w'∧R e u' w'.heap)∧Comes P m (lone fr ({c0 with mode:=u'}::cs) w') e∧fr.kind=.deferred∧fr.going P w' e
 back:=fun _ _ hs ⟨e,u',w',fr,hR,hc,hk,hl⟩=>⟨e,u',w',fr,hR,hc.of_steps (.one hs),hk,hl⟩
 fn:=f
 kind:=.deferred
 round:=none
 cs:={c0 with mode:=u}::cs
 w0:=w0
 n:=n
theorem FnD.of {f:FuncId} {fn:Func} {code:Code} (hf:P.funcs[f]? = some fn) (hname:(fn.name == "runtime.NumGoroutine")=false) (hb:fn.body=some code) {n:Nat} (hnt:fn.ntmps=n)
  {args:List Value} (hargs:Nat.ble args.length n=true) {u:FrameMode} {h:Array Obj} {R:Ending→FrameMode→Array Obj→Prop}
  (H:∀w0 c0 cs,Runs (defCtx P f n w0 c0 cs u R) [] [.code code] (argFr 0 args) h):FnD P f args.toArray u h R:=by
 refine ⟨⟨fn,code,hf,hname,hb⟩,fun w hw c0 cs hu=>?_⟩
 have hr:=H w c0 cs
 unfold Runs at hr
 have:=hr (fun s hs=>by simp at hs;subst hs;trivial) {tmps:=args.toArray++Array.replicate (n - args.toArray.size) undef,defers:=[]} w (holds_args _ _ (Nat.le_of_ble_eq_true hargs)) rfl hw (Like.refl w)
 have henter:Frame.enter P f args.toArray .deferred=(defCtx P f n w c0 cs u R).fr {tmps:=args.toArray++Array.replicate (n - args.toArray.size) undef,defers:=[]} (its [.code code]):=by
  simp [Frame.enter,Ctx.fr,hf,hb,hnt,defCtx,its,SI.it]
 have hc:({c0 with mode:=u}:Frame)=c0:=by subst hu;rfl
 rw [←henter] at this
 obtain ⟨e,u',w',fr,hR,hcs,hk,hl⟩:=this
 refine ⟨e,u',w',fr,hR,?_,hk,hl⟩
 have e2:(defCtx P f n w c0 cs u R).cs=c0::cs:=by simp only [defCtx,hc]
 rw [e2] at hcs
 exact hcs
section
variable {f n:Nat} {w0:World} {c0:Frame} {cs:List Frame} {u:FrameMode} {R:Ending→FrameMode→Array Obj→Prop} {k:List SI} {l:Fr} {h:Array Obj} {ds:List Deferred}
theorem Unw.retD (T:Tab P) {fn:Func} (hf:P.funcs[f]? = some fn) {vs:List Value} (hv:ResOk T l h fn.results.toList vs) (hR:R (.returned (tup vs)) u h):
  Unw (defCtx P f n w0 c0 cs u R) [] .returning l h:=fun a w todo ha hd hh hw=>
 ⟨.returned (tup vs),u,w,_,⟨hw,hh▸hR⟩,Steps.refl P _,rfl,rfl,hd,fn,hf,results_runC T ha (hh▸hv)⟩
theorem Runs.recoverP {all:Array Oper} {rest:List Oper} {o:Oper} {cl:Call} {v:Value} {older:List PanicEntry}
  (hr:Runs (defCtx P f n w0 c0 cs (.panicking ({v,recovered:=true}::older)) R) ds (.ops all rest::k) (upd l o.dst v) h)
  (hop:o.op=.call cl:=by rfl) (hcal:cl.callee=.builtin .recover:=by rfl) (hgd:guardOf l all o=some true:=by rfl) (hdn:dstOk n o.dst=true:=by rfl):
  Runs (defCtx P f n w0 c0 cs (.panicking ({v,recovered:=false}::older)) R) ds (.ops all (o::rest)::k) l h:=by
 obtain ⟨c,hc⟩:∃c,c=defCtx P f n w0 c0 cs (.panicking ({v,recovered:=false}::older)) R:=⟨_,rfl⟩
 obtain ⟨c',hc'⟩:∃c,c=defCtx P f n w0 c0 cs (.panicking ({v,recovered:=true}::older)) R:=⟨_,rfl⟩
 unfold Runs at hr ⊢
 intro hwf a w ha hd hh hw
 have hwn:=wanted_of ha hgd
 obtain ⟨i,e1,e2,ho,hwf'⟩:=ops_cons (hwf _ (List.mem_cons_self ..))
 have hr':=hr (wf_cons hwf' (wf_tail hwf)) (a.put o.dst v) w (holds_upd ha (dstOk_lt hdn) _) (by cases o.dst<;>simpa [Act.put] using hd) hh hw
 have hf:=fr_finish (c:=defCtx P f n w0 c0 cs (.panicking ({v,recovered:=false}::older)) R) a all i (List.range' (i+1) rest.length) (its k) v
 rw [ho] at hf
 simp only [Option.bind_some] at hf
 have hrun:(execOp a.eval o).run P w=.ok .recover w:=by
  simp [execOp,hop,resolve,hcal,invoke,builtin]
 refine (defCtx P f n w0 c0 cs (.panicking ({v,recovered:=false}::older)) R).back _ (lone ((defCtx P f n w0 c0 cs (.panicking ({v,recovered:=true}::older)) R).fr (a.put o.dst v) (its (.ops all rest::k))) (defCtx P f n w0 c0 cs (.panicking ({v,recovered:=true}::older)) R).cs w) (step_lone_go ?_) hr'
 simp only [its_ops,e1,e2]
 rw [stepG_oper (c:=defCtx P f n w0 c0 cs (.panicking ({v,recovered:=false}::older)) R) ho hwn (.inl rfl)]
 have htr:tryRecover ((defCtx P f n w0 c0 cs (.panicking ({v,recovered:=false}::older)) R).fr a (.inRegion all (i::List.range' (i+1) rest.length)::its k)) (defCtx P f n w0 c0 cs (.panicking ({v,recovered:=false}::older)) R).cs =
   some (v,(defCtx P f n w0 c0 cs (.panicking ({v,recovered:=true}::older)) R).cs):=by
  rw [tryRecover_deferred (by rfl)];rfl
 have hro:((defCtx P f n w0 c0 cs (.panicking ({v,recovered:=false}::older)) R).fr a (.inRegion all (i::List.range' (i+1) rest.length)::its k)).roundOf=none:=rfl
 simp only [stepG.apply,Sem.runT_eq,hrun,hro,htr,GStep.bare_after,hf,ite_self]
 rfl
theorem Runs.recoverN {all:Array Oper} {rest:List Oper} {o:Oper} {cl:Call}
  (hr:Runs (defCtx P f n w0 c0 cs .returning R) ds (.ops all rest::k) (upd l o.dst .nilIface) h)
  (hop:o.op=.call cl:=by rfl) (hcal:cl.callee=.builtin .recover:=by rfl) (hgd:guardOf l all o=some true:=by rfl) (hdn:dstOk n o.dst=true:=by rfl):
  Runs (defCtx P f n w0 c0 cs .returning R) ds (.ops all (o::rest)::k) l h:=by
 unfold Runs at hr ⊢
 intro hwf a w ha hd hh hw
 have hwn:=wanted_of ha hgd
 obtain ⟨i,e1,e2,ho,hwf'⟩:=ops_cons (hwf _ (List.mem_cons_self ..))
 have hr':=hr (wf_cons hwf' (wf_tail hwf)) (a.put o.dst .nilIface) w (holds_upd ha (dstOk_lt hdn) _) (by cases o.dst<;>simpa [Act.put] using hd) hh hw
 have hf:=fr_finish (c:=defCtx P f n w0 c0 cs .returning R) a all i (List.range' (i+1) rest.length) (its k) .nilIface
 rw [ho] at hf
 simp only [Option.bind_some] at hf
 have hrun:(execOp a.eval o).run P w=.ok .recover w:=by
  simp [execOp,hop,resolve,hcal,invoke,builtin]
 refine (defCtx P f n w0 c0 cs .returning R).back _ _ (step_lone_go ?_) hr'
 simp only [its_ops,e1,e2]
 rw [stepG_oper (c:=defCtx P f n w0 c0 cs .returning R) ho hwn (.inl rfl)]
 have htr:tryRecover ((defCtx P f n w0 c0 cs .returning R).fr a (.inRegion all (i::List.range' (i+1) rest.length)::its k)) (defCtx P f n w0 c0 cs .returning R).cs=none:=by
  rw [tryRecover_deferred (by rfl)];rfl
 have hro:((defCtx P f n w0 c0 cs .returning R).fr a (.inRegion all (i::List.range' (i+1) rest.length)::its k)).roundOf=none:=rfl
 simp only [stepG.apply,Sem.runT_eq,hrun,hro,htr,GStep.bare_after,hf,ite_self]
 rfl
end
end Go.Fw

namespace Go.Fw
open Go
variable {P:Program} {n:Nat} {l:Fr} {h:Array Obj} {o:Oper}
theorem eff_assert {t xt:TypeId} {d:TypeDesc} {x:Operand} {v:Value} {ok:Bool} (ht:P.underlying t=some d) (hd:∀ms,d ≠ .interface ms)
  (hop:o.op=.typeAssert x xt t ok:=by rfl) (hx:ev l x=some (.iface t v):=by rfl):Eff P n l h o (fun v' h'=>v'=(if ok then .tuple #[v,.bool true] else v)∧h'=h):=by
 refine Eff.of_val1 fun a w ha hh=>⟨w,?_,Like.refl w,hh⟩
 have e:(Instr.typeAssert (.iface t v) xt t ok).run P w=.ok (if ok then .tuple #[v,.bool true] else v) w:=by
  unfold Instr.typeAssert
  simp only [Sem.run_bind,run_underlying ht,Result.andThen_ok]
  cases d<;>first|exact absurd rfl (hd _)|(cases ok<;>simp)
 simp [execOp,hop,ha.ev hx,e]
end Go.Fw

namespace Go.Fw
open Go
variable {P:Program}
def FnO (P:Program) (ch:List PanicEntry) (f:FuncId) (args:Array Value) (h:Array Obj) (r:Option Value):Prop:=
 Fn P f args h fun e h'=>e=(match r with|some v=>.returned v|none=>.panicked ch)∧Keeps h.size h h'
section
variable {f n:Nat} {w0:World} {cs:List Frame} {l:Fr} {h h0:Array Obj} {ch:List PanicEntry} {r:Option Value}
abbrev outR (ch:List PanicEntry) (h0:Array Obj) (r:Option Value):Ending→Array Obj→Prop:=
 fun e h'=>e=(match r with|some v=>.returned v|none=>.panicked ch)∧Keeps h0.size h0 h'
end
end Go.Fw

namespace Go.Fw
open Go
variable {P:Program}
def EffP (P:Program) (n:Nat) (l:Fr) (h:Array Obj) (o:Oper) (V:Value→Array Obj→Prop) (PN:List PanicEntry→Array Obj→Prop):Prop:=
 ∀a w,Holds n l a→w.heap=h → ∀(next:Act→World→Prop) (Q:Exit→Act→World→Prop),(∀v w',Like w w'→V v w'.heap→next (a.put o.dst v) w') →
  (∀ch w',Like w w'→PN ch w'.heap→Q (.panic ch) a w')→o.wp P a w next Q
theorem EffP.of_eff {n:Nat} {l:Fr} {h:Array Obj} {o:Oper} {V:Value→Array Obj→Prop} (H:Eff P n l h o V):EffP P n l h o V (fun _ _=>False):=
 fun a w ha hh next Q hn _=>H a w ha hh next Q hn
theorem EffP.callO {n:Nat} {l:Fr} {h:Array Obj} {o:Oper} {cl:Call} {x:Operand} {g:FuncId} {first captured:Array Value} {vs:List Value} {ch:List PanicEntry} {r:Option Value}
  (H:FnO P ch g (first++vs.toArray++captured) h r)
  (hop:o.op=.call cl:=by rfl) (hcal:cl.callee=.value x:=by rfl)
  (hx:ev l x=some (.func (.func g) first captured):=by rfl) (hargs:allEv l cl.args.toList=some vs:=by rfl):
  EffP P n l h o (fun v h'=>r=some v∧Keeps h.size h h') (fun ch' h'=>r=none∧ch'=ch∧Keeps h.size h h'):=by
 intro a w ha hh next Q hn hp
 unfold Oper.wp
 rw [run_call hop hcal ha hx hargs H.enters w,Oper.upon_enter]
 refine (H.calls w hh).mono fun e w' ⟨hlk,he,hk⟩=>?_
 cases r with
 |some v=>subst he;exact hn v w' hlk ⟨rfl,hk⟩
 |none=>subst he;exact hp ch w' hlk ⟨rfl,rfl,hk⟩
section any
variable {ops:Array Oper} {md:Region.Mode} {Q:Exit→Act→World→Prop}
theorem wpAnyC_firstP {pins:PinL} {C:World→Prop} {i:Nat} {oi:Oper} {v:Value} (hi:ops[i]? = some oi) (hsel:∀(j:Nat) (o:Oper) cs b,ops[j]? = some o→o.op ≠ .select cs b)
  (hQ:∀c a w,Q (.panic c) (a.put oi.dst v) w→Q (.panic c) a w) (hfl:floatAt ops i=true):
  ∀(f:Nat) (listed:Array Bool) (a:Act) (w:World),Closed md ops listed →
   (∀j oj,ops[j]? = some oj→j≠i→listed.getD j true=false→(∀e∈oj.after,Region.binds md e=true→e.on≠i)→oi.apart ops oj=true) →
   i∈Region.ready md ops listed→YieldsIf P ops C oi v a→C w →
   wpAnyC P md ops Q ((i,C)::pins) f (listed.setIfInBounds i true) (a.put oi.dst v) w→wpAnyC P md ops Q pins (f+1) listed a w:=by
 intro f
 induction f with
 |zero=>
  intro listed a w _ _ hr hy hS H
  refine ⟨fun h=>(by rw [h] at hr;cases hr),fun j hj=>?_⟩
  by_cases hji:j=i
  ·subst hji;exact hy.wpOp hi hS ⟨⟨fun _=>rfl,fun h=>(by rw [hfl] at h;cases h)⟩,H⟩
  have:=ready_mono hj hji
  rw [H.1] at this
  cases this
 |succ f ih=>
  intro listed a w inv hfree hr hy hS H
  refine ⟨fun h=>(by rw [h] at hr;cases hr),fun j hj=>?_⟩
  by_cases hji:j=i
  ·subst hji;exact hy.wpOp hi hS ⟨⟨fun _=>rfl,fun h=>(by rw [hfl] at h;cases h)⟩,wpAnyC_tail _ _ _ _ H⟩
  have h1:=H.2 j (ready_mono hj hji)
  obtain ⟨hjun,oj,hoj,hall⟩:=mem_ready.1 hj
  have hun:=(mem_ready.1 hr).1
  have hnot:∀e∈oj.after,Region.binds md e=true→e.on≠i:=fun e he hb heq=>by
   have h1:=hall e he hb
   rw [heq,getD_both hun] at h1
   cases h1
  have h2:=wpOp_putIf hoj (hfree j oj hoj hji hjun hnot) (fun cs b=>hsel i oi cs b hi) (fun cs b=>hsel j oj cs b hoj) hQ hy h1
  have hfree':∀k ok,ops[k]? = some ok→k≠i→(listed.setIfInBounds j true).getD k true=false →
    (∀e∈ok.after,Region.binds md e=true→e.on≠i)→oi.apart ops ok=true:=fun k ok hk hki hun hno=>by
   refine hfree k ok hk hki ?_ hno
   by_cases hjk:j=k
   ·subst hjk;exact hjun
   rw [getD_set_ne true hjk] at hun;exact hun
  refine wpOp_mono (fun a' w' h3=>?_) h2
  obtain ⟨hy',⟨ha1,ha2⟩,hrest⟩:=h3
  have hC:C w':=by
   cases hfj:floatAt ops j with
   |true=>rw [ha1 hfj];exact hS
   |false=>
    rcases ha2 hfj (i,C) (List.mem_cons_self ..) with hd|hc
    ·exact absurd hj (deps_spec inv (getD_both hun) (List.range ops.size) [] (by simp) j hd).2
    exact hc
  refine ⟨⟨ha1,fun hf q hq=>ha2 hf q (List.mem_cons_of_mem _ hq)⟩,ih (listed.setIfInBounds j true) a' w' (inv.set hj) hfree' (ready_mono hr (Ne.symm hji)) hy' hC ?_⟩
  rw [Array.setIfInBounds_comm _ _ hji]
  exact hrest
end any
def dsts:List Oper→List Nat
 | []=>[]
 |o::os=>match o.dst with
  |some d=>d::dsts os
  |none=>dsts os
theorem dsts_mem:∀ {ops:List Oper} {k:Nat} {o:Oper} {d:Nat},ops[k]? = some o→o.dst=some d→d∈dsts ops
 | [],k,o,d,h,_=>by simp at h
 |x::xs,0,o,d,h,hd=>by
  simp at h;subst h
  unfold dsts;rw [hd];exact List.mem_cons_self ..
 |x::xs,k+1,o,d,h,hd=>by
  have:=dsts_mem (ops:=xs) (k:=k) (by simpa using h) hd
  unfold dsts
  split
  ·exact List.mem_cons_of_mem _ this
  exact this
def cutF (D:List Nat):Fr→Fr
 | []=>[]
 |(d,v)::l=>match memN d D with
  |true=>cutF D l
  |false=>(d,v)::cutF D l
theorem cutF_look {D:List Nat}:∀ {l:Fr} {d:Nat} {v:Value},look (cutF D l) d=some v→d∉D∧look l d=some v
 | [],d,v,h=>by cases h
 |(e,u)::l,d,v,h=>by
  unfold cutF at h
  cases hm:memN e D with
  |true=>
   simp only [hm] at h
   obtain ⟨h1,h2⟩:=cutF_look h
   refine ⟨h1,?_⟩
   have:Nat.beq e d=false:=by
    cases hb:Nat.beq e d with
    |false=>rfl
    |true=>exact absurd (memN_iff.1 hm) (Nat.eq_of_beq_eq_true hb▸h1)
   simp only [look,this];exact h2
  |false=>
   simp only [hm,look] at h
   cases hb:Nat.beq e d with
   |true=>
    simp only [hb,Option.some.injEq] at h
    have he:=Nat.eq_of_beq_eq_true hb
    subst he h
    exact ⟨fun hc=>(by rw [memN_iff.2 hc] at hm;cases hm),by simp [look]⟩
   |false=>
    simp only [hb] at h
    obtain ⟨h1,h2⟩:=cutF_look h
    exact ⟨h1,by simp only [look,hb];exact h2⟩
def Alike (D:List Nat) (a a':Act):Prop:=a'.tmps.size=a.tmps.size∧a'.defers=a.defers ∧ ∀d,d∉D→a'.tmps[d]? = a.tmps[d]?
theorem Alike.refl (D:List Nat) (a:Act):Alike D a a:=⟨rfl,rfl,fun _ _=>rfl⟩
theorem Alike.put {D:List Nat} {a a':Act} (H:Alike D a a') {dst:Option Nat} (hd:∀d,dst=some d→d∈D) (v:Value):Alike D (a.put dst v) a':=by
 cases dst with
 |none=>exact H
 |some d=>
  refine ⟨by simpa [Act.put] using H.1,by simpa [Act.put] using H.2.1,fun e he=>?_⟩
  rw [H.2.2 e he]
  have hne:d≠e:=fun h=>he (h▸hd d rfl)
  simp only [Act.put]
  rw [Array.getElem?_setIfInBounds_ne hne]
theorem Holds.alike {n:Nat} {l:Fr} {a a':Act} {D:List Nat} (ha:Holds n l a) (H:Alike D a a'):Holds n (cutF D l) a':=
 ⟨by rw [H.1];exact ha.size,fun d v hv=>by
  obtain ⟨h1,h2⟩:=cutF_look hv
  rw [H.2.2 d h1];exact ha.get d v h2⟩
end Go.Fw

namespace Go.Fw
open Go
variable {P:Program}
def ResOkA {P:Program} (T:Tab P) (l:Fr) (h:Array Obj):List ResultVar→List Value→Prop
 | [],[]=>True
 | .tmp t::rs,v::vs=>look l t=some v∧ResOkA T l h rs vs
 | .cell a t::rs,v::vs=>(∃b o,look l a=some (.pointer (some ⟨b,o,none⟩)) ∧
   ((scalarB T t=true∧cellH h b o=some v) ∨ ∃i ws,aggB T t=true∧lookI T.inf t=some i∧ws.length=i.size∧CellsH h b o ws∧v=.agg ws.toArray))∧ResOkA T l h rs vs
 |_,_=>False
theorem results_runA (T:Tab P) {fn:Func} {n:Nat} {l:Fr} {a:Act} (ha:Holds n l a) {w:World} {vs:List Value} (hv:ResOkA T l w.heap fn.results.toList vs):
  (results fn a.tmps).run P w=.ok (tup vs) w:=by
 have key:∀(rs:List ResultVar) (vs:List Value),ResOkA T l w.heap rs vs→(rs.mapM (resRead a.tmps)).run P w=.ok vs w:=by
  intro rs
  induction rs with
  |nil=>intro vs h;cases vs with
   |nil=>simp
   |cons=>exact h.elim
  |cons r rs ih=>
   intro vs h
   cases vs with
   |nil=>cases r<;>exact h.elim
   |cons v vs=>
    cases r with
    |tmp t=>
     obtain ⟨h1,h2⟩:=h
     have hrs:=ih vs h2
     have h0:(resRead a.tmps (.tmp t)).run P w=.ok v w:=by simp [resRead,ha.get t v h1]
     simp only [List.mapM_cons,Sem.run_bind,h0,hrs,Result.andThen,Sem.run_pure]
    |cell p t=>
     obtain ⟨⟨b,o,h1,h2⟩,h4⟩:=h
     have hrs:=ih vs h4
     have h0:(resRead a.tmps (.cell p t)).run P w=.ok v w:=by
      rcases h2 with ⟨h2,h3⟩|⟨i,ws,hag,hi,hlen,hc,rfl⟩
      ·have hcell:=cell_of h3
       simp [resRead,ha.get p _ h1,asAddr,loadVar,isAgg_scalar T h2,Go.load,Sem.run,hcell]
      have hl:=run_loadCells_list (P:=P) w ⟨b,o,none⟩ ws (fun j v hv=>by rw [add_none];exact cell_of (hc j v hv))
      rw [hlen] at hl
      simp [resRead,ha.get p _ h1,asAddr,loadVar,isAgg_agg T hag,sizeOf_inf T hi,hl]
     simp only [List.mapM_cons,Sem.run_bind,h0,hrs,Result.andThen,Sem.run_pure]
 have hk:=key fn.results.toList vs hv
 rw [results_eq,←Array.toArray_toList (xs:=fn.results),List.mapM_toArray]
 simp only [Sem.run_bind,map_eq_pure_bind,hk,Sem.run_pure,Result.andThen]
 cases vs with
 |nil=>simp [tup]
 |cons v vs=>cases vs<;>simp [tup]
section
variable {f n:Nat} {w0:World} {cs:List Frame} {R:Ending→Array Obj→Prop} {l:Fr} {h:Array Obj} {k:List SI}
theorem Unw.retA (T:Tab P) {fn:Func} (hf:P.funcs[f]? = some fn) {vs:List Value} (hv:ResOkA T l h fn.results.toList vs) (hR:R (.returned (tup vs)) h):
  Unw (callCtx P f n w0 cs R) [] .returning l h:=fun a w todo ha hd hh hw=>
 ⟨.returned (tup vs),w,_,⟨hw,hh▸hR⟩,Steps.refl P _,rfl,rfl,hd,rfl,fn,hf,results_runA T ha (hh▸hv)⟩
end
theorem plain_build {n:Nat} {l:Fr} {o:Oper} {t:TypeId} {parts:Array (Nat×Operand)} {us:List (Nat×Value)} {cells:Array Value} (hb:P.built t us=some cells)
  (hop:o.op=.build t parts:=by rfl) (hps:evParts l parts.toList=some us:=by rfl):PlainIs P n l o (.agg cells):=by
 intro a w ha
 have e1:(parts.map fun (x:Nat×Operand)=>(x.1,a.eval x.2)).toList=us:=by
  rw [Array.toList_map];exact evParts_map ha hps
 have:=run_build (P:=P) w t (parts.map fun (x:Nat×Operand)=>(x.1,a.eval x.2)) cells (by rw [e1];exact hb)
 simp [execOp,hop,this]
end Go.Fw

namespace Go.Fw
open Go
variable {P:Program}
inductive SV where
 |v (x:Value)
 |ptr (b off:Nat)
 |buf (b:Nat)
 |row (b:Nat) (i:Int) (off sz:Nat)
 |agg (cs:List SV)
 |tup (vs:List SV)
 |ifc (t:TypeId) (x:SV)
 |fn (f:Go.Fn) (first captured:List SV)
abbrev Env:=Nat→Value
def ownB:Value→Option Nat
 | .pointer (some a)=>some a.block
 | .slice (some a) _ _=>some a.block
 | .map (some r)=>some r
 |_=>none
def blkOf (x:Value):Nat:=(ownB x).getD 0
def offOf:Value→Nat
 | .slice (some a) _ _=>a.off
 |_=>0
mutual
def SV.g (E:Env):SV→Value
 | .v x=>x
 | .ptr b off=>.pointer (some ⟨blkOf (E b),off,none⟩)
 | .buf b=>E b
 | .row b i off sz=>.pointer (some ⟨blkOf (E b),offOf (E b)+i.toNat*sz+off,none⟩)
 | .agg cs=>.agg (SV.gs E cs).toArray
 | .tup vs=>.tuple (SV.gs E vs).toArray
 | .ifc t x=>.iface t (SV.g E x)
 | .fn f a b=>.func f (SV.gs E a).toArray (SV.gs E b).toArray
def SV.gs (E:Env):List SV→List Value
 | []=>[]
 |x::xs=>SV.g E x::SV.gs E xs
end
mutual
/-- its names lie below n -/
def SV.bd (n:Nat):SV→Bool
 | .v _=>true
 | .ptr b _=>Nat.blt b n
 | .buf b=>Nat.blt b n
 | .row b _ _ _=>Nat.blt b n
 | .agg cs=>SV.bds n cs
 | .tup vs=>SV.bds n vs
 | .ifc _ x=>SV.bd n x
 | .fn _ a b=>match SV.bds n a with
  |true=>SV.bds n b
  |false=>false
def SV.bds (n:Nat):List SV→Bool
 | []=>true
 |x::xs=>match SV.bd n x with
  |true=>SV.bds n xs
  |false=>false
end
mutual
def SV.ren (f:Nat→Nat):SV→SV
 | .v x=>.v x
 | .ptr b off=>.ptr (f b) off
 | .buf b=>.buf (f b)
 | .row b i off sz=>.row (f b) i off sz
 | .agg cs=>.agg (SV.rens f cs)
 | .tup vs=>.tup (SV.rens f vs)
 | .ifc t x=>.ifc t (SV.ren f x)
 | .fn g a b=>.fn g (SV.rens f a) (SV.rens f b)
def SV.rens (f:Nat→Nat):List SV→List SV
 | []=>[]
 |x::xs=>SV.ren f x::SV.rens f xs
end
def Ag (n:Nat) (E E':Env):Prop:=∀b,b<n→E' b=E b
theorem Ag.trans {n:Nat} {E E' E'':Env} (h:Ag n E E') (k:Ag n E' E''):Ag n E E'':=fun b hb=>(k b hb).trans (h b hb)
theorem Ag.mono {n m:Nat} {E E':Env} (h:Ag n E E') (hm:m≤n):Ag m E E':=fun b hb=>h b (by omega)
mutual
theorem SV.g_ag {n:Nat} {E E':Env} (H:Ag n E E'):∀x:SV,x.bd n=true→x.g E'=x.g E
 | .v _,_=>rfl
 | .ptr b off,h=>by simp only [SV.bd] at h;simp only [SV.g,H b (Nat.blt_eq.mp h)]
 | .buf b,h=>by simp only [SV.bd] at h;simp only [SV.g,H b (Nat.blt_eq.mp h)]
 | .row b i off sz,h=>by simp only [SV.bd] at h;simp only [SV.g,H b (Nat.blt_eq.mp h)]
 | .agg cs,h=>by simp only [SV.bd] at h;simp only [SV.g,SV.gs_ag H cs h]
 | .tup vs,h=>by simp only [SV.bd] at h;simp only [SV.g,SV.gs_ag H vs h]
 | .ifc t x,h=>by simp only [SV.bd] at h;simp only [SV.g,SV.g_ag H x h]
 | .fn f a b,h=>by
  simp only [SV.bd] at h
  cases ha:SV.bds n a with
  |false=>simp [ha] at h
  |true=>simp only [ha] at h;simp only [SV.g,SV.gs_ag H a ha,SV.gs_ag H b h]
theorem SV.gs_ag {n:Nat} {E E':Env} (H:Ag n E E'):∀xs:List SV,SV.bds n xs=true→SV.gs E' xs=SV.gs E xs
 | [],_=>rfl
 |x::xs,h=>by
  simp only [SV.bds] at h
  cases hx:SV.bd n x with
  |false=>simp [hx] at h
  |true=>simp only [hx] at h;simp only [SV.gs,SV.g_ag H x hx,SV.gs_ag H xs h]
end
mutual
theorem SV.g_ren (f:Nat→Nat) (E:Env):∀x:SV,(x.ren f).g E=x.g (fun b=>E (f b))
 | .v _=>rfl
 | .ptr b off=>rfl
 | .buf b=>rfl
 | .row b i off sz=>rfl
 | .agg cs=>by simp only [SV.ren,SV.g,SV.gs_ren f E cs]
 | .tup vs=>by simp only [SV.ren,SV.g,SV.gs_ren f E vs]
 | .ifc t x=>by simp only [SV.ren,SV.g,SV.g_ren f E x]
 | .fn g a b=>by simp only [SV.ren,SV.g,SV.gs_ren f E a,SV.gs_ren f E b]
theorem SV.gs_ren (f:Nat→Nat) (E:Env):∀xs:List SV,SV.gs E (SV.rens f xs)=SV.gs (fun b=>E (f b)) xs
 | []=>rfl
 |x::xs=>by simp only [SV.rens,SV.gs,SV.g_ren f E x,SV.gs_ren f E xs]
end
theorem gs_map (E:Env):∀xs:List SV,SV.gs E xs=xs.map (SV.g E)
 | []=>rfl
 |x::xs=>by simp only [SV.gs,List.map_cons,gs_map E xs]
theorem gs_len (E:Env) (xs:List SV):(SV.gs E xs).length=xs.length:=by rw [gs_map];simp
theorem gs_app (E:Env) (xs ys:List SV):SV.gs E (xs++ys)=SV.gs E xs++SV.gs E ys:=by simp [gs_map]
theorem gs_get (E:Env) (xs:List SV) (i:Nat):(SV.gs E xs)[i]? = (xs[i]?).map (SV.g E):=by simp [gs_map]
def toV (l:List Value):List SV:=match l with
 | []=>[]
 |x::xs=>.v x::toV xs
theorem gs_toV (E:Env):∀l:List Value,SV.gs E (toV l)=l
 | []=>rfl
 |x::xs=>by simp only [toV,SV.gs,SV.g,gs_toV E xs]
/-! frames -/
abbrev SFr:=List (Nat×SV)
def lookS:SFr→Nat→Option SV
 | [],_=>none
 |(s,v)::l,d=>match Nat.beq s d with
  |true=>some v
  |false=>lookS l d
def gF (E:Env):SFr→Fr
 | []=>[]
 |(s,x)::l=>(s,x.g E)::gF E l
theorem look_gF (E:Env):∀(l:SFr) (d:Nat),look (gF E l) d=(lookS l d).map (SV.g E)
 | [],d=>rfl
 |(s,x)::l,d=>by
  simp only [gF,look,lookS]
  cases Nat.beq s d with
  |true=>rfl
  |false=>exact look_gF E l d
theorem look_gF_of {E:Env} {l:SFr} {d:Nat} {x:SV} (h:lookS l d=some x):look (gF E l) d=some (x.g E):=by rw [look_gF,h];rfl
def evS (l:SFr):Operand→Option SV
 | .tmp t=>lookS l t
 | .const v=>some (.v v)
 | .global g=>some (.v (.pointer (some ⟨g,0,none⟩)))
 | .func f=>some (.v (.func (.func f) #[] #[]))
theorem ev_gF {E:Env} {l:SFr} {x:Operand} {v:SV} (h:evS l x=some v):ev (gF E l) x=some (v.g E):=by
 cases x with
 |tmp t=>exact look_gF_of h
 |const u=>simp only [evS,Option.some.injEq] at h;subst h;rfl
 |global g=>simp only [evS,Option.some.injEq] at h;subst h;rfl
 |func f=>simp only [evS,Option.some.injEq] at h;subst h;rfl
def bdF (n:Nat):SFr→Bool
 | []=>true
 |(_,x)::l=>match x.bd n with
  |true=>bdF n l
  |false=>false
theorem gF_ag {n:Nat} {E E':Env} (H:Ag n E E'):∀l:SFr,bdF n l=true→gF E' l=gF E l
 | [],_=>rfl
 |(s,x)::l,h=>by
  simp only [bdF] at h
  cases hx:x.bd n with
  |false=>simp [hx] at h
  |true=>simp only [hx] at h;simp only [gF,SV.g_ag H x hx,gF_ag H l h]
def updS (l:SFr) (dst:Option Nat) (x:SV):SFr:=
 match dst with
 |some d=>(d,x)::l
 |none=>l
theorem gF_updS (E:Env) (l:SFr) (dst:Option Nat) (x:SV):gF E (updS l dst x)=upd (gF E l) dst (x.g E):=by
 cases dst<;>rfl
def evAll (l:SFr):List Operand→Option (List SV)
 | []=>some []
 |x::xs=>match evS l x with
  |some v=>match evAll l xs with
   |some vs=>some (v::vs)
   |none=>none
  |none=>none
theorem allEv_gF {E:Env} {l:SFr}:∀ {xs:List Operand} {vs:List SV},evAll l xs=some vs→allEv (gF E l) xs=some (SV.gs E vs)
 | [],vs,h=>by simp only [evAll,Option.some.injEq] at h;subst h;rfl
 |x::xs,vs,h=>by
  simp only [evAll] at h
  cases hx:evS l x with
  |none=>simp [hx] at h
  |some v=>
   cases hxs:evAll l xs with
   |none=>simp [hx,hxs] at h
   |some us=>
    simp only [hx,hxs,Option.some.injEq] at h
    subst h
    simp only [allEv,ev_gF hx,allEv_gF hxs,SV.gs]
/-! heaps -/
inductive Blk where
 /-- a variable -/
 |cells (t:TypeId) (cs:List SV)
 /-- a slice that owns its array -/
 |own (e:TypeId) (sz:Nat) (rows:List (List Value))
 /-- a slice that is only read -/
 |ro (sz:Nat) (rows:List (List Value))
 /-- a map of the walk's own: keys and values -/
 |map (d:TypeDesc) (es:List (Value×Value))
abbrev SH:=List (Nat×Blk)
def wr:Blk→Bool
 | .ro _ _=>false
 |_=>true
structure Kp (F:Nat→Prop) (h0 h:Array Obj):Prop where
 size:h0.size≤h.size
 same:∀k,F k→h[k]? = h0[k]?
 lt:∀k,F k→k<h0.size
theorem Kp.trans {F:Nat→Prop} {a b c:Array Obj} (h:Kp F a b) (k:Kp F b c):Kp F a c:=⟨Nat.le_trans h.size k.size,fun i hi=>(k.same i hi).trans (h.same i hi),h.lt⟩
theorem Kp.ge {F:Nat→Prop} {a b:Array Obj} (h:Kp F a b) {k:Nat} (hk:b.size≤k):¬F k:=fun hf=>by have:=h.lt k hf;have:=h.size;omega
def CellsAt (F:Nat→Prop) (h:Array Obj) (a:Option Addr) (rows:List (List Value)):Prop:=
 rows=[] ∨ ∃g o,a=some ⟨g,o,none⟩∧F g∧CellsH h g o rows.flatten
def MapAt (h:Array Obj) (g:Nat) (d:TypeDesc) (es:List (Value×Value)):Prop:=
 (∃(en:Array MapEntry) (clock:Nat),h[g]? = some (.map en clock)∧en.toList.map (fun e=>(e.key,e.val))=es) ∧ ∀p∈es,MapKept.IsKey d p.1
theorem MapAt.same {h h':Array Obj} {g:Nat} {d:TypeDesc} {es:List (Value×Value)} (H:MapAt h g d es) (e:h'[g]? = h[g]?):MapAt h' g d es:=⟨by rw [e];exact H.1,H.2⟩
theorem MapAt.lt {h:Array Obj} {g:Nat} {d:TypeDesc} {es:List (Value×Value)} (H:MapAt h g d es):g<h.size:=by
 obtain ⟨⟨_,_,h1,_⟩,_⟩:=H
 exact (Array.getElem?_eq_some_iff.1 h1).1
def RowsOk (sz:Nat) (rows:List (List Value)):Prop:=∀r∈rows,r.length=sz ∧ ∀u∈r,u.oneCell'=true
def capOk:Value→Prop
 | .slice _ n c=>n≤c
 |_=>True
def Blk.ok (E:Env) (F:Nat→Prop) (h:Array Obj) (x:Value):Blk→Prop
 | .cells t cs=>∃g,x=.pointer (some ⟨g,0,none⟩)∧At h g (SV.gs E cs).toArray t ∧ ¬F g
 | .own e sz rows=>RowsOk sz rows∧Own 0 h e sz x rows.length rows.flatten ∧ ∀g,ownB x=some g → ¬F g
 | .ro sz rows=>RowsOk sz rows∧(rows.length≤maxLen∧capOk x) ∧ ∃a cap,x=.slice a rows.length cap∧CellsAt F h a rows
 | .map d es=>∃g,x=.map (some g)∧MapAt h g d es ∧ ¬F g
def Apart (E:Env) (p q:Nat×Blk):Prop:=wr p.2=true→wr q.2=true → ∀g,ownB (E p.1)=some g→ownB (E q.1)≠some g
theorem Apart.symm {E:Env} {p q:Nat×Blk} (h:Apart E p q):Apart E q p:=fun hq hp g e1 e2=>h hp hq g e2 e1
structure Sat (E:Env) (F:Nat→Prop) (H:SH) (h:Array Obj):Prop where
 ok:∀p∈H,p.2.ok E F h (E p.1)
 apart:H.Pairwise (Apart E)
def lookH:SH→Nat→Option Blk
 | [],_=>none
 |(s,v)::l,d=>match Nat.beq s d with
  |true=>some v
  |false=>lookH l d
theorem lookH_mem:∀ {H:SH} {b:Nat} {x:Blk},lookH H b=some x→(b,x)∈H
 | [],_,_,h=>by cases h
 |(s,v)::l,d,x,h=>by
  simp only [lookH] at h
  cases hb:Nat.beq s d with
  |true=>
   simp only [hb,Option.some.injEq] at h
   have:=Nat.eq_of_beq_eq_true hb
   subst h this
   exact List.mem_cons_self ..
  |false=>simp only [hb] at h;exact List.mem_cons_of_mem _ (lookH_mem h)
def setH:SH→Nat→Blk→SH
 | [],_,_=>[]
 |(s,v)::l,d,x=>match Nat.beq s d with
  |true=>(s,x)::l
  |false=>(s,v)::setH l d x
def remH:SH→Nat→SH
 | [],_=>[]
 |(s,v)::l,d=>match Nat.beq s d with
  |true=>remH l d
  |false=>(s,v)::remH l d
theorem remH_sub:∀(H:SH) (b:Nat),(remH H b).Sublist H
 | [],_=>List.Sublist.refl _
 |(s,v)::l,d=>by
  simp only [remH]
  cases Nat.beq s d with
  |true=>exact (remH_sub l d).cons _
  |false=>exact (remH_sub l d).cons_cons _
theorem remH_ne:∀ {H:SH} {b:Nat} {p:Nat×Blk},p∈remH H b→p.1≠b
 | [],_,_,h=>by cases h
 |(s,v)::l,d,p,h=>by
  simp only [remH] at h
  cases hb:Nat.beq s d with
  |true=>simp only [hb] at h;exact remH_ne h
  |false=>
   simp only [hb] at h
   rcases List.mem_cons.1 h with rfl|h
   ·exact fun e=>by simp only at e;subst e;simp at hb
   exact remH_ne h
theorem Sat.sub {E:Env} {F:Nat→Prop} {H H':SH} {h:Array Obj} (S:Sat E F H h) (hs:H'.Sublist H):Sat E F H' h:=⟨fun p hp=>S.ok p (hs.subset hp),S.apart.sublist hs⟩
def bdB (n:Nat):Blk→Bool
 | .cells _ cs=>SV.bds n cs
 |_=>true
def bdH (n:Nat):SH→Bool
 | []=>true
 |(b,x)::l=>match Nat.blt b n with
  |true=>match bdB n x with
   |true=>bdH n l
   |false=>false
  |false=>false
theorem bdH_mem {n:Nat}:∀ {H:SH} {p:Nat×Blk},bdH n H=true→p∈H→p.1<n∧bdB n p.2=true
 | [],_,_,h=>by cases h
 |(b,x)::l,p,h,hp=>by
  simp only [bdH] at h
  cases hb:Nat.blt b n with
  |false=>simp [hb] at h
  |true=>
   cases hx:bdB n x with
   |false=>simp [hb,hx] at h
   |true=>
    simp only [hb,hx] at h
    rcases List.mem_cons.1 hp with rfl|hp
    ·exact ⟨Nat.blt_eq.mp hb,hx⟩
    exact bdH_mem h hp
theorem Blk.ok_ag {n:Nat} {E E':Env} (H:Ag n E E') {F:Nat→Prop} {h:Array Obj} {x:Value} {b:Blk} (hb:bdB n b=true) (hk:b.ok E F h x):b.ok E' F h x:=by
 cases b with
 |cells t cs=>
  obtain ⟨g,h1,h2,h3⟩:=hk
  exact ⟨g,h1,by rw [SV.gs_ag H cs hb];exact h2,h3⟩
 |own=>exact hk
 |ro=>exact hk
 |map=>exact hk
theorem Sat.ag {n:Nat} {E E':Env} (A:Ag n E E') {F:Nat→Prop} {H:SH} {h:Array Obj} (hb:bdH n H=true) (S:Sat E F H h):Sat E' F H h:=by
 refine ⟨fun p hp=>?_,List.Pairwise.imp_of_mem (fun {p q} hp hq hA=>?_) S.apart⟩
 ·obtain ⟨h1,h2⟩:=bdH_mem hb hp
  rw [A _ h1]
  exact Blk.ok_ag A h2 (S.ok p hp)
 intro hp' hq' g e1
 rw [A _ (bdH_mem hb hp).1] at e1
 rw [A _ (bdH_mem hb hq).1]
 exact hA hp' hq' g e1
theorem Blk.lt {E:Env} {F:Nat→Prop} {h:Array Obj} {x:Value} {b:Blk} (hk:b.ok E F h x) (hw:wr b=true) {g:Nat} (hg:ownB x=some g):g<h.size ∧ ¬F g:=by
 cases b with
 |cells t cs=>
  obtain ⟨g',rfl,h2,h3⟩:=hk
  simp only [ownB,Option.some.injEq] at hg
  subst hg
  exact ⟨h2.lt,h3⟩
 |own e sz rows=>
  obtain ⟨_,h2,h3⟩:=hk
  refine ⟨?_,h3 g hg⟩
  obtain ⟨_,⟨rfl,_⟩|⟨g',cap,cur,rfl,_,hat,_⟩⟩:=h2
  ·cases hg
  simp only [ownB,Option.some.injEq] at hg
  subst hg
  exact hat.lt
 |ro=>cases hw
 |map d es=>
  obtain ⟨g',rfl,h2,h3⟩:=hk
  simp only [ownB,Option.some.injEq] at hg
  subst hg
  exact ⟨h2.lt,h3⟩
theorem CellsAt.keep {F:Nat→Prop} {h h':Array Obj} {a:Option Addr} {rows:List (List Value)} (H:CellsAt F h a rows) (hs:∀k,F k→h'[k]? = h[k]?):CellsAt F h' a rows:=by
 rcases H with H|⟨g,o,h1,h2,h3⟩
 ·exact .inl H
 refine .inr ⟨g,o,h1,h2,fun j v hj=>?_⟩
 have:=h3 j v hj
 unfold cellH at this ⊢
 rw [hs g h2];exact this
theorem Own.same {base:Nat} {h h':Array Obj} {e:TypeId} {sz:Nat} {v:Value} {m:Nat} {xs:List Value} (H:Own base h e sz v m xs) (hs:∀g,ownB v=some g→h'[g]? = h[g]?):Own base h' e sz v m xs:=by
 obtain ⟨hl,H⟩:=H
 refine ⟨hl,?_⟩
 rcases H with H|⟨g,cap,cur,rfl,h2,h3,h4⟩
 ·exact .inl H
 exact .inr ⟨g,cap,cur,rfl,h2,(hs g rfl).trans h3,h4⟩
theorem Blk.keep {E:Env} {F:Nat→Prop} {h h':Array Obj} {x:Value} {b:Blk} (hk:b.ok E F h x) (hw:wr b=true → ∀g,ownB x=some g→h'[g]? = h[g]?) (hF:∀k,F k→h'[k]? = h[k]?):b.ok E F h' x:=by
 cases b with
 |cells t cs=>
  obtain ⟨g,rfl,h2,h3⟩:=hk
  exact ⟨g,rfl,(hw rfl g rfl).trans h2,h3⟩
 |own e sz rows=>
  obtain ⟨h1,h2,h3⟩:=hk
  exact ⟨h1,h2.same (hw rfl),h3⟩
 |ro sz rows=>
  obtain ⟨h1,h0,a,cap,h2,h3⟩:=hk
  exact ⟨h1,h0,a,cap,h2,h3.keep hF⟩
 |map d es=>
  obtain ⟨g,rfl,h2,h3⟩:=hk
  exact ⟨g,rfl,h2.same (hw rfl g rfl),h3⟩
theorem Sat.keep {E:Env} {F:Nat→Prop} {H:SH} {h h':Array Obj} (S:Sat E F H h) (hw:∀p∈H,wr p.2=true → ∀g,ownB (E p.1)=some g→h'[g]? = h[g]?) (hF:∀k,F k→h'[k]? = h[k]?):Sat E F H h':=
 ⟨fun p hp=>Blk.keep (S.ok p hp) (hw p hp) hF,S.apart⟩
theorem Sat.keeps {E:Env} {F:Nat→Prop} {H:SH} {h0 h h':Array Obj} (S:Sat E F H h) (K:Kp F h0 h) (k:Keeps h.size h h'):Sat E F H h'∧Kp F h0 h':=by
 have hF:∀i,F i→h'[i]? = h[i]? :=fun i hi=>k.same i (by have:=K.lt i hi;have:=K.size;omega)
 exact ⟨S.keep (fun p hp hw g hg=>k.same g (Blk.lt (S.ok p hp) hw hg).1) hF,⟨Nat.le_trans K.size k.size,fun i hi=>(hF i hi).trans (K.same i hi),K.lt⟩⟩
def push (E:Env) (n:Nat) (x:Value):Env:=fun b=>match Nat.beq b n with
 |true=>x
 |false=>E b
theorem push_ag (E:Env) (n:Nat) (x:Value):Ag n E (push E n x):=fun b hb=>by
 unfold push
 have:Nat.beq b n=false:=by cases h:Nat.beq b n with|false=>rfl|true=>have:=Nat.eq_of_beq_eq_true h;omega
 simp [this]
theorem push_at (E:Env) (n:Nat) (x:Value):push E n x n=x:=by unfold push;simp
theorem Sat.add {n:Nat} {E:Env} {F:Nat→Prop} {H:SH} {h:Array Obj} {x:Value} {b:Blk} (S:Sat E F H h) (hb:bdH n H=true) (hk:b.ok (push E n x) F h x)
  (hap:wr b=true → ∀p∈H,wr p.2=true → ∀g,ownB (E p.1)=some g→ownB x≠some g):Sat (push E n x) F ((n,b)::H) h:=by
 have S':=S.ag (push_ag E n x) hb
 refine ⟨fun p hp=>?_,List.pairwise_cons.2 ⟨fun q hq=>?_,S'.apart⟩⟩
 ·rcases List.mem_cons.1 hp with rfl|hp
  ·show b.ok _ F h (push E n x n)
   rw [push_at]
   exact hk
  exact S'.ok p hp
 intro hw hq' g e1 e2
 simp only [push_at] at e1
 rw [push_ag E n x _ (bdH_mem hb hq).1] at e2
 exact hap hw q hq hq' g e2 e1
theorem Sat.set {E:Env} {F:Nat→Prop} {h h':Array Obj} {b:Nat} {x y:Blk} (hwx:wr x=true) (hwy:wr y=true) (hy:y.ok E F h' (E b)) (hF:∀k,F k→h'[k]? = h[k]?)
  (ho:∀g,ownB (E b)≠some g→h'[g]? = h[g]? ∨ h.size≤g):∀ {H:SH},Sat E F H h→lookH H b=some x→Sat E F (setH H b y) h'
 | [],_,hl=>by cases hl
 |(s,z)::H,S,hl=>by
  obtain ⟨hp,hps⟩:=List.pairwise_cons.1 S.apart
  have ST:Sat E F H h:=⟨fun p hp=>S.ok p (List.mem_cons_of_mem _ hp),hps⟩
  simp only [lookH,setH] at *
  cases hb:Nat.beq s b with
  |true=>
   simp only [hb,Option.some.injEq] at hl ⊢
   have:=Nat.eq_of_beq_eq_true hb
   subst hl this
   have hk:∀p∈H,wr p.2=true → ∀g,ownB (E p.1)=some g→h'[g]? = h[g]? :=fun p hpm hw g hg=>by
    rcases ho g (fun e=>hp p hpm hwx hw g e hg) with h1|h1
    ·exact h1
    have:=(Blk.lt (ST.ok p hpm) hw hg).1;omega
   have ST':=ST.keep hk hF
   refine ⟨fun p hp=>?_,List.pairwise_cons.2 ⟨fun q hq=>?_,ST'.apart⟩⟩
   ·rcases List.mem_cons.1 hp with rfl|hp
    ·exact hy
    exact ST'.ok p hp
   exact fun _ hwq=>hp q hq hwx hwq
  |false=>
   simp only [hb] at hl ⊢
   have IH:=Sat.set hwx hwy hy hF ho ST hl
   have hz:z.ok E F h' (E s):=by
    refine Blk.keep (S.ok _ (List.mem_cons_self ..)) (fun hw g hg=>?_) hF
    rcases ho g (fun e=>hp _ (lookH_mem hl) hw hwx g hg e) with h1|h1
    ·exact h1
    have:=(Blk.lt (S.ok (s,z) (List.mem_cons_self ..)) hw hg).1;omega
   refine ⟨fun p hp=>?_,List.pairwise_cons.2 ⟨fun q hq=>?_,IH.apart⟩⟩
   ·rcases List.mem_cons.1 hp with rfl|hp
    ·exact hz
    exact IH.ok p hp
   have hq':q∈H∨q=(b,y):=by
    clear IH S ST hps hp hz
    revert hl hq
    induction H with
    |nil=>intro hl;cases hl
    |cons r H ih=>
     intro hl hq
     obtain ⟨r1,r2⟩:=r
     simp only [setH] at hq
     cases hrb:Nat.beq r1 b with
     |true=>
      simp only [hrb] at hq
      have:=Nat.eq_of_beq_eq_true hrb
      subst this
      rcases List.mem_cons.1 hq with rfl|hq
      ·exact .inr rfl
      exact .inl (List.mem_cons_of_mem _ hq)
     |false=>
      simp only [hrb] at hq
      simp only [lookH,hrb] at hl
      rcases List.mem_cons.1 hq with rfl|hq
      ·exact .inl (List.mem_cons_self ..)
      rcases ih hl hq with h1|h1
      ·exact .inl (List.mem_cons_of_mem _ h1)
      exact .inr h1
   rcases hq' with h1|rfl
   ·exact hp q h1
   exact fun hw _=>hp (b,x) (lookH_mem hl) hw hwx
/-! walks -/
structure SDef where
 g:FuncId
 captured:List SV
 args:List SV
def SDef.c (E:Env) (d:SDef):Deferred:={target:=.fn (.func d.g) (SV.gs E d.captured).toArray,args:=(SV.gs E d.args).toArray}
def gD (E:Env):List SDef→List Deferred
 | []=>[]
 |d::l=>d.c E::gD E l
def bdD (n:Nat):List SDef→Bool
 | []=>true
 |d::l=>match SV.bds n d.captured with
  |true=>match SV.bds n d.args with
   |true=>bdD n l
   |false=>false
  |false=>false
theorem gD_ag {n:Nat} {E E':Env} (H:Ag n E E'):∀l:List SDef,bdD n l=true→gD E' l=gD E l
 | [],_=>rfl
 |d::l,h=>by
  simp only [bdD] at h
  cases h1:SV.bds n d.captured with
  |false=>simp [h1] at h
  |true=>
   cases h2:SV.bds n d.args with
   |false=>simp [h1,h2] at h
   |true=>simp only [h1,h2] at h;simp only [gD,SDef.c,SV.gs_ag H _ h1,SV.gs_ag H _ h2,gD_ag H l h]
structure SCx (P:Program) where
 c:Ctx P
 F:Nat→Prop
 h0:Array Obj
 E0:Env
 n0:Nat
structure RunsS (s:SCx P) (ds:List SDef) (nx:Nat) (st:List SI) (l:SFr) (H:SH):Prop where
 run:∀(E:Env) (h:Array Obj),Ag s.n0 s.E0 E→Sat E s.F H h→Kp s.F s.h0 h→Runs s.c (gD E ds) st (gF E l) h
structure UnwS (s:SCx P) (ds:List SDef) (u:FrameMode) (nx:Nat) (l:SFr) (H:SH):Prop where
 run:∀(E:Env) (h:Array Obj),Ag s.n0 s.E0 E→Sat E s.F H h→Kp s.F s.h0 h→Unw s.c (gD E ds) u (gF E l) h
def fresh (n0 nx:Nat) (l:SFr) (H:SH) (ds:List SDef):Bool:=match Nat.ble n0 nx with
 |true=>match bdF nx l with
  |true=>match bdH nx H with
   |true=>bdD nx ds
   |false=>false
  |false=>false
 |false=>false
theorem fresh_of {n0 nx:Nat} {l:SFr} {H:SH} {ds:List SDef} (h:fresh n0 nx l H ds=true):n0≤nx∧bdF nx l=true∧bdH nx H=true∧bdD nx ds=true:=by
 unfold fresh at h
 split at h
 ·split at h
  ·split at h
   ·exact ⟨Nat.le_of_ble_eq_true (by assumption),by assumption,by assumption,h⟩
   cases h
  cases h
 cases h
def plainO (o:Oper):Bool:=
 match o.op with
 | .load _ _=>false
 |_=>floatO o
def EffK (P:Program) (n:Nat) (F:Nat→Prop) (h0:Array Obj) (l:SFr) (H:SH) (o:Oper) (x:SV) (H':SH):Prop:=
 (∀E h,Sat E F H h→Kp F h0 h→Eff P n (gF E l) h o (fun v h'=>v=x.g E∧Sat E F H' h'∧Kp F h0 h')) ∧
 (plainO o=true→H'=H ∧ ∀E h,Sat E F H h→Kp F h0 h → ∀a w,Holds n (gF E l) a→(execOp a.eval o).run P w=.ok (.value (x.g E)) w)
def EffL (P:Program) (n:Nat) (F:Nat→Prop) (h0:Array Obj) (l:SFr) (H:SH) (o:Oper) (x:SV) (H':SH):Prop:=
 ∀E h,Sat E F H h→Kp F h0 h→Eff P n (gF E l) h o (fun v h'=>v=x.g E∧Sat E F H' h'∧Kp F h0 h')
theorem EffK.of_eff {n:Nat} {F:Nat→Prop} {h0:Array Obj} {l:SFr} {H H':SH} {o:Oper} {x:SV} (hn:plainO o=false)
  (hE:∀E h,Sat E F H h→Kp F h0 h→Eff P n (gF E l) h o (fun v h'=>v=x.g E∧Sat E F H' h'∧Kp F h0 h')):EffK P n F h0 l H o x H':=
 ⟨hE,fun hp=>by rw [hn] at hp;cases hp⟩
def EffS (P:Program) (n:Nat) (F:Nat→Prop) (h0:Array Obj) (nx:Nat) (l:SFr) (H:SH) (o:Oper) (x:SV) (H':SH):Prop:=
 ∀E h,Sat E F H h→Kp F h0 h→Eff P n (gF E l) h o (fun v h'=>∃E',Ag nx E E'∧v=x.g E'∧Sat E' F H' h'∧Kp F h0 h')
theorem EffK.of_plain {n:Nat} {F:Nat→Prop} {h0:Array Obj} {l:SFr} {H:SH} {o:Oper} {x:SV}
  (hr:∀E h,Sat E F H h→Kp F h0 h → ∀a w,Holds n (gF E l) a→(execOp a.eval o).run P w=.ok (.value (x.g E)) w):EffK P n F h0 l H o x H:=
 ⟨fun E h S K=>Eff.of_value fun a w ha hh=>⟨_,w,hr E h S K a w ha,Like.refl w,rfl,hh▸S,hh▸K⟩,fun _=>⟨rfl,hr⟩⟩
section
variable {s:SCx P} {ds:List SDef} {nx:Nat} {k:List SI} {l:SFr} {H:SH}
theorem RunsS.effL {all:Array Oper} {rest:List Oper} {o:Oper} {x:SV} {H':SH} (hE:EffL P s.c.n s.F s.h0 l H o x H')
  (hgd:∀E,guardOf (gF E l) all o=some true) (hdst:dstOk s.c.n o.dst=true) (hnd:noDefer1 o=true)
  (hr:RunsS s ds nx (.ops all rest::k) (updS l o.dst x) H'):RunsS s ds nx (.ops all (o::rest)::k) l H:=⟨fun E h hA S K=>
 Runs.eff (hE E h S K) (fun v h' ⟨hv,S',K'⟩=>by
  subst hv
  have:=hr.run E h' hA S' K'
  rw [gF_updS] at this
  exact this) (hgd E) hdst hnd⟩
theorem RunsS.effK {all:Array Oper} {rest:List Oper} {o:Oper} {x:SV} {H':SH} (hE:EffK P s.c.n s.F s.h0 l H o x H')
  (hgd:∀E,guardOf (gF E l) all o=some true) (hdst:dstOk s.c.n o.dst=true) (hnd:noDefer1 o=true)
  (hr:RunsS s ds nx (.ops all rest::k) (updS l o.dst x) H'):RunsS s ds nx (.ops all (o::rest)::k) l H:=RunsS.effL hE.1 hgd hdst hnd hr
theorem RunsS.eff {all:Array Oper} {rest:List Oper} {o:Oper} {x:SV} {H':SH} {nx':Nat} (hE:EffS P s.c.n s.F s.h0 nx l H o x H')
  (hgd:∀E,guardOf (gF E l) all o=some true) (hdst:dstOk s.c.n o.dst=true) (hnd:noDefer1 o=true) (hn:s.n0≤nx) (hb:bdF nx l=true) (hd:bdD nx ds=true)
  (hr:RunsS s ds nx' (.ops all rest::k) (updS l o.dst x) H'):RunsS s ds nx (.ops all (o::rest)::k) l H:=⟨fun E h hA S K=>
 Runs.eff (hE E h S K) (fun v h' ⟨E',hag,hv,S',K'⟩=>by
  subst hv
  have:=hr.run E' h' (hA.trans (hag.mono hn)) S' K'
  rw [gF_updS,gF_ag hag l hb,gD_ag hag ds hd] at this
  exact this) (hgd E) hdst hnd⟩
end
/-! guards -/
def guardS (l:SFr) (ops:Array Oper) (o:Oper):Option Bool:=
 match o.guard with
 |none=>some true
 |some (j,want)=>match nth ops.toList j with
  |none=>none
  |some oj=>match oj.dst with
   |none=>none
   |some d=>match lookS l d with
    |some (.v (.bool b))=>match b with
     |true=>match want with
      |true=>some true
      |false=>some false
     |false=>match want with
      |true=>some false
      |false=>some true
    |some (.v (.tuple _))=>some false
    |_=>none
theorem guardS_of {E:Env} {l:SFr} {ops:Array Oper} {o:Oper} {b:Bool} (h:guardS l ops o=some b):guardOf (gF E l) ops o=some b:=by
 unfold guardS at h
 unfold guardOf
 cases hg:o.guard with
 |none=>rw [hg] at h;exact h
 |some jw=>
  obtain ⟨j,want⟩:=jw
  rw [hg] at h
  simp only at h ⊢
  cases hj:nth ops.toList j with
  |none=>rw [hj] at h;cases h
  |some oj=>
   rw [hj] at h
   simp only at h ⊢
   cases hd:oj.dst with
   |none=>rw [hd] at h;cases h
   |some d=>
    rw [hd] at h
    simp only at h ⊢
    split at h
    ·rename_i hl
     rw [look_gF_of hl]
     simp only [SV.g]
     split at h<;>split at h<;>exact h
    ·rename_i hl
     rw [look_gF_of hl]
     exact h
    cases h
end Go.Fw

namespace Go.Fw
open Go
variable {P:Program}
inductive PuS where
 |stop
 |val (x:SV)
 |vala (cs:List SV)
 |ob (p:Prop) (x:SV)
 |tst (p:Prop) (i:Decidable p)
 |ntst (p:Prop) (i:Decidable p)
 /-- a new block -/
 |new (x:SV) (b:Blk)
 |newo (p:Prop) (x:SV) (b:Blk)
 /-- append: the old slice's name goes, a new one comes -/
 |app (p:Prop) (r:Option Nat) (b:Blk)
 /-- a block's contents turn -/
 |put (b:Nat) (y:Blk)
 |puto (p:Prop) (b:Nat) (y:Blk)
 /-- a load out of row i -/
 |rowv (rows:List (List Value)) (i:Int) (o:Nat)
 |rowa (rows:List (List Value)) (i:Int) (o n:Nat)
 /-- a store into row i -/
 |rput (b e sz:Nat) (rows:List (List Value)) (i:Int) (o:Nat) (vals:List Value)
 /-- a load out of memory that stays -/
 |old (b off:Nat)
 |olda (b off n:Nat)
 /-- the string of some bytes -/
 |bytes (rows:List (List Value))
 /-- a remainder -/
 |rem (x y:Int)
 /-- a part of a slice that is only read -/
 |sub (p:Prop) (b:Blk)
def RemV (x y r:Int):Prop:=y≠0∧r=Int.tmod x y
theorem RemV.nonneg {x y:Int} (hx:0≤x) (hy:y≠0):RemV x y (x%y):=⟨hy,(Int.tmod_eq_emod_of_nonneg hx).symm⟩
theorem oF {p q X Y:Prop} (h:p→X) (g:q→Y):(p→X)∧(q→Y):=⟨h,g⟩
theorem sH {p:Prop} (h:p:=by repeat (first|exact trivial|refine ⟨by rfl,?_⟩)):p:=h
theorem oN {a b:Prop} (h:b) (g:a:=by first|omega|exact Nat.le_of_ble_eq_true rfl):a∧b:=⟨g,h⟩
theorem oM {x y:Int} {K:Int→Prop} (h:K (x%y)) (a:0≤x:=by omega) (b:y≠0:=by omega):∃r,RemV x y r∧K r:=⟨_,RemV.nonneg a b,h⟩
theorem oL {a b:Prop} (h:b) (g:a:=by omega):a∧b:=⟨g,h⟩
theorem oR {a b:Prop} (h:a) (g:b:=by omega):a∧b:=⟨h,g⟩
theorem oB {a b:Prop} (h:b) (g:a:=by (conv=>whnf);(repeat (guard_target=_∧_;refine And.intro (by (conv=>whnf);first|rfl|exact trivial) ?_;conv=>whnf));exact trivial):a∧b:=⟨g,h⟩
def strI (is:List Int):ByteArray:=⟨(is.map fun (i:Int)=>UInt8.ofNat i.toNat).toArray⟩
def byteRows (is:List Int):List (List Value):=is.map fun (i:Int)=>[Value.int .u8 i]
def OldC (F:Nat→Prop) (h0:Array Obj) (b off:Nat) (v:Value):Prop:=F b∧cellH h0 b off=some v
def OldCs (F:Nat→Prop) (h0:Array Obj) (b off:Nat) (vs:List Value):Prop:=∀j v,vs[j]? = some v→F b∧cellH h0 b (off+j)=some v
def opnds:Op→List Operand
 | .unOp _ _ x=>[x]
 | .convert _ _ x=>[x]
 | .binOp _ _ x y _=>[x,y]
 | .index _ x i=>[x,i]
 | .indexAddr _ x i=>[x,i]
 | .slice _ x lo hi none=>x::(lo.toList++hi.toList)
 | .fieldAddr _ x _=>[x]
 | .field _ x _=>[x]
 | .makeInterface _ x=>[x]
 | .extract x _=>[x]
 | .nilCheck x=>[x]
 | .makeFunc _ a b=>a.toList++b.toList
 | .call c=>c.args.toList
 |_=>[]
def evl (l:SFr):List Operand→Fr
 | []=>[]
 |x::xs=>match x with
  | .tmp t=>match lookS l t with
   |some (.v v)=>(t,v)::evl l xs
   |_=>evl l xs
  |_=>evl l xs
theorem evl_sub (E:Env) (l:SFr):∀xs:List Operand,Sub (gF E l) (evl l xs)
 | []=>trivial
 |x::xs=>by
  unfold evl
  split
  ·split
   ·rename_i hl
    exact ⟨look_gF_of hl,evl_sub E l xs⟩
   exact evl_sub E l xs
  exact evl_sub E l xs
def plainS (T:Tab P) (l:SFr) (op:Op):PuS:=
 match ev1 T (evl l (opnds op)) op with
 | .stop=>.stop
 | .val v=>.val (.v v)
 | .ob p v=>.ob p (.v v)
 | .tst p i=>.tst p i
 | .ntst p i=>.ntst p i
def cellsV:SV→Option (List SV)
 | .v x=>match x with
  | .agg cs=>some (toV cs.toList)
  | .tuple _=>none
  |x=>some [.v x]
 | .agg cs=>some cs
 | .tup _=>none
 | .buf _=>none
 |x=>some [x]
theorem cellsV_of (E:Env) {x:SV} {cs:List SV} (h:cellsV x=some cs):(x.g E).cells=(SV.gs E cs).toArray:=by
 cases x with
 |v y=>cases y<;>simp only [cellsV,Option.some.injEq] at h<;>first|(cases h;done)|(subst h;first|rfl|simp [SV.g,Value.cells,gs_toV])
 |_=>simp only [cellsV,Option.some.injEq] at h<;>first|(cases h;done)|(subst h;first|rfl|simp [SV.g,Value.cells])
def cellsS (H:SH):SV→Option (List SV)
 | .buf b=>match lookH H b with
  |some (.own _ _ _)=>some [.buf b]
  |some (.ro _ _)=>some [.buf b]
  |_=>none
 |x=>cellsV x
theorem Own.slice {base:Nat} {h:Array Obj} {e:TypeId} {sz:Nat} {v:Value} {m:Nat} {xs:List Value} (H:Own base h e sz v m xs):∃a cap,v=.slice a m cap:=H.shape
def isRows:Blk→Bool
 | .own _ _ _=>true
 | .ro _ _=>true
 |_=>false
theorem buf_slice {E:Env} {F:Nat→Prop} {h:Array Obj} {H:SH} (S:Sat E F H h) {b:Nat} {x:Blk} (hl:lookH H b=some x) (hx:isRows x=true):∃a n c,E b=.slice a n c:=by
 have:=S.ok _ (lookH_mem hl)
 cases x with
 |cells t cs=>cases hx
 |map d es=>cases hx
 |own e sz rows=>obtain ⟨a,c,h1⟩:=this.2.1.shape;exact ⟨a,_,c,h1⟩
 |ro sz rows=>obtain ⟨_,_,a,c,h1,_⟩:=this;exact ⟨a,_,c,h1⟩
theorem cellsS_of {E:Env} {F:Nat→Prop} {h:Array Obj} {H:SH} (S:Sat E F H h) {x:SV} {cs:List SV} (hc:cellsS H x=some cs):(x.g E).cells=(SV.gs E cs).toArray:=by
 unfold cellsS at hc
 split at hc
 ·have key:∀ {b:Nat} {y:Blk},lookH H b=some y→isRows y=true→(SV.g E (.buf b)).cells=(SV.gs E [.buf b]).toArray:=by
   intro b y hl hy
   obtain ⟨a,n,c,h1⟩:=buf_slice S hl hy
   simp [SV.g,SV.gs,h1,Value.cells]
  split at hc
  ·simp only [Option.some.injEq] at hc;subst hc;exact key (by assumption) rfl
  ·simp only [Option.some.injEq] at hc;subst hc;exact key (by assumption) rfl
  cases hc
 exact cellsV_of E hc
def oneS (H:SH):SV→Bool
 | .v x=>x.oneCell'
 | .agg _=>false
 | .tup _=>false
 | .buf b=>match lookH H b with
  |some (.own _ _ _)=>true
  |some (.ro _ _)=>true
  |_=>false
 |_=>true
def onesS (H:SH):List SV→Bool
 | []=>true
 |x::xs=>match oneS H x with
  |true=>onesS H xs
  |false=>false
theorem oneS_of {E:Env} {F:Nat→Prop} {h:Array Obj} {H:SH} (S:Sat E F H h) {x:SV} (hx:oneS H x=true):(x.g E).oneCell'=true:=by
 cases x with
 |v y=>exact hx
 |agg cs=>cases hx
 |tup vs=>cases hx
 |ptr b off=>rfl
 |row b i off sz=>rfl
 |ifc t y=>rfl
 |fn f a b=>rfl
 |buf b=>
  have key:∀ {y:Blk},lookH H b=some y→isRows y=true→(SV.g E (.buf b)).oneCell'=true:=by
   intro y hl hy
   obtain ⟨a,n,c,h1⟩:=buf_slice S hl hy
   simp [SV.g,h1,Value.oneCell']
  simp only [oneS] at hx
  split at hx
  ·exact key (by assumption) rfl
  ·exact key (by assumption) rfl
  cases hx
theorem onesS_of {E:Env} {F:Nat→Prop} {h:Array Obj} {H:SH} (S:Sat E F H h):∀ {xs:List SV},onesS H xs=true→(SV.gs E xs).all Value.oneCell'=true
 | [],_=>rfl
 |x::xs,hx=>by
  simp only [onesS] at hx
  cases h1:oneS H x with
  |false=>simp [h1] at hx
  |true=>
   simp only [h1] at hx
   simp only [SV.gs,List.all_cons,oneS_of S h1,onesS_of S hx,Bool.and_self]
def spl (cs:List SV) (off:Nat) (xs:List SV):List SV:=cs.take off++xs++cs.drop (off+xs.length)
theorem gs_take (E:Env) (n:Nat) (cs:List SV):SV.gs E (cs.take n)=(SV.gs E cs).take n:=by simp [gs_map]
theorem gs_drop (E:Env) (n:Nat) (cs:List SV):SV.gs E (cs.drop n)=(SV.gs E cs).drop n:=by simp [gs_map]
theorem gs_spl (E:Env) (cs:List SV) (off:Nat) (xs:List SV):SV.gs E (spl cs off xs)=(SV.gs E cs).take off++SV.gs E xs++(SV.gs E cs).drop (off+xs.length):=by
 simp only [spl,gs_app,gs_take,gs_drop]
def putS:List SV→Nat→List SV→List SV
 | [],_,_=>[]
 |c::cs,off,xs=>match off with
  |0=>match xs with
   | []=>c::cs
   |x::xs=>x::putS cs 0 xs
  |off+1=>c::putS cs off xs
theorem putS_eq:∀(cs:List SV) (off:Nat) (xs:List SV),off+xs.length≤cs.length→putS cs off xs=spl cs off xs
 | [],off,xs,h=>by
  simp only [List.length_nil] at h
  have h1:off=0:=by omega
  have h2:xs=[]:=List.eq_nil_of_length_eq_zero (by omega)
  subst h1 h2;rfl
 |c::cs,0,[],h=>by simp [putS,spl]
 |c::cs,0,x::xs,h=>by
  have:=putS_eq cs 0 xs (by simp at h;omega)
  simp only [putS,this,spl]
  simp
 |c::cs,off+1,xs,h=>by
  have:=putS_eq cs off xs (by simp at h;omega)
  simp only [putS,this,spl]
  rw [show off+1+xs.length=(off+xs.length)+1 by omega]
  simp
def fillS (H:SH) (place:Nat→Option (Nat×Nat)) (cells:List SV):List (Nat×SV)→Option (List SV)
 | []=>some cells
 |(i,x)::rest=>match place i with
  |none=>none
  |some (off,n)=>match cellsS H x with
   |none=>none
   |some xs=>match Nat.beq xs.length n with
    |false=>none
    |true=>match Nat.ble (off+n) cells.length with
     |false=>none
     |true=>fillS H place (putS cells off xs) rest
def gP (E:Env):List (Nat×SV)→List (Nat×Value)
 | []=>[]
 |(i,x)::r=>(i,x.g E)::gP E r
theorem fillS_of {E:Env} {F:Nat→Prop} {h:Array Obj} {H:SH} (S:Sat E F H h) {place:Nat→Option (Nat×Nat)}:∀ {ps:List (Nat×SV)} {cells cs:List SV},fillS H place cells ps=some cs→Instr.fill place (SV.gs E cells).toArray (gP E ps)=some (SV.gs E cs).toArray
 | [],cells,cs,h=>by simp only [fillS,Option.some.injEq] at h;subst h;rfl
 |(i,x)::rest,cells,cs,h=>by
  simp only [fillS] at h
  simp only [gP,Instr.fill]
  cases hp:place i with
  |none=>simp [hp] at h
  |some q=>
   obtain ⟨off,n⟩:=q
   simp only [hp] at h ⊢
   cases hc:cellsS H x with
   |none=>simp [hc] at h
   |some xs=>
    simp only [hc] at h
    cases h1:Nat.beq xs.length n with
    |false=>simp [h1] at h
    |true=>
     cases h2:Nat.ble (off+n) cells.length with
     |false=>simp [h1,h2] at h
     |true=>
      simp only [h1,h2] at h
      have hn:=Nat.eq_of_beq_eq_true h1
      have hle:=Nat.le_of_ble_eq_true h2
      rw [putS_eq _ _ _ (by omega)] at h
      have hv:=cellsS_of S hc
      rw [hv,if_neg (by simp [gs_len];omega)]
      have IH:=fillS_of S h
      rw [←IH]
      congr 1
      obtain ⟨g1,g2⟩:=Go.Great.foldl_set off (SV.gs E xs) 0 (SV.gs E cells).toArray
      have e1:((SV.gs E xs).toArray.zipIdx.foldl (fun cs (c,j)=>cs.setIfInBounds (off+j) c) (SV.gs E cells).toArray) =
        ((SV.gs E xs).zipIdx 0).foldl (fun cs (x:Value×Nat)=>cs.setIfInBounds (off+x.2) x.1) (SV.gs E cells).toArray:=by
       rw [←Array.foldl_toList];simp
      rw [e1]
      apply Array.ext_getElem?
      intro j
      rw [g2 j,gs_spl]
      simp only [Nat.add_zero,List.getElem?_toArray,List.size_toArray,gs_len]
      by_cases hj:off≤j∧j<off+xs.length∧j<cells.length
      ·rw [if_pos hj,List.append_assoc,List.getElem?_append_right (by simp [gs_len];omega),List.getElem?_append_left (by simp [gs_len];omega)]
       simp only [List.length_take,gs_len]
       rw [Nat.min_eq_left (by omega)]
      rw [if_neg hj]
      by_cases hj1:j<off
      ·rw [List.append_assoc,List.getElem?_append_left (by simp [gs_len];omega),List.getElem?_take_of_lt hj1]
      rw [List.getElem?_append_right (by simp [gs_len];omega),List.getElem?_drop]
      simp only [List.length_append,List.length_take,gs_len]
      rw [Nat.min_eq_left (by omega)]
      congr 1
      omega
def partsS (l:SFr):List (Nat×Operand)→Option (List (Nat×SV))
 | []=>some []
 |(i,x)::q=>match evS l x with
  |some v=>match partsS l q with
   |some vs=>some ((i,v)::vs)
   |none=>none
  |none=>none
theorem partsS_of {E:Env} {l:SFr}:∀ {q:List (Nat×Operand)} {ps:List (Nat×SV)},partsS l q=some ps→evParts (gF E l) q=some (gP E ps)
 | [],ps,h=>by simp only [partsS,Option.some.injEq] at h;subst h;rfl
 |(i,x)::q,ps,h=>by
  simp only [partsS] at h
  cases hx:evS l x with
  |none=>simp [hx] at h
  |some v=>
   cases hq:partsS l q with
   |none=>simp [hx,hq] at h
   |some vs=>
    simp only [hx,hq,Option.some.injEq] at h
    subst h
    simp only [evParts,ev_gF hx,partsS_of hq,gP]
def unV:List SV→Option (List Value)
 | []=>some []
 |x::xs=>match x with
  | .v x=>match unV xs with
   |some vs=>some (x::vs)
   |none=>none
  |_=>none
theorem unV_of (E:Env):∀ {xs:List SV} {vs:List Value},unV xs=some vs→SV.gs E xs=vs
 | [],vs,h=>by simp only [unV,Option.some.injEq] at h;subst h;rfl
 |x::xs,vs,h=>by
  cases x<;>simp only [unV] at h<;>try (cases h;done)
  cases hv:unV xs with
  |none=>simp [hv] at h
  |some ws=>
   simp only [hv,Option.some.injEq] at h
   subst h
   simp only [SV.gs,SV.g,unV_of E hv]
def chunk (sz:Nat):Nat→List Value→List (List Value)
 |0,_=>[]
 |m+1,vs=>vs.take sz::chunk sz m (vs.drop sz)
theorem chunk_ok (sz:Nat):∀(m:Nat) (vs:List Value),vs.length=m*sz→(∀r∈chunk sz m vs,r.length=sz)∧(chunk sz m vs).length=m∧(chunk sz m vs).flatten=vs
 |0,vs,h=>by
  have:vs=[]:=List.eq_nil_of_length_eq_zero (by simpa using h)
  subst this
  simp [chunk]
 |m+1,vs,h=>by
  rw [Nat.add_mul] at h
  obtain ⟨h1,h2,h3⟩:=chunk_ok sz m (vs.drop sz) (by simp;omega)
  refine ⟨fun r hr=>?_,by simp [chunk,h2],by simp [chunk,h3]⟩
  simp only [chunk,List.mem_cons] at hr
  rcases hr with rfl|hr
  ·simp;omega
  exact h1 r hr
def zeros (z:List Value):Nat→List Value
 |0=>[]
 |m+1=>z++zeros z m
theorem zeros_len (z:List Value):∀m,(zeros z m).length=m*z.length
 |0=>by simp [zeros]
 |m+1=>by simp [zeros,zeros_len z m,Nat.add_mul];omega
theorem zeros_get (z:List Value):∀(m i:Nat),i<m*z.length→(zeros z m)[i]? = z[i%z.length]?
 |0,i,h=>by simp at h
 |m+1,i,h=>by
  rw [Nat.add_mul] at h
  simp only [zeros]
  by_cases hi:i<z.length
  ·rw [List.getElem?_append_left hi,Nat.mod_eq_of_lt hi]
  rw [List.getElem?_append_right (by omega),zeros_get z m _ (by omega)]
  congr 1
  conv=>rhs;rw [←Nat.sub_add_cancel (show z.length≤i by omega),Nat.add_mod_right]
theorem zeros_rep (z:List Value):∀m,zeros z m=(List.replicate m z).flatten
 |0=>rfl
 |m+1=>by simp [zeros,zeros_rep z m,List.replicate_succ]
theorem zeros_fill (z:Array Value) (m:Nat):((Array.range (m*z.size)).map ((if m*z.size=0 then #[] else z)[· % (if m*z.size=0 then #[] else z).size]!))=(zeros z.toList m).toArray:=by
 by_cases h0:m*z.size=0
 ·simp only [h0,if_true]
  have:zeros z.toList m=[]:=List.eq_nil_of_length_eq_zero (by rw [zeros_len];simpa using h0)
  rw [this];simp
 simp only [h0,if_false]
 apply Array.ext_getElem?
 intro i
 by_cases hi:i<m*z.size
 ·have h1:=zeros_get z.toList m i (by simpa using hi)
  have hz:0<z.size:=Nat.pos_of_ne_zero (fun e=>h0 (by simp [e]))
  have hlt:=Nat.mod_lt i hz
  simp only [List.getElem?_toArray,h1,Array.length_toList,Array.getElem?_toList]
  rw [Array.getElem?_map,Array.getElem?_range]
  simp [hi,hlt,getElem!_pos]
 rw [Array.getElem?_eq_none (by simp;omega),Array.getElem?_eq_none (by simp [zeros_len];omega)]
def remO (H:SH):Option Nat→SH
 |some b=>remH H b
 |none=>H
def onesV:List Value→Bool
 | []=>true
 |x::xs=>match x.oneCell' with
  |true=>onesV xs
  |false=>false
theorem onesV_of:∀ {xs:List Value},onesV xs=true → ∀v∈xs,v.oneCell'=true
 | [],_,v,h=>by cases h
 |x::xs,hx,v,h=>by
  simp only [onesV] at hx
  cases h1:x.oneCell' with
  |false=>simp [h1] at hx
  |true=>
   simp only [h1] at hx
   rcases List.mem_cons.1 h with rfl|h
   ·exact h1
   exact onesV_of hx v h
def splV (row:List Value) (off:Nat) (vals:List Value):List Value:=row.take off++vals++row.drop (off+vals.length)
def rowsAt (H:SH) (b:Nat):Option (Nat×List (List Value)):=
 match lookH H b with
 |some (.own _ sz rows)=>some (sz,rows)
 |some (.ro sz rows)=>some (sz,rows)
 |_=>none
structure DP where
 p:Prop
 d:Decidable p
def eqCell (k:Nat) (x y:SV):Option DP:=
 match k with
 |0=>match x with
  | .v (.bool a)=>match y with
   | .v (.bool b)=>some ⟨a=b,inferInstance⟩
   |_=>none
  |_=>none
 |1=>match x with
  | .v (.int k a)=>match y with
   | .v (.int k' b)=>match same k k' with
    |true=>some ⟨a=b,inferInstance⟩
    |false=>none
   |_=>none
  |_=>none
 |2=>match x with
  | .v (.string a)=>match y with
   | .v (.string b)=>some ⟨a=b,inferInstance⟩
   |_=>none
  |_=>none
 |_=>none
def eqCells:List Nat→List SV→List SV→Option DP
 | [],[],[]=>some ⟨True,inferInstance⟩
 |k::ks,x::xs,y::ys=>match eqCell k x y with
  |some ⟨p,i⟩=>match ks with
   | []=>match xs with
    | []=>match ys with
     | []=>some ⟨p,i⟩
     |_::_=>none
    |_::_=>none
   |_::_=>match eqCells ks xs ys with
    |some ⟨q,j⟩=>some ⟨p∧q,@instDecidableAnd p q i j⟩
    |none=>none
  |none=>none
 |_,_,_=>none
def aggCells:SV→Option (List SV)
 | .agg cs=>some cs
 | .v (.agg cs)=>some (toV cs.toList)
 |_=>none
def eqA (T:Tab P) (op:BinOp) (t:TypeId) (x y:SV):PuS:=
 match lookE T.eqs t with
 |some ks=>match aggCells x with
  |some xs=>match aggCells y with
   |some ys=>match eqCells ks xs ys with
    |some ⟨p,i⟩=>match op with
     | .eql=>.tst p i
     | .neq=>.ntst p i
     |_=>.stop
    |none=>.stop
   |none=>.stop
  |none=>.stop
 |none=>.stop
def isAggS:SV→Bool
 | .agg _=>true
 | .v (.agg _)=>true
 |_=>false
def evO (T:Tab P) (l:SFr) (H:SH) (nx:Nat) (op:Op):PuS:=
 match op with
 | .move x=>match evS l x with
  |some v=>.val v
  |none=>.stop
 | .assign x=>match evS l x with
  |some v=>.val v
  |none=>.stop
 | .pick c a b=>match evS l c with
  |some (.v (.bool true))=>match evS l a with
   |some v=>.val v
   |none=>.stop
  |some (.v (.bool false))=>match evS l b with
   |some v=>.val v
   |none=>.stop
  |_=>.stop
 | .extract t i=>match evS l t with
  |some (.tup vs)=>match nth vs i with
   |some v=>.val v
   |none=>.stop
  |some (.v _)=>plainS T l op
  |_=>.stop
 | .fieldAddr t x f=>match evS l x with
  |some (.ptr b off)=>match lookU T.und t with
   |some (.struct fs)=>match nth fs f with
    |some (o,_,_)=>match o with
     |0=>.val (.ptr b off)
     |o+1=>.val (.ptr b (off+(o+1)))
    |none=>.stop
   |_=>.stop
  |some (.row b i off sz)=>match lookU T.und t with
   |some (.struct fs)=>match nth fs f with
    |some (o,_,_)=>match o with
     |0=>.val (.row b i off sz)
     |o+1=>.val (.row b i (off+(o+1)) sz)
    |none=>.stop
   |_=>.stop
  |some (.v _)=>plainS T l op
  |_=>.stop
 | .field t x f=>match evS l x with
  |some (.agg cs)=>match lookU T.und t with
   |some (.struct fs)=>match nth fs f with
    |some (o,_,false)=>match nth cs o with
     |some v=>.val v
     |none=>.stop
    |some (o,n,true)=>.vala ((cs.drop o).take n)
    |none=>.stop
   |_=>.stop
  |some (.v _)=>plainS T l op
  |_=>.stop
 | .indexAddr t x i=>match evS l x with
  |some (.buf b)=>match evS l i with
   |some (.v (.int _ n))=>match lookU T.und t with
    |some (.slice _ sz)=>match rowsAt H b with
     |some (sz',rows)=>match Nat.beq sz sz' with
      |true=>.ob (0≤n∧n<rows.length) (.row b n 0 sz)
      |false=>.stop
     |none=>.stop
    |_=>.stop
   |_=>.stop
  |some (.ptr b off)=>match evS l i with
   |some (.v (.int _ n))=>match lookU T.und t with
    |some (.array len _ sz)=>.ob (0≤n∧n<len) (.ptr b (off+n.toNat*sz))
    |_=>.stop
   |_=>.stop
  |some (.v _)=>plainS T l op
  |_=>.stop
 | .nilCheck x=>match evS l x with
  |some (.ptr b off)=>.val (.ptr b off)
  |some (.row b i off sz)=>.val (.row b i off sz)
  |some (.v _)=>plainS T l op
  |_=>.stop
 | .makeInterface t x=>match evS l x with
  |some (.v _)=>plainS T l op
  |some y=>match lookU T.und t with
   |some .iface=>.stop
   |some _=>.val (.ifc t y)
   |none=>.stop
  |none=>.stop
 | .makeFunc fn first captured=>match evAll l first.toList with
  |some a=>match evAll l captured.toList with
   |some b=>.val (.fn fn a b)
   |none=>.stop
  |none=>.stop
 | .load t x=>match evS l x with
  |some (.ptr b off)=>match lookH H b with
   |some (.cells _ cs)=>match scalarB T t with
    |true=>match nth cs off with
     |some v=>.val v
     |none=>.stop
    |false=>match aggB T t with
     |true=>match lookI T.inf t with
      |some i=>match Nat.ble (off+i.size) cs.length with
       |true=>.vala ((cs.drop off).take i.size)
       |false=>.stop
      |none=>.stop
     |false=>.stop
   |_=>.stop
  |some (.row b i off sz)=>match rowsAt H b with
   |some (sz',rows)=>match Nat.beq sz sz' with
    |true=>match scalarB T t with
     |true=>.rowv rows i off
     |false=>match aggB T t with
      |true=>match lookI T.inf t with
       |some j=>.rowa rows i off j.size
       |none=>.stop
      |false=>.stop
    |false=>.stop
   |none=>.stop
  |some (.v (.pointer (some ⟨b,off,none⟩)))=>match scalarB T t with
   |true=>.old b off
   |false=>match aggB T t with
    |true=>match lookI T.inf t with
     |some j=>.olda b off j.size
     |none=>.stop
    |false=>.stop
  |_=>.stop
 | .store t x y=>match evS l x with
  |some (.ptr b off)=>match lookH H b with
   |some (.cells t' cs)=>match evS l y with
    |some v=>match lookI T.inf t with
     |some i=>match cellsS H v with
      |some xs=>match Nat.beq xs.length i.size with
       |true=>match onesS H xs with
        |true=>match Nat.ble (off+xs.length) cs.length with
         |true=>.put b (.cells t' (spl cs off xs))
         |false=>.stop
        |false=>.stop
       |false=>.stop
      |none=>.stop
     |none=>.stop
    |none=>.stop
   |_=>.stop
  |some (.row b i off sz)=>match lookH H b with
   |some (.own e sz' rows)=>match Nat.beq sz sz' with
    |true=>match evS l y with
     |some v=>match lookI T.inf t with
      |some j=>match cellsV v with
       |some xs=>match unV xs with
        |some vals=>match Nat.beq vals.length j.size with
         |true=>match onesV vals with
          |true=>match Nat.ble (off+vals.length) sz with
           |true=>.rput b e sz rows i off vals
           |false=>.stop
          |false=>.stop
         |false=>.stop
        |none=>.stop
       |none=>.stop
      |none=>.stop
     |none=>.stop
    |false=>.stop
   |_=>.stop
  |_=>.stop
 | .box t x=>match evS l x with
  |some v=>match cellsS H v with
   |some cs=>.new (.ptr nx 0) (.cells t cs)
   |none=>.stop
  |none=>.stop
 | .alloc t=>match lookI T.inf t with
  |some i=>.new (.ptr nx 0) (.cells t (toV i.zero.cells.toList))
  |none=>.stop
 | .build t parts=>match partsS l parts.toList with
  |some ps=>match lookI T.inf t with
   |some i=>match lookU T.und t with
    |some (.struct fs)=>match fillS H (fun k=>match nth fs k with|some (o,n,_)=>some (o,n)|none=>none) (toV i.zero.cells.toList) ps with
     |some cs=>.vala cs
     |none=>.stop
    |some (.array _ _ sz)=>match fillS H (fun k=>some (k*sz,sz)) (toV i.zero.cells.toList) ps with
     |some cs=>.vala cs
     |none=>.stop
    |_=>.stop
   |none=>.stop
  |none=>.stop
 | .buildSlice t m parts=>match lookU T.und t with
  |some (.slice e sz)=>match lookI T.inf e with
   |some i=>match Nat.beq i.zero.cells.size i.size with
    |true=>match partsS l parts.toList with
     |some ps=>match Nat.ble (m*i.size) 16777216 with
      |true=>match fillS H (fun j=>some (j*i.size,i.size)) (toV (zeros i.zero.cells.toList m)) ps with
       |some cs=>match unV cs with
        |some vs=>match Nat.beq vs.length (m*i.size) with
         |true=>match onesV vs with
          |true=>match Nat.ble m 16777216 with
           |true=>.new (.buf nx) (.own e i.size (chunk i.size m vs))
           |false=>.stop
          |false=>.stop
         |false=>.stop
        |none=>.stop
       |none=>.stop
      |false=>.stop
     |none=>.stop
    |false=>.stop
   |none=>.stop
  |_=>.stop
 | .makeSlice t x y=>match evS l x with
  |some (.v (.int _ n))=>match evS l y with
   |some (.v (.int _ m))=>match lookU T.und t with
    |some (.slice e _)=>match lookI T.inf e with
     |some i=>match Nat.beq i.zero.cells.size i.size with
      |true=>match onesV i.zero.cells.toList with
       |true=>.newo (0≤n∧n≤m∧(i.bytes:Int)*m≤281474976710656∧m≤9223372036854775807) (.buf nx) (.own e i.size (List.replicate n.toNat i.zero.cells.toList))
       |false=>.stop
      |false=>.stop
     |none=>.stop
    |_=>.stop
   |_=>.stop
  |_=>.stop
 | .call c=>match c.callee with
  | .builtin .append=>match c.args.toList with
   | [x,y]=>match c.argTypes.toList with
    | [t,t2]=>match Nat.beq t t2 with
     |true=>match lookU T.und t with
      |some (.slice e _)=>match lookI T.inf e with
       |some i=>match Nat.beq i.zero.cells.size i.size with
        |true=>match Nat.blt 0 i.size with
         |true=>match evS l y with
          |some (.buf b2)=>match rowsAt H b2 with
           |some (sz2,rows2)=>match Nat.beq sz2 i.size with
            |true=>match evS l x with
             |some (.buf b)=>match lookH H b with
              |some (.own e' sz rows)=>match Nat.beq e e' with
               |true=>match Nat.beq sz i.size with
                |true=>.app (0<1∧rows.length+rows2.length≤9223372036854775807∧(rows.length+rows2.length)*i.bytes≤140737488355328∧b≠b2) (some b) (.own e sz (rows++rows2))
                |false=>.stop
               |false=>.stop
              |_=>.stop
             |some (.v (.slice none 0 0))=>.app (0<1∧rows2.length≤9223372036854775807∧rows2.length*i.bytes≤140737488355328) none (.own e i.size rows2)
             |_=>.stop
            |false=>.stop
           |none=>.stop
          |_=>.stop
         |false=>.stop
        |false=>.stop
       |none=>.stop
      |_=>.stop
     |false=>.stop
    |_=>.stop
   |_=>.stop
  | .builtin .len=>match c.args.toList with
   | [x]=>match evS l x with
    |some (.buf b)=>match c.argTypes.toList with
     | [t]=>match lookU T.und t with
      |some (.slice _ _)=>match rowsAt H b with
       |some (_,rows)=>.val (.v (.int .i64 rows.length))
       |none=>.stop
      |_=>.stop
     |_=>.stop
    |some (.v _)=>plainS T l op
    |_=>.stop
   |_=>.stop
  | .builtin .max=>plainS T l op
  | .builtin .min=>plainS T l op
  |_=>.stop
 | .binOp bop t x y _=>match evS l x with
  |some a=>match isAggS a with
   |true=>match evS l y with
    |some b=>eqA T bop t a b
    |none=>.stop
   |false=>match bop with
    | .rem=>match a with
     | .v (.int .i64 m)=>match evS l y with
      |some (.v (.int .i64 n))=>.rem m n
      |_=>.stop
     |_=>plainS T l op
    |_=>plainS T l op
  |none=>.stop
 | .unOp _ _ _=>plainS T l op
 | .convert t t2 x=>match evS l x with
  |some (.buf b)=>match lookU T.und t with
   |some (.slice e _)=>match lookU T.und e with
    |some (.int .u8)=>match lookU T.und t2 with
     |some .str=>match rowsAt H b with
      |some (1,rows)=>.bytes rows
      |_=>.stop
     |_=>.stop
    |_=>.stop
   |_=>.stop
  |_=>plainS T l op
 | .index _ _ _=>plainS T l op
 | .slice t x lo hi none=>match evS l x with
  |some (.buf b)=>match lookH H b with
   |some (.ro sz rows)=>match lookU T.und t with
    |some (.slice _ sz')=>match Nat.beq sz' sz with
     |true=>match lo with
      |none=>match hi with
       |some y=>match evS l y with
        |some (.v (.int _ n))=>.sub (0≤n∧n≤rows.length) (.ro sz (rows.take n.toNat))
        |_=>.stop
       |none=>.stop
      |some y=>match hi with
       |none=>match evS l y with
        |some (.v (.int _ n))=>.sub (0≤n∧n≤rows.length) (.ro sz (rows.drop n.toNat))
        |_=>.stop
       |some _=>.stop
     |false=>.stop
    |_=>.stop
   |_=>.stop
  |_=>plainS T l op
 |_=>.stop
end Go.Fw

namespace Go.Fw
open Go
variable {P:Program}
set_option maxHeartbeats 4000000
section
variable (P) (n:Nat) (F:Nat→Prop) (h0:Array Obj) (nx:Nat) (l:SFr) (H:SH) (o:Oper)
def PuS.ok:PuS→Prop
 | .stop=>True
 | .val x=>EffK P n F h0 l H o x H
 | .vala cs=>EffK P n F h0 l H o (.agg cs) H
 | .ob p x=>p→EffK P n F h0 l H o x H
 | .tst p i=>EffK P n F h0 l H o (.v (.bool (@decide p i))) H
 | .ntst p i=>EffK P n F h0 l H o (.v (.bool (!@decide p i))) H
 | .new x b=>bdH nx H=true→bdB nx b=true→EffS P n F h0 nx l H o x ((nx,b)::H)
 | .newo p x b=>p→bdH nx H=true→bdB nx b=true→EffS P n F h0 nx l H o x ((nx,b)::H)
 | .app p r b=>p→bdH nx H=true→EffS P n F h0 nx l H o (.buf nx) ((nx,b)::remO H r)
 | .put b y=>EffK P n F h0 l H o (.v undef) (setH H b y)
 | .puto p b y=>p→EffK P n F h0 l H o (.v undef) (setH H b y)
 | .rowv rows i off=>∀row,rows[i.toNat]? = some row → ∀x,nth row off=some x→EffK P n F h0 l H o (.v x) H
 | .rowa rows i off m=>∀row,rows[i.toNat]? = some row→off+m≤row.length→EffK P n F h0 l H o (.agg (toV ((row.drop off).take m))) H
 | .rput b e sz rows i off vals=>∀row,rows[i.toNat]? = some row→EffK P n F h0 l H o (.v undef) (setH H b (.own e sz (rows.set i.toNat (splV row off vals))))
 | .rem x y=>∀r,RemV x y r→EffK P n F h0 l H o (.v (.int .i64 r)) H
 | .sub p b=>p→bdH nx H=true → ∀E h,Sat E F H h→Kp F h0 h → ∃v,(∀a w,Holds n (gF E l) a→(execOp a.eval o).run P w=.ok (.value v) w)∧Sat (push E nx v) F ((nx,b)::H) h
 | .bytes rows=>∀is,rows=byteRows is→EffL P n F h0 l H o (.v (.string (strI is))) H
 | .old b off=>∀v,OldC F h0 b off v→EffK P n F h0 l H o (.v v) H
 | .olda b off m=>∀vs,vs.length=m→OldCs F h0 b off vs→EffK P n F h0 l H o (.agg (toV vs)) H
end
section
variable {n:Nat} {F:Nat→Prop} {h0:Array Obj} {nx:Nat} {l:SFr} {H:SH} {o:Oper}
theorem plainS_ok (T:Tab P) (op:Op) (ho:o.op=op):(plainS T l op).ok P n F h0 nx l H o:=by
 have key:∀E a w,Holds n (gF E l) a→(ev1 T (evl l (opnds op)) op).ok fun v=>(execOp a.eval o).run P w=.ok (.value v) w:=fun E a w ha=>ev1_ok T n _ op a w o (ha.sub (evl_sub E l _)) ho
 unfold plainS
 cases hv:ev1 T (evl l (opnds op)) op with
 |stop=>trivial
 |val v=>exact EffK.of_plain fun E h S K a w ha=>by have:=key E a w ha;rw [hv] at this;exact this
 |ob p v=>exact fun hp=>EffK.of_plain fun E h S K a w ha=>by have:=key E a w ha;rw [hv] at this;exact this hp
 |tst p i=>exact EffK.of_plain fun E h S K a w ha=>by have:=key E a w ha;rw [hv] at this;exact this
 |ntst p i=>exact EffK.of_plain fun E h S K a w ha=>by have:=key E a w ha;rw [hv] at this;exact this
theorem Sat.cellsAt {E:Env} {h:Array Obj} (S:Sat E F H h) {b:Nat} {t:TypeId} {cs:List SV} (hl:lookH H b=some (.cells t cs)):
  E b=.pointer (some ⟨blkOf (E b),0,none⟩)∧At h (blkOf (E b)) (SV.gs E cs).toArray t ∧ ¬F (blkOf (E b)):=by
 obtain ⟨g,h1,h2,h3⟩:=S.ok _ (lookH_mem hl)
 simp only at h1
 have:blkOf (E b)=g:=by rw [h1];rfl
 rw [this];exact ⟨h1,h2,h3⟩
theorem Sat.rowsAt {E:Env} {h:Array Obj} (S:Sat E F H h) {b sz:Nat} {rows:List (List Value)} (hl:rowsAt H b=some (sz,rows)):
  RowsOk sz rows ∧ ∃a cap,E b=.slice a rows.length cap∧(rows=[] ∨ ∃g o,a=some ⟨g,o,none⟩∧CellsH h g o rows.flatten):=by
 unfold Fw.rowsAt at hl
 split at hl
 ·rename_i e sz' rows' hb
  simp only [Option.some.injEq,Prod.mk.injEq] at hl
  obtain ⟨rfl,rfl⟩:=hl
  obtain ⟨h1,h2,h3⟩:=S.ok _ (lookH_mem hb)
  refine ⟨h1,?_⟩
  obtain ⟨h4,⟨h5,h6⟩|⟨g,cap,cur,h5,h6,h7,h8,h9,h10,h11⟩⟩:=h2
  ·simp only at h5
   exact ⟨none,0,by rw [h5,h6],.inl (List.eq_nil_of_length_eq_zero h6)⟩
  refine ⟨_,cap,h5,.inr ⟨g,0,rfl,fun j v hj=>?_⟩⟩
  rw [←h11] at hj
  rw [h7.cell,Nat.zero_add]
  rw [List.getElem?_take] at hj
  split at hj
  ·simpa using hj
  cases hj
 ·rename_i sz' rows' hb
  simp only [Option.some.injEq,Prod.mk.injEq] at hl
  obtain ⟨rfl,rfl⟩:=hl
  obtain ⟨h1,_,a,cap,h2,h3⟩:=S.ok _ (lookH_mem hb)
  refine ⟨h1,a,cap,h2,?_⟩
  rcases h3 with h3|⟨g,o,h3,_,h4⟩
  ·exact .inl h3
  exact .inr ⟨g,o,h3,h4⟩
 cases hl
theorem Sat.rowsLen {E:Env} {h:Array Obj} (S:Sat E F H h) {b sz:Nat} {rows:List (List Value)} (hl:Fw.rowsAt H b=some (sz,rows)):rows.length≤9223372036854775807:=by
 unfold Fw.rowsAt at hl
 split at hl
 ·rename_i e sz' rows' hb
  simp only [Option.some.injEq,Prod.mk.injEq] at hl
  obtain ⟨rfl,rfl⟩:=hl
  obtain ⟨h1,⟨h4,⟨h5,h6⟩|⟨g,cap,cur,h5,h6,h7,h8,h9,h10,h11⟩⟩,h3⟩:=S.ok _ (lookH_mem hb)
  ·omega
  have e:maxLen=9223372036854775807:=rfl
  omega
 ·rename_i sz' rows' hb
  simp only [Option.some.injEq,Prod.mk.injEq] at hl
  obtain ⟨rfl,rfl⟩:=hl
  obtain ⟨h1,h2,_⟩:=S.ok _ (lookH_mem hb)
  exact h2.1
 cases hl
theorem Sat.rowsCap {E:Env} {h:Array Obj} (S:Sat E F H h) {b sz:Nat} {rows:List (List Value)} (hl:Fw.rowsAt H b=some (sz,rows)):capOk (E b):=by
 unfold Fw.rowsAt at hl
 split at hl
 ·rename_i e sz' rows' hb
  obtain ⟨h1,⟨h4,⟨h5,h6⟩|⟨g,cap,cur,h5,h6,h7,h8,h9,h10,h11⟩⟩,h3⟩:=S.ok _ (lookH_mem hb)
  ·simp only at h5
   rw [h5];exact Nat.le_refl 0
  simp only at h5
  rw [h5];exact h8
 ·rename_i sz' rows' hb
  obtain ⟨h1,h2,_⟩:=S.ok _ (lookH_mem hb)
  exact h2.2
 cases hl
theorem flat_get {sz:Nat}:∀ {rows:List (List Value)} {i off:Nat} {row:List Value} {x:Value},RowsOk sz rows→rows[i]? = some row→row[off]? = some x→rows.flatten[i*sz+off]? = some x
 | [],i,off,row,x,_,h,_=>by simp at h
 |r::rs,0,off,row,x,hl,h,hx=>by
  simp only [List.getElem?_cons_zero,Option.some.injEq] at h
  subst h
  have:=(List.getElem?_eq_some_iff.1 hx).1
  rw [List.flatten_cons,List.getElem?_append_left (by omega),Nat.zero_mul,Nat.zero_add]
  exact hx
 |r::rs,i+1,off,row,x,hl,h,hx=>by
  have hr:=(hl r (List.mem_cons_self ..)).1
  rw [List.flatten_cons,List.getElem?_append_right (by rw [hr,Nat.add_mul];omega)]
  have:(i+1)*sz+off - r.length=i*sz+off:=by rw [hr,Nat.add_mul];omega
  rw [this]
  exact flat_get (fun q hq=>hl q (List.mem_cons_of_mem _ hq)) (by simpa using h) hx
theorem eff_storeU (T:Tab P) {L:Fr} {h:Array Obj} {t:TypeId} {x y:Operand} {b off:Nat} {v:Value} {cs:Array Value} {e:TypeId} {i:Inf} (hat:At h b cs e)
  (hop:o.op=.store t x y) (hx:ev L x=some (.pointer (some ⟨b,off,none⟩))) (hy:ev L y=some v) (hi:lookI T.inf t=some i)
  (hsz:v.cells.size=i.size) (h1:v.cells.toList.all Value.oneCell'=true) (hlt:off+v.cells.size≤cs.size):
  Eff P n L h o (fun v' h'=>v'=undef∧h'=setB h b ((cs.toList.take off)++v.cells.toList++(cs.toList.drop (off+v.cells.size))).toArray e):=by
 refine Eff.of_skip fun a w ha hh=>?_
 have hg:w.heap[b]? = some (.cells cs e (0,0)):=by rw [hh];exact hat
 have hst:=run_storeCells_at P b off e v.cells.toList 0 cs w hg (by simpa using hlt) (List.all_eq_true.1 h1)
 simp only [Nat.add_zero,Array.length_toList] at hst
 refine ⟨w.setRow b (cs.toList.take off++v.cells.toList++cs.toList.drop (off+v.cells.size)).toArray,?_,⟨rfl,rfl,rfl⟩,rfl,(setRow_setB hg _).trans (by rw [hh])⟩
 simp [execOp,hop,ha.ev hx,ha.ev hy,Instr.storeAt,Instr.sureAddr,storeVar,sizeOf_inf T hi,hsz,hst]
theorem setB_other {h:Array Obj} {b k:Nat} (hne:k≠b) (cs:Array Value) (e:TypeId):(setB h b cs e)[k]? = h[k]? :=setB_ne hne cs e
theorem Sat.putB {E:Env} {h:Array Obj} (S:Sat E F H h) (K:Kp F h0 h) {b:Nat} {t:TypeId} {cs cs':List SV} (hl:lookH H b=some (.cells t cs)):
  Sat E F (setH H b (.cells t cs')) (setB h (blkOf (E b)) (SV.gs E cs').toArray t)∧Kp F h0 (setB h (blkOf (E b)) (SV.gs E cs').toArray t):=by
 obtain ⟨h1,h2,h3⟩:=S.cellsAt hl
 have hF:∀k,F k→(setB h (blkOf (E b)) (SV.gs E cs').toArray t)[k]? = h[k]? :=fun k hk=>setB_other (fun e=>h3 (by rw [←e];exact hk)) _ _
 have hy:(Blk.cells t cs').ok E F (setB h (blkOf (E b)) (SV.gs E cs').toArray t) (E b):=⟨_,h1,setB_same h2.lt _ _,h3⟩
 refine ⟨Sat.set (x:=.cells t cs) rfl rfl hy hF (fun g hg=>.inl (setB_other (fun e=>hg ?_) _ _)) S hl,⟨by simpa [setB] using K.size,fun k hk=>(hF k hk).trans (K.same k hk),K.lt⟩⟩
 rw [h1];simp [ownB,e]
theorem Sat.pushB {E:Env} {h:Array Obj} (S:Sat E F H h) (K:Kp F h0 h) (ob:Obj):Sat E F H (h.push ob)∧Kp F h0 (h.push ob):=
 S.keeps K ⟨by simp,fun k hk=>push_old hk ob⟩
theorem Sat.newCells {E:Env} {h:Array Obj} (S:Sat E F H h) (K:Kp F h0 h) (hb:bdH nx H=true) (t:TypeId) (cs:List SV) (hbs:SV.bds nx cs=true) (vs:Array Value) (hcs:vs=(SV.gs E cs).toArray):
  Sat (push E nx (.pointer (some ⟨h.size,0,none⟩))) F ((nx,.cells t cs)::H) (h.push (.cells vs t (0,0)))∧Kp F h0 (h.push (.cells vs t (0,0))):=by
 obtain ⟨S',K'⟩:=S.pushB K (.cells vs t (0,0))
 refine ⟨S'.add hb ⟨h.size,rfl,?_,K.ge (Nat.le_refl _)⟩ (fun _ p hp hw g hg e=>?_),K'⟩
 ·rw [SV.gs_ag (push_ag _ _ _) _ hbs,←hcs];exact push_new _ _ _
 have:=(Blk.lt (S.ok p hp) hw hg).1
 simp only [ownB,Option.some.injEq] at e
 omega
theorem ownB_ownBlock {v:Value} {a:Option Addr} {m c:Nat} (h:v=.slice a m c):v.ownBlock=ownB v:=by subst h;cases a<;>rfl
end
end Go.Fw

namespace Go.Fw
open Go
variable {P:Program}
set_option maxHeartbeats 4000000
section
variable {n:Nat} {F:Nat→Prop} {h0:Array Obj} {nx:Nat} {l:SFr} {H:SH} {o:Oper}
theorem okS_move {x:Operand} {v:SV} (ho:o.op=.move x) (hx:evS l x=some v):EffK P n F h0 l H o v H:=
 EffK.of_plain fun E h S K a w ha=>by simp [execOp,ho,ha.ev (ev_gF hx)]
theorem okS_assign {x:Operand} {v:SV} (ho:o.op=.assign x) (hx:evS l x=some v):EffK P n F h0 l H o v H:=
 EffK.of_plain fun E h S K a w ha=>by simp [execOp,ho,ha.ev (ev_gF hx)]
theorem okS_pick {c x y:Operand} {b:Bool} {v:SV} (ho:o.op=.pick c x y) (hc:evS l c=some (.v (.bool b))) (hx:evS l (if b then x else y)=some v):EffK P n F h0 l H o v H:=
 EffK.of_plain fun E h S K a w ha=>by
  have h1:a.eval c=.bool b:=ha.ev (ev_gF hc)
  have h2:=ha.ev (ev_gF (E:=E) hx)
  cases b<;>simp at h2<;>simp [execOp,ho,h1,h2,asBool]
theorem okS_extract {t:Operand} {i:Nat} {vs:List SV} {v:SV} (ho:o.op=.extract t i) (ht:evS l t=some (.tup vs)) (hv:nth vs i=some v):EffK P n F h0 l H o v H:=
 EffK.of_plain fun E h S K a w ha=>by
  rw [nth_eq] at hv
  have h1:=ha.ev (ev_gF (E:=E) ht)
  simp only [SV.g] at h1
  simp [execOp,ho,h1,Instr.extract,gs_get,hv]
theorem fieldAt_run (T:Tab P) {t:TypeId} {fs:List (Nat×Nat×Bool)} {f oo m:Nat} {q:Bool} (hu:lookU T.und t=some (.struct fs)) (hn:nth fs f=some (oo,m,q)) (b off:Nat) (w:World):
  (Instr.fieldAt t (.pointer (some ⟨b,off,none⟩)) f).run P w=.ok (.pointer (some ⟨b,off+oo,none⟩)) w:=by
 have key:=fieldP_ok T t (.pointer (some ⟨b,off,none⟩)) f w
 unfold fieldP at key
 simp only [hu,hn] at key
 cases oo with
 |zero=>exact key
 |succ k=>exact key
theorem okS_field {t:TypeId} (T:Tab P) {x:Operand} {f oo m:Nat} {q:Bool} {fs:List (Nat×Nat×Bool)} (ho:o.op=.fieldAddr t x f) (hu:lookU T.und t=some (.struct fs)) (hn:nth fs f=some (oo,m,q)) {y z:SV}
  (hx:evS l x=some y) (hyz:∀E,∃b off,y.g E=.pointer (some ⟨b,off,none⟩)∧z.g E=.pointer (some ⟨b,off+oo,none⟩)):EffK P n F h0 l H o z H:=
 EffK.of_plain fun E h S K a w ha=>by
  obtain ⟨b,off,e1,e2⟩:=hyz E
  have h1:=ha.ev (ev_gF (E:=E) hx)
  rw [e1] at h1
  simp [execOp,ho,h1,fieldAt_run T hu hn,e2]
theorem okS_fieldV {t:TypeId} (T:Tab P) {x:Operand} {f:Nat} {cs:List SV} {z:SV} (ho:o.op=.field t x f) (hx:evS l x=some (.agg cs))
  (hz:∀E,fieldV T t (.agg (SV.gs E cs).toArray) f=.val (z.g E)):EffK P n F h0 l H o z H:=
 EffK.of_plain fun E h S K a w ha=>by
  have h1:=ha.ev (ev_gF (E:=E) hx)
  simp only [SV.g] at h1
  have key:=fieldV_ok T t (.agg (SV.gs E cs).toArray) f w
  rw [hz E] at key
  simp only [Pu.ok] at key
  simp [execOp,ho,h1,key]
theorem indexAt_run (T:Tab P) {t e sz:Nat} (hu:lookU T.und t=some (.slice e sz)) (b off len cap:Nat) (k:IntKind) (i:Int) (hi:0≤i∧i<len) (w:World):
  (Instr.indexAt t (.slice (some ⟨b,off,none⟩) len cap) (.int k i)).run P w=.ok (.pointer (some ⟨b,off+i.toNat*sz,none⟩)) w:=by
 have key:=idxAddr_ok T t (.slice (some ⟨b,off,none⟩) len cap) (.int k i) w
 unfold idxAddr at key
 simp only [hu] at key
 cases hb:Nat.beq sz 1 with
 |true=>
  have:=Nat.eq_of_beq_eq_true hb
  subst this
  simp only [hb] at key
  rw [Nat.mul_one];exact key hi
 |false=>simp only [hb] at key;exact key hi
theorem okS_index (T:Tab P) {t e sz b:Nat} {x i:Operand} {k:IntKind} {j:Int} {rows:List (List Value)} (ho:o.op=.indexAddr t x i) (hx:evS l x=some (.buf b)) (hi:evS l i=some (.v (.int k j)))
  (hu:lookU T.und t=some (.slice e sz)) (hr:rowsAt H b=some (sz,rows)) (hj:0≤j∧j<rows.length):EffK P n F h0 l H o (.row b j 0 sz) H:=
 EffK.of_plain fun E h S K a w ha=>by
  obtain ⟨h1,ad,cap,h2,h3⟩:=S.rowsAt hr
  have h4:=ha.ev (ev_gF (E:=E) hx)
  have h5:=ha.ev (ev_gF (E:=E) hi)
  simp only [SV.g] at h4 h5
  rcases h3 with rfl|⟨g,oo,rfl,_⟩
  ·simp at hj;omega
  have key:=indexAt_run T hu g oo rows.length cap k j hj w
  rw [h2] at h4
  simp [execOp,ho,h4,h5,key,SV.g,h2,blkOf,ownB,offOf]
theorem okS_indexA (T:Tab P) {t e sz b off len:Nat} {x i:Operand} {k:IntKind} {j:Int} (ho:o.op=.indexAddr t x i) (hx:evS l x=some (.ptr b off)) (hi:evS l i=some (.v (.int k j)))
  (hu:lookU T.und t=some (.array len e sz)) (hj:0≤j∧j<len):EffK P n F h0 l H o (.ptr b (off+j.toNat*sz)) H:=
 EffK.of_plain fun E h S K a w ha=>by
  have h4:=ha.ev (ev_gF (E:=E) hx)
  have h5:=ha.ev (ev_gF (E:=E) hi)
  simp only [SV.g] at h4 h5
  have key:=idxAddr_ok T t (.pointer (some ⟨blkOf (E b),off,none⟩)) (.int k j) w
  unfold idxAddr at key
  simp only [hu] at key
  have:(Instr.indexAt t (.pointer (some ⟨blkOf (E b),off,none⟩)) (.int k j)).run P w=.ok (.pointer (some ⟨blkOf (E b),off+j.toNat*sz,none⟩)) w:=by
   cases hb:Nat.beq sz 1 with
   |true=>
    have:=Nat.eq_of_beq_eq_true hb
    subst this
    simp only [hb] at key
    rw [Nat.mul_one];exact key hj
   |false=>simp only [hb] at key;exact key hj
  simp [execOp,ho,h4,h5,this,SV.g]
theorem okS_nil {x:Operand} {y:SV} (ho:o.op=.nilCheck x) (hx:evS l x=some y) (hy:∀E,∃a,y.g E=.pointer (some a)):EffK P n F h0 l H o y H:=
 EffK.of_plain fun E h S K a w ha=>by
  obtain ⟨ad,e⟩:=hy E
  have h1:=ha.ev (ev_gF (E:=E) hx)
  rw [e] at h1
  simp [execOp,ho,h1,e]
theorem iface_desc (T:Tab P) {t:TypeId} {u:UD} (hu:lookU T.und t=some u) (hne:u ≠ .iface):∃d,P.underlying t=some d ∧ ∀ms,d ≠ .interface ms:=by
 have hk:=T.okU.look hu
 cases u<;>simp only [UD.ok] at hk
 case int k=>exact ⟨_,hk,by simp⟩
 case bool=>exact ⟨_,hk,by simp⟩
 case str=>exact ⟨_,hk,by simp⟩
 case slice e sz=>exact ⟨_,hk.1,by simp⟩
 case struct fs=>obtain ⟨q,hq,_⟩:=hk;exact ⟨_,hq,by simp⟩
 case map=>obtain ⟨k,e,hq⟩:=hk;exact ⟨_,hq,by simp⟩
 case ptr=>obtain ⟨e,hq⟩:=hk;exact ⟨_,hq,by simp⟩
 case func=>obtain ⟨_,_,_,hq⟩:=hk;exact ⟨_,hq,by simp⟩
 case iface=>exact absurd rfl hne
 case array n e sz=>exact ⟨_,hk.1,by simp⟩
 case other=>
  cases hq:P.underlying t with
  |none=>simp [hq] at hk
  |some d=>refine ⟨d,rfl,fun ms e=>?_⟩;subst e;simp [hq] at hk
theorem okS_iface (T:Tab P) {t:TypeId} {x:Operand} {y:SV} {u:UD} (ho:o.op=.makeInterface t x) (hx:evS l x=some y) (hu:lookU T.und t=some u) (hne:u ≠ .iface):EffK P n F h0 l H o (.ifc t y) H:=
 EffK.of_plain fun E h S K a w ha=>by
  obtain ⟨d,hd,hni⟩:=iface_desc T hu hne
  have h1:=ha.ev (ev_gF (E:=E) hx)
  simp only [execOp,ho,h1,Instr.makeInterface,SV.g]
  cases d<;>simp [run_underlying hd]<;>exact absurd rfl (hni _)
theorem okS_func {f:Go.Fn} {first captured:Array Operand} {us vs:List SV} (ho:o.op=.makeFunc f first captured) (h1:evAll l first.toList=some us) (h2:evAll l captured.toList=some vs):EffK P n F h0 l H o (.fn f us vs) H:=
 EffK.of_plain fun E h S K a w ha=>by
  have e1:=allEv_map ha (allEv_gF (E:=E) h1)
  have e2:=allEv_map ha (allEv_gF (E:=E) h2)
  have e1':first.map a.eval=(SV.gs E us).toArray:=by apply Array.ext';simpa using e1
  have e2':captured.map a.eval=(SV.gs E vs).toArray:=by apply Array.ext';simpa using e2
  simp [execOp,ho,Instr.makeFunc,e1',e2',SV.g]
theorem Eff.toS {E:Env} {h:Array Obj} {x:SV} (hA:Sat E F H h) (hK:Kp F h0 h) (He:Eff P n (gF E l) h o (fun v h'=>v=x.g E∧h'=h)):Eff P n (gF E l) h o (fun v h'=>v=x.g E∧Sat E F H h'∧Kp F h0 h'):=
 He.mono fun v h' ⟨e1,e2⟩=>⟨e1,by rw [e2];exact hA,by rw [e2];exact hK⟩
theorem okS_load (T:Tab P) {t t':TypeId} {x:Operand} {b off:Nat} {cs:List SV} {v:SV} (ho:o.op=.load t x) (hx:evS l x=some (.ptr b off)) (hb:lookH H b=some (.cells t' cs)) (ht:scalarB T t=true) (hv:nth cs off=some v):
  EffK P n F h0 l H o v H:=EffK.of_eff (by simp [plainO,floatO,pureO,ho]) fun E h S K=>by
 refine Eff.toS S K (eff_load T (v:=v.g E) ?_ ho (ev_gF hx) ht)
 obtain ⟨_,h2,_⟩:=S.cellsAt hb
 rw [nth_eq] at hv
 rw [h2.cell];simp [gs_get,hv]
theorem gs_sub_get (E:Env) (cs:List SV) (off m j:Nat) {v:Value} (h:(SV.gs E ((cs.drop off).take m))[j]? = some v):(SV.gs E cs)[off+j]? = some v:=by
 simp only [gs_take,gs_drop,List.getElem?_take,List.getElem?_drop] at h
 split at h
 ·exact h
 cases h
theorem okS_loadA (T:Tab P) {t t':TypeId} {x:Operand} {b off:Nat} {cs:List SV} {i:Inf} (ho:o.op=.load t x) (hx:evS l x=some (.ptr b off)) (hb:lookH H b=some (.cells t' cs)) (ht:aggB T t=true) (hi:lookI T.inf t=some i) (hle:off+i.size≤cs.length):
  EffK P n F h0 l H o (.agg ((cs.drop off).take i.size)) H:=EffK.of_eff (by simp [plainO,floatO,pureO,ho]) fun E h S K=>by
 obtain ⟨_,h2,_⟩:=S.cellsAt hb
 refine Eff.toS S K ((eff_loadAgg T (vs:=SV.gs E ((cs.drop off).take i.size)) (fun j v hj=>?_) (by simp [gs_len];omega) ho (ev_gF hx) ht hi))
 rw [h2.cell]
 simpa using gs_sub_get E cs off i.size j hj
theorem okS_loadR (T:Tab P) {t:TypeId} {x:Operand} {b off sz:Nat} {i:Int} {rows:List (List Value)} {row:List Value} {v:Value} (ho:o.op=.load t x) (hx:evS l x=some (.row b i off sz)) (hb:rowsAt H b=some (sz,rows)) (ht:scalarB T t=true) (hr:rows[i.toNat]? = some row) (hv:nth row off=some v):
  EffK P n F h0 l H o (.v v) H:=EffK.of_eff (by simp [plainO,floatO,pureO,ho]) fun E h S K=>by
 obtain ⟨h1,ad,cap,h2,h3⟩:=S.rowsAt hb
 rw [nth_eq] at hv
 rcases h3 with rfl|⟨g,oo,rfl,h4⟩
 ·simp at hr
 have hx':=ev_gF (E:=E) hx
 simp only [SV.g,h2,blkOf,ownB,offOf,Option.getD_some] at hx'
 refine Eff.toS S K (eff_load T (b:=g) (off:=oo+i.toNat*sz+off) ?_ ho hx' ht)
 rw [Nat.add_assoc]
 exact h4 _ _ (flat_get h1 hr hv)
theorem okS_loadRA (T:Tab P) {t:TypeId} {x:Operand} {b off sz:Nat} {i:Int} {j:Inf} {rows:List (List Value)} {row:List Value} (ho:o.op=.load t x) (hx:evS l x=some (.row b i off sz)) (hb:rowsAt H b=some (sz,rows)) (ht:aggB T t=true) (hi:lookI T.inf t=some j) (hr:rows[i.toNat]? = some row) (hle:off+j.size≤row.length):
  EffK P n F h0 l H o (.agg (toV ((row.drop off).take j.size))) H:=EffK.of_eff (by simp [plainO,floatO,pureO,ho]) fun E h S K=>by
 obtain ⟨h1,ad,cap,h2,h3⟩:=S.rowsAt hb
 rcases h3 with rfl|⟨g,oo,rfl,h4⟩
 ·simp at hr
 have hx':=ev_gF (E:=E) hx
 simp only [SV.g,h2,blkOf,ownB,offOf,Option.getD_some] at hx'
 have key:=eff_loadAgg (n:=n) (h:=h) T (vs:=(row.drop off).take j.size) (b:=g) (off:=oo+i.toNat*sz+off) (fun q v hq=>?_) (by simp;omega) ho hx' ht hi
 ·refine Eff.toS S K (key.mono fun v h' ⟨e1,e2⟩=>⟨by rw [e1];simp only [SV.g,gs_toV],e2⟩)
 have hq':row[off+q]? = some v:=by
  rw [List.getElem?_take] at hq
  split at hq
  ·simpa using hq
  cases hq
 have:=h4 _ _ (flat_get h1 hr hq')
 rw [show oo+i.toNat*sz+off+q=oo+(i.toNat*sz+(off+q)) by omega]
 exact this
theorem okS_old (T:Tab P) {t:TypeId} {x:Operand} {b off:Nat} {v:Value} (ho:o.op=.load t x) (hx:evS l x=some (.v (.pointer (some ⟨b,off,none⟩)))) (ht:scalarB T t=true) (hv:OldC F h0 b off v):
  EffK P n F h0 l H o (.v v) H:=EffK.of_eff (by simp [plainO,floatO,pureO,ho]) fun E h S K=>by
 refine Eff.toS S K (eff_load T ?_ ho (ev_gF hx) ht)
 have:=hv.2
 unfold cellH at this ⊢
 rw [K.same b hv.1];exact this
theorem okS_oldA (T:Tab P) {t:TypeId} {x:Operand} {b off:Nat} {vs:List Value} {i:Inf} (ho:o.op=.load t x) (hx:evS l x=some (.v (.pointer (some ⟨b,off,none⟩)))) (ht:aggB T t=true) (hi:lookI T.inf t=some i) (hlen:vs.length=i.size) (hv:OldCs F h0 b off vs):
  EffK P n F h0 l H o (.agg (toV vs)) H:=EffK.of_eff (by simp [plainO,floatO,pureO,ho]) fun E h S K=>by
 refine Eff.toS S K ((eff_loadAgg T (vs:=vs) (fun j v hj=>?_) hlen ho (ev_gF hx) ht hi).mono fun v h' ⟨e1,e2⟩=>⟨by rw [e1];simp only [SV.g,gs_toV],e2⟩)
 obtain ⟨h1,h2⟩:=hv j v hj
 unfold cellH at h2 ⊢
 rw [K.same b h1];exact h2
theorem okS_store (T:Tab P) {t t':TypeId} {x y:Operand} {b off:Nat} {cs xs:List SV} {v:SV} {i:Inf} (ho:o.op=.store t x y) (hx:evS l x=some (.ptr b off)) (hb:lookH H b=some (.cells t' cs)) (hy:evS l y=some v) (hi:lookI T.inf t=some i)
  (hc:cellsS H v=some xs) (hlen:xs.length=i.size) (h1:onesS H xs=true) (hle:off+xs.length≤cs.length):EffK P n F h0 l H o (.v undef) (setH H b (.cells t' (spl cs off xs))):=EffK.of_eff (by simp [plainO,floatO,pureO,ho]) fun E h S K=>by
 obtain ⟨_,h2,_⟩:=S.cellsAt hb
 have hcv:=cellsS_of S hc
 have key:=eff_storeU (n:=n) T (v:=v.g E) h2 ho (ev_gF hx) (ev_gF hy) hi (by rw [hcv];simp [gs_len,hlen]) (by rw [hcv];simpa using onesS_of S h1) (by rw [hcv];simp [gs_len];omega)
 refine key.mono fun v' h' ⟨e1,e2⟩=>⟨e1,?_⟩
 have e3:h'=setB h (blkOf (E b)) (SV.gs E (spl cs off xs)).toArray t':=by
  rw [e2,hcv,gs_spl];simp [gs_len]
 rw [e3]
 exact S.putB K hb
theorem okS_box {t:TypeId} {x:Operand} {v:SV} {cs:List SV} (ho:o.op=.box t x) (hx:evS l x=some v) (hc:cellsS H v=some cs) (hb:bdH nx H=true) (hbs:SV.bds nx cs=true):
  EffS P n F h0 nx l H o (.ptr nx 0) ((nx,.cells t cs)::H):=fun E h S K=>
 (eff_box (v:=v.g E) ho (ev_gF hx)).mono fun v' h' ⟨e1,e2⟩=>by
  obtain ⟨S',K'⟩:=S.newCells K hb t cs hbs _ (cellsS_of S hc)
  refine ⟨_,push_ag E nx _,?_,by rw [e2];exact S',by rw [e2];exact K'⟩
  rw [e1];simp [SV.g,push_at,blkOf,ownB]
theorem bds_toV (m:Nat):∀l:List Value,SV.bds m (toV l)=true
 | []=>rfl
 |x::xs=>by simp only [toV,SV.bds,SV.bd,bds_toV m xs]
theorem okS_alloc (T:Tab P) {t:TypeId} {i:Inf} (ho:o.op=.alloc t) (hi:lookI T.inf t=some i) (hb:bdH nx H=true):
  EffS P n F h0 nx l H o (.ptr nx 0) ((nx,.cells t (toV i.zero.cells.toList))::H):=fun E h S K=>
 (eff_alloc T ho hi).mono fun v' h' ⟨e1,e2⟩=>by
  obtain ⟨S',K'⟩:=S.newCells K hb t (toV i.zero.cells.toList) (bds_toV _ _) i.zero.cells (by rw [gs_toV])
  refine ⟨_,push_ag E nx _,?_,by rw [e2];exact S',by rw [e2];exact K'⟩
  rw [e1];simp [SV.g,push_at,blkOf,ownB]
theorem okS_build {t:TypeId} {parts:Array (Nat×Operand)} {ps:List (Nat×SV)} {cs:List SV} (ho:o.op=.build t parts) (hp:partsS l parts.toList=some ps) (hb:∀E h,Sat E F H h→P.built t (gP E ps)=some (SV.gs E cs).toArray):
  EffK P n F h0 l H o (.agg cs) H:=EffK.of_plain fun E h S K a w ha=>plain_build (hb E h S) ho (partsS_of hp) a w ha
theorem mapM_places {fs:List Field} {xs:List (Nat×Nat×Bool)} (h:FieldsOk P fs xs):fs.mapM (fun f=>(P.info? f.type).map fun i=>(f.offset,i.size))=some (xs.map fun x=>(x.1,x.2.1)):=by
 induction fs generalizing xs with
 |nil=>cases xs with
  |nil=>rfl
  |cons=>exact h.elim
 |cons f fs ih=>cases xs with
  |nil=>exact h.elim
  |cons x xs=>
   obtain ⟨⟨h1,h2,_⟩,h3⟩:=h
   cases hi:P.info? f.type with
   |none=>simp [hi] at h2
   |some i=>
    simp only [hi,Option.map_some,Option.some.injEq] at h2
    simp [List.mapM_cons,hi,ih h3,h1,h2]
theorem built_struct (T:Tab P) {t:TypeId} {i:Inf} {fs:List (Nat×Nat×Bool)} (hi:lookI T.inf t=some i) (hu:lookU T.und t=some (.struct fs)) (ps:List (Nat×Value)):
  P.built t ps=Instr.fill (fun k=>match nth fs k with|some (o,n,_)=>some (o,n)|none=>none) i.zero.cells ps:=by
 obtain ⟨j,q1,q2,q3,q4⟩:=T.okI.look hi
 obtain ⟨ar,h1,h2⟩:=T.okU.look hu
 unfold Program.built
 simp only [q1,h1,q2,mapM_places h2]
 congr 1
 funext k
 rw [nth_eq]
 simp
 cases fs[k]? with
 |none=>rfl
 |some x=>rfl
theorem built_array (T:Tab P) {t:TypeId} {i:Inf} {m e sz:Nat} (hi:lookI T.inf t=some i) (hu:lookU T.und t=some (.array m e sz)) (ps:List (Nat×Value)):
  P.built t ps=Instr.fill (fun k=>some (k*sz,sz)) i.zero.cells ps:=by
 obtain ⟨j,q1,q2,q3,q4⟩:=T.okI.look hi
 obtain ⟨h1,h2⟩:=T.okU.look hu
 unfold Program.built
 cases he:P.info? e with
 |none=>simp [he] at h2
 |some ie=>
  simp only [he,Option.map_some,Option.some.injEq] at h2
  simp only [q1,h1,q2,he,h2]
theorem Sat.newOwn {E:Env} {h:Array Obj} (S:Sat E F H h) (K:Kp F h0 h) (hb:bdH nx H=true) {e sz cap:Nat} {rows:List (List Value)} {cur:Array Value} (hr:RowsOk sz rows)
  (hm:rows.length≤cap) (hc:cap≤maxLen) (hs:cur.size=cap*sz) (ht:cur.toList.take (rows.length*sz)=rows.flatten):
  Sat (push E nx (.slice (some ⟨h.size,0,none⟩) rows.length cap)) F ((nx,.own e sz rows)::H) (h.push (.cells cur e (0,0)))∧Kp F h0 (h.push (.cells cur e (0,0))):=by
 obtain ⟨S',K'⟩:=S.pushB K (.cells cur e (0,0))
 have hlen:rows.flatten.length=rows.length*sz:=by
  clear ht hm
  induction rows with
  |nil=>simp
  |cons r rs ih=>simp [ih (fun q hq=>hr q (List.mem_cons_of_mem _ hq)),(hr r (List.mem_cons_self ..)).1,Nat.add_mul];omega
 refine ⟨S'.add hb ⟨hr,⟨hlen,.inr ⟨h.size,cap,cur,rfl,Nat.zero_le _,push_new _ _ _,hm,hc,hs,ht⟩⟩,fun g hg=>?_⟩ (fun _ p hp hw g hg e=>?_),K'⟩
 ·simp only [ownB,Option.some.injEq] at hg
  subst hg
  exact K.ge (Nat.le_refl _)
 have:=(Blk.lt (S.ok p hp) hw hg).1
 simp only [ownB,Option.some.injEq] at e
 omega
theorem okS_buildSlice (T:Tab P) {t e sz m:Nat} {parts:Array (Nat×Operand)} {ps:List (Nat×SV)} {i:Inf} {cs:List SV} {vs:List Value} (ho:o.op=.buildSlice t m parts) (hu:lookU T.und t=some (.slice e sz)) (hi:lookI T.inf e=some i) (hz:i.zero.cells.size=i.size)
  (hp:partsS l parts.toList=some ps) (hle:Nat.ble (m*i.size) 16777216=true) (hf:fillS H (fun j=>some (j*i.size,i.size)) (toV (zeros i.zero.cells.toList m)) ps=some cs) (hv:unV cs=some vs) (hlen:vs.length=m*i.size) (hm:m≤maxLen) (hv1:onesV vs=true) (hb:bdH nx H=true):
  EffS P n F h0 nx l H o (.buf nx) ((nx,.own e i.size (chunk i.size m vs))::H):=fun E h S K=>by
 obtain ⟨c1,c2,c3⟩:=chunk_ok i.size m vs hlen
 have hfl:=fillS_of S hf
 rw [gs_toV,unV_of E hv] at hfl
 have hfill:Instr.fill (fun j=>some (j*i.size,i.size)) ((Array.range (m*i.size)).map ((if m*i.size=0 then #[] else i.zero.cells)[· % (if m*i.size=0 then #[] else i.zero.cells).size]!)) (gP E ps)=some vs.toArray:=by
  have:=zeros_fill i.zero.cells m
  rw [hz] at this
  rw [this];exact hfl
 refine (eff_buildSlice T ho hu hi (partsS_of hp) hle hfill).mono fun v' h' ⟨e1,e2⟩=>?_
 obtain ⟨S',K'⟩:=S.newOwn (e:=e) (cap:=m) (cur:=vs.toArray) K hb (fun r hr=>⟨c1 r hr,fun u hu=>onesV_of hv1 u (by rw [←c3];exact List.mem_flatten.2 ⟨r,hr,hu⟩)⟩) (by omega) hm (by simpa using hlen) (by rw [c2,c3];simp [←hlen])
 refine ⟨_,push_ag E nx _,?_,by rw [e2];exact S',by rw [e2];exact K'⟩
 rw [e1];simp [SV.g,push_at,c2]
end
end Go.Fw

namespace Go.Fw
open Go
variable {P:Program}
set_option maxHeartbeats 8000000
section
variable {n:Nat} {F:Nat→Prop} {h0:Array Obj} {nx:Nat} {l:SFr} {H:SH} {o:Oper}
theorem maxLen_eq:maxLen=9223372036854775807:=rfl
theorem madeCells_rows (z:Array Value) (k m:Nat) (hkm:k≤m) (hz:0<z.size∨True):(madeCells z (m*z.size)).size=m*z.size∧(madeCells z (m*z.size)).toList.take (k*z.size)=(List.replicate k z.toList).flatten:=by
 have hsz:(madeCells z (m*z.size)).size=m*z.size:=by simp [madeCells]
 refine ⟨hsz,?_⟩
 rw [←zeros_rep]
 apply List.ext_getElem?
 intro i
 by_cases hi:i<k*z.size
 ·have h1:=zeros_get z.toList k i (by simpa using hi)
  have hz:0<z.size:=Nat.pos_of_ne_zero (fun e=>by rw [e] at hi;simp at hi)
  have hlt:=Nat.mod_lt i hz
  have him:i<m*z.size:=Nat.lt_of_lt_of_le hi (Nat.mul_le_mul_right _ hkm)
  rw [List.getElem?_take_of_lt hi,h1]
  simp [madeCells,him,hlt]
 rw [List.getElem?_eq_none (by simp;omega),List.getElem?_eq_none (by rw [zeros_len];simpa using hi)]
theorem okS_make (T:Tab P) {t e sz:Nat} {x y:Operand} {k1 k2:IntKind} {a m:Int} {i:Inf} (ho:o.op=.makeSlice t x y) (hx:evS l x=some (.v (.int k1 a))) (hy:evS l y=some (.v (.int k2 m))) (hu:lookU T.und t=some (.slice e sz)) (hi:lookI T.inf e=some i)
  (hz:i.zero.cells.size=i.size) (hz1:onesV i.zero.cells.toList=true) (hp:0≤a∧a≤m∧(i.bytes:Int)*m≤281474976710656∧m≤9223372036854775807) (hb:bdH nx H=true):
  EffS P n F h0 nx l H o (.buf nx) ((nx,.own e i.size (List.replicate a.toNat i.zero.cells.toList))::H):=fun E h S K=>by
 refine (eff_make T ho (ev_gF (E:=E) hx) (ev_gF (E:=E) hy) hu hi hp).mono fun v' h' ⟨e1,e2⟩=>?_
 obtain ⟨q1,q2⟩:=madeCells_rows i.zero.cells a.toNat m.toNat (by omega) (.inr trivial)
 rw [hz] at q1 q2
 obtain ⟨S',K'⟩:=S.newOwn (e:=e) (sz:=i.size) (rows:=List.replicate a.toNat i.zero.cells.toList) (cap:=m.toNat) (cur:=madeCells i.zero.cells (m.toNat*i.size)) K hb
  (fun r hr=>by rw [List.eq_of_mem_replicate hr];exact ⟨by simpa using hz,onesV_of hz1⟩) (by simp;omega) (by rw [maxLen_eq];omega) q1 (by rw [List.length_replicate];exact q2)
 refine ⟨_,push_ag E nx _,?_,by rw [e2];exact S',by rw [e2];exact K'⟩
 rw [e1];simp [SV.g,push_at]
theorem okS_len (T:Tab P) {cl:Call} {t e sz b sz':Nat} {x:Operand} {rows:List (List Value)} (ho:o.op=.call cl) (hc:cl.callee=.builtin .len) (ha:cl.args.toList=[x]) (hts:cl.argTypes.toList=[t]) (hx:evS l x=some (.buf b)) (hu:lookU T.und t=some (.slice e sz)) (hr:rowsAt H b=some (sz',rows)):
  EffK P n F h0 l H o (.v (.int .i64 rows.length)) H:=
 EffK.of_plain fun E h S K a w hh=>by
  obtain ⟨h1,ad,cap,h2,h3⟩:=S.rowsAt hr
  have h4:=hh.ev (ev_gF (E:=E) hx)
  simp only [SV.g] at h4
  have e1:cl.args = #[x]:=by apply Array.ext';simpa using ha
  have e2:cl.argTypes = #[t]:=by apply Array.ext';simpa using hts
  have key:=lenP_ok T t o.type (E b) w
  unfold lenP at key
  rw [h2] at key
  simp only [hu,Pu.ok] at key
  simp [execOp,ho,resolve,hc,e1,e2,invoke,builtin,h4,h2,key,SV.g]
theorem flat_len {sz:Nat}:∀ {rows:List (List Value)},RowsOk sz rows→rows.flatten.length=rows.length*sz
 | [],_=>by simp
 |r::rs,h=>by
  have:=flat_len (rows:=rs) (fun q hq=>h q (List.mem_cons_of_mem _ hq))
  simp [this,(h r (List.mem_cons_self ..)).1,Nat.add_mul];omega
theorem run_append_none (w:World) {t ty e:TypeId} {i:TypeInfo} (ht:P.underlying t=some (.slice e)) (hi:P.info? e=some i) (a:Option Addr) (m c:Nat) (hmc:m≤c) (c2:Nat):
  (Builtin.append_ #[t,t] ty #[.slice a m c,.slice none 0 c2]).run P w=.ok (.slice a m c) w:=by
 cases a<;>simp [Builtin.append_,run_underlying ht,sizeOf,typeInfo,hi,Builtin.lenOf,Builtin.firstCells,loadCells,loadCellsFrom,hmc,storeCells]
theorem okS_append (T:Tab P) {cl:Call} {t e sz:Nat} {x y:Operand} {i:Inf} {v:SV} {b2:Nat} {r:Option Nat} {rows rows2:List (List Value)} (ho:o.op=.call cl) (hc:cl.callee=.builtin .append) (ha:cl.args.toList=[x,y]) (hts:cl.argTypes.toList=[t,t])
  (hu:lookU T.und t=some (.slice e sz)) (hi:lookI T.inf e=some i) (hz:i.zero.cells.size=i.size) (hsz:0<i.size) (hy:evS l y=some (.buf b2)) (hr2:rowsAt H b2=some (i.size,rows2)) (hx:evS l x=some v)
  (h1:∀E h,Sat E F H h→RowsOk i.size rows∧Own 0 h e i.size (v.g E) rows.length rows.flatten ∧
   (∀g,ownB (v.g E)=some g → ¬F g ∧ ∃b,r=some b∧E b=v.g E ∧ ∃q,lookH H b=some q∧wr q=true) )
  (hp:0<1∧rows.length+rows2.length≤9223372036854775807∧(rows.length+rows2.length)*i.bytes≤140737488355328) (hb:bdH nx H=true):
  EffS P n F h0 nx l H o (.buf nx) ((nx,.own e i.size (rows++rows2))::remO H r):=fun E h S K=>by
 obtain ⟨q1,q2,q3⟩:=h1 E h S
 obtain ⟨p1,ad,cap,p2,p3⟩:=S.rowsAt hr2
 have hx':=ev_gF (E:=E) hx
 have hy':=ev_gF (E:=E) hy
 simp only [SV.g] at hy'
 rw [p2] at hy'
 obtain ⟨j,w1,w2,w3,w4⟩:=T.okI.look hi
 intro a w hh hw next Q hn
 subst hw
 obtain ⟨c00,m00,hv00⟩:=q2.shape
 obtain ⟨v',w',r1,r2,r3,r5⟩:∃v' w',(Builtin.append_ #[t,t] o.type #[v.g E,.slice ad rows2.length cap]).run P w=.ok v' w'∧w'.ownsRow 0 e i.size v' (rows.length+rows2.length) (rows.flatten++rows2.flatten)∧w.grownBy w' (v.g E).ownBlock∧(v'.ownBlock=(v.g E).ownBlock∨v'.ownBlock=some w.heap.size):=by
  have kit:∀ad',(∀j u,rows2.flatten[j]? = some u→w.cell? (ad'.add j)=some u) → ∃v' w',(Builtin.append_ #[t,t] o.type #[v.g E,.slice (some ad') rows2.length cap]).run P w=.ok v' w'∧w'.ownsRow 0 e i.size v' (rows.length+rows2.length) (rows.flatten++rows2.flatten)∧w.grownBy w' (v.g E).ownBlock∧(v'.ownBlock=(v.g E).ownBlock∨v'.ownBlock=some w.heap.size):=fun ad' hcell=>by
   obtain ⟨v',w',r1,r2,r3,r4,r5⟩:=run_append_own_at (P:=P) w 0 t o.type e j i.zero i.size i.bytes (T.okU.look hu).1 w1 w2 w3 w4 hz hsz (v.g E) rows.length rows.flatten (own_world.1 q2)
    ad' rows2.length cap rows2.flatten (flat_len p1) hcell (fun u hu=>by
     obtain ⟨r,hr,hur⟩:=List.mem_flatten.1 hu;exact (p1 r hr).2 u hur) (by rw [maxLen_eq];omega) hp.2.2 (Nat.zero_le _)
   exact ⟨v',w',r1,r2,r3,r5⟩
  rcases p3 with rfl|⟨g,oo,rfl,p4⟩
  ·cases ad with
   |some ad'=>exact kit ad' (fun j u hu=>by simp at hu)
   |none=>
    have hmc:rows.length≤m00:=by
     obtain ⟨_,⟨h1,_⟩|⟨g,cap,cur,h1,_,_,hc,_⟩⟩:=q2
     ·rw [h1] at hv00
      injection hv00 with _ e2 e3
      omega
     rw [h1] at hv00
     injection hv00 with _ e2 e3
     omega
    rw [hv00]
    refine ⟨_,w,run_append_none w (T.okU.look hu).1 w1 c00 rows.length m00 hmc cap,?_,⟨rfl,rfl,rfl,Nat.le_refl _,fun _ _ _=>rfl⟩,.inl rfl⟩
    rw [←hv00]
    simpa using own_world.1 q2
  exact kit ⟨g,oo,none⟩ (fun j u hu=>by rw [add_none];exact cell_of (p4 j u hu))
 have e1:cl.args = #[x,y]:=by apply Array.ext';simpa using ha
 have e2:cl.argTypes = #[t,t]:=by apply Array.ext';simpa using hts
 have hrun:(execOp a.eval o).run P w=.ok (.value v') w':=by
  simp [execOp,ho,resolve,hc,e1,e2,invoke,builtin,hh.ev hx',hh.ev hy',r1]
 unfold Oper.wp
 rw [hrun]
 refine hn v' w' ⟨r3.tape,r3.os,r3.output⟩ ⟨push E nx v',push_ag E nx _,by simp [SV.g,push_at],?_⟩
 obtain ⟨c0,m0,hv0⟩:=q2.shape
 have hob:(v.g E).ownBlock=ownB (v.g E):=ownB_ownBlock hv0
 have hown':Own 0 w'.heap e i.size v' (rows++rows2).length (rows++rows2).flatten:=by
  rw [List.length_append,List.flatten_append];exact own_world.2 r2
 obtain ⟨c1,m1,hv1⟩:=hown'.shape
 rw [ownB_ownBlock hv1] at r5
 rw [hob] at r5 r3
 have hF:∀k,F k→w'.heap[k]? = w.heap[k]? :=fun k hk=>r3.block k (by have:=K.lt k hk;have:=K.size;omega) (fun e=>(q3 k e.symm).1 hk)
 have K':Kp F h0 w'.heap:=⟨Nat.le_trans K.size r3.size,fun k hk=>(hF k hk).trans (K.same k hk),K.lt⟩
 refine ⟨?_,K'⟩
 obtain ⟨H',hH'⟩:∃H',H'=remO H r:=⟨_,rfl⟩
 rw [←hH']
 have hsub:H'.Sublist H:=by rw [hH'];cases r;exact List.Sublist.refl _;exact remH_sub _ _
 have hne:∀p∈H',wr p.2=true → ∀g,ownB (E p.1)=some g→ownB (v.g E)≠some g:=fun p hp hw g hg e=>by
  obtain ⟨b,hrb,hEb,q,hq,hwq⟩:=(q3 g e).2
  subst hrb
  rw [hH'] at hp
  have hpb:=remH_ne hp
  have hpm:p∈H:=(remH_sub H b).subset hp
  have hqm:=lookH_mem hq
  have:=S.apart
  -- two entries of other names
  have key:∀ {L:SH},L.Pairwise (Apart E)→p∈L→(b,q)∈L→ownB (E b)≠some g:=by
   intro L
   induction L with
   |nil=>intro _ h;cases h
   |cons x L ih=>
    intro hpw h1 h2
    obtain ⟨hx1,hx2⟩:=List.pairwise_cons.1 hpw
    rcases List.mem_cons.1 h1 with h1|h1
    ·rcases List.mem_cons.1 h2 with h2|h2
     ·exact absurd (by rw [h1,←h2]) hpb
     have:=hx1 _ h2
     rw [←h1] at this
     exact this hw hwq g hg
    rcases List.mem_cons.1 h2 with h2|h2
    ·have:=hx1 _ h1
     rw [←h2] at this
     intro e
     exact this hwq hw g e hg
    exact ih hx2 h1 h2
  rw [←hEb] at e
  exact key this hpm hqm e
 have S1:Sat E F H' w.heap:=S.sub hsub
 have S2:Sat E F H' w'.heap:=S1.keep (fun p hp hw g hg=>r3.block g (Blk.lt (S1.ok p hp) hw hg).1 (fun e=>hne p hp hw g hg e.symm)) hF
 have hb':bdH nx H'=true:=by
  rw [hH']
  cases r with
  |none=>exact hb
  |some b0=>
   clear hH' S1 S2 hne hsub q1 q2 q3 h1 hr2 S hn
   simp only [remO]
   induction H with
   |nil=>rfl
   |cons x H ih=>
    obtain ⟨s,z⟩:=x
    simp only [bdH] at hb
    cases hs:Nat.blt s nx with
    |false=>simp [hs] at hb
    |true=>
     cases hz:bdB nx z with
     |false=>simp [hs,hz] at hb
     |true=>
      simp only [hs,hz] at hb
      simp only [remH]
      cases Nat.beq s b0 with
      |true=>exact ih hb
      |false=>simp only [bdH,hs,hz];exact ih hb
 refine S2.add hb' ⟨fun r hr=>?_,hown',fun g hg=>?_⟩ (fun _ p hp hw g hg e=>?_)
 ·rcases List.mem_append.1 hr with hr|hr
  ·exact q1 r hr
  exact p1 r hr
 ·rcases r5 with e|e
  ·rw [e] at hg;exact (q3 g hg).1
  rw [e] at hg;simp only [Option.some.injEq] at hg;subst hg;exact K.ge (Nat.le_refl _)
 rcases r5 with e5|e5
 ·rw [e5] at e;exact hne p hp hw g hg e
 rw [e5] at e
 simp only [Option.some.injEq] at e
 have:=(Blk.lt (S1.ok p hp) hw hg).1
 omega
theorem own_of_look {E:Env} {h:Array Obj} (S:Sat E F H h) {b e sz:Nat} {rows:List (List Value)} (hl:lookH H b=some (.own e sz rows)):
  RowsOk sz rows∧Own 0 h e sz (E b) rows.length rows.flatten ∧ ∀g,ownB (E b)=some g → ¬F g:=S.ok _ (lookH_mem hl)
theorem set_flat {sz:Nat}:∀ {rows:List (List Value)} {i:Nat} {row row':List Value},RowsOk sz rows→rows[i]? = some row→row'.length=sz→(rows.set i row').flatten=rows.flatten.take (i*sz)++row'++rows.flatten.drop (i*sz+sz)
 | [],i,row,row',_,h,_=>by simp at h
 |r::rs,0,row,row',hl,h,hx=>by
  have hr:=(hl r (List.mem_cons_self ..)).1
  simp only [List.set_cons_zero,List.flatten_cons,Nat.zero_mul,Nat.zero_add,List.take_zero,List.nil_append]
  rw [List.drop_append_of_le_length (by omega),List.drop_of_length_le (by omega)];rfl
 |r::rs,i+1,row,row',hl,h,hx=>by
  have hr:=(hl r (List.mem_cons_self ..)).1
  have ih:=set_flat (fun q hq=>hl q (List.mem_cons_of_mem _ hq)) (show rs[i]? = some row by simpa using h) hx
  simp only [List.set_cons_succ,List.flatten_cons,ih]
  have e1:(i+1)*sz=r.length+i*sz:=by rw [hr,Nat.add_mul];omega
  have e2:(i+1)*sz+sz=r.length+(i*sz+sz):=by rw [hr,Nat.add_mul];omega
  have t1:r.take (r.length+i*sz)=r:=List.take_of_length_le (by omega)
  have t2:r.drop (r.length+(i*sz+sz))=[]:=List.drop_of_length_le (by omega)
  rw [e2,e1,List.take_append,List.drop_append,t1,t2,show r.length+i*sz - r.length=i*sz by omega,show r.length+(i*sz+sz) - r.length=i*sz+sz by omega]
  simp only [List.nil_append,List.append_assoc]
theorem okS_rput (T:Tab P) {t:TypeId} {x y:Operand} {b e off sz:Nat} {i:Int} {rows:List (List Value)} {row vals:List Value} {xs:List SV} {v:SV} {j:Inf} (ho:o.op=.store t x y) (hx:evS l x=some (.row b i off sz)) (hb:lookH H b=some (.own e sz rows)) (hy:evS l y=some v) (hi:lookI T.inf t=some j)
  (hc:cellsV v=some xs) (hu:unV xs=some vals) (hlen:vals.length=j.size) (h1:onesV vals=true) (hle:off+vals.length≤sz) (hr:rows[i.toNat]? = some row):
  EffK P n F h0 l H o (.v undef) (setH H b (.own e sz (rows.set i.toNat (splV row off vals)))):=EffK.of_eff (by simp [plainO,floatO,pureO,ho]) fun E h S K=>by
 obtain ⟨r1,r2,r3⟩:=own_of_look S hb
 have hrow:row∈rows:=List.mem_of_getElem? hr
 have hilt:i.toNat<rows.length:=(List.getElem?_eq_some_iff.1 hr).1
 obtain ⟨w1,⟨w2,w3⟩|⟨g,cap,cur,w2,_,w3,w4,w5,w6,w7⟩⟩:=r2
 ·omega
 have hx':=ev_gF (E:=E) hx
 simp only [SV.g,w2,blkOf,ownB,offOf,Option.getD_some,Nat.zero_add] at hx'
 have hcv:(v.g E).cells=vals.toArray:=by rw [cellsV_of E hc,unV_of E hu]
 have hmul:(i.toNat+1)*sz≤rows.length*sz:=Nat.mul_le_mul_right _ hilt
 rw [Nat.add_mul,Nat.one_mul] at hmul
 have hcap:rows.length*sz≤cap*sz:=Nat.mul_le_mul_right _ w4
 have key:=eff_storeU (n:=n) T (v:=v.g E) w3 ho hx' (ev_gF hy) hi (by rw [hcv];simpa using hlen) (by rw [hcv];simpa using onesV_of h1) (by rw [hcv];simp;omega)
 refine key.mono fun v' h' ⟨e1,e2⟩=>⟨e1,?_⟩
 rw [hcv] at e2
 simp only [List.size_toArray] at e2
 obtain ⟨cur',hcur'⟩:∃c,c=(cur.toList.take (i.toNat*sz+off)++vals++cur.toList.drop (i.toNat*sz+off+vals.length)).toArray:=⟨_,rfl⟩
 rw [←hcur'] at e2
 subst e2
 have hF:∀k,F k→(setB h g cur' e)[k]? = h[k]? :=fun k hk=>setB_other (fun e=>r3 g (by rw [w2];rfl) (by rw [←e];exact hk)) _ _
 have hsl:(splV row off vals).length=sz:=by
  have:=(r1 row hrow).1
  simp [splV];omega
 obtain ⟨A,hA⟩:∃A,A=rows.flatten.take (i.toNat*sz):=⟨_,rfl⟩
 obtain ⟨B,hB⟩:∃B,B=rows.flatten.drop (i.toNat*sz+sz):=⟨_,rfl⟩
 obtain ⟨D,hD⟩:∃D,D=cur.toList.drop (rows.length*sz):=⟨_,rfl⟩
 have hflat:rows.flatten=A++row++B:=by
  have:=set_flat r1 hr (r1 row hrow).1
  have h2:rows.set i.toNat row=rows:=by
   apply List.ext_getElem?
   intro q
   rw [List.getElem?_set]
   split
   ·rename_i hq;subst hq;simp [hilt];rw [List.getElem?_eq_getElem hilt] at hr;exact (Option.some.inj hr).symm
   rfl
  rw [h2] at this
  rw [hA,hB];exact this
 have hAl:A.length=i.toNat*sz:=by rw [hA,List.length_take,flat_len r1];omega
 have hC:cur.toList=A++(row++(B++D)):=by
  have:=List.take_append_drop (rows.length*sz) cur.toList
  rw [←this,w7,hflat,hD];simp
 have hC':(cur.toList.take (i.toNat*sz+off)++vals++cur.toList.drop (i.toNat*sz+off+vals.length))=A++(splV row off vals++(B++D)):=by
  have hrl:=(r1 row hrow).1
  have t1:A.take (i.toNat*sz+off)=A:=List.take_of_length_le (by omega)
  have t2:A.drop (i.toNat*sz+off+vals.length)=[]:=List.drop_of_length_le (by omega)
  rw [hC,List.take_append,List.drop_append,t1,t2,hAl,show i.toNat*sz+off - i.toNat*sz=off by omega,show i.toNat*sz+off+vals.length - i.toNat*sz=off+vals.length by omega,
   List.take_append_of_le_length (by omega),List.drop_append_of_le_length (by omega)]
  simp [splV]
 have hrok:RowsOk sz (rows.set i.toNat (splV row off vals)):=fun r hr'=>by
  rcases List.mem_or_eq_of_mem_set hr' with h2|rfl
  ·exact r1 r h2
  refine ⟨hsl,fun u hu=>?_⟩
  simp only [splV,List.mem_append] at hu
  rcases hu with (hu|hu)|hu
  ·exact (r1 row hrow).2 u (List.mem_of_mem_take hu)
  ·exact onesV_of h1 u hu
  exact (r1 row hrow).2 u (List.mem_of_mem_drop hu)
 have hy':(Blk.own e sz (rows.set i.toNat (splV row off vals))).ok E F (setB h g cur' e) (E b):=by
  refine ⟨hrok,⟨flat_len hrok,.inr ⟨g,cap,cur',by rw [w2];simp,Nat.zero_le _,setB_same w3.lt _ _,by simpa using w4,w5,?_,?_⟩⟩,r3⟩
  ·rw [hcur',hC'];simp only [List.size_toArray,List.length_append,hsl,hAl];have:=congrArg List.length hC;simp only [List.length_append,hAl] at this;have hrl:=(r1 row hrow).1;rw [Array.length_toList] at this;omega
  rw [set_flat r1 hr hsl,List.length_set,hcur',hC',←hA,←hB]
  have:A++(splV row off vals++(B++D))=(A++splV row off vals++B)++D:=by simp
  rw [this]
  have hl2:(A++splV row off vals++B).length=rows.length*sz:=by
   have h3:=congrArg List.length hflat
   simp only [List.length_append,hsl,hAl,(r1 row hrow).1,flat_len r1] at h3 ⊢
   omega
  rw [←hl2,List.take_left']
  rfl
 have hob:ownB (E b)=some g:=by rw [w2];rfl
 exact ⟨Sat.set (x:=.own e sz rows) rfl rfl hy' hF (fun k hk=>.inl (setB_other (fun e=>hk (by rw [hob,e])) _ _)) S hb,⟨by simpa [setB] using K.size,fun k hk=>(hF k hk).trans (K.same k hk),K.lt⟩⟩
theorem foldl_pushI (ns:List Int):∀(r:ByteArray),ns.foldl (fun r (n:Int)=>r.push (UInt8.ofNat n.toNat)) r=⟨r.data++(ns.map fun (i:Int)=>UInt8.ofNat i.toNat).toArray⟩:=by
 induction ns with
 |nil=>intro r;simp
 |cons q ns ih=>
  intro r
  simp only [List.foldl_cons,ih]
  apply ByteArray.ext
  apply Array.ext'
  simp [ByteArray.push]
theorem byteRows_flat (is:List Int):(byteRows is).flatten=is.map (Value.int .u8):=by
 induction is with
 |nil=>rfl
 |cons i is ih=>simp only [byteRows,List.map_cons,List.flatten_cons,List.singleton_append] at ih ⊢;rw [ih]
theorem okS_bytes (T:Tab P) {t t2 e sz b:Nat} {x:Operand} {is:List Int} (ho:o.op=.convert t t2 x) (hx:evS l x=some (.buf b)) (hu:lookU T.und t=some (.slice e sz)) (he:lookU T.und e=some (.int .u8)) (ht2:lookU T.und t2=some .str)
  (hr:rowsAt H b=some (1,byteRows is)):EffL P n F h0 l H o (.v (.string (strI is))) H:=fun E h S K=>by
 refine Eff.toS S K ?_
 obtain ⟨h1,ad,cap,h2,h3⟩:=S.rowsAt hr
 have hx':=ev_gF (E:=E) hx
 simp only [SV.g] at hx'
 rw [h2] at hx'
 refine Eff.of_val1 fun a w ha hh=>⟨w,?_,Like.refl w,hh⟩
 have hlen:(byteRows is).length=is.length:=by simp [byteRows]
 have h4:=run_convert_bytes_string (P:=P) w t t2 e ad (byteRows is).length cap (T.okU.look hu).1 (T.okU.look he) (T.okU.look ht2)
 rcases h3 with h3|⟨g,oo,rfl,h5⟩
 ·have:is=[]:=by cases is with
   |nil=>rfl
   |cons=>simp [byteRows] at h3
  subst this
  have h0:(byteRows []).length=0:=rfl
  rw [h0] at h4 hx'
  have h6:(Conv.bytesToString (.slice ad 0 cap)).run P w=.ok (.string ByteArray.empty) w:=by
   cases ad with
   |none=>simp [Conv.bytesToString]
   |some ad=>
    have hl:=run_loadCells_list (P:=P) w ad [] (fun j v hj=>by simp at hj)
    simpa using run_bytesToString (P:=P) w ad 0 cap [] hl
  have e3:(ByteArray.empty:ByteArray)=strI []:=rfl
  rw [e3] at h6
  simp [execOp,ho,ha.ev hx',h4,h6,SV.g]
 rw [byteRows_flat] at h5
 have hl:=run_loadCells_list (P:=P) w ⟨g,oo,none⟩ (is.map (Value.int .u8)) (fun j u hu=>by rw [add_none];exact cell_of (hh▸h5 j u hu))
 rw [List.length_map] at hl
 have h6:=run_bytesToString (P:=P) w ⟨g,oo,none⟩ (byteRows is).length cap is (by rw [hlen];exact hl)
 rw [foldl_pushI] at h6
 have e3:(⟨ByteArray.empty.data++(is.map fun (i:Int)=>UInt8.ofNat i.toNat).toArray⟩:ByteArray)=strI is:=by
  apply ByteArray.ext;apply Array.ext';simp [strI]
 rw [e3] at h6
 simp [execOp,ho,ha.ev hx',h4,h6,SV.g]
/-! structs compared -/
theorem aggCells_of (E:Env) {x:SV} {cs:List SV} (h:aggCells x=some cs):x.g E=.agg (SV.gs E cs).toArray:=by
 cases x with
 |agg c=>simp only [aggCells,Option.some.injEq] at h;subst h;rfl
 |v y=>cases y<;>simp only [aggCells] at h<;>first|(cases h;done)|(simp only [Option.some.injEq] at h;subst h;simp [SV.g,gs_toV])
 |_=>simp [aggCells] at h
theorem eqCell_run (E:Env) {k:Nat} {x y:SV} {D:DP} (he:eqCell k x y=some D) {t:TypeId} (hk:eqKindB P t k=true) (d:Nat) (w:World):
  (isAgg t).run P w=.ok false w∧(Op.equalIn (d+1) t (x.g E) (y.g E)).run P w=.ok (@decide D.p D.d) w:=by
 unfold eqKindB at hk
 split at hk
 ·rename_i ht
  have:=Nat.eq_of_beq_eq_true hk
  subst this
  simp only [eqCell] at he
  split at he
  ·split at he
   ·simp only [Option.some.injEq] at he
    subst he
    refine ⟨by simp [isAgg,run_underlying ht],?_⟩
    simp only [SV.g]
    rw [run_equalIn_bool' w d t _ _ ht]
    rename_i a _ b
    cases a<;>cases b<;>rfl
   cases he
  cases he
 ·rename_i ht
  have:=Nat.eq_of_beq_eq_true hk
  subst this
  simp only [eqCell] at he
  split at he
  ·split at he
   ·split at he
    ·rename_i hs
     obtain rfl:=same_eq hs
     simp only [Option.some.injEq] at he
     subst he
     refine ⟨by simp [isAgg,run_underlying ht],?_⟩
     simp only [SV.g]
     rw [run_equalIn_int w d t _ _ _ _ ht]
     rename_i a _ b _
     by_cases h:a=b<;>simp [h]
    cases he
   cases he
  cases he
 ·rename_i ht
  have:=Nat.eq_of_beq_eq_true hk
  subst this
  simp only [eqCell] at he
  split at he
  ·split at he
   ·simp only [Option.some.injEq] at he
    subst he
    refine ⟨by simp [isAgg,run_underlying ht],?_⟩
    simp only [SV.g]
    rw [run_equalIn_string w d t _ _ ht,ba_eq]
   cases he
  cases he
 cases hk
def DP.b (D:DP):Bool:=@decide D.p D.d
def eqL:List Nat→List SV→List SV→Option Bool
 | [],[],[]=>some true
 |k::ks,x::xs,y::ys=>match eqCell k x y with
  |some D=>match eqL ks xs ys with
   |some b=>some (D.b&&b)
   |none=>none
  |none=>none
 |_,_,_=>none
theorem eqL_of:∀ {ks:List Nat} {xs ys:List SV} {D:DP},eqCells ks xs ys=some D→eqL ks xs ys=some D.b
 | [],[],[],D,h=>by simp only [eqCells,Option.some.injEq] at h;subst h;rfl
 | [],[],_::_,_,h=>by simp [eqCells] at h
 | [],_::_,_,_,h=>by simp [eqCells] at h
 |_::_,[],_,_,h=>by simp [eqCells] at h
 |_::_,_::_,[],_,h=>by simp [eqCells] at h
 |k::ks,x::xs,y::ys,D,h=>by
  simp only [eqCells] at h
  simp only [eqL]
  cases hc:eqCell k x y with
  |none=>simp [hc] at h
  |some C=>
   obtain ⟨p,ip⟩:=C
   simp only [hc] at h ⊢
   cases ks with
   |nil=>
    cases xs with
    |cons=>simp at h
    |nil=>
     cases ys with
     |cons=>simp at h
     |nil=>
      simp only [Option.some.injEq] at h
      subst h
      simp [eqL]
   |cons k' ks'=>
    simp only at h
    cases hr:eqCells (k'::ks') xs ys with
    |none=>simp [hr] at h
    |some R=>
     obtain ⟨q,iq⟩:=R
     simp only [hr,Option.some.injEq] at h
     subst h
     rw [eqL_of hr]
     simp only [DP.b,Option.some.injEq]
     by_cases hp:p<;>by_cases hq:q<;>simp [hp,hq]
theorem eqL_len:∀ {ks:List Nat} {xs ys:List SV} {b:Bool},eqL ks xs ys=some b→xs.length=ks.length∧ys.length=ks.length
 | [],[],[],_,_=>⟨rfl,rfl⟩
 | [],[],_::_,_,h=>by simp [eqL] at h
 | [],_::_,_,_,h=>by simp [eqL] at h
 |_::_,[],_,_,h=>by simp [eqL] at h
 |_::_,_::_,[],_,h=>by simp [eqL] at h
 |k::ks,x::xs,y::ys,b,h=>by
  simp only [eqL] at h
  cases hc:eqCell k x y with
  |none=>simp [hc] at h
  |some C=>
   cases hr:eqL ks xs ys with
   |none=>simp [hc,hr] at h
   |some q=>
    have:=eqL_len hr
    simp [this.1,this.2]
theorem eqL_split:∀ {k1 k2:List Nat} {xs ys:List SV} {b:Bool},eqL (k1++k2) xs ys=some b → ∃x1 x2 y1 y2 b1 b2,xs=x1++x2∧ys=y1++y2∧eqL k1 x1 y1=some b1∧eqL k2 x2 y2=some b2∧b=(b1&&b2)
 | [],k2,xs,ys,b,h=>⟨[],xs,[],ys,true,b,rfl,rfl,rfl,h,by simp⟩
 |k::k1,k2,[],_,_,h=>by simp [eqL] at h
 |k::k1,k2,_::_,[],_,h=>by simp [eqL] at h
 |k::k1,k2,x::xs,y::ys,b,h=>by
  simp only [List.cons_append,eqL] at h
  cases hc:eqCell k x y with
  |none=>simp [hc] at h
  |some C=>
   cases hr:eqL (k1++k2) xs ys with
   |none=>simp [hc,hr] at h
   |some q=>
    simp only [hc,hr,Option.some.injEq] at h
    subst h
    obtain ⟨x1,x2,y1,y2,b1,b2,rfl,rfl,h1,h2,rfl⟩:=eqL_split hr
    refine ⟨x::x1,x2,y::y1,y2,C.b&&b1,b2,rfl,rfl,?_,h2,by simp [Bool.and_assoc]⟩
    simp only [eqL,hc,h1]
def vT (E:Env) (agg:Bool) (xs:List SV):Value:=match agg with
 |true=>.agg (SV.gs E xs).toArray
 |false=>match xs with
  |x::_=>x.g E
  | []=>undef
def EqTo (P:Program) (E:Env) (d:Nat) (t:TypeId) (kt:List Nat):Prop:=
 ∀(m:Nat) (w:World) (xs ys:List SV) (b:Bool),eqL kt xs ys=some b →
  (isAgg t).run P w=.ok (aggT P t) w∧(aggT P t=false→kt.length=1)∧(Op.equalIn (m+d+1) t (vT E (aggT P t) xs) (vT E (aggT P t) ys)).run P w=.ok b w
theorem eqSB_run (E:Env) (d:Nat) {t:TypeId} {ks r:List Nat} (h:eqSB P t ks=some r):∃kt,ks=kt++r∧EqTo P E d t kt:=by
 cases ks with
 |nil=>cases h
 |cons k ks=>
  simp only [eqSB] at h
  split at h
  ·rename_i hk
   cases h
   refine ⟨[k],rfl,fun m w xs ys b hb=>?_⟩
   have hag:aggT P t=false:=by
    unfold eqKindB at hk
    unfold aggT
    split at hk<;>first|(rename_i ht;rw [ht];done)|(rename_i ht;simp [ht])|cases hk
   match xs,ys,hb with
   | [x],[y],hb=>
    simp only [eqL] at hb
    cases hc:eqCell k x y with
    |none=>simp [hc] at hb
    |some D=>
     simp only [hc,Bool.and_true,Option.some.injEq] at hb
     subst hb
     obtain ⟨h1,h2⟩:=eqCell_run (P:=P) E hc hk (m+d) w
     rw [hag]
     exact ⟨h1,fun _=>rfl,h2⟩
   | [],[],hb=>simp [eqL] at hb
   | [],_::_,hb=>simp [eqL] at hb
   |_::_,[],hb=>simp [eqL] at hb
   |_::_::_,[_],hb=>have:=eqL_len hb;simp at this
   | [_],_::_::_,hb=>have:=eqL_len hb;simp at this
   |_::_::_,_::_::_,hb=>have:=eqL_len hb;simp at this
  cases h
theorem part_run (E:Env) {t:TypeId} {X x1 x2:List SV} {i:Nat} (hX:X.drop i=x1++x2) (hs:(P.info? t).map (·.size)=some x1.length) (w:World) (ha:(isAgg t).run P w=.ok (aggT P t) w) (h1:aggT P t=false→x1.length=1):
  (part t (SV.gs E X).toArray i).run P w=.ok (vT E (aggT P t) x1) w:=by
 simp only [part,Sem.run_bind,ha,Result.andThen_ok]
 cases hag:aggT P t with
 |true=>
  simp only [if_true,Sem.run_bind,run_sizeOf hs,Result.andThen_ok,Sem.run_pure,vT]
  congr 2
  have hl:i+x1.length≤X.length∨x1=[]:=by
   have:=congrArg List.length hX
   rw [List.length_drop,List.length_append] at this
   rcases Nat.lt_or_ge i X.length with h|h
   ·left;omega
   right;exact List.eq_nil_of_length_eq_zero (by omega)
  apply Array.ext'
  simp only [List.extract_toArray,List.extract_eq_take_drop]
  rw [←gs_drop,←gs_take,hX,show i+x1.length - i=x1.length by omega,List.take_left]
 |false=>
  simp only [Bool.false_eq_true,if_false]
  obtain ⟨x,rfl⟩:∃x,x1=[x]:=by
   have:=h1 hag
   match x1,this with
   | [x],_=>exact ⟨x,rfl⟩
  have hx:X[i]? = some x:=by
   have:=congrArg (·[0]?) hX
   simpa using this
  have:(SV.gs E X).toArray[i]? = some (x.g E):=by simp [gs_get,hx]
  simp [this,vT]
theorem eqFsB_run (E:Env) (d:Nat) (H:∀ {t:TypeId} {ks r:List Nat},eqTB P d t ks=some r → ∃kt,ks=kt++r∧EqTo P E d t kt):∀ {fs:List Field} {i:Nat} {ks r:List Nat},eqFsB P (eqTB P d) fs i ks=some r →
  ∃kt,ks=kt++r ∧ ∀(m:Nat) (w:World) (X Y xs ys X' Y':List SV) (b:Bool),eqL kt xs ys=some b→X.drop i=xs++X'→Y.drop i=ys++Y' →
   (Op.eqFields (m+d+1) (SV.gs E X).toArray (SV.gs E Y).toArray fs).run P w=.ok b w
 | [],i,ks,r,h=>by
  simp only [eqFsB,Option.some.injEq] at h
  subst h
  refine ⟨[],rfl,fun m w X Y xs ys X' Y' b hb _ _=>?_⟩
  match xs,ys,hb with
  | [],[],hb=>simp only [eqL,Option.some.injEq] at hb;subst hb;simp [Op.eqFields]
  | [],_::_,hb=>simp [eqL] at hb
  |_::_,[],hb=>simp [eqL] at hb
  |_::_,_::_,hb=>simp [eqL] at hb
 |f::fs,i,ks,r,h=>by
  simp only [eqFsB] at h
  split at h
  ·cases h
  rename_i hno
  simp only [Bool.and_eq_true,decide_eq_true_eq] at hno
  obtain ⟨n1,n2⟩:=hno
  split at h
  ·cases h
  rename_i r1 hr1
  split at h
  ·cases h
  rename_i hsz
  simp only [decide_eq_true_eq] at hsz
  obtain ⟨kt1,e1,T1⟩:=H hr1
  obtain ⟨kt2,e2,T2⟩:=eqFsB_run E d H h
  have hlen:ks.length - r1.length=kt1.length:=by rw [e1,List.length_append];omega
  rw [hlen] at hsz T2
  refine ⟨kt1++kt2,by rw [e1,e2,List.append_assoc],fun m w X Y xs ys X' Y' b hb hX hY=>?_⟩
  obtain ⟨x1,x2,y1,y2,b1,b2,rfl,rfl,q1,q2,rfl⟩:=eqL_split hb
  obtain ⟨l1,l2⟩:=eqL_len q1
  obtain ⟨a1,a2,a3⟩:=T1 m w x1 y1 b1 q1
  rw [List.append_assoc] at hX hY
  have p1:=part_run (P:=P) E hX (by rw [hsz,l1]) w a1 (fun e=>by rw [l1];exact a2 e)
  have p2:=part_run (P:=P) E hY (by rw [hsz,l2]) w a1 (fun e=>by rw [l2];exact a2 e)
  have hX2:X.drop (i+kt1.length)=x2++X':=by rw [←List.drop_drop,hX,←l1,List.drop_left]
  have hY2:Y.drop (i+kt1.length)=y2++Y':=by rw [←List.drop_drop,hY,←l2,List.drop_left]
  have rest:=T2 m w X Y x2 y2 X' Y' b2 q2 hX2 hY2
  rw [←n2] at p1 p2
  simp only [Op.eqFields,n1,ne_eq,not_false_eq_true,if_true,Sem.run_bind,p1,p2,a3,Result.andThen_ok]
  cases b1 with
  |true=>simp [rest]
  |false=>simp
theorem eqTB_run (E:Env):∀(d:Nat) {t:TypeId} {ks r:List Nat},eqTB P d t ks=some r → ∃kt,ks=kt++r∧EqTo P E d t kt
 |0,t,ks,r,h=>eqSB_run E 0 h
 |d+1,t,ks,r,h=>by
  simp only [eqTB] at h
  split at h
  ·rename_i fs ht
   split at h
   ·cases h
   rename_i hst
   obtain ⟨kt,e,T⟩:=eqFsB_run E d (fun h=>eqTB_run E d h) h
   have hag:aggT P t=true:=by unfold aggT;rw [ht]
   have hfo:P.fieldsOf t=fs:=by unfold Program.fieldsOf;rw [ht]
   refine ⟨kt,e,fun m w xs ys b hb=>⟨?_,(fun e=>(by rw [hag] at e;cases e)),?_⟩⟩
   ·rw [hag];simp [isAgg,run_underlying ht]
   rw [hag]
   simp only [vT]
   rw [show m+(d+1)+1=(m+d+1)+1 by omega,run_equalIn_agg w (m+d+1) t _ _ (by rw [hfo];exact ht) hst,hfo]
   exact T m w xs ys xs ys [] [] b hb (by simp) (by simp)
  exact eqSB_run E (d+1) h
theorem eqA_ok (T:Tab P) {bop:BinOp} {t yt:TypeId} {x y:Operand} {a b:SV} (ho:o.op=.binOp bop t x y yt) (hx:evS l x=some a) (hy:evS l y=some b):(eqA T bop t a b).ok P n F h0 nx l H o:=by
 unfold eqA
 split
 ·rename_i ks hks
  split
  ·rename_i xs hxs
   split
   ·rename_i ys hys
    split
    ·rename_i p i he
     have hok:=T.okE.look hks
     unfold eqOkB at hok
     simp only [Bool.and_eq_true,Bool.not_eq_true',decide_eq_true_eq] at hok
     obtain ⟨⟨h1,h2⟩,h3⟩:=hok
     have key:∀(E:Env) (w:World),(Op.equalIn 10000 t (.agg (SV.gs E xs).toArray) (.agg (SV.gs E ys).toArray)).run P w=.ok (@decide p i) w:=fun E w=>by
      obtain ⟨kt,e,T⟩:=eqTB_run (P:=P) E 8 h2
      rw [List.append_nil] at e
      subst e
      have:=(T 9991 w xs ys _ (eqL_of he)).2.2
      rw [h1] at this
      exact this
     split
     ·refine EffK.of_plain fun E h S K a' w ha=>?_
      have ex:=ha.ev (ev_gF (E:=E) hx)
      have ey:=ha.ev (ev_gF (E:=E) hy)
      rw [aggCells_of E hxs] at ex
      rw [aggCells_of E hys] at ey
      simp [execOp,ho,ex,ey,run_eqGuard_agg w .eql t x y _ _ h3,run_eql_struct,key E w,SV.g]
     ·refine EffK.of_plain fun E h S K a' w ha=>?_
      have ex:=ha.ev (ev_gF (E:=E) hx)
      have ey:=ha.ev (ev_gF (E:=E) hy)
      rw [aggCells_of E hxs] at ex
      rw [aggCells_of E hys] at ey
      simp [execOp,ho,ex,ey,run_eqGuard_agg w .neq t x y _ _ h3,run_neq_struct,key E w,SV.g]
     trivial
    trivial
   trivial
  trivial
 trivial
theorem okS_rem {t yt:TypeId} {x y:Operand} {m n' r:Int} (ho:o.op=.binOp .rem t x y yt) (hx:evS l x=some (.v (.int .i64 m))) (hy:evS l y=some (.v (.int .i64 n'))) (hr:RemV m n' r):EffK P n F h0 l H o (.v (.int .i64 r)) H:=
 EffK.of_plain fun E h S K a w ha=>by
  have h1:=ha.ev (ev_gF (E:=E) hx)
  have h2:=ha.ev (ev_gF (E:=E) hy)
  simp only [SV.g] at h1 h2
  simp [execOp,ho,h1,h2,eqGuard,binOp,Op.intDiv,hr.1,hr.2,SV.g]
end
end Go.Fw
