/- Texts of this seat, joined: The base of the symbolic walk: frames as lists of live slots, worlds modulo draws, one rule for each form of code. The sym -/
import Derived.Calls
import Derived.Defers
import Derived.Deep.Quiet
import Derived.WalkKit
import Derived.Laws.StructEq
import Derived.Laws.BytesString
import Derived.Laws.CopyRow
import Derived.Laws.AppendOwn
import Derived.Laws.MakeOwn
import Derived.StillTail
import Derived.Great.FillDense
import Derived.RangeFuncRecord
import Derived.OrdersHeld
import Derived.Below
import Derived.ChangeSame
import Derived.ChangeMaps5
import Derived.RowKit
import Derived.Recover
import Derived.Laws.Tables
set_option linter.unusedVariables false
set_option linter.unusedSimpArgs false
set_option maxRecDepth 100000
set_option maxHeartbeats 99999999
namespace Go.Fw
open Go
abbrev Fr:=List (Nat×Value)
def look:Fr->Nat->Option Value
 | [],_=>none
 |(s,v)::l,d=>match Nat.beq s d with
  |true=>some v
  |false=>look l d
structure bB (n:Nat) (l:Fr) (a:Act):Prop where
 size:a.tmps.size=n
 get:∀d v,look l d=some v->a.tmps[d]? = some v
def ev (l:Fr):Operand->Option Value
 | .tmp t=>look l t
 | .const v=>some v
 | .global g=>some (.pointer (some ⟨g,0,none⟩))
 | .func f=>some (.func (.func f) #[] #[])
theorem bB.ev {n:Nat} {l:Fr} {a:Act} (h:bB n l a) {x:Operand} {v:Value} (hx:ev l x=some v):a.eval x=v:=by
 cases x with
 |tmp t=>have:=h.get t v hx;simp [Act.eval,this]
 |const u=>simpa [Fw.ev,Act.eval] using hx
 |global g=>simpa [Fw.ev,Act.eval] using hx
 |func f=>simpa [Fw.ev,Act.eval] using hx
theorem bB.put {n:Nat} {l:Fr} {a:Act} (h:bB n l a) {d:Nat} (hd:d<n) (v:Value):bB n ((d,v)::l) (a.put (some d) v):=by
 refine ⟨by simp [Act.put,h.size],fun d' v' hv=>?_⟩;simp only [look] at hv;by_cases e:d=d'
 ·subst e
  simp at hv
  subst hv;simp only [Act.put];rw [Array.getElem?_setIfInBounds_self_of_lt (by rw [h.size];exact hd)]
 have:Nat.beq d d'=false:=by cases hb:Nat.beq d d' with|false=>rfl|true=>exact absurd (Nat.eq_of_beq_eq_true hb) e
 simp only [this] at hv;simp only [Act.put];rw [Array.getElem?_setIfInBounds_ne (by omega)];exact h.get _ _ hv
def Sub (l:Fr):Fr->Prop
 | []=>True
 |(s,v)::l'=>look l s=some v/\Sub l l'
theorem Sub.look {l l':Fr} (h:Sub l l') {d:Nat} {v:Value} (hv:look l' d=some v):Fw.look l d=some v:=by
 induction l' with
 |nil=>cases hv
 |cons p l' ih=>
  obtain ⟨s,u⟩:=p;simp only [Fw.look] at hv;by_cases e:s=d
  ·have:Nat.beq s d=true:=by simpa using e
   simp only [this,Option.some.injEq] at hv;subst hv e;exact h.1
  have:Nat.beq s d=false:=by cases hb:Nat.beq s d with|false=>rfl|true=>exact absurd (Nat.eq_of_beq_eq_true hb) e
  simp only [this] at hv;exact ih h.2 hv
theorem bB.sub {n:Nat} {l l':Fr} {a:Act} (h:bB n l a) (hs:Sub l l'):bB n l' a:=⟨h.size,fun _ _ hv=>h.get _ _ (hs.look hv)⟩
structure dC (w0 w:World):Prop where
 tape:w.tape=w0.tape
 os:w.os=w0.os
 output:w.output=w0.output
theorem dC.refl (w:World):dC w w:=⟨rfl,rfl,rfl⟩
theorem dC.trans {a b c:World} (h:dC a b) (k:dC b c):dC a c:=⟨k.tape.trans h.tape,k.os.trans h.os,k.output.trans h.output⟩
structure Ctx (P:Program) where
 Z:Machine->Prop
 back:∀m m',step P m=.next m'->Z m'->Z m
 fn:FuncId
 kind:CallKind
 round:Option Nat
 cs:List Frame
 w0:World
 n:Nat
def Ctx.fr {P:Program} (c:Ctx P) (a:Act) (st:List Item):Frame:=
 {fn:=c.fn,tmps:=a.tmps,todo:=st,defers:=a.defers,mode:=.run,kind:=c.kind,roundOf:=c.round}
def nth {α:Type}:List α->Nat->Option α
 | [],_=>none
 |x::_,0=>some x
 |_::l,n+1=>nth l n
theorem fW {α:Type} (l:List α) (n:Nat):nth l n=l[n]? :=by
 induction l generalizing n with
 |nil=>rfl
 |cons x l ih=>cases n with
  |zero=>rfl
  |succ n=>simpa [nth] using ih n
inductive SI where
 |code (c:Code)
 |inBlock (id:Nat)
 |inLoop (body:Code)
 |inScope (body:Code)
 |ops (all:Array Oper) (rest:List Oper)
 |item (i:Item)
 /-- where ways meet: nothing in the machine -/
 |mark
def SI.it:SI->Item
 | .code c=>.code c
 | .inBlock i=>.inBlock i
 | .inLoop b=>.inLoop b
 | .inScope b=>.inScope b
 | .ops all rest=>.inRegion all (List.range' (all.size - rest.length) rest.length)
 | .item i=>i
 | .mark=>.beginRound
def SI.wf:SI->Prop
 | .ops all rest=>rest.length<=all.size/\rest=all.toList.drop (all.size - rest.length)
 | .item (.inBlock _) | .item (.inScope _)=>False
 |_=>True
def its:List SI->List Item
 | []=>[]
 |x::k=>match x with
  | .mark=>its k
  |x=>x.it::its k
def aGZ (i:Nat):List SI->Option (List SI)
 | []=>none
 |x::k=>match x with
  | .inBlock j=>match Nat.beq j i with
   |true=>some k
   |false=>aGZ i k
  |_=>aGZ i k
def aFF (i:Nat):List SI->Option (List SI)
 | []=>none
 |x::k=>match x with
  | .inScope b=>match findLabel b i with
   |some r=>some (.code r::.inScope b::k)
   |none=>aFF i k
  |_=>aFF i k
theorem bCJ {i:Nat} {st st':List SI} (hw:∀s∈st,s.wf) (h:aGZ i st=some st'):exitTo i (its st)=some (its st') /\ ∀s∈st',s.wf:=by
 induction st with
 |nil=>cases h
 |cons x k ih=>
  have hk:∀s∈k,s.wf:=fun s hs=>hw s (List.mem_cons_of_mem _ hs);have hx:=hw x (List.mem_cons_self ..);simp only [aGZ] at h
  cases x with
  |inBlock j=>
   simp only at h
   cases hb:Nat.beq j i with
   |true=>
    have:=Nat.eq_of_beq_eq_true hb;subst this
    simp at h
    subst h;exact ⟨by simp [its,SI.it,exitTo],hk⟩
   |false=>
    have hne:(j==i)=false:=beq_eq_false_iff_ne.2 (fun e=>by subst e;simp at hb);simp only [hb] at h;simp only [its,SI.it,exitTo,hne];exact ih hk h
  |item it=>
   cases it<;>first|exact hx.elim|exact ih hk h
  |code=>exact ih hk h
  |inLoop=>exact ih hk h
  |inScope=>exact ih hk h
  |ops=>exact ih hk h
  |mark=>exact ih hk h
theorem bBE {i:Nat} {st st':List SI} (hw:∀s∈st,s.wf) (h:aFF i st=some st'):gotoIn i (its st)=some (its st') /\ ∀s∈st',s.wf:=by
 induction st with
 |nil=>cases h
 |cons x k ih=>
  have hk:∀s∈k,s.wf:=fun s hs=>hw s (List.mem_cons_of_mem _ hs);have hx:=hw x (List.mem_cons_self ..);simp only [aFF] at h
  cases x with
  |inScope b=>
   simp only at h
   cases hb:findLabel b i with
   |some r=>
    simp [hb] at h
    subst h;refine ⟨by simp [its,SI.it,gotoIn,hb],fun s hs=>?_⟩;rcases List.mem_cons.1 hs with rfl|hs
    ·trivial
    rcases List.mem_cons.1 hs with rfl|hs
    ·trivial
    exact hk s hs
   |none=>
    simp only [hb] at h;simp only [its,SI.it,gotoIn,hb];exact ih hk h
  |item it=>
   cases it<;>first|exact hx.elim|exact ih hk h
  |code=>exact ih hk h
  |inLoop=>exact ih hk h
  |inBlock=>exact ih hk h
  |ops=>exact ih hk h
  |mark=>exact ih hk h
def aD {P:Program} (c:Ctx P) (ds:List Deferred) (st:List SI) (l:Fr) (h:Array Obj):Prop:=
 (∀s∈st,s.wf) -> ∀(a:Act) (w:World),bB c.n l a->a.defers=ds->w.heap=h->dC c.w0 w->c.Z (lone (c.fr a (its st)) c.cs w)
theorem Ctx.eval {P:Program} (c:Ctx P) (a:Act) (st:List Item):(c.fr a st).eval=a.eval:=by
 funext x;cases x<;>rfl
section rules
variable {P:Program} {c:Ctx P} {ds:List Deferred} {k:List SI} {l:Fr} {h:Array Obj}
theorem aD.sub {st:List SI} {l':Fr} (hs:Sub l l') (hr:aD c ds st l' h):aD c ds st l h:=
 fun hwf a w ha hd hh hw=>hr hwf a w (ha.sub hs) hd hh hw
theorem aD.step {st st':List SI} (hs:∀a w,step P (lone (c.fr a (its st)) c.cs w)=.next (lone (c.fr a (its st')) c.cs w)) (hwf:(∀s∈st,s.wf) -> ∀s∈st',s.wf) (hr:aD c ds st' l h):aD c ds st l h:=
 fun hw0 a w ha hd hh hw=>c.back _ _ (hs a w) (hr (hwf hw0) a w ha hd hh hw)
theorem bQ {x:SI} {k:List SI} (h:∀s∈x::k,s.wf):∀s∈k,s.wf:=fun s hs=>h s (List.mem_cons_of_mem _ hs)
theorem cA {x:SI} {k:List SI} (hx:x.wf) (h:∀s∈k,s.wf):∀s∈x::k,s.wf:=fun s hs=>by
 rcases List.mem_cons.1 hs with rfl|hs
 ·exact hx
 exact h s hs
theorem aD.skip (hr:aD c ds k l h):aD c ds (.code .skip::k) l h:=
 aD.step (fun _ _=>step_lone_go (by simp [its,SI.it,stepG,stepG.exec,Ctx.fr])) bQ hr
theorem aD.label {i:Nat} (hr:aD c ds k l h):aD c ds (.code (.label i)::k) l h:=
 aD.step (fun _ _=>step_lone_go (by simp [its,SI.it,stepG,stepG.exec,Ctx.fr])) bQ hr
theorem aD.inBlock {i:Nat} (hr:aD c ds k l h):aD c ds (.inBlock i::k) l h:=
 aD.step (fun _ _=>step_lone_go (by simp [its,SI.it,stepG,stepG.exec,Ctx.fr])) bQ hr
theorem aD.inScope {x:Code} (hr:aD c ds k l h):aD c ds (.inScope x::k) l h:=
 aD.step (fun _ _=>step_lone_go (by simp [its,SI.it,stepG,stepG.exec,Ctx.fr])) bQ hr
theorem aD.seq {x y:Code} (hr:aD c ds (.code x::.code y::k) l h):aD c ds (.code (.seq x y)::k) l h:=
 aD.step (fun _ _=>step_lone_go (by simp [its,SI.it,stepG,stepG.exec,Ctx.fr])) (by exact fun hw=>cA trivial (cA trivial (bQ hw))) hr
theorem aD.block {i:Nat} {x:Code} (hr:aD c ds (.code x::.inBlock i::k) l h):aD c ds (.code (.block i x)::k) l h:=
 aD.step (fun _ _=>step_lone_go (by simp [its,SI.it,stepG,stepG.exec,Ctx.fr])) (by exact fun hw=>cA trivial (cA trivial (bQ hw))) hr
theorem aD.scope {x:Code} (hr:aD c ds (.code x::.inScope x::k) l h):aD c ds (.code (.scope x)::k) l h:=
 aD.step (fun _ _=>step_lone_go (by simp [its,SI.it,stepG,stepG.exec,Ctx.fr])) (by exact fun hw=>cA trivial (cA trivial (bQ hw))) hr
theorem aD.loop1 {x:Code} (hr:aD c ds (.code x::.inLoop x::k) l h):aD c ds (.code (.loop x)::k) l h:=
 aD.step (fun _ _=>step_lone_go (by simp [its,SI.it,stepG,stepG.exec,Ctx.fr])) (by exact fun hw=>cA trivial (cA trivial (bQ hw))) hr
theorem aD.inLoop {x:Code} (hr:aD c ds (.code x::.inLoop x::k) l h):aD c ds (.inLoop x::k) l h:=
 aD.step (fun _ _=>step_lone_go (by simp [its,SI.it,stepG,stepG.exec,Ctx.fr])) (by exact fun hw=>cA trivial (cA trivial (bQ hw))) hr
theorem aD.exit {i:Nat} {k':List SI} (he:aGZ i k=some k') (hr:aD c ds k' l h):aD c ds (.code (.exit i)::k) l h:=by
 intro hwf a w ha hd hh hw;obtain ⟨h1,h2⟩:=bCJ (bQ hwf) he;refine c.back _ _ (step_lone_go ?_) (hr h2 a w ha hd hh hw)
 simp [its,SI.it,stepG,stepG.exec,Ctx.fr,h1]
theorem aD.goto {i:Nat} {k':List SI} (he:aFF i k=some k') (hr:aD c ds k' l h):aD c ds (.code (.goto i)::k) l h:=by
 intro hwf a w ha hd hh hw;obtain ⟨h1,h2⟩:=bBE (bQ hwf) he;refine c.back _ _ (step_lone_go ?_) (hr h2 a w ha hd hh hw)
 simp [its,SI.it,stepG,stepG.exec,Ctx.fr,h1]
theorem aD.region {i:Nat} {ops:Array Oper} (hr:aD c ds (.ops ops ops.toList::k) l h):aD c ds (.code (.region i ops false)::k) l h:=
 aD.step (fun _ _=>step_lone_go (by simp [its,SI.it,stepG,stepG.exec,Ctx.fr,List.range_eq_range'])) (by exact fun hw=>cA (by simp [SI.wf]) (bQ hw)) hr
theorem aD.regionEnd {ops:Array Oper} (hr:aD c ds k l h):aD c ds (.ops ops []::k) l h:=
 aD.step (fun _ _=>step_lone_go (by simp [its,SI.it,stepG,stepG.exec,Ctx.fr])) bQ hr
theorem aD.cond {x:Operand} {y z:Code} {b:Bool} (hx:ev l x=some (.bool b)) (hr:aD c ds (.code (if b then y else z)::k) l h):aD c ds (.code (.cond x y z)::k) l h:=by
 intro hwf a w ha hd hh hw;refine c.back _ _ (step_lone_go ?_) (hr (cA trivial (bQ hwf)) a w ha hd hh hw);have he:=c.eval a (its (.code (.cond x y z)::k));simp only [Ctx.fr,its,SI.it] at he
 simp [its,SI.it,stepG,stepG.exec,Ctx.fr,he,ha.ev hx]
theorem aD.mark (hr:aD c ds k l h):aD c ds (.mark::k) l h:=
 fun hwf a w ha hd hh hw=>hr (bQ hwf) a w ha hd hh hw
theorem aD.loop {x:Code} {X:Type} (L:X->Fr) (J:X->Array Obj->Prop) (μ:X->Nat) (x0:X) (h0:J x0 h) (hs:Sub l (L x0))
  (round:∀x0 h,J x0 h->(∀x' h' l',J x' h'->μ x'<μ x0->Sub l' (L x')->aD c ds (.inLoop x::k) l' h')->aD c ds (.code x::.inLoop x::k) (L x0) h):
  aD c ds (.code (.loop x)::k) l h:=by
 refine aD.loop1 (aD.sub hs ?_);have key:∀m x0 h,μ x0=m->J x0 h->aD c ds (.code x::.inLoop x::k) (L x0) h:=by
  intro m
  induction m using Nat.strongRecOn with
  |_ m ih=>
   intro x0 h hm hJ;exact round x0 h hJ fun x' h' l' hJ' hlt hs'=>aD.inLoop (aD.sub hs' (ih (μ x') (hm▸hlt) x' h' rfl hJ'))
 exact key _ x0 h rfl h0
/-! one operation -/
def dG (l:Fr) (ops:Array Oper) (o:Oper):Option Bool:=
 match o.guard with
 |none=>some true
 |some (j,want)=>match nth ops.toList j with
  |none=>none
  |some oj=>match oj.dst with
   |none=>none
   |some d=>match look l d with
    |some (.bool b)=>match b with
     |true=>match want with
      |true=>some true
      |false=>some false
     |false=>match want with
      |true=>some false
      |false=>some true
    |some (.tuple _)=>some false
    |_=>none
theorem bJ {n:Nat} {l:Fr} {a:Act} (ha:bB n l a) {ops:Array Oper} {o:Oper} {b:Bool} (hg:dG l ops o=some b):Region.wanted o (yielded ops a.tmps)=b:=by
 unfold dG at hg;unfold Region.wanted;split at hg
 ·rename_i hgn
  simp at hg
  simp [hgn,hg]
 rename_i j want hgn
 simp only [hgn,yielded];rw [fW,Array.getElem?_toList] at hg
 cases hj:ops[j]? with
 |none=>simp [hj] at hg
 |some oj=>
  simp only [hj] at hg
  cases hdd:oj.dst with
  |none=>simp [hdd] at hg
  |some d=>
   simp only [hdd] at hg
   cases hl:look l d with
   |none=>simp [hl] at hg
   |some v=>
    have hv:=ha.get d v hl;simp only [Option.bind_some,hdd,hv];simp only [hl] at hg
    cases v<;>(try simp at hg)<;>first
     |(rename_i b';cases b'<;>cases want<;>simp_all)
     |(subst hg;rfl)
theorem gU (all:Array Oper) (r:List Oper) (k:List SI):its (.ops all r::k)=(SI.ops all r).it::its k:=rfl
theorem iY {all:Array Oper} {o:Oper} {rest:List Oper} (hw:(SI.ops all (o::rest)).wf):
  ∃i,(SI.ops all (o::rest)).it=.inRegion all (i::List.range' (i+1) rest.length)/\(SI.ops all rest).it=.inRegion all (List.range' (i+1) rest.length)/\all[i]? = some o/\(SI.ops all rest).wf:=by
 obtain ⟨h1,h2⟩:=hw;simp only [List.length_cons] at h1 h2;have e:all.size - rest.length=all.size - (rest.length+1)+1:=by omega
 have ho:all[all.size - (rest.length+1)]? = some o:=by
  have:(all.toList.drop (all.size - (rest.length+1)))[0]? = some o:=by rw [<-h2];rfl
  simpa using this
 refine ⟨all.size - (rest.length+1),by simp [SI.it,List.range'_succ],by simp [SI.it,e],ho,by omega,?_⟩;have:rest=(all.toList.drop (all.size - (rest.length+1))).drop 1:=by rw [<-h2];rfl
 rw [this,List.drop_drop];simp only [List.length_drop,Array.length_toList]
 congr 1
 omega
theorem fC (a:Act) (all:Array Oper) (i:Nat) (todo:List Nat) (k:List Item) (v:Value):
  (c.fr a (.inRegion all (i::todo)::k)).finish v=c.fr (a.put ((all[i]?).bind (·.dst)) v) (.inRegion all todo::k):=by
 cases h:(all[i]?).bind (·.dst)<;>simp [Frame.finish,Ctx.fr,Act.put,h]
theorem aD.opSkip {all:Array Oper} {rest:List Oper} {o:Oper} {d:Nat} (hdst:o.dst=some d) (hdn:d<c.n) (hg:dG l all o=some false)
  (hr:aD c ds (.ops all rest::k) ((d,undef)::l) h):aD c ds (.ops all (o::rest)::k) l h:=by
 intro hwf a w ha hd hh hw;have hwn:=bJ ha hg;obtain ⟨i,e1,e2,ho,hwf'⟩:=iY (hwf _ (List.mem_cons_self ..));have hr':=hr (cA hwf' (bQ hwf)) _ w (ha.put hdn _) (by simpa [Act.put] using hd) hh hw;refine c.back _ _ (step_lone_go ?_) hr';simp only [gU,e1,e2];have hf:=fC (c:=c) a all i (List.range' (i+1) rest.length) (its k) undef;rw [ho] at hf;simp only [Option.bind_some,hdst] at hf;rw [<-hf];simp only [Ctx.fr] at *
 simp [stepG,stepG.exec,ho,hwn]
theorem iA {all:Array Oper} {i:Nat} {todo:List Nat} {k:List Item} {o:Oper} {a:Act} {w:World} (ho:all[i]? = some o) (hw:Region.wanted o (yielded all a.tmps)=true) (hnd:c.round=none \/ ∀cl,o.op ≠ .defer cl):
  stepG P true {frame:=c.fr a (.inRegion all (i::todo)::k),callers:=c.cs,status:=.running,dying:=none} w =
   stepG.apply P true (c.fr a (.inRegion all (i::todo)::k)) c.cs none (execOp a.eval o) w:=by
 have he:=c.eval a (.inRegion all (i::todo)::k);simp only [Ctx.fr] at he;simp only [stepG,stepG.exec,stepG.oper,Frame.oper?,Ctx.fr,ho,hw,Option.map_some,Option.getD_some,if_true,he];split
 ·rename_i hro heq
  rcases hnd with hnd|hnd
  ·simp [hnd] at hro
  exact absurd heq (hnd _)
 rfl
theorem aD.op {all:Array Oper} {rest:List Oper} {o:Oper} (hnd:c.round=none \/ ∀cl,o.op ≠ .defer cl) (hg:dG l all o=some true)
  (V:Value->Array Obj->Prop)
  (hrun:∀a w,bB c.n l a->w.heap=h->dC c.w0 w -> ∃v w',(execOp a.eval o).run P w=.ok (.value v) w'/\dC w w'/\V v w'.heap)
  {d:Nat} (hdst:o.dst=some d) (hdn:d<c.n)
  (hr:∀v h',V v h'->aD c ds (.ops all rest::k) ((d,v)::l) h'):aD c ds (.ops all (o::rest)::k) l h:=by
 intro hwf a w ha hd hh hw;have hwn:=bJ ha hg;obtain ⟨i,e1,e2,ho,hwf'⟩:=iY (hwf _ (List.mem_cons_self ..));obtain ⟨v,w',hrn,hlk,hV⟩:=hrun a w ha hh hw;have hr':=hr v _ hV (cA hwf' (bQ hwf)) _ w' (ha.put hdn _) (by simpa [Act.put] using hd) rfl (hw.trans hlk);refine c.back _ _ (step_lone_go ?_) hr';simp only [gU,e1,e2];have hf:=fC (c:=c) a all i (List.range' (i+1) rest.length) (its k) v;rw [ho] at hf;simp only [Option.bind_some,hdst] at hf;rw [<-hf,iA ho hwn hnd]
 simp [stepG.apply,hrn]
end rules
attribute [irreducible] aD

inductive UD where
 |int (k:IntKind)
 |bool
 |str
 |slice (e sz:Nat)
 |struct (fs:List (Nat×Nat×Bool))
 |map
 |ptr
 |func
 |iface
 |array (len e sz:Nat)
 |other
 deriving Inhabited
def aLU:TypeDesc->Bool
 | .struct _=>true
 | .array .. =>true
 |_=>false
def aTZ (P:Program) (f:Field) (x:Nat×Nat×Bool):Prop:=
 f.offset=x.1/\(P.info? f.type).map (·.size)=some x.2.1/\x.2.1≠0 /\ ∃d,P.underlying f.type=some d/\aLU d=x.2.2
def uP (P:Program):List Field->List (Nat×Nat×Bool)->Prop
 | [],[]=>True
 |f::fs,x::xs=>aTZ P f x/\uP P fs xs
 |_,_=>False
def UD.ok (P:Program) (t:Nat):UD->Prop
 | .int k=>P.underlying t=some (.int k)
 | .bool=>P.underlying t=some .bool
 | .str=>P.underlying t=some .string
 | .slice e sz=>P.underlying t=some (.slice e)/\(P.info? e).map (·.size)=some sz
 | .struct fs=>∃a,P.underlying t=some (.struct a)/\uP P a.toList fs
 | .map=>∃k e,P.underlying t=some (.map k e)
 | .ptr=>∃e,P.underlying t=some (.pointer e)
 | .func=>∃a b c,P.underlying t=some (.func a b c)
 | .iface=>∃ms,P.underlying t=some (.interface ms)
 | .array n e sz=>P.underlying t=some (.array n e)/\(P.info? e).map (·.size)=some sz
 | .other=>match P.underlying t with|some (.interface _)=>False|some _=>True|none=>False
def AllU (P:Program):List (Nat×UD)->Prop
 | []=>True
 |p::l=>p.2.ok P p.1/\AllU P l
def bC:List (Nat×UD)->Nat->Option UD
 | [],_=>none
 |(s,u)::l,d=>match Nat.beq s d with
  |true=>some u
  |false=>bC l d
theorem AllU.look {P:Program} {l:List (Nat×UD)} (h:AllU P l) {t:Nat} {u:UD} (hu:bC l t=some u):u.ok P t:=by
 induction l with
 |nil=>cases hu
 |cons p l ih=>
  obtain ⟨s,q⟩:=p;simp only [bC] at hu
  cases hb:Nat.beq s t with
  |true=>
   simp only [hb,Option.some.injEq] at hu;have:=Nat.eq_of_beq_eq_true hb;subst hu this;exact h.1
  |false=>simp only [hb] at hu;exact ih h.2 hu
structure Inf where
 zero:Value
 size:Nat
 bytes:Nat
def AllI (P:Program):List (Nat×Inf)->Prop
 | []=>True
 |p::l=>(P.info? p.1).map (fun i=>(i.zero,i.size,i.bytes))=some (some p.2.zero,p.2.size,p.2.bytes)/\AllI P l
def cT:List (Nat×Inf)->Nat->Option Inf
 | [],_=>none
 |(s,u)::l,d=>match Nat.beq s d with
  |true=>some u
  |false=>cT l d
theorem AllI.look {P:Program} {l:List (Nat×Inf)} (h:AllI P l) {t:Nat} {u:Inf} (hu:cT l t=some u):
  ∃i,P.info? t=some i/\i.zero=some u.zero/\i.size=u.size/\i.bytes=u.bytes:=by
 induction l with
 |nil=>cases hu
 |cons p l ih=>
  obtain ⟨s,q⟩:=p;simp only [cT] at hu
  cases hb:Nat.beq s t with
  |true=>
   simp only [hb,Option.some.injEq] at hu;have:=Nat.eq_of_beq_eq_true hb;subst hu this;have h1:=h.1
   cases hi:P.info? s with
   |none=>simp [hi] at h1
   |some i=>simp [hi] at h1;exact ⟨i,rfl,h1⟩
  |false=>simp only [hb] at hu;exact ih h.2 hu
def aEE (P:Program) (t:TypeId) (k:Nat):Bool:=
 match P.underlying t with
 |some .bool=>Nat.beq k 0
 |some (.int _)=>Nat.beq k 1
 |some .string=>Nat.beq k 2
 |_=>false
def eqSB (P:Program) (t:TypeId):List Nat->Option (List Nat)
 |k::r=>match aEE P t k with
  |true=>some r
  |false=>none
 | []=>none
def aPQ (P:Program) (g:TypeId->List Nat->Option (List Nat)):List Field->Nat->List Nat->Option (List Nat)
 | [],_,ks=>some ks
 |f::fs,i,ks=>match decide (f.name ≠ "_")&&decide (f.offset=i) with
  |false=>none
  |true=>match g f.type ks with
   |none=>none
   |some r=>match decide ((P.info? f.type).map (·.size)=some (ks.length - r.length)) with
    |false=>none
    |true=>aPQ P g fs (i+(ks.length - r.length)) r
def eqTB (P:Program):Nat->TypeId->List Nat->Option (List Nat)
 |0,t,ks=>eqSB P t ks
 |d+1,t,ks=>match P.underlying t with
  |some (.struct fs)=>match P.stoodInHeld t with
   |true=>none
   |false=>aPQ P (eqTB P d) fs.toList 0 ks
  |_=>eqSB P t ks
def aCF (P:Program) (t:TypeId):Bool:=match P.underlying t with
 |some (.struct _)=>true
 |_=>false
def aTG (P:Program) (t:TypeId) (ks:List Nat):Bool:=aCF P t&&decide (eqTB P 8 t ks=some []) && !P.eqGuardType P.depth t
def AllE (P:Program):List (Nat×List Nat)->Prop
 | []=>True
 |p::l=>aTG P p.1 p.2=true/\AllE P l
def aUE:List (Nat×List Nat)->Nat->Option (List Nat)
 | [],_=>none
 |(s,u)::l,d=>match Nat.beq s d with
  |true=>some u
  |false=>aUE l d
theorem AllE.look {P:Program} {l:List (Nat×List Nat)} (h:AllE P l) {t:Nat} {ks:List Nat} (hu:aUE l t=some ks):aTG P t ks=true:=by
 induction l with
 |nil=>cases hu
 |cons p l ih=>
  obtain ⟨s,q⟩:=p;simp only [aUE] at hu
  cases hb:Nat.beq s t with
  |true=>
   simp only [hb,Option.some.injEq] at hu;have:=Nat.eq_of_beq_eq_true hb;subst this hu;exact h.1
  |false=>simp only [hb] at hu;exact ih h.2 hu
structure Tab (P:Program) where
 und:List (Nat×UD)
 okU:AllU P und
 inf:List (Nat×Inf)
 okI:AllI P inf
 eqs:List (Nat×List Nat)
 okE:AllE P eqs
 mixed:P.follows .mixedOrders=true
inductive Pu where
 |stop
 |val (v:Value)
 |ob (p:Prop) (v:Value)
 /-- a test: true where p holds -/
 |tst (p:Prop) (i:Decidable p)
 /-- a test: false where p holds -/
 |ntst (p:Prop) (i:Decidable p)
def aY (s:ByteArray) (i:Nat):Nat:=(s.data.toList.getD i 0).toNat
def same:IntKind->IntKind->Bool
 | .i8,.i8 | .i16,.i16 | .i32,.i32 | .i64,.i64 | .u8,.u8 | .u16,.u16 | .u32,.u32 | .u64,.u64=>true
 |_,_=>false
theorem aSS {a b:IntKind} (h:same a b=true):a=b:=by cases a<;>cases b<;>first|rfl|cases h
def dJ (k:IntKind) (x:Int):Pu:=
 match k with
 | .i64=>.ob (-9223372036854775808<=x/\x<=9223372036854775807) (.int .i64 x)
 | .u64=>.val (.int .u64 (x%18446744073709551616))
 | .u32=>.val (.int .u32 (x%4294967296))
 | .u16=>.val (.int .u16 (x%65536))
 | .u8=>.val (.int .u8 (x%256))
 |k=>.val (.int k (k.wrap x))
def quoI (k:IntKind) (x y:Int):Pu:=
 match k with
 | .i64=>.ob (0<=x/\0<y/\x<=9223372036854775807) (.int .i64 (x/y))
 | .u64=>.ob (0<=x/\0<y/\x<=18446744073709551615) (.int .u64 (x/y))
 | .u8=>.ob (0<=x/\0<y/\x<=255) (.int .u8 (x/y))
 |_=>.stop
def bitI (k:IntKind) (x y:Int) (f:Nat->Nat->Nat):Pu:=
 match k with
 | .u64=>.ob ((0<=x/\x<=18446744073709551615)/\0<=y/\y<=18446744073709551615) (.int .u64 (f x.toNat y.toNat:Nat))
 | .u8=>.ob ((0<=x/\x<=255)/\0<=y/\y<=255) (.int .u8 (f x.toNat y.toNat:Nat))
 |_=>.stop
def binI (op:BinOp) (k:IntKind) (x y:Int):Pu:=
 match op with
 | .add=>dJ k (x+y)
 | .sub=>dJ k (x - y)
 | .mul=>dJ k (x*y)
 | .quo=>quoI k x y
 | .rem=>.ob (0<=x/\0<y) (.int k (x%y))
 | .eql=>.tst (x=y) inferInstance
 | .neq=>.ntst (x=y) inferInstance
 | .lss=>.tst (x<y) inferInstance
 | .leq=>.tst (x<=y) inferInstance
 | .gtr=>.tst (y<x) inferInstance
 | .geq=>.tst (y<=x) inferInstance
 | .and=>bitI k x y (fun a b=>a&&&b)
 | .or=>bitI k x y (fun a b=>a|||b)
 | .xor=>bitI k x y (fun a b=>a ^^^ b)
 |_=>.stop
def shI (op:BinOp) (k:IntKind) (x y:Int):Pu:=
 match op with
 | .shl=>match k with
  | .u64=>.ob (0<=y/\y<=64) (.int .u64 (x*2^y.toNat%18446744073709551616))
  | .i64=>.ob ((0<=y/\y<=64) /\ -9223372036854775808<=x*2^y.toNat/\x*2^y.toNat<=9223372036854775807) (.int .i64 (x*2^y.toNat))
  |_=>.stop
 | .shr=>match k with
  | .u64=>.ob (0<=y/\y<=64) (.int .u64 (x/2^y.toNat))
  | .i64=>.ob (0<=y/\y<=64) (.int .i64 (x/2^y.toNat))
  |_=>.stop
 |_=>.stop
def shP (op:BinOp) (k:IntKind) (x p:Int):Pu:=
 match op with
 | .shl=>dJ k (x*p)
 | .shr=>.val (.int k (x/p))
 |_=>.stop
def shC (op:BinOp) (k:IntKind) (x:Int) (s:Nat):Pu:=
 match Nat.ble s k.bits with
 |true=>match s with
  |1=>shP op k x 2
  |8=>shP op k x 256
  |16=>shP op k x 65536
  |32=>shP op k x 4294967296
  |58=>shP op k x 288230376151711744
  |s=>shP op k x (2^s)
 |false=>.stop
def aFS:Operand->Option Nat
 | .const v=>match v with
  | .int _ n=>match n with
   | .ofNat s=>some s
   |_=>none
  |_=>none
 |_=>none
def isSh:BinOp->Bool
 | .shl | .shr=>true
 |_=>false
def binS (op:BinOp) (x y:ByteArray):Pu:=
 match op with
 | .add=>.ob (x.size+y.size<=9223372036854775807) (.string (x++y))
 | .eql=>.tst (x=y) inferInstance
 | .neq=>.ntst (x=y) inferInstance
 | .lss=>.val (.bool (Op.bytesLess x.toList y.toList))
 |_=>.stop
def binB (op:BinOp) (x y:Bool):Pu:=
 match op with
 | .eql=>.val (.bool (x==y))
 | .neq=>.val (.bool (!(x==y)))
 |_=>.stop
def aBX (op:BinOp) (b:Bool):Pu:=
 match op with
 | .eql=>.val (.bool b)
 | .neq=>.val (.bool (!b))
 |_=>.stop
def binN (op:BinOp) (u:UD) (a b:Value):Pu:=
 match a with
 | .slice x _ _=>match b with
  | .slice y _ _=>match u with
   | .slice _ _=>match x with
    |none=>match y with
     |none=>aBX op true
     |some _=>aBX op false
    |some _=>match y with
     |none=>aBX op false
     |some _=>.stop
   |_=>.stop
  |_=>.stop
 | .pointer x=>match b with
  | .pointer y=>match u with
   | .ptr=>match x with
    |none=>match y with
     |none=>aBX op true
     |some _=>aBX op false
    |some _=>match y with
     |none=>aBX op false
     |some _=>.stop
   |_=>.stop
  |_=>.stop
 | .iface _ _=>match b with
  | .nilIface=>match u with
   | .iface=>aBX op false
   |_=>.stop
  |_=>.stop
 | .map x=>match b with
  | .map y=>match u with
   | .map=>match x with
    |none=>match y with
     |none=>aBX op true
     |some _=>aBX op false
    |some _=>match y with
     |none=>aBX op false
     |some _=>.stop
   |_=>.stop
  |_=>.stop
 |_=>.stop
def bin {P:Program} (T:Tab P) (op:BinOp) (t:TypeId) (a b:Value):Pu:=
 match a with
 | .int k x=>match b with
  | .int k' y=>match isSh op with
   |true=>shI op k x y
   |false=>match same k k' with
    |true=>binI op k x y
    |false=>.stop
  |_=>.stop
 | .string x=>match b with
  | .string y=>binS op x y
  |_=>.stop
 | .bool x=>match b with
  | .bool y=>match bC T.und t with
   |some .bool=>binB op x y
   |_=>.stop
  |_=>.stop
 |_=>match bC T.und t with
  |some u=>binN op u a b
  |none=>.stop
def un (op:UnOp) (a:Value):Pu:=
 match op with
 | .not=>match a with
  | .bool b=>.val (.bool (!b))
  |_=>.stop
 | .neg=>match a with
  | .int k n=>dJ k (0 - n)
  |_=>.stop
 |_=>.stop
def conv {P:Program} (T:Tab P) (src dst:TypeId) (a:Value):Pu:=
 match bC T.und src with
 |some (.int _)=>match bC T.und dst with
  |some (.int k)=>match a with
   | .int _ n=>dJ k n
   |_=>.stop
  |_=>.stop
 |some .str=>match bC T.und dst with
  |some .str=>match a with
   | .string s=>.val (.string s)
   |_=>.stop
  |_=>.stop
 |_=>.stop
def lenP {P:Program} (T:Tab P) (t:TypeId) (a:Value):Pu:=
 match bC T.und t with
 |some .str=>match a with
  | .string s=>.val (.int .i64 s.size)
  |_=>.stop
 |some (.slice _ _)=>match a with
  | .slice _ n _=>.val (.int .i64 n)
  |_=>.stop
 |_=>.stop
def aLZ (isMax:Bool) (a b:Value):Pu:=
 match a with
 | .int k x=>match b with
  | .int _ y=>match isMax with
   |true=>.val (.int k (max x y))
   |false=>.val (.int k (min x y))
  |_=>.stop
 |_=>.stop
def aQF {P:Program} (T:Tab P) (t:TypeId) (a i:Value):Pu:=
 match bC T.und t with
 |some .str=>match a with
  | .string s=>match i with
   | .int _ n=>.ob (0<=n/\n<s.size) (.int .u8 (aY s n.toNat))
   |_=>.stop
  |_=>.stop
 |_=>.stop
def zD {P:Program} (T:Tab P) (t:TypeId) (a i:Value):Pu:=
 match bC T.und t with
 |some (.slice _ sz)=>match a with
  | .slice (some ⟨b,off,none⟩) len _=>match i with
   | .int _ n=>match Nat.beq sz 1 with
    |true=>.ob (0<=n/\n<len) (.pointer (some ⟨b,off+n.toNat,none⟩))
    |false=>.ob (0<=n/\n<len) (.pointer (some ⟨b,off+n.toNat*sz,none⟩))
   |_=>.stop
  |_=>.stop
 |some (.array len _ sz)=>match a with
  | .pointer (some ⟨b,off,none⟩)=>match i with
   | .int _ n=>match Nat.beq sz 1 with
    |true=>.ob (0<=n/\n<len) (.pointer (some ⟨b,off+n.toNat,none⟩))
    |false=>.ob (0<=n/\n<len) (.pointer (some ⟨b,off+n.toNat*sz,none⟩))
   |_=>.stop
  |_=>.stop
 |_=>.stop
def cutV {P:Program} (T:Tab P) (t:TypeId) (a:Value) (lo hi:Option (Option Value)):Pu:=
 match bC T.und t with
 |some .str=>match a with
  | .string s=>match lo with
   |none=>match hi with
    |some (some (.int _ j))=>.ob (0<=j/\j<=s.size) (.string (s.extract 0 j.toNat))
    |_=>.stop
   |some (some (.int _ i))=>match hi with
    |some (some (.int _ j))=>.ob (0<=i/\i<=j/\j<=s.size) (.string (s.extract i.toNat j.toNat))
    |none=>.ob (0<=i/\i<=s.size) (.string (s.extract i.toNat s.size))
    |_=>.stop
   |_=>.stop
  |_=>.stop
 |some (.slice _ _)=>match a with
  | .slice ad _ cap=>match lo with
   |none=>match hi with
    |some (some (.int _ j))=>.ob (0<=j/\j<=cap) (.slice ad j.toNat cap)
    |_=>.stop
   |_=>.stop
  |_=>.stop
 |_=>.stop
def aLV {P:Program} (T:Tab P) (t:TypeId) (a:Value) (f:Nat):Pu:=
 match bC T.und t with
 |some (.struct fs)=>match a with
  | .pointer (some ⟨b,off,none⟩)=>match nth fs f with
   |some (o,_,_)=>match o with
    |0=>.val (.pointer (some ⟨b,off,none⟩))
    |o+1=>.val (.pointer (some ⟨b,off+(o+1),none⟩))
   |none=>.stop
  |_=>.stop
 |_=>.stop
def uF {P:Program} (T:Tab P) (t:TypeId) (a:Value) (f:Nat):Pu:=
 match bC T.und t with
 |some (.struct fs)=>match a with
  | .agg cs=>match nth fs f with
   |some (o,_,false)=>match nth cs.toList o with
    |some v=>.val v
    |none=>.stop
   |some (o,n,true)=>.val (.agg ((cs.toList.drop o).take n).toArray)
   |_=>.stop
  |_=>.stop
 |_=>.stop
def kI (l:Fr):List Operand->Option (List Value)
 | []=>some []
 |x::xs=>match ev l x with
  |some v=>match kI l xs with
   |some vs=>some (v::vs)
   |none=>none
  |none=>none
theorem kS {n:Nat} {l:Fr} {a:Act} (ha:bB n l a):∀ {xs:List Operand} {vs:List Value},kI l xs=some vs->xs.map a.eval=vs:=by
 intro xs
 induction xs with
 |nil=>intro vs h;simp [kI] at h;exact h▸rfl
 |cons x xs ih=>
  intro vs h;simp only [kI] at h
  cases hx:ev l x with
  |none=>simp [hx] at h
  |some v=>
   cases hxs:kI l xs with
   |none=>simp [hx,hxs] at h
   |some us=>simp [hx,hxs] at h;subst h;simp [ha.ev hx,ih hxs]
def ev1 {P:Program} (T:Tab P) (l:Fr) (op:Op):Pu:=
 match op with
 | .move x=>match ev l x with
  |some v=>.val v
  |none=>.stop
 | .assign x=>match ev l x with
  |some v=>.val v
  |none=>.stop
 | .pick c a b=>match ev l c with
  |some (.bool true)=>match ev l a with
   |some v=>.val v
   |none=>.stop
  |some (.bool false)=>match ev l b with
   |some v=>.val v
   |none=>.stop
  |_=>.stop
 | .extract t i=>match ev l t with
  |some (.tuple vs)=>match nth vs.toList i with
   |some v=>.val v
   |none=>.stop
  |_=>.stop
 | .binOp op t x y _=>match ev l x with
  |some a=>match isSh op with
   |true=>match aFS y with
    |some s=>match a with
     | .int k n=>shC op k n s
     |_=>.stop
    |none=>match ev l y with
     |some b=>bin T op t a b
     |none=>.stop
   |false=>match ev l y with
    |some b=>bin T op t a b
    |none=>.stop
  |none=>.stop
 | .unOp op _ x=>match ev l x with
  |some a=>un op a
  |none=>.stop
 | .convert src dst x=>match ev l x with
  |some a=>conv T src dst a
  |none=>.stop
 | .index t x i=>match ev l x with
  |some a=>match ev l i with
   |some b=>aQF T t a b
   |none=>.stop
  |none=>.stop
 | .indexAddr t x i=>match ev l x with
  |some a=>match ev l i with
   |some b=>zD T t a b
   |none=>.stop
  |none=>.stop
 | .slice t x lo hi none=>match ev l x with
  |some a=>cutV T t a (lo.map (ev l)) (hi.map (ev l))
  |none=>.stop
 | .fieldAddr t x f=>match ev l x with
  |some a=>aLV T t a f
  |none=>.stop
 | .field t x f=>match ev l x with
  |some a=>uF T t a f
  |none=>.stop
 | .makeInterface t x=>match bC T.und t with
  |some .iface=>.stop
  |some _=>match ev l x with
   |some a=>.val (.iface t a)
   |none=>.stop
  |none=>.stop
 | .makeFunc fn first captured=>match kI l first.toList with
  |some vs=>match kI l captured.toList with
   |some us=>.val (.func fn vs.toArray us.toArray)
   |none=>.stop
  |none=>.stop
 | .nilCheck x=>match ev l x with
  |some (.pointer (some a))=>.val (.pointer (some a))
  |_=>.stop
 | .call c=>match c.callee with
  | .builtin .len=>match c.args.toList with
   | [x]=>match c.argTypes.toList with
    | [t]=>match ev l x with
     |some a=>lenP T t a
     |none=>.stop
    |_=>.stop
   |_=>.stop
  | .builtin .max=>match c.args.toList with
   | [x,y]=>match ev l x with
    |some a=>match ev l y with
     |some b=>aLZ true a b
     |none=>.stop
    |none=>.stop
   |_=>.stop
  | .builtin .min=>match c.args.toList with
   | [x,y]=>match ev l x with
    |some a=>match ev l y with
     |some b=>aLZ false a b
     |none=>.stop
    |none=>.stop
   |_=>.stop
  |_=>.stop
 |_=>.stop
/-! soundness -/
def Pu.ok (r:Pu) (G:Value->Prop):Prop:=
 match r with
 | .stop=>True
 | .val v=>G v
 | .ob p v=>p->G v
 | .tst p _=>G (.bool (decide p))
 | .ntst p _=>G (.bool (!decide p))
theorem aOG {x:Int} (h: -9223372036854775808<=x/\x<=9223372036854775807):IntKind.i64.wrap x=x:=by
 obtain ⟨h1,h2⟩:=h;have e1:((2:Int)^64)=18446744073709551616:=rfl;have e2:((2:Int)^(64 - 1))=9223372036854775808:=rfl;simp only [IntKind.wrap,IntKind.bits,IntKind.signed,Bool.true_and,decide_eq_true_eq,ge_iff_le,e1,e2];split<;>omega
theorem bCF (x:Int):IntKind.u64.wrap x=x%18446744073709551616/\IntKind.u32.wrap x=x%4294967296/\IntKind.u16.wrap x=x%65536/\IntKind.u8.wrap x=x%256:=by
 refine ⟨?_,?_,?_,?_⟩<;>simp [IntKind.wrap,IntKind.bits,IntKind.signed]
theorem wE (k:IntKind) (x:Int) (G:Value->Prop) (h:G (.int k (k.wrap x))):(dJ k x).ok G:=by
 obtain ⟨h1,h2,h3,h4⟩:=bCF x;cases k<;>simp only [dJ,Pu.ok]<;>first|exact h|exact fun hx=>by rw [aOG hx] at h;exact h|(rw [h1] at h;exact h)|(rw [h2] at h;exact h)|(rw [h3] at h;exact h)|(rw [h4] at h;exact h)
theorem wA (k:IntKind) (hk:k=.u64\/k=.u8) (x y:Int) (hx:0<=x/\x<=k.max) (hy:0<=y/\y<=k.max) (f:Nat->Nat->Nat) (g:BitVec k.bits->BitVec k.bits->BitVec k.bits)
  (hfg:∀a b,(g a b).toNat=f a.toNat b.toNat):k.wrap (g (BitVec.ofInt k.bits x) (BitVec.ofInt k.bits y)).toNat=(f x.toNat y.toNat:Nat):=by
 have e:∀z:Int,0<=z/\z<=k.max->(BitVec.ofInt k.bits z).toNat=z.toNat:=by
  intro z hz;rw [BitVec.toNat_ofInt];rcases hk with rfl|rfl<;>simp only [IntKind.max,IntKind.bits,IntKind.signed] at * <;> simp at hz ⊢ <;> omega
 have hlt:=(g (BitVec.ofInt k.bits x) (BitVec.ofInt k.bits y)).isLt;rw [hfg,e x hx,e y hy] at *;rcases hk with rfl|rfl<;>simp only [IntKind.wrap,IntKind.bits,IntKind.signed] at * <;> simp at hlt ⊢ <;> omega
theorem binI_ok (op:BinOp) (hs:isSh op=false) (k:IntKind) (x y:Int) (P:Program) (w:World) (t:TypeId):
  (binI op k x y).ok fun v=>(binOp op t (.int k x) (.int k y)).run P w=.ok v w:=by
 cases op<;>first|(cases hs;done)|skip
 all_goals simp only [binI]
 case add=>exact wE _ _ _ (by simp [binOp,Op.intArith])
 case sub=>exact wE _ _ _ (by simp [binOp,Op.intArith])
 case mul=>exact wE _ _ _ (by simp [binOp,Op.intArith])
 case quo=>
  have key:∀x y:Int,0<=x->0<y->x<=k.max->k.wrap (x/y)=x/y:=by
   intro x y h0 h1 h2;have a:=Int.ediv_nonneg h0 (Int.le_of_lt h1);have b:x/y<=x:=Int.ediv_le_self y h0;cases k<;>simp only [IntKind.wrap,IntKind.max,IntKind.bits,IntKind.signed] at * <;> simp at h2 ⊢ <;> omega
  have main:0<=x->0<y->x<=k.max->(binOp .quo t (.int k x) (.int k y)).run P w=.ok (.int k (x/y)) w:=by
   intro h0 h1 h2;have hy:y≠0:=by omega
   simp [binOp,Op.intDiv,hy,Int.tdiv_eq_ediv_of_nonneg h0,key x y h0 h1 h2]
  cases k<;>simp only [quoI,Pu.ok]<;>intro h<;>exact main h.1 h.2.1 h.2.2
 case rem=>
  intro h;have hy:y≠0:=by omega
  simp [binOp,Op.intDiv,hy,Int.tmod_eq_emod_of_nonneg h.1]
 case and=>
  cases k<;>simp only [bitI,Pu.ok]
  all_goals
   intro h;simp only [binOp,Op.intBits,ne_eq,not_true_eq_false,if_false,Sem.run_pure]
   first
    |exact congrArg (fun z=>Result.ok (Value.int _ z) w) (wA .u8 (.inr rfl) x y h.1 h.2 (fun a b=>a&&&b) (fun a b=>a&&&b) (fun _ _=>BitVec.toNat_and ..))
    |exact congrArg (fun z=>Result.ok (Value.int _ z) w) (wA .u64 (.inl rfl) x y h.1 h.2 (fun a b=>a&&&b) (fun a b=>a&&&b) (fun _ _=>BitVec.toNat_and ..))
 case or=>
  cases k<;>simp only [bitI,Pu.ok]
  all_goals
   intro h;simp only [binOp,Op.intBits,ne_eq,not_true_eq_false,if_false,Sem.run_pure]
   first
    |exact congrArg (fun z=>Result.ok (Value.int _ z) w) (wA .u8 (.inr rfl) x y h.1 h.2 (fun a b=>a|||b) (fun a b=>a|||b) (fun _ _=>BitVec.toNat_or ..))
    |exact congrArg (fun z=>Result.ok (Value.int _ z) w) (wA .u64 (.inl rfl) x y h.1 h.2 (fun a b=>a|||b) (fun a b=>a|||b) (fun _ _=>BitVec.toNat_or ..))
 case xor=>
  cases k<;>simp only [bitI,Pu.ok]
  all_goals
   intro h;simp only [binOp,Op.intBits,ne_eq,not_true_eq_false,if_false,Sem.run_pure]
   first
    |exact congrArg (fun z=>Result.ok (Value.int _ z) w) (wA .u8 (.inr rfl) x y h.1 h.2 (fun a b=>a ^^^ b) (fun a b=>a ^^^ b) (fun _ _=>BitVec.toNat_xor ..))
    |exact congrArg (fun z=>Result.ok (Value.int _ z) w) (wA .u64 (.inl rfl) x y h.1 h.2 (fun a b=>a ^^^ b) (fun a b=>a ^^^ b) (fun _ _=>BitVec.toNat_xor ..))
 case eql=>simp [Pu.ok,binOp,Op.intCmp];rfl
 case neq=>simp [Pu.ok,binOp,Op.intCmp,bne];rfl
 all_goals simp [Pu.ok,binOp,Op.intCmp]

def szB (P:Program) (e sz:Nat):Bool:=match P.info? e with|some i=>Nat.beq i.size sz|none=>false
theorem aQY {P:Program} {e sz:Nat} (h:szB P e sz=true):(P.info? e).map (·.size)=some sz:=by
 unfold szB at h;split at h
 ·rename_i i hi;rw [hi,<-Nat.eq_of_beq_eq_true h];rfl
 cases h
def fB (P:Program):List Field->List (Nat×Nat×Bool)->Bool
 | [],[]=>true
 |f::fs,x::xs=>Nat.beq f.offset x.1&&(szB P f.type x.2.1&&(!(Nat.beq x.2.1 0)&&((match P.underlying f.type with|some d=>aLU d==x.2.2|none=>false)&&fB P fs xs)))
 |_,_=>false
theorem fB_ok {P:Program}:∀ {fs:List Field} {xs:List (Nat×Nat×Bool)},fB P fs xs=true->uP P fs xs
 | [],[],_=>trivial
 |f::fs,x::xs,h=>by
  simp only [fB,Bool.and_eq_true] at h;obtain ⟨h1,h2,h3,h4,h5⟩:=h;refine ⟨⟨Nat.eq_of_beq_eq_true h1,aQY h2,fun e=>(by rw [e] at h3;cases h3),?_⟩,fB_ok h5⟩;split at h4
  ·rename_i d hd;exact ⟨d,hd,by simpa using h4⟩
  cases h4
 | [],_::_,h=>by cases h
 |_::_,[],h=>by cases h
def uB (P:Program) (p:Nat×UD):Bool:=match P.underlying p.1 with
 |none=>false
 |some d=>match p.2,d with
  | .int k,.int k'=>decide (k'=k)
  | .bool,.bool=>true
  | .str,.string=>true
  | .slice e sz,.slice e'=>Nat.beq e' e&&szB P e sz
  | .struct fs,.struct a=>fB P a.toList fs
  | .map,.map _ _=>true
  | .ptr,.pointer _=>true
  | .func,.func _ _ _=>true
  | .iface,.interface _=>true
  | .array n e sz,.array n' e'=>Nat.beq n' n&&(Nat.beq e' e&&szB P e sz)
  |_,_=>false
theorem uB_ok {P:Program} {p:Nat×UD} (h:uB P p=true):p.2.ok P p.1:=by
 obtain ⟨t,u⟩:=p;unfold uB at h
 cases hd:P.underlying t with
 |none=>simp only [hd] at h;cases h
 |some d=>
  simp only [hd] at h;split at h
  ·rw [UD.ok,hd,of_decide_eq_true h]
  ·exact hd
  ·exact hd
  ·simp only [Bool.and_eq_true] at h;obtain rfl:=Nat.eq_of_beq_eq_true h.1;exact ⟨hd,aQY h.2⟩
  ·exact ⟨_,hd,fB_ok h⟩
  ·exact ⟨_,_,hd⟩
  ·exact ⟨_,hd⟩
  ·exact ⟨_,_,_,hd⟩
  ·exact ⟨_,hd⟩
  ·simp only [Bool.and_eq_true] at h;obtain rfl:=Nat.eq_of_beq_eq_true h.1;obtain rfl:=Nat.eq_of_beq_eq_true h.2.1;exact ⟨hd,aQY h.2.2⟩
  cases h
theorem aTN {P:Program}:∀ {l:List (Nat×UD)},l.all (uB P)=true->AllU P l
 | [],_=>trivial
 |p::l,h=>by
  simp only [List.all_cons,Bool.and_eq_true] at h;exact ⟨uB_ok h.1,aTN h.2⟩
theorem aUV {P:Program}:∀ {l:List (Nat×Inf)},(l.map fun p=>(P.info? p.1).map fun i=>(i.zero,i.size,i.bytes))=l.map (fun p=>some (some p.2.zero,p.2.size,p.2.bytes))->AllI P l
 | [],_=>trivial
 |p::l,h=>by
  simp only [List.map_cons,List.cons.injEq] at h;exact ⟨h.1,aUV h.2⟩
theorem aTL {P:Program}:∀ {l:List (Nat×List Nat)},(l.all fun p=>aTG P p.1 p.2)=true->AllE P l
 | [],_=>trivial
 |p::l,h=>by
  simp only [List.all_cons,Bool.and_eq_true] at h;exact ⟨h.1,aTL h.2⟩
end Go.Fw

namespace Go.Fw
open Go
theorem ba_eq (a b:ByteArray):(a.toList==b.toList)=decide (a=b):=by
 rw [Bool.eq_iff_iff];simp only [beq_iff_eq,decide_eq_true_eq]
 constructor
 ·intro h;apply ByteArray.ext;apply Array.ext'
  simpa [ByteArray.toList_eq] using h
 intro h;rw [h]
variable {P:Program}
theorem aJY (k k':IntKind) (x y:Int) (hy:0<=y/\y<=k.bits) (w:World) (t:TypeId):
  (binOp .shl t (.int k x) (.int k' y)).run P w=.ok (.int k (k.wrap (x*2^y.toNat))) w:=by
 have hm:Nat.min y.toNat k.bits=y.toNat:=Nat.min_eq_left (by omega)
 simp [binOp,Op.shift,Int.not_lt.2 hy.1,hm]
theorem aLE (k k':IntKind) (x y:Int) (hy:0<=y/\y<=k.bits) (w:World) (t:TypeId):
  (binOp .shr t (.int k x) (.int k' y)).run P w=.ok (.int k (x/2^y.toNat)) w:=by
 have hm:Nat.min y.toNat k.bits=y.toNat:=Nat.min_eq_left (by omega);have:x.fdiv (2^y.toNat)=x/2^y.toNat:=by
  rw [Int.fdiv_eq_ediv];have:(0:Int)<=2^y.toNat:=by
   have:(0:Int)<2^y.toNat:=Int.pow_pos (by decide);omega
  simp [this]
 simp [binOp,Op.shift,Int.not_lt.2 hy.1,hm,this]
theorem shI_ok (op:BinOp) (hs:isSh op=true) (k k':IntKind) (x y:Int) (w:World) (t:TypeId):
  (shI op k x y).ok fun v=>(binOp op t (.int k x) (.int k' y)).run P w=.ok v w:=by
 cases op<;>first|(cases hs;done)|skip
 case shl=>
  cases k<;>simp only [shI]<;>first|trivial|skip
  case i64=>
   intro h;have:=aJY (P:=P) .i64 k' x y ⟨h.1.1,h.1.2⟩ w t
   rwa [aOG h.2] at this
  case u64=>
   intro h;have:=aJY (P:=P) .u64 k' x y ⟨h.1,h.2⟩ w t
   rwa [(bCF _).1] at this
 case shr=>
  cases k<;>simp only [shI]<;>first|trivial|skip
  case i64=>exact fun h=>aLE (P:=P) .i64 k' x y ⟨h.1,h.2⟩ w t
  case u64=>exact fun h=>aLE (P:=P) .u64 k' x y ⟨h.1,h.2⟩ w t
theorem aMP {y:Operand} {s:Nat} (h:aFS y=some s) (a:Act):∃k,a.eval y=.int k (s:Int):=by
 unfold aFS at h;split at h
 ·split at h
  ·split at h
   ·simp at h;subst h;exact ⟨_,rfl⟩
   cases h
  cases h
 cases h
theorem shC_ok (op:BinOp) (hs:isSh op=true) (k k':IntKind) (x:Int) (s:Nat) (w:World) (t:TypeId):
  (shC op k x s).ok fun v=>(binOp op t (.int k x) (.int k' (s:Int))).run P w=.ok v w:=by
 unfold shC;split
 ·rename_i hle
  have hle:s<=k.bits:=Nat.le_of_ble_eq_true hle;have hy:0<=(s:Int)/\(s:Int)<=k.bits:=⟨by omega,by omega⟩;have main:(shP op k x (2^s)).ok fun v=>(binOp op t (.int k x) (.int k' (s:Int))).run P w=.ok v w:=by
   cases op<;>first|(cases hs;done)|skip
   case shl=>exact wE _ _ _ (aJY (P:=P) k k' x s hy w t)
   case shr=>exact aLE (P:=P) k k' x s hy w t
  split<;>exact main
 trivial
theorem binS_ok (op:BinOp) (x y:ByteArray) (w:World) (t:TypeId):
  (binS op x y).ok fun v=>(binOp op t (.string x) (.string y)).run P w=.ok v w:=by
 cases op<;>simp only [binS,Pu.ok]
 case add=>
  intro h;have h':¬IntKind.i64.max<((x.size+y.size:Nat):Int):=by
   have:IntKind.i64.max=9223372036854775807:=rfl;omega
  have h'':¬IntKind.i64.max<(x.size:Int)+(y.size:Int):=by simpa using h'
  simp [binOp,Op.stringOp]
  exact Int.not_lt.1 h''
 case eql=>simp [binOp,Op.stringOp,ba_eq]
 case neq=>simp [binOp,Op.stringOp,ba_eq]
 case lss=>simp [binOp,Op.stringOp]
theorem aKS (d:Nat) (t:TypeId) (x y:Bool) (w:World) (ht:P.underlying t=some .bool):(Op.equalIn (d+1) t (.bool x) (.bool y)).run P w=.ok (x==y) w:=by
 simp [Op.equalIn,run_underlying ht]
theorem aGQ (t:TypeId) (x y:Bool) (w:World) (ht:P.underlying t=some .bool):(Op.equal t (.bool x) (.bool y)).run P w=.ok (x==y) w:=
 aKS 9999 t x y w ht
theorem binB_ok (op:BinOp) (x y:Bool) (w:World) (t:TypeId) (ht:P.underlying t=some .bool):
  (binB op x y).ok fun v=>(binOp op t (.bool x) (.bool y)).run P w=.ok v w:=by
 cases op<;>simp only [binB,Pu.ok];case eql=>simp [binOp,aGQ t x y w ht]
 case neq=>simp [binOp,aGQ t x y w ht]
theorem nilB_ok (op:BinOp) (x y:Value) (b:Bool) (w:World) (t:TypeId) (he:(binOp .eql t x y).run P w=.ok (.bool b) w) (hn:(binOp .neq t x y).run P w=.ok (.bool (!b)) w):
  (aBX op b).ok fun v=>(binOp op t x y).run P w=.ok v w:=by
 cases op<;>simp only [aBX,Pu.ok]
 ·exact he
 exact hn
theorem bCE (t:TypeId) (x y:Value) (b:Bool) (w:World) (h:∀d,(Op.equalIn (d+1) t x y).run P w=.ok b w):(Op.equal t x y).run P w=.ok b w:=h 9999
theorem aEF (op:BinOp) (x y:Value) (b:Bool) (w:World) (t:TypeId) (h:∀d,(Op.equalIn (d+1) t x y).run P w=.ok b w) (h1:binOp .eql t x y=(do pure (.bool (<-Op.equal t x y)))) (h2:binOp .neq t x y=(do pure (.bool (!(<-Op.equal t x y))))):
  (aBX op b).ok fun v=>(binOp op t x y).run P w=.ok v w:=by
 have he:=bCE t x y b w h;refine nilB_ok op x y b w t ?_ ?_
 ·rw [h1];simp only [Sem.run_bind,he,Result.andThen,Sem.run_pure]
 rw [h2];simp only [Sem.run_bind,he,Result.andThen,Sem.run_pure]
theorem binN_ok (T:Tab P) (op:BinOp) (t:TypeId) (u:UD) (hu:bC T.und t=some u) (a b:Value) (w:World):(binN op u a b).ok fun v=>(binOp op t a b).run P w=.ok v w:=by
 have hk:=T.okU.look hu;unfold binN;split
 ·split
  ·split
   ·have h1:=hk.1;split<;>split<;>first|trivial|exact aEF _ _ _ _ _ _ (fun d=>by simp [Op.equalIn,run_underlying h1]) rfl rfl
   trivial
  trivial
 ·split
  ·split
   ·obtain ⟨e,h1⟩:=hk;split<;>split<;>first|trivial|exact aEF _ _ _ _ _ _ (fun d=>by simp [Op.equalIn,run_underlying h1]) rfl rfl
   trivial
  trivial
 ·split
  ·split
   ·obtain ⟨e,h1⟩:=hk;exact aEF _ _ _ _ _ _ (fun d=>by simp [Op.equalIn,run_underlying h1]) rfl rfl
   trivial
  trivial
 ·split
  ·split
   ·obtain ⟨e,e',h1⟩:=hk;split<;>split<;>first|trivial|exact aEF _ _ _ _ _ _ (fun d=>by simp [Op.equalIn,run_underlying h1]) rfl rfl
   trivial
  trivial
 trivial
theorem bin_ok (T:Tab P) (op:BinOp) (t:TypeId) (a b:Value) (w:World):(bin T op t a b).ok fun v=>(binOp op t a b).run P w=.ok v w:=by
 unfold bin;split
 ·split
  ·rename_i k x _ k' y
   split
   ·rename_i hs;exact shI_ok op hs k k' x y w t
   rename_i hs
   split
   ·rename_i hk;obtain rfl:=aSS hk;exact binI_ok op hs k x y P w t
   trivial
  trivial
 ·split
  ·exact binS_ok op _ _ w t
  trivial
 ·split
  ·split
   ·rename_i hu;exact binB_ok op _ _ w t (T.okU.look hu)
   trivial
  trivial
 split
 ·rename_i hu;exact binN_ok T op t _ hu a b w
 trivial
theorem aXR (T:Tab P) (op:BinOp) (t:TypeId) (x y:Operand) (a b:Value) (w:World) (G:Pu->Prop) (hstop:G .stop)
  (h:(eqGuard op t x y a b).run P w=.ok () w->G (bin T op t a b)):G (bin T op t a b):=by
 by_cases hs:bin T op t a b=.stop
 ·rw [hs];exact hstop
 apply h;unfold eqGuard
 cases a<;>cases b<;>first
  |(exact absurd rfl hs)
  |(cases op<;>simp;done)
  |(refine absurd ?_ hs;show (match bC T.und t with|some u=>binN op u _ _|none=>Pu.stop)=Pu.stop;cases bC T.und t<;>rfl)
theorem Pu.ok_mono {r:Pu} {G G':Value->Prop} (h:r.ok G) (hg:∀v,G v->G' v):r.ok G':=by
 cases r with
 |stop=>trivial
 |val v=>exact hg _ h
 |ob p v=>exact fun hp=>hg _ (h hp)
 |tst p i=>exact hg _ h
 |ntst p i=>exact hg _ h
theorem un_ok (op:UnOp) (a:Value) (w:World):(un op a).ok fun v=>(Op.unary op a).run P w=.ok v w:=by
 cases op<;>simp only [un];case not=>cases a<;>simp [Pu.ok,Op.unary]
 case neg=>cases a<;>first|trivial|exact wE _ _ _ (by simp [Op.unary,Op.intArith])
 all_goals trivial
theorem aKW (T:Tab P) (src dst:TypeId) (a:Value) (w:World):(conv T src dst a).ok fun v=>(convert src dst a).run P w=.ok v w:=by
 unfold conv
 split
 ·rename_i hs
  have h1:=T.okU.look hs;split
  ·rename_i hd
   have h2:=T.okU.look hd;split
   ·exact wE _ _ _ (by simp [convert,run_underlying h1,run_underlying h2,Conv.intToInt])
   trivial
  trivial
 ·rename_i hs
  have h1:=T.okU.look hs;split
  ·rename_i hd
   have h2:=T.okU.look hd;split
   ·simp [Pu.ok,convert,run_underlying h1,run_underlying h2]
   trivial
  trivial
 trivial
theorem aUC (T:Tab P) (t ty:TypeId) (a:Value) (w:World):(lenP T t a).ok fun v=>(Builtin.len_ #[t] ty #[a]).run P w=.ok v w:=by
 unfold lenP;split
 ·rename_i hs
  have h1:=T.okU.look hs;split
  ·simp [Pu.ok,Builtin.len_,run_underlying h1,goInt]
  trivial
 ·rename_i hs
  have h1:=(T.okU.look hs).1;split
  ·simp [Pu.ok,Builtin.len_,run_underlying h1,goInt]
  trivial
 trivial
theorem aWP (T:Tab P) (t:TypeId) (a i:Value) (w:World):(aQF T t a i).ok fun v=>(Instr.index t a i).run P w=.ok v w:=by
 unfold aQF;split
 ·rename_i hs
  have h1:=T.okU.look hs;split
  ·split
   ·rename_i s _ k n
    intro h;obtain ⟨m,rfl⟩:=Int.eq_ofNat_of_zero_le h.1;have hm:m<s.size:=by omega
    have hm':m<s.data.size:=hm
    simp [Instr.index,asIntOf,run_underlying h1,aY,List.getD_eq_getElem?_getD,getElem?_pos,hm]
    rfl
   trivial
  trivial
 trivial
theorem fS (b off m:Nat):Addr.add ⟨b,off,none⟩ m=⟨b,off+m,none⟩:=by
 unfold Addr.add;split
 ·simp
 rfl
theorem eQ {t n:Nat} (h:(P.info? t).map (·.size)=some n) (w:World):(sizeOf t).run P w=.ok n w:=by
 cases hi:P.info? t with
 |none=>simp [hi] at h
 |some i=>simp [hi] at h;simp [sizeOf,typeInfo,hi,h]
theorem xQ (T:Tab P) (t:TypeId) (a i:Value) (w:World):(zD T t a i).ok fun v=>(Instr.indexAt t a i).run P w=.ok v w:=by
 unfold zD;split
 ·rename_i sz hs
  obtain ⟨h1,h2⟩:=T.okU.look hs;split
  ·rename_i b off len cap
   split
   ·rename_i k n
    have main:0<=n/\n<len->(Instr.indexAt t (.slice (some ⟨b,off,none⟩) len cap) (.int k n)).run P w=.ok (.pointer (some ⟨b,off+n.toNat*sz,none⟩)) w:=by
     intro h
     simp [Instr.indexAt,asIntOf,run_underlying h1,h,eQ h2,fS]
    split
    ·rename_i hb
     have:=Nat.eq_of_beq_eq_true hb;subst this;intro h;have:=main h
     rwa [Nat.mul_one] at this
    exact main
   trivial
  trivial
 ·rename_i len e sz hs
  obtain ⟨h1,h2⟩:=T.okU.look hs;split
  ·rename_i b off
   split
   ·rename_i k n
    have main:0<=n/\n<len->(Instr.indexAt t (.pointer (some ⟨b,off,none⟩)) (.int k n)).run P w=.ok (.pointer (some ⟨b,off+n.toNat*sz,none⟩)) w:=by
     intro h
     simp [Instr.indexAt,asIntOf,run_underlying h1,h,eQ h2,fS,Instr.sureAddr]
    split
    ·rename_i hb
     have:=Nat.eq_of_beq_eq_true hb;subst this;intro h;have:=main h
     rwa [Nat.mul_one] at this
    exact main
   trivial
  trivial
 trivial
theorem iV (k:IntKind) (i:Int) (y:Nat) (code:BoundsCode) (h:0<=i/\i<=y) (w:World):(Instr.sliceBound (.int k i) y code).run P w=.ok i.toNat w:=by
 simp [Instr.sliceBound,asIntOf,h]
theorem cutV_ok (T:Tab P) (t:TypeId) (a:Value) (lo hi:Option (Option Value)) (lo' hi':Option Value) (hlo:∀u,lo=some u -> ∀z,u=some z->lo'=some z) (hlo0:lo=none->lo'=none)
  (hhi:∀u,hi=some u -> ∀z,u=some z->hi'=some z) (hhi0:hi=none->hi'=none) (w:World):
  (cutV T t a lo hi).ok fun v=>(Instr.sliceAt t a lo' hi' none).run P w=.ok v w:=by
 unfold cutV;split
 ·rename_i hs
  have h1:=T.okU.look hs;split
  ·split
   ·have e1:=hlo0 rfl;split
    ·have e2:=hhi _ rfl _ rfl;intro h
     simp [Instr.sliceAt,Instr.slice,Instr.sliceBounds,run_underlying h1,e1,e2,iV _ _ _ _ h]
    trivial
   ·have e1:=hlo _ rfl _ rfl;split
    ·have e2:=hhi _ rfl _ rfl;intro h
     rename_i s _ _ i _ k j
     have hj:0<=j/\j<=(s.size:Int):=⟨by omega,h.2.2⟩;have hi:0<=i/\i<=(j.toNat:Int):=⟨h.1,by omega⟩
     simp [Instr.sliceAt,Instr.slice,Instr.sliceBounds,run_underlying h1,e1,e2,iV _ _ _ _ hj,iV _ _ _ _ hi]
    ·have e2:=hhi0 rfl;intro h
     simp [Instr.sliceAt,Instr.slice,Instr.sliceBounds,run_underlying h1,e1,e2,iV _ _ _ _ h]
    trivial
   trivial
  trivial
 ·rename_i e sz hs
  obtain ⟨h1,h2⟩:=T.okU.look hs;split
  ·split
   ·have e1:=hlo0 rfl;split
    ·have e2:=hhi _ rfl _ rfl;intro h
     rename_i ad _ _ _ _ _ _ _
     simp [Instr.sliceAt,Instr.slice,Instr.sliceBounds,run_underlying h1,e1,e2,iV _ _ _ _ h,eQ h2,Addr.add]
    trivial
   trivial
  trivial
 trivial
theorem sK {fs:List Field} {xs:List (Nat×Nat×Bool)} (h:uP P fs xs) {f:Nat} {x:Nat×Nat×Bool} (hx:xs[f]? = some x):∃fl,fs[f]? = some fl/\aTZ P fl x:=by
 induction fs generalizing xs f with
 |nil=>cases xs with
  |nil=>simp at hx
  |cons x xs=>exact h.elim
 |cons g fs ih=>cases xs with
  |nil=>exact h.elim
  |cons y xs=>cases f with
   |zero=>simp at hx;subst hx;exact ⟨g,rfl,h.1⟩
   |succ f=>simp at hx;simpa using ih h.2 hx
theorem aIZ (T:Tab P) (t:TypeId) (a:Value) (f:Nat) (w:World):(aLV T t a f).ok fun v=>(Instr.fieldAt t a f).run P w=.ok v w:=by
 unfold aLV;split
 ·rename_i fs hs
  obtain ⟨ar,h1,h2⟩:=T.okU.look hs;split
  ·rename_i b off
   split
   ·rename_i o n g hn
    rw [fW] at hn;obtain ⟨fl,hfl,hok⟩:=sK h2 hn;have hfl':ar[f]? = some fl:=by simpa using hfl
    have main:(Instr.fieldAt t (.pointer (some ⟨b,off,none⟩)) f).run P w=.ok (.pointer (some ⟨b,off+o,none⟩)) w:=by
     have ho:=hok.1;simp only at ho
     simp [Instr.fieldAt,run_underlying h1,hfl',Instr.sureAddr,fieldPlace,eQ hok.2.1,hok.2.2.1,ho,fS]
    cases o<;>exact main
   trivial
  trivial
 trivial
theorem aHV (T:Tab P) (t:TypeId) (a:Value) (f:Nat) (w:World):(uF T t a f).ok fun v=>(Instr.field t a f).run P w=.ok v w:=by
 unfold uF;split
 ·rename_i fs hs
  obtain ⟨ar,h1,h2⟩:=T.okU.look hs;split
  ·rename_i cs
   split
   ·rename_i o n hn
    rw [fW] at hn;obtain ⟨fl,hfl,hok⟩:=sK h2 hn;have hfl':ar[f]? = some fl:=by simpa using hfl
    split
    ·rename_i v hv
     rw [fW] at hv;have hv':cs[o]? = some v:=by simpa using hv
     have ho:=hok.1;simp only at ho;obtain ⟨d,hu,hd⟩:=hok.2.2.2;cases d<;>simp [aLU] at hd<;>simp [Pu.ok,Instr.field,run_underlying h1,hfl',asAgg,part,isAgg,run_underlying hu,ho,hv']
    trivial
   ·rename_i o n hn
    rw [fW] at hn;obtain ⟨fl,hfl,hok⟩:=sK h2 hn;have hfl':ar[f]? = some fl:=by simpa using hfl
    have ho:=hok.1;simp only at ho;obtain ⟨d,hu,hd⟩:=hok.2.2.2;have hx:cs.extract o (o+n)=((cs.toList.drop o).take n).toArray:=by
     apply Array.ext'
     simp [Nat.add_sub_cancel_left]
    cases d<;>simp [aLU] at hd<;>simp [Pu.ok,Instr.field,run_underlying h1,hfl',asAgg,part,isAgg,run_underlying hu,ho,eQ hok.2.1,hx]
   trivial
  trivial
 trivial
end Go.Fw

namespace Go.Fw
open Go
variable {P:Program}
theorem yO (T:Tab P) (n:Nat) (l:Fr) (op:Op) (a:Act) (w:World) (o:Oper) (ha:bB n l a) (ho:o.op=op):
  (ev1 T l op).ok fun v=>(execOp a.eval o).run P w=.ok (.value v) w:=by
 unfold ev1;split
 ·split
  ·rename_i hx;simp [Pu.ok,execOp,ho,ha.ev hx]
  trivial
 ·split
  ·rename_i hx;simp [Pu.ok,execOp,ho,ha.ev hx]
  trivial
 ·split
  ·rename_i hc
   split
   ·rename_i hx;simp [Pu.ok,execOp,ho,ha.ev hc,ha.ev hx,asBool]
   trivial
  ·rename_i hc
   split
   ·rename_i hx;simp [Pu.ok,execOp,ho,ha.ev hc,ha.ev hx,asBool]
   trivial
  trivial
 ·split
  ·rename_i ht
   split
   ·rename_i hv
    rw [fW,Array.getElem?_toList] at hv
    simp [Pu.ok,execOp,ho,ha.ev ht,Instr.extract,hv]
   trivial
  trivial
 ·rename_i bop t x y yt
  split
  ·rename_i av hx
   have main:∀bv,ev l y=some bv->(bin T bop t av bv).ok fun v=>(execOp a.eval o).run P w=.ok (.value v) w:=by
    intro bv hy;refine aXR T bop t x y av bv w (fun r=>r.ok fun v=>(execOp a.eval o).run P w=.ok (.value v) w) trivial (fun hgd=>?_);refine Pu.ok_mono (bin_ok T bop t av bv w) (fun v hv=>?_)
    simp [execOp,ho,ha.ev hx,ha.ev hy,hgd,hv]
   split
   ·rename_i hsh
    split
    ·rename_i s hs
     obtain ⟨k',hy⟩:=aMP hs a;split
     ·rename_i k n
      refine Pu.ok_mono (shC_ok (P:=P) bop hsh k k' n s w t) (fun v hv=>?_);have hgd:(eqGuard bop t x y (.int k n) (.int k' (s:Int))).run P w=.ok () w:=by
       cases bop<;>simp [isSh] at hsh<;>simp [eqGuard]
      simp [execOp,ho,ha.ev hx,hy,hgd,hv]
     trivial
    split
    ·rename_i hy;exact main _ hy
    trivial
   split
   ·rename_i hy;exact main _ hy
   trivial
  trivial
 ·split
  ·rename_i hx
   refine Pu.ok_mono (un_ok (P:=P) _ _ w) (fun v hv=>?_)
   simp [execOp,ho,ha.ev hx,hv]
  trivial
 ·split
  ·rename_i hx
   refine Pu.ok_mono (aKW T _ _ _ w) (fun v hv=>?_)
   simp [execOp,ho,ha.ev hx,hv]
  trivial
 ·split
  ·rename_i hx
   split
   ·rename_i hy
    refine Pu.ok_mono (aWP T _ _ _ w) (fun v hv=>?_)
    simp [execOp,ho,ha.ev hx,ha.ev hy,hv]
   trivial
  trivial
 ·split
  ·rename_i hx
   split
   ·rename_i hy
    refine Pu.ok_mono (xQ T _ _ _ w) (fun v hv=>?_)
    simp [execOp,ho,ha.ev hx,ha.ev hy,hv]
   trivial
  trivial
 ·split
  ·rename_i hx
   rename_i t x lo hi _ av
   refine Pu.ok_mono (cutV_ok T t av (lo.map (ev l)) (hi.map (ev l)) (lo.map a.eval) (hi.map a.eval) ?_ ?_ ?_ ?_ w) (fun v hv=>?_)
   ·intro u hu z hz;cases lo with
    |none=>cases hu
    |some q=>simp at hu;subst hu;simp [ha.ev hz]
   ·intro h;cases lo with
    |none=>rfl
    |some q=>cases h
   ·intro u hu z hz;cases hi with
    |none=>cases hu
    |some q=>simp at hu;subst hu;simp [ha.ev hz]
   ·intro h;cases hi with
    |none=>rfl
    |some q=>cases h
   simp [execOp,ho,ha.ev hx,hv]
  trivial
 ·split
  ·rename_i hx
   refine Pu.ok_mono (aIZ T _ _ _ w) (fun v hv=>?_)
   simp [execOp,ho,ha.ev hx,hv]
  trivial
 ·split
  ·rename_i hx
   refine Pu.ok_mono (aHV T _ _ _ w) (fun v hv=>?_)
   simp [execOp,ho,ha.ev hx,hv]
  trivial
 ·rename_i t x
  split
  ·trivial
  ·rename_i u hne hu
   have hk:=T.okU.look hu;split
   ·rename_i hx
    have hdesc:∃d,P.underlying t=some d /\ ∀ms,d ≠ .interface ms:=by
     cases u<;>simp only [UD.ok] at hk;case int k=>exact ⟨_,hk,by simp⟩
     case bool=>exact ⟨_,hk,by simp⟩
     case str=>exact ⟨_,hk,by simp⟩
     case slice e sz=>exact ⟨_,hk.1,by simp⟩
     case struct fs=>obtain ⟨q,hq,_⟩:=hk;exact ⟨_,hq,by simp⟩
     case map=>obtain ⟨k,e,hq⟩:=hk;exact ⟨_,hq,by simp⟩
     case ptr=>obtain ⟨e,hq⟩:=hk;exact ⟨_,hq,by simp⟩
     case func=>obtain ⟨_,_,_,hq⟩:=hk;exact ⟨_,hq,by simp⟩
     case iface=>exact absurd rfl hne
     case array n e sz=>exact ⟨_,hk.1,by simp⟩
     case other=>
      cases hq:P.underlying t with
      |none=>simp [hq] at hk
      |some d=>refine ⟨d,rfl,fun ms e=>?_⟩;subst e;simp [hq] at hk
    obtain ⟨d,hd,hni⟩:=hdesc;simp only [Pu.ok,execOp,ho,ha.ev hx,Instr.makeInterface];cases d<;>simp [run_underlying hd]<;>exact absurd rfl (hni _)
   trivial
  trivial
 ·split
  ·rename_i hf
   split
   ·rename_i hcp
    have e1:=kS ha hf;have e2:=kS ha hcp
    rename_i fn first captured _ vs _ us
    have e1':first.map a.eval=vs.toArray:=by apply Array.ext';simpa using e1
    have e2':captured.map a.eval=us.toArray:=by apply Array.ext';simpa using e2
    simp [Pu.ok,execOp,ho,Instr.makeFunc,e1',e2']
   trivial
  trivial
 ·split
  ·rename_i hx;simp [Pu.ok,execOp,ho,ha.ev hx]
  trivial
 ·rename_i cl
  split
  ·rename_i hcl
   split
   ·rename_i x hargs
    split
    ·rename_i t hts
     split
     ·rename_i av hx
      have e1:cl.args = #[x]:=by apply Array.ext';simpa using hargs
      have e2:cl.argTypes = #[t]:=by apply Array.ext';simpa using hts
      refine Pu.ok_mono (aUC T t o.type av w) (fun v hv=>?_)
      simp [execOp,ho,resolve,hcl,e1,e2,invoke,builtin,ha.ev hx,hv]
     trivial
    trivial
   trivial
  ·rename_i hcl
   split
   ·rename_i x y hargs
    split
    ·rename_i av hx
     split
     ·rename_i bv hy
      have e1:cl.args = #[x,y]:=by apply Array.ext';simpa using hargs
      unfold aLZ;split
      ·split
       ·simp [Pu.ok,execOp,ho,resolve,hcl,e1,invoke,builtin,ha.ev hx,ha.ev hy,Builtin.max_,Builtin.max2]
        rw [Int.max_def];split<;>split<;>omega
       trivial
      trivial
     trivial
    trivial
   trivial
  ·rename_i hcl
   split
   ·rename_i x y hargs
    split
    ·rename_i av hx
     split
     ·rename_i bv hy
      have e1:cl.args = #[x,y]:=by apply Array.ext';simpa using hargs
      unfold aLZ;split
      ·split
       ·simp [Pu.ok,execOp,ho,resolve,hcl,e1,invoke,builtin,ha.ev hx,ha.ev hy,Builtin.min_,Builtin.min2]
        rw [Int.min_def];split<;>split<;>omega
       trivial
      trivial
     trivial
    trivial
   trivial
  trivial
 trivial
def aFG (d:Nat):Operand->Bool
 | .tmp t=>Nat.beq t d
 |_=>false
def aEQ (d:Nat):Code->Bool
 | .cond x _ _=>aFG d x
 | .seq a _=>aEQ d a
 |_=>false
def kO (all:List Oper):List Oper->List SI->Nat->Bool
 | [],k,d=>match k with
  | .code x::_=>aEQ d x
  |_=>false
 |o::rest,k,d=>
  (match o.guard with
   |some (j,_)=>match nth all j with
    |some oj=>match oj.dst with
     |some d'=>Nat.beq d' d
     |none=>false
    |none=>false
   |none=>false) ||
  ((match o.op with
    | .pick c a b=>aFG d c||((aFG d a||aFG d b)&&(match o.dst with
     |some d'=>kO all rest k d'
     |none=>false))
    | .move x=>aFG d x&&(match o.dst with
     |some d'=>kO all rest k d'
     |none=>false)
    | .assign x=>aFG d x&&(match o.dst with
     |some d'=>kO all rest k d'
     |none=>false)
    | .unOp .not _ x=>aFG d x&&(match o.dst with
     |some d'=>kO all rest k d'
     |none=>false)
    |_=>false)||kO all rest k d)
def bL (h:Array Obj) (b o:Nat):Option Value:=
 match h[b]? with
 |some (.cells c _ _)=>c[o]?
 |_=>none
theorem iQ {w:World} {b o:Nat} {v:Value} (h:bL w.heap b o=some v):w.cell? ⟨b,o,none⟩=some v:=by
 unfold bL at h;unfold World.cell?;split at h
 ·rename_i hb;simp [hb,h]
 cases h
def eY {P:Program} (T:Tab P) (t:TypeId):Bool:=
 match bC T.und t with
 |some (.struct _)=>false
 |some (.array ..)=>false
 |some .other=>false
 |some _=>true
 |none=>false
theorem lN (T:Tab P) {t:TypeId} (h:eY T t=true) (w:World):(isAgg t).run P w=.ok false w:=by
 unfold eY at h
 cases hu:bC T.und t with
 |none=>simp [hu] at h
 |some u=>
  have hk:=T.okU.look hu;cases u<;>simp [hu] at h<;>simp only [UD.ok] at hk;case int=>simp [isAgg,run_underlying hk]
  case bool=>simp [isAgg,run_underlying hk]
  case str=>simp [isAgg,run_underlying hk]
  case slice=>simp [isAgg,run_underlying hk.1]
  case map=>obtain ⟨_,_,hk⟩:=hk;simp [isAgg,run_underlying hk]
  case ptr=>obtain ⟨_,hk⟩:=hk;simp [isAgg,run_underlying hk]
  case func=>obtain ⟨_,_,_,hk⟩:=hk;simp [isAgg,run_underlying hk]
  case iface=>obtain ⟨_,hk⟩:=hk;simp [isAgg,run_underlying hk]
def loadAt? {P:Program} (T:Tab P) (l:Fr) (op:Op):Option (Nat×Nat):=
 match op with
 | .load t x=>match ev l x with
  |some (.pointer (some ⟨b,off,none⟩))=>match eY T t with
   |true=>some (b,off)
   |false=>none
  |_=>none
 |_=>none
theorem tC {T:Tab P} {l:Fr} {o:Oper} {b off:Nat} (hl:loadAt? T l o.op=some (b,off)) {n:Nat} {a:Act} (ha:bB n l a) {w:World} {v:Value} (hc:bL w.heap b off=some v):
  (execOp a.eval o).run P w=.ok (.value v) w:=by
 unfold loadAt? at hl;split at hl
 ·rename_i t x hop
  split at hl
  ·rename_i hx
   split at hl
   ·rename_i hs
    simp at hl
    obtain ⟨rfl,rfl⟩:=hl;have hcell:=iQ hc
    simp [execOp,hop,ha.ev hx,Instr.loadAt,Instr.sureAddr,loadVar,lN T hs,load,Sem.run,hcell]
   cases hl
  cases hl
 cases hl
def go (T:Tab P) (n:Nat) (h:Array Obj) (stop:List SI->Fr->Prop):Nat->List SI->Fr->Prop
 |0,st,l=>stop st l
 |f+1,st,l=>match st with
  | []=>stop st l
  |it::k=>match it with
   | .inBlock _=>go T n h stop f k l
   | .inScope _=>go T n h stop f k l
   | .ops all todo=>match todo with
    | []=>go T n h stop f k l
    |o::rest=>match o.dst with
     |none=>stop st l
     |some d=>match Nat.blt d n with
      |false=>stop st l
      |true=>match dG l all o with
       |none=>stop st l
       |some false=>go T n h stop f (.ops all rest::k) ((d,undef)::l)
       |some true=>match ev1 T l o.op with
        | .stop=>match loadAt? T l o.op with
         |some (b,off)=>∃v,bL h b off=some v/\go T n h stop f (.ops all rest::k) ((d,v)::l)
         |none=>stop st l
        | .tst p i=>match kO all.toList rest k d with
         |true=>(p->go T n h stop f (.ops all rest::k) ((d,.bool true)::l))/\(¬p->go T n h stop f (.ops all rest::k) ((d,.bool false)::l))
         |false=>go T n h stop f (.ops all rest::k) ((d,.bool (@decide p i))::l)
        | .ntst p i=>match kO all.toList rest k d with
         |true=>(p->go T n h stop f (.ops all rest::k) ((d,.bool false)::l))/\(¬p->go T n h stop f (.ops all rest::k) ((d,.bool true)::l))
         |false=>go T n h stop f (.ops all rest::k) ((d,.bool (!@decide p i))::l)
        | .val v=>go T n h stop f (.ops all rest::k) ((d,v)::l)
        | .ob p v=>p/\go T n h stop f (.ops all rest::k) ((d,v)::l)
   | .code c=>match c with
    | .skip=>go T n h stop f k l
    | .label _=>go T n h stop f k l
    | .seq a b=>go T n h stop f (.code a::.code b::k) l
    | .cond x y z=>match ev l x with
     |some (.bool true)=>go T n h stop f (.code y::k) l
     |some (.bool false)=>go T n h stop f (.code z::k) l
     |_=>stop st l
    | .block i b=>go T n h stop f (.code b::.inBlock i::k) l
    | .scope b=>go T n h stop f (.code b::.inScope b::k) l
    | .exit i=>match aGZ i k with
     |some k'=>go T n h stop f k' l
     |none=>stop st l
    | .goto i=>match aFF i k with
     |some k'=>go T n h stop f k' l
     |none=>stop st l
    | .region _ ops draw=>match draw with
     |false=>go T n h stop f (.ops ops ops.toList::k) l
     |true=>stop st l
    |_=>stop st l
   |_=>stop st l
variable {c:Ctx P} {ds:List Deferred} {h:Array Obj}
theorem aD.ev1V {all:Array Oper} {rest:List Oper} {o:Oper} {k:List SI} {l:Fr} {d:Nat} {v:Value} (T:Tab P) (hv:∀a w,bB c.n l a->(execOp a.eval o).run P w=.ok (.value v) w)
  (hnd:ev1 T l o.op ≠ .stop) (hdst:o.dst=some d) (hlt:d<c.n) (hgd:dG l all o=some true) (hr:aD c ds (.ops all rest::k) ((d,v)::l) h):aD c ds (.ops all (o::rest)::k) l h:=by
 refine .op (V:=fun v' h'=>v'=v/\h'=h) (.inr fun cl e=>hnd (by rw [e];rfl)) hgd ?_ hdst hlt ?_
 ·intro a w ha hh _;exact ⟨v,w,hv a w ha,dC.refl w,rfl,hh⟩
 rintro v' h' ⟨rfl,rfl⟩;exact hr
theorem go_run (T:Tab P):∀(f:Nat) (st:List SI) (l:Fr),go T c.n h (fun st l=>aD c ds st l h) f st l->aD c ds st l h:=by
 intro f
 induction f with
 |zero=>intro st l hg;exact hg
 |succ f ih=>
  intro st l hg;unfold go at hg;split at hg
  ·exact hg
  split at hg
  ·exact .inBlock (ih _ _ hg)
  ·exact .inScope (ih _ _ hg)
  ·split at hg
   ·exact .regionEnd (ih _ _ hg)
   split at hg
   ·exact hg
   rename_i o rest _ d hdst
   split at hg
   ·exact hg
   rename_i hlt
   have hlt:=Nat.blt_eq.mp hlt;split at hg
   ·exact hg
   ·rename_i hgd;exact .opSkip hdst hlt hgd (ih _ _ hg)
   rename_i hgd
   have hk:=fun a w ha=>yO T c.n l o.op a w o ha rfl;split at hg
   ·split at hg
    ·rename_i hl
     obtain ⟨v,hc,hg⟩:=hg;refine .op (V:=fun v' h'=>v'=v/\h'=h) ?_ hgd ?_ hdst hlt ?_
     ·refine .inr fun cl e=>?_;rw [e] at hl;cases hl
     ·intro a w ha hh _;exact ⟨v,w,tC hl ha (hh▸hc),dC.refl w,rfl,hh⟩
     rintro v' h' ⟨rfl,rfl⟩;exact ih _ _ hg
    exact hg
   ·rename_i p i hv
    simp only [hv,Pu.ok] at hk;split at hg
    ·by_cases hp:p
     ·simp only [hp,decide_true] at hk;exact .ev1V T hk (by rw [hv];simp) hdst hlt hgd (ih _ _ (hg.1 hp))
     simp only [hp,decide_false] at hk;exact .ev1V T hk (by rw [hv];simp) hdst hlt hgd (ih _ _ (hg.2 hp))
    exact .ev1V T hk (by rw [hv];simp) hdst hlt hgd (ih _ _ hg)
   ·rename_i p i hv
    simp only [hv,Pu.ok] at hk;split at hg
    ·by_cases hp:p
     ·simp only [hp,decide_true,Bool.not_true] at hk;exact .ev1V T hk (by rw [hv];simp) hdst hlt hgd (ih _ _ (hg.1 hp))
     simp only [hp,decide_false,Bool.not_false] at hk;exact .ev1V T hk (by rw [hv];simp) hdst hlt hgd (ih _ _ (hg.2 hp))
    exact .ev1V T hk (by rw [hv];simp) hdst hlt hgd (ih _ _ hg)
   ·rename_i v hv
    simp only [hv,Pu.ok] at hk;exact .ev1V T hk (by rw [hv];simp) hdst hlt hgd (ih _ _ hg)
   rename_i p v hv
   simp only [hv,Pu.ok] at hk;exact .ev1V T (fun a w ha=>hk a w ha hg.1) (by rw [hv];simp) hdst hlt hgd (ih _ _ hg.2)
  ·split at hg
   ·exact .skip (ih _ _ hg)
   ·exact .label (ih _ _ hg)
   ·exact .seq (ih _ _ hg)
   ·split at hg
    ·rename_i hx;exact .cond hx (ih _ _ hg)
    ·rename_i hx;exact .cond hx (ih _ _ hg)
    exact hg
   ·exact .block (ih _ _ hg)
   ·exact .scope (ih _ _ hg)
   ·split at hg
    ·rename_i he;exact .exit he (ih _ _ hg)
    exact hg
   ·split at hg
    ·rename_i he;exact .goto he (ih _ _ hg)
    exact hg
   ·split at hg
    ·exact .region (ih _ _ hg)
    exact hg
   exact hg
  exact hg
end Go.Fw

namespace Go.Fw
open Go
variable {P:Program}
theorem eB (c:Ctx P) {m m':Machine} (h:Steps P m m') (hz:c.Z m'):c.Z m:=by
 obtain ⟨n,hn⟩:=h
 induction n generalizing m with
 |zero=>simp [runN] at hn;exact hn▸hz
 |succ n ih=>
  simp only [runN] at hn
  cases hs:step P m with
  |next m1=>rw [hs] at hn;exact c.back _ _ hs (ih hn)
  |ended o w=>rw [hs] at hn;simp at hn
def aJI (P:Program) (f:FuncId):Prop:=∃fn code,P.funcs[f]? = some fn∧(fn.name == "runtime.NumGoroutine")=false∧fn.body=some code
structure Fn (P:Program) (f:FuncId) (args:Array Value) (h:Array Obj) (R:Ending->Array Obj->Prop):Prop where
 enters:aJI P f
 calls:∀w:World,w.heap=h->Calls P f args w fun e w'=>dC w w'/\R e w'.heap
def FnV (P:Program) (f:FuncId) (args:Array Value) (h:Array Obj) (R:Value->Array Obj->Prop):Prop:=
 Fn P f args h fun e h'=>∃v,e=.returned v/\R v h'
theorem Fn.mono {f:FuncId} {args:Array Value} {h:Array Obj} {R R':Ending->Array Obj->Prop} (H:Fn P f args h R) (hr:∀e h',R e h'->R' e h'):Fn P f args h R':=
 ⟨H.enters,fun w hw=>(H.calls w hw).mono fun _ _ ⟨a,b⟩=>⟨a,hr _ _ b⟩⟩
theorem FnV.mono {f:FuncId} {args:Array Value} {h:Array Obj} {R R':Value->Array Obj->Prop} (H:FnV P f args h R) (hr:∀v h',R v h'->R' v h'):FnV P f args h R':=
 Fn.mono H fun _ _ ⟨v,a,b⟩=>⟨v,a,hr _ _ b⟩
def cW (P:Program) (f n:Nat) (w0:World) (cs:List Frame) (R:Ending->Array Obj->Prop):Ctx P where
 Z:=fun m=>∃e w' fr,(dC w0 w'/\R e w'.heap)/\Comes P m (lone fr cs w') e/\fr.fn=f/\fr.leaving P w' e
 back:=fun _ _ hs ⟨e,w',fr,hR,hc,hf,hl⟩=>⟨e,w',fr,hR,hc.of_steps (.one hs),hf,hl⟩
 fn:=f
 kind:=.normal
 round:=none
 cs:=cs
 w0:=w0
 n:=n
def xP:Nat->List Value->Fr
 |_,[]=>[]
 |i,v::vs=>(i,v)::xP (i+1) vs
theorem aRL (vs:List Value):∀(i d:Nat) (v:Value),look (xP i vs) d=some v->i<=d/\vs[d - i]? = some v:=by
 induction vs with
 |nil=>intro i d v h;cases h
 |cons u vs ih=>
  intro i d v h;simp only [xP,look] at h
  cases hb:Nat.beq i d with
  |true=>
   have:=Nat.eq_of_beq_eq_true hb;subst this;simp only [hb,Option.some.injEq] at h;subst h;exact ⟨Nat.le_refl _,by simp⟩
  |false=>
   simp only [hb] at h;obtain ⟨h1,h2⟩:=ih _ _ _ h;refine ⟨by omega,?_⟩;have:d - i=d - (i+1)+1:=by omega
   rw [this];simpa using h2
theorem aEL (args:List Value) (n:Nat) (hn:args.length<=n):bB n (xP 0 args) {tmps:=args.toArray++Array.replicate (n - args.toArray.size) undef,defers:=[]}:=by
 refine ⟨by simp;omega,fun d v hv=>?_⟩;obtain ⟨_,h2⟩:=aRL _ _ _ _ hv;simp only [Nat.sub_zero] at h2;have hlt:d<args.length:=(List.getElem?_eq_some_iff.1 h2).1;rw [Array.getElem?_append_left (by simpa using hlt)]
 simpa using h2
theorem Fn.of {f:FuncId} {fn:Func} {code:Code} (hf:P.funcs[f]? = some fn) (hname:(fn.name == "runtime.NumGoroutine")=false) (hb:fn.body=some code) {n:Nat} (hnt:fn.ntmps=n)
  {args:List Value} (hargs:Nat.ble args.length n=true) {h:Array Obj} {R:Ending->Array Obj->Prop}
  (H:∀w0 cs,aD (cW P f n w0 cs R) [] [.code code] (xP 0 args) h):Fn P f args.toArray h R:=by
 refine ⟨⟨fn,code,hf,hname,hb⟩,fun w hw cs=>?_⟩;have hr:=H w cs;unfold aD at hr;have:=hr (fun s hs=>by simp at hs;subst hs;trivial) {tmps:=args.toArray++Array.replicate (n - args.toArray.size) undef,defers:=[]} w (aEL _ _ (Nat.le_of_ble_eq_true hargs)) rfl hw (dC.refl w);have henter:Frame.enter P f args.toArray .normal=(cW P f n w cs R).fr {tmps:=args.toArray++Array.replicate (n - args.toArray.size) undef,defers:=[]} (its [.code code]):=by
  simp [Frame.enter,Ctx.fr,hf,hb,hnt,cW,its,SI.it]
 rw [<-henter] at this;exact this
/-! returns -/
def bFO:List ResultVar->Option (List Nat)
 | []=>some []
 |r::rs=>match r with
  | .tmp t=>match bFO rs with
   |some l=>some (t::l)
   |none=>none
  |_=>none
def nW (l:Fr):List Nat->Option (List Value)
 | []=>some []
 |t::ts=>match look l t with
  |some v=>match nW l ts with
   |some vs=>some (v::vs)
   |none=>none
  |none=>none
def tup:List Value->Value
 | [v]=>v
 |vs=>.tuple vs.toArray
def gY (tmps:Array Value):ResultVar->Sem Value
 | .tmp t=>pure (tmps.getD t undef)
 | .cell a t=>do loadVar t (<-asAddr (tmps.getD a undef))
theorem yC (fn:Func) (tmps:Array Value):results fn tmps=(do
  let vs <-fn.results.mapM (gY tmps)
  pure (if h:vs.size=1 then vs[0] else .tuple vs)):=rfl
theorem aNZ {fn:Func} {n:Nat} {l:Fr} {a:Act} (ha:bB n l a) {ts:List Nat} (hts:bFO fn.results.toList=some ts) {vs:List Value} (hvs:nW l ts=some vs) (w:World):
  (results fn a.tmps).run P w=.ok (tup vs) w:=by
 have key:∀(rs:List ResultVar) (ts:List Nat) (vs:List Value),bFO rs=some ts->nW l ts=some vs ->
   (rs.mapM (gY a.tmps)).run P w=.ok vs w:=by
  intro rs
  induction rs with
  |nil=>intro ts vs h1 h2;simp [bFO] at h1;subst h1;simp [nW] at h2;subst h2;simp
  |cons r rs ih=>
   intro ts vs h1 h2
   cases r with
   |cell=>cases h1
   |tmp t=>
    simp only [bFO] at h1
    cases hr:bFO rs with
    |none=>simp [hr] at h1
    |some ts'=>
     simp [hr] at h1
     subst h1;simp only [nW] at h2
     cases hl:look l t with
     |none=>simp [hl] at h2
     |some v=>
      cases hl':nW l ts' with
      |none=>simp [hl,hl'] at h2
      |some vs'=>
       simp [hl,hl'] at h2
       subst h2;have hrs:=ih ts' vs' hr hl';have hv:=ha.get t v hl;have h0:(gY a.tmps (.tmp t)).run P w=.ok v w:=by simp [gY,hv]
       simp only [List.mapM_cons,Sem.run_bind,h0,hrs,Result.andThen,Sem.run_pure]
 have hk:=key fn.results.toList ts vs hts hvs;rw [yC,<-Array.toArray_toList (xs:=fn.results),List.mapM_toArray];simp only [Sem.run_bind,map_eq_pure_bind,hk,Sem.run_pure,Result.andThen]
 cases vs with
 |nil=>simp [tup]
 |cons v vs=>cases vs<;>simp [tup]
section ret
variable {f n:Nat} {w0:World} {cs:List Frame} {R:Ending->Array Obj->Prop} {k:List SI} {l:Fr} {h:Array Obj}
theorem vV {fn:Func} (hf:P.funcs[f]? = some fn) {ts:List Nat} (hts:bFO fn.results.toList=some ts) {vs:List Value} (hvs:nW l ts=some vs) (hR:R (.returned (tup vs)) h)
  (a:Act) (w:World) (ha:bB n l a) (hd:a.defers=[]) (hh:w.heap=h) (hw:dC w0 w) (todo:List Item):
  (cW P f n w0 cs R).Z (lone { (cW P f n w0 cs R).fr a todo with mode:=.returning} cs w):=by
 refine ⟨.returned (tup vs),w,_,⟨hw,hh▸hR⟩,Steps.refl P _,rfl,rfl,hd,rfl,fn,hf,aNZ ha hts hvs w⟩
theorem aD.ret {fn:Func} (hf:P.funcs[f]? = some fn) {ts:List Nat} (hts:bFO fn.results.toList=some ts) {vs:List Value} (hvs:nW l ts=some vs) (hR:R (.returned (tup vs)) h):
  aD (cW P f n w0 cs R) [] (.code .ret::k) l h:=by
 unfold aD;intro hwf a w ha hd hh hw;refine (cW P f n w0 cs R).back _ _ (step_lone_go ?_) (vV (n:=n) hf hts hvs hR a w ha hd hh hw (its (.code .ret::k)))
 simp [its,SI.it,stepG,stepG.exec,Ctx.fr,cW]
theorem aD.fin {fn:Func} (hf:P.funcs[f]? = some fn) {ts:List Nat} (hts:bFO fn.results.toList=some ts) {vs:List Value} (hvs:nW l ts=some vs) (hR:R (.returned (tup vs)) h):
  aD (cW P f n w0 cs R) [] [] l h:=by
 unfold aD;intro hwf a w ha hd hh hw;refine (cW P f n w0 cs R).back _ _ (step_lone_go ?_) (vV (n:=n) hf hts hvs hR a w ha hd hh hw [])
 simp [its,stepG,stepG.exec,Ctx.fr,cW]
end ret
section calls
variable {c:Ctx P} {ds:List Deferred} {k:List SI} {l:Fr} {h:Array Obj}
def RunsP (c:Ctx P) (ds:List Deferred) (ch:List PanicEntry) (l:Fr) (h:Array Obj):Prop:=
 ∀(a:Act) (w:World) (todo:List Item),bB c.n l a->a.defers=ds->w.heap=h->dC c.w0 w->c.Z (lone {c.fr a todo with mode:=.panicking ch} c.cs w)
theorem nX {g:FuncId} (hg:aJI P g) (args:Array Value) (w:World):(callFunc g args).run P w=.ok (.enter g args) w:=by
 obtain ⟨fn,code,h1,h2,h3⟩:=hg;have hp:(program:Sem Program).run P w=.ok P w:=rfl;simp only [callFunc,Sem.run_bind,hp,Result.andThen,h1,h2,Bool.false_eq_true,if_false,h3,Option.isNone_some,Sem.run_pure]
theorem pI {cl:Call} {o:Oper} (hop:o.op=.call cl) {x:Operand} (hcal:cl.callee=.value x) {n:Nat} {a:Act} (ha:bB n l a) {g:FuncId} {first captured:Array Value}
  (hx:ev l x=some (.func (.func g) first captured)) {vs:List Value} (hargs:kI l cl.args.toList=some vs) (hg:aJI P g) (w:World):
  (execOp a.eval o).run P w=.ok (.enter g (first++vs.toArray++captured)) w:=by
 have e1:=kS ha hargs;have e2:cl.args.map a.eval=vs.toArray:=by apply Array.ext';simpa using e1
 simp [execOp,hop,resolve,hcal,ha.ev hx,Deferred.ofValue,invoke,nX hg,e2]
theorem aD.call {all:Array Oper} {rest:List Oper} {o:Oper} {cl:Call} (hop:o.op=.call cl) {x:Operand} (hcal:cl.callee=.value x) {g:FuncId} {first captured:Array Value}
  (hx:ev l x=some (.func (.func g) first captured)) {vs:List Value} (hargs:kI l cl.args.toList=some vs) (hgd:dG l all o=some true) {d:Nat} (hdst:o.dst=some d) (hdn:Nat.blt d c.n=true)
  {R:Ending->Array Obj->Prop} (H:Fn P g (first++vs.toArray++captured) h R) (hno:∀h',¬R .outgrown h')
  (hp:∀ch h',R (.panicked ch) h'->RunsP c ds ch l h')
  (hr:∀v h',R (.returned v) h'->aD c ds (.ops all rest::k) ((d,v)::l) h'):aD c ds (.ops all (o::rest)::k) l h:=by
 unfold aD;intro hwf a w ha hd hh hw;have hwn:=bJ ha hgd;obtain ⟨i,e1,e2,ho,hwf'⟩:=iY (hwf _ (List.mem_cons_self ..));have hrun:=pI hop hcal ha hx hargs H.enters w;have hd':c.round=none \/ ∀cl,o.op ≠ .defer cl:=.inr (fun cl' e=>by rw [hop] at e;cases e);simp only [gU,e1];have hstep:=iA (P:=P) (c:=c) (k:=its k) (todo:=List.range' (i+1) rest.length) (w:=w) ho hwn hd'
 have henter:Go.step P (lone (c.fr a (.inRegion all (i::List.range' (i+1) rest.length)::its k)) c.cs w) =
   .next (lone (Frame.enter P g (first++vs.toArray++captured) .normal) (c.fr a (.inRegion all (i::List.range' (i+1) rest.length)::its k)::c.cs) w):=
  step_lone_go (by rw [hstep];simp [stepG.apply,hrun,Ctx.fr])
 obtain ⟨e,w',fr,⟨hlk,hR⟩,hcomes,hfn,hleave⟩:=H.calls w hh (c.fr a (.inRegion all (i::List.range' (i+1) rest.length)::its k)::c.cs);refine c.back _ _ henter ?_
 cases e with
 |outgrown=>exact absurd hR (hno _)
 |returned v=>
  refine eB c hcomes ?_;refine c.back _ _ (step_leave_returned hleave) ?_;have hf:=fC (c:=c) a all i (List.range' (i+1) rest.length) (its k) v;rw [ho] at hf;simp only [Option.bind_some,hdst] at hf;rw [hf];have hr':=hr v _ hR;unfold aD at hr';have:=hr' (cA hwf' (bQ hwf)) (a.put (some d) v) w' (ha.put (Nat.blt_eq.mp hdn) _) (by simpa [Act.put] using hd) rfl (hw.trans hlk)
  simpa only [gU,e2] using this
 |panicked ch=>
  refine eB c hcomes ?_;refine c.back _ _ (step_leave_panicked hleave) ?_;exact hp ch _ hR a w' _ ha hd rfl (hw.trans hlk)
theorem aD.callV {all:Array Oper} {rest:List Oper} {o:Oper} {cl:Call} {x:Operand} {g:FuncId} {first captured:Array Value} {vs:List Value} {d:Nat}
  {R:Value->Array Obj->Prop} (H:FnV P g (first++vs.toArray++captured) h R)
  (hr:∀v h',R v h'->aD c ds (.ops all rest::k) ((d,v)::l) h')
  (hop:o.op=.call cl:=by rfl) (hcal:cl.callee=.value x:=by rfl)
  (hx:ev l x=some (.func (.func g) first captured):=by rfl) (hargs:kI l cl.args.toList=some vs:=by rfl) (hgd:dG l all o=some true:=by rfl) (hdst:o.dst=some d:=by rfl) (hdn:Nat.blt d c.n=true:=by rfl):
  aD c ds (.ops all (o::rest)::k) l h:=
 aD.call hop hcal hx hargs hgd hdst hdn H (fun _ ⟨_,e,_⟩=>by cases e) (fun _ _ ⟨_,e,_⟩=>by cases e) (fun v h' ⟨v',e,hv⟩=>by cases e;exact hr _ _ hv)
end calls

section one
variable {c:Ctx P} {K:List Item} {Q:Exit->Act->World->Prop} {all:Array Oper}
theorem z_op1 (hP:∀ch a w,Q (.panic ch) a w -> ∀todo,c.Z (lone {c.fr a todo with mode:=.panicking ch} c.cs w)) (hO:∀a w,¬Q .outgrown a w) {next:Act->World->Prop} {i:Nat} {rest:List Nat} {o:Oper} {a:Act} {w:World}
  (hround:c.round=none \/ ∀cl,o.op ≠ .defer cl) (ho:all[i]? = some o) (hw:Region.wanted o (yielded all a.tmps)=true) (hq:o.wp P a w next Q)
  (ih:∀a w,next a w->c.Z (lone (c.fr a (.inRegion all rest::K)) c.cs w)):c.Z (lone (c.fr a (.inRegion all (i::rest)::K)) c.cs w):=by
    have hstep:=iA (P:=P) (c:=c) (k:=K) (todo:=rest) (w:=w) ho hw hround;have hfin:∀v,(c.fr a (.inRegion all (i::rest)::K)).finish v=c.fr (a.put o.dst v) (.inRegion all rest::K):=by
     intro v;have hf:=fC (c:=c) a all i rest K v;rw [ho] at hf;exact hf
    unfold Oper.wp Oper.upon at hq;split at hq
    ·rename_i v w' hr
     refine c.back _ _ (step_lone_go ?_) (ih _ _ hq);rw [hstep,<-hfin];simp [stepG.apply,hr]
    ·rename_i w' hr
     refine c.back _ _ (step_lone_go ?_) (ih _ _ hq);rw [hstep,<-hfin];simp [stepG.apply,hr]
    ·rename_i d w' hr
     refine c.back _ _ (step_lone_go ?_) (ih _ _ hq);have:({c.fr a (.inRegion all (i::rest)::K) with defers:=d::a.defers}:Frame).finish undef=c.fr ({a with defers:=d::a.defers}.put o.dst undef) (.inRegion all rest::K):=by
      have hf:=fC (c:=c) {a with defers:=d::a.defers} all i rest K undef;rw [ho] at hf;exact hf
     rw [hstep];simp only [stepG.apply,Sem.runT_eq,hr,GStep.bare_after];exact congrArg (fun fr=>GStep.go {frame:=fr,callers:=c.cs,status:=.running,dying:=none} w') this
    ·rename_i f args w' hr
     obtain ⟨e,w'',fr,hR,hsteps,_,hleave⟩:=hq (c.fr a (.inRegion all (i::rest)::K)::c.cs)
     have henter:Go.step P (lone (c.fr a (.inRegion all (i::rest)::K)) c.cs w)=.next (lone (Frame.enter P f args .normal) (c.fr a (.inRegion all (i::rest)::K)::c.cs) w'):=
      step_lone_go (by rw [hstep];simp [stepG.apply,hr,Ctx.fr])
     refine c.back _ _ henter ?_
     cases e with
     |returned v=>
      refine eB c hsteps (c.back _ _ (step_leave_returned hleave) ?_);rw [hfin];exact ih _ _ hR
     |panicked ch=>
      refine eB c hsteps (c.back _ _ (step_leave_panicked hleave) ?_);exact hP ch a w'' hR _
     |outgrown=>
      obtain ⟨a0,w0,h0⟩:=hR;exact absurd h0 (hO _ _)
    ·rename_i row args w' hr
     obtain ⟨v,w'',hR,hsteps⟩:=hq (c.fr a (.inRegion all (i::rest)::K)) c.cs
     have henter:Go.step P (lone (c.fr a (.inRegion all (i::rest)::K)) c.cs w)=.next (lone (Frame.ofRow P row args .normal) (c.fr a (.inRegion all (i::rest)::K)::c.cs) w'):=
      step_lone_go (by rw [hstep];simp [stepG.apply,hr,Ctx.fr])
     refine c.back _ _ henter (eB c hsteps ?_);rw [hfin];exact ih _ _ hR
    ·rename_i v w' hr
     refine c.back _ _ (step_lone_go ?_) (hP _ a w' hq (.inRegion all (i::rest)::K));rw [hstep];simp [stepG.apply,hr];rfl
    exact hq.elim
end one
def upd (l:Fr) (dst:Option Nat) (v:Value):Fr:=
 match dst with
 |some d=>(d,v)::l
 |none=>l
def Eff (P:Program) (n:Nat) (l:Fr) (h:Array Obj) (o:Oper) (V:Value->Array Obj->Prop):Prop:=
 ∀a w,bB n l a->w.heap=h -> ∀(next:Act->World->Prop) (Q:Exit->Act->World->Prop),(∀v w',dC w w'->V v w'.heap->next (a.put o.dst v) w')->o.wp P a w next Q
theorem Eff.of_value {n:Nat} {l:Fr} {h:Array Obj} {o:Oper} {V:Value->Array Obj->Prop}
  (hrun:∀a w,bB n l a->w.heap=h -> ∃v w',(execOp a.eval o).run P w=.ok (.value v) w'/\dC w w'/\V v w'.heap):Eff P n l h o V:=by
 intro a w ha hh next Q hn
 obtain ⟨v,w',h1,h2,h3⟩:=hrun a w ha hh;unfold Oper.wp;rw [h1];exact hn v w' h2 h3
theorem Eff.of_skip {n:Nat} {l:Fr} {h:Array Obj} {o:Oper} {V:Value->Array Obj->Prop}
  (hrun:∀a w,bB n l a->w.heap=h -> ∃w',(execOp a.eval o).run P w=.ok .skip w'/\dC w w'/\V undef w'.heap):Eff P n l h o V:=by
 intro a w ha hh next Q hn
 obtain ⟨w',h1,h2,h3⟩:=hrun a w ha hh;unfold Oper.wp;rw [h1];exact hn undef w' h2 h3
theorem Eff.of_val1 {n:Nat} {l:Fr} {h:Array Obj} {o:Oper} {v:Value} {h':Array Obj}
  (hrun:∀a w,bB n l a->w.heap=h -> ∃w',(execOp a.eval o).run P w=.ok (.value v) w'/\dC w w'/\w'.heap=h'):Eff P n l h o (fun v' h''=>v'=v/\h''=h'):=
 Eff.of_value fun a w ha hh=>let ⟨w',h1,h2,h3⟩:=hrun a w ha hh;⟨v,w',h1,h2,rfl,h3⟩
theorem Eff.call {n:Nat} {l:Fr} {h:Array Obj} {o:Oper} {cl:Call} {x:Operand} {g:FuncId} {first captured:Array Value} {vs:List Value} {R:Value->Array Obj->Prop}
  (H:FnV P g (first++vs.toArray++captured) h R)
  (hop:o.op=.call cl:=by rfl) (hcal:cl.callee=.value x:=by rfl)
  (hx:ev l x=some (.func (.func g) first captured):=by rfl) (hargs:kI l cl.args.toList=some vs:=by rfl):Eff P n l h o R:=by
 intro a w ha hh next Q hn
 unfold Oper.wp;rw [pI hop hcal ha hx hargs H.enters w,Oper.upon_enter];refine (H.calls w hh).mono fun e w' ⟨hlk,v,he,hR⟩=>?_;subst he;exact hn v w' hlk hR
def dY (o:Oper):Bool:=
 match o.op with
 | .defer _=>false
 |_=>true
section
variable {c:Ctx P} {ds:List Deferred} {k:List SI} {l:Fr} {h:Array Obj}
theorem eG {n:Nat} {a:Act} (ha:bB n l a) {dst:Option Nat} (hd:∀d,dst=some d->d<n) (v:Value):bB n (upd l dst v) (a.put dst v):=by
 cases dst with
 |none=>exact ha
 |some d=>exact ha.put (hd d rfl) v
def cB (n:Nat) (dst:Option Nat):Bool:=
 match dst with
 |some d=>Nat.blt d n
 |none=>true
theorem fE {n:Nat} {dst:Option Nat} (h:cB n dst=true):∀d,dst=some d->d<n:=by
 intro d e;subst e;exact Nat.blt_eq.mp h
theorem aD.eff {all:Array Oper} {rest:List Oper} {o:Oper} {V:Value->Array Obj->Prop} (H:Eff P c.n l h o V)
  (hr:∀v h',V v h'->aD c ds (.ops all rest::k) (upd l o.dst v) h')
  (hgd:dG l all o=some true:=by rfl) (hdst:cB c.n o.dst=true:=by rfl) (hnd:dY o=true:=by rfl):aD c ds (.ops all (o::rest)::k) l h:=by
 unfold aD;intro hwf a w ha hd hh hw;have hwn:=bJ ha hgd;obtain ⟨i,e1,e2,ho,hwf'⟩:=iY (hwf _ (List.mem_cons_self ..));simp only [gU,e1];refine z_op1 (Q:=fun _ _ _=>False) (fun _ _ _ hq=>hq.elim) (fun _ _ hq=>hq) (.inr fun cl e=>?_) ho hwn (H a w ha hh (fun a' w'=>c.Z (lone (c.fr a' (.inRegion all (List.range' (i+1) rest.length)::its k)) c.cs w')) _ fun v w' hlk hV=>?_) (fun _ _ hq=>hq)
 ·unfold dY at hnd;rw [e] at hnd;cases hnd
 have hr':=hr v _ hV;unfold aD at hr';have:=hr' (cA hwf' (bQ hwf)) (a.put o.dst v) w' (eG ha (fE hdst) v) (by cases o.dst<;>simpa [Act.put] using hd) rfl (hw.trans hlk)
 simpa only [gU,e2] using this
end

def At (h:Array Obj) (b:Nat) (cs:Array Value) (e:TypeId):Prop:=h[b]? = some (.cells cs e (0,0))
theorem At.cell {h:Array Obj} {b:Nat} {cs:Array Value} {e:TypeId} (H:At h b cs e) (o:Nat):bL h b o=cs[o]? :=by
 unfold At at H
 simp [bL,H]
def setB (h:Array Obj) (b:Nat) (cs:Array Value) (e:TypeId):Array Obj:=h.setIfInBounds b (.cells cs e (0,0))
@[simp] theorem size_setB (h : Array Obj) (b : Nat) (cs : Array Value) (e : TypeId) : (setB h b cs e).size = h.size := by simp [setB]
theorem fQ {h:Array Obj} {b:Nat} (hb:b<h.size) (cs:Array Value) (e:TypeId):At (setB h b cs e) b cs e:=by
 unfold At setB;rw [Array.getElem?_setIfInBounds_self_of_lt hb]
theorem bGC {h:Array Obj} {b b':Nat} (hne:b'≠b) (cs:Array Value) (e:TypeId):(setB h b cs e)[b']? = h[b']? :=by
 unfold setB;rw [Array.getElem?_setIfInBounds_ne (by omega)]
theorem At.lt {h:Array Obj} {b:Nat} {cs:Array Value} {e:TypeId} (H:At h b cs e):b<h.size:=(Array.getElem?_eq_some_iff.1 H).1
theorem gH (h:Array Obj) (cs:Array Value) (e:TypeId):At (h.push (.cells cs e (0,0))) h.size cs e:=by simp [At]
theorem pF {h:Array Obj} {b:Nat} (hb:b<h.size) (o:Obj):(h.push o)[b]? = h[b]? :=by rw [Array.getElem?_push,if_neg (by omega)]
theorem At.push {h:Array Obj} {b:Nat} {cs:Array Value} {e:TypeId} (H:At h b cs e) (o:Obj):At (h.push o) b cs e:=by
 unfold At;rw [pF H.lt];exact H
structure aH (B:Nat) (h h':Array Obj):Prop where
 size:h.size<=h'.size
 same:∀k,k<B->h'[k]? = h[k]?
theorem aH.refl (B:Nat) (h:Array Obj):aH B h h:=⟨Nat.le_refl _,fun _ _=>rfl⟩
theorem aH.trans {B:Nat} {a b c:Array Obj} (h:aH B a b) (k:aH B b c):aH B a c:=⟨Nat.le_trans h.size k.size,fun i hi=>(k.same i hi).trans (h.same i hi)⟩
theorem aH.mono {B B':Nat} {a b:Array Obj} (h:aH B a b) (hb:B'<=B):aH B' a b:=⟨h.size,fun i hi=>h.same i (by omega)⟩
theorem aH.push {B:Nat} {h h':Array Obj} (hk:aH B h h') (hB:B<=h'.size) (o:Obj):aH B h (h'.push o):=
 hk.trans ⟨by simp,fun k hk=>pF (by omega) o⟩
theorem aH.setB {B:Nat} {h h':Array Obj} (hk:aH B h h') {b:Nat} (hB:B<=b) (cs:Array Value) (e:TypeId):aH B h (Fw.setB h' b cs e):=
 hk.trans ⟨by simp,fun k hk=>bGC (by omega) cs e⟩
theorem aH.at {B:Nat} {h h':Array Obj} (hk:aH B h h') {b:Nat} {cs:Array Value} {e:TypeId} (H:At h b cs e) (hb:b<B):At h' b cs e:=by
 unfold At;rw [hk.same b hb];exact H
theorem aH.cell {B:Nat} {h h':Array Obj} (hk:aH B h h') {b o:Nat} (hb:b<B):bL h' b o=bL h b o:=by
 unfold bL;rw [hk.same b hb]
theorem tX {w:World} {g:Nat} {cur:Array Value} {t:TypeId} (hg:w.heap[g]? = some (.cells cur t (0,0))) (cs:Array Value):(w.setRow g cs).heap=setB w.heap g cs t:=by
 apply Array.ext
 ·simp [World.setRow,setB]
 intro i h1 h2;have e:(w.setRow g cs).heap[i]? = (setB w.heap g cs t)[i]? :=by
  by_cases hi:i=g
  ·subst hi;rw [setRow_heap w i cur cs t (0,0) hg];exact (fQ (Array.getElem?_eq_some_iff.1 hg).1 cs t).symm
  rw [setRow_other w g i cs hi,bGC hi]
 rw [Array.getElem?_eq_getElem h1,Array.getElem?_eq_getElem h2] at e;exact Option.some.inj e
def uY {P:Program} (T:Tab P) (t:TypeId):Bool:=
 match bC T.und t with
 |some (.struct _)=>true
 |some (.array ..)=>true
 |_=>false
theorem rH (T:Tab P) {t:TypeId} (h:uY T t=true) (w:World):(isAgg t).run P w=.ok true w:=by
 unfold uY at h
 cases hu:bC T.und t with
 |none=>simp [hu] at h
 |some u=>
  have hk:=T.okU.look hu;cases u<;>simp [hu] at h<;>simp only [UD.ok] at hk;case struct=>obtain ⟨_,hk,_⟩:=hk;simp [isAgg,run_underlying hk]
  case array=>simp [isAgg,run_underlying hk.1]
theorem kK (T:Tab P) {t:TypeId} {i:Inf} (h:cT T.inf t=some i) (w:World):(sizeOf t).run P w=.ok i.size w:=by
 obtain ⟨j,h1,h2,h3,h4⟩:=T.okI.look h;exact eQ (by simp [h1,h3]) w
theorem aME (T:Tab P) {t:TypeId} {i:Inf} (h:cT T.inf t=some i) (w:World):(zeroValue t).run P w=.ok i.zero w:=by
 obtain ⟨j,h1,h2,h3,h4⟩:=T.okI.look h
 simp [zeroValue,typeInfo,h1,h2]
def lT (l:Fr):List (Nat×Operand)->Option (List (Nat×Value))
 | []=>some []
 |(i,x)::q=>match ev l x with
  |some v=>match lT l q with
   |some vs=>some ((i,v)::vs)
   |none=>none
  |none=>none
theorem aDA {n:Nat} {l:Fr} {a:Act} (ha:bB n l a):∀ {q:List (Nat×Operand)} {ps:List (Nat×Value)},lT l q=some ps->q.map (fun p=>(p.1,a.eval p.2))=ps:=by
 intro q
 induction q with
 |nil=>intro ps h;simp [lT] at h;exact h▸rfl
 |cons p q ih=>
  obtain ⟨i,x⟩:=p;intro ps h;simp only [lT] at h
  cases hv:ev l x with
  |none=>simp [hv] at h
  |some v=>
   cases hq:lT l q with
   |none=>simp [hv,hq] at h
   |some qs=>simp [hv,hq] at h;subst h;simp [ha.ev hv,ih hq]
section ops
variable {n:Nat} {l:Fr} {h:Array Obj} {o:Oper}
theorem aFY (T:Tab P) {t:TypeId} {x:Operand} {b off:Nat} {v:Value} (hc:bL h b off=some v)
  (hop:o.op=.load t x:=by rfl) (hx:ev l x=some (.pointer (some ⟨b,off,none⟩)):=by rfl) (ht:eY T t=true:=by rfl):Eff P n l h o (fun v' h'=>v'=v/\h'=h):=by
 refine Eff.of_val1 fun a w ha hh=>⟨w,?_,dC.refl w,hh⟩;have hcell:=iQ (w:=w) (hh▸hc)
 simp [execOp,hop,ha.ev hx,Instr.loadAt,Instr.sureAddr,loadVar,lN T ht,Go.load,Sem.run,hcell]
theorem vB (T:Tab P) {t:TypeId} {x:Operand} {b off:Nat} {vs:List Value} {i:Inf} (hc:∀j v,vs[j]? = some v->bL h b (off+j)=some v) (hlen:vs.length=i.size)
  (hop:o.op=.load t x:=by rfl) (hx:ev l x=some (.pointer (some ⟨b,off,none⟩)):=by rfl) (ht:uY T t=true:=by rfl) (hi:cT T.inf t=some i:=by rfl):
  Eff P n l h o (fun v' h'=>v'=.agg vs.toArray/\h'=h):=by
 refine Eff.of_val1 fun a w ha hh=>⟨w,?_,dC.refl w,hh⟩;have hl:=run_loadCells_list (P:=P) w ⟨b,off,none⟩ vs (fun j v hv=>by rw [fS];exact iQ (hh▸hc j v hv));rw [hlen] at hl
 simp [execOp,hop,ha.ev hx,Instr.loadAt,Instr.sureAddr,loadVar,rH T ht,kK T hi,hl]
theorem aXS (T:Tab P) {t:TypeId} {x y:Operand} {b off:Nat} {v:Value} {cs:Array Value} {e:TypeId} {i:Inf} (hat:At h b cs e)
  (hop:o.op=.store t x y:=by rfl) (hx:ev l x=some (.pointer (some ⟨b,off,none⟩)):=by rfl) (hy:ev l y=some v:=by rfl) (hi:cT T.inf t=some i:=by rfl)
  (hsz:v.cells.size=i.size:=by rfl) (h1:v.cells.toList.all Value.oneCell'=true:=by rfl) (hlt:off+v.cells.size<=cs.size):
  Eff P n l h o (fun _ h'=>h'=setB h b ((cs.toList.take off)++v.cells.toList++(cs.toList.drop (off+v.cells.size))).toArray e):=by
 refine Eff.of_skip fun a w ha hh=>?_;have hg:w.heap[b]? = some (.cells cs e (0,0)):=by rw [hh];exact hat
 have hst:=run_storeCells_at P b off e v.cells.toList 0 cs w hg (by simpa using hlt) (List.all_eq_true.1 h1);simp only [Nat.add_zero,Array.length_toList] at hst;refine ⟨w.setRow b (cs.toList.take off++v.cells.toList++cs.toList.drop (off+v.cells.size)).toArray,?_,⟨rfl,rfl,rfl⟩,(tX hg _).trans (by rw [hh])⟩
 simp [execOp,hop,ha.ev hx,ha.ev hy,Instr.storeAt,Instr.sureAddr,storeVar,kK T hi,hsz,hst]
theorem kN (T:Tab P) {t:TypeId} {x y:Operand} {b off:Nat} {v:Value} {cs:Array Value} {e:TypeId} {i:Inf} (hat:At h b cs e)
  (hop:o.op=.store t x y:=by rfl) (hx:ev l x=some (.pointer (some ⟨b,off,none⟩)):=by rfl) (hy:ev l y=some v:=by rfl) (hi:cT T.inf t=some i:=by rfl)
  (hsz:i.size=1:=by rfl) (hv:v.cells = #[v]:=by rfl) (h1:v.oneCell'=true:=by rfl) (hlt:off<cs.size):
  Eff P n l h o (fun _ h'=>h'=setB h b (cs.setIfInBounds off v) e):=by
 have key:=aXS (n:=n) (l:=l) (o:=o) T hat (v:=v) (off:=off) hop hx hy hi (by rw [hv,hsz];rfl) (by rw [hv];simpa using h1) (by rw [hv];simp;omega);have e1:((cs.toList.take off)++v.cells.toList++(cs.toList.drop (off+v.cells.size))).toArray=cs.setIfInBounds off v:=by
  rw [hv];apply Array.ext';rw [Array.toList_setIfInBounds,List.set_eq_take_append_cons_drop,if_pos (by simpa using hlt)]
  simp
 rw [e1] at key;exact key
theorem aDU {t:TypeId} {x:Operand} {v:Value}
  (hop:o.op=.box t x:=by rfl) (hx:ev l x=some v:=by rfl):Eff P n l h o (fun v' h'=>v'=.pointer (some ⟨h.size,0,none⟩)/\h'=h.push (.cells v.cells t (0,0))):=by
 refine Eff.of_val1 fun a w ha hh=>⟨w.alloc (.cells v.cells t),?_,⟨rfl,rfl,rfl⟩,by simp [World.alloc,hh]⟩
 simp [execOp,hop,ha.ev hx,Instr.box,newVar,newRow,hh]
theorem aIJ (T:Tab P) {t:TypeId} {i:Inf} (hop:o.op=.alloc t:=by rfl) (hi:cT T.inf t=some i:=by rfl):
  Eff P n l h o (fun v' h'=>v'=.pointer (some ⟨h.size,0,none⟩)/\h'=h.push (.cells i.zero.cells t (0,0))):=by
 refine Eff.of_val1 fun a w ha hh=>⟨w.alloc (.cells i.zero.cells t),?_,⟨rfl,rfl,rfl⟩,by simp [World.alloc,hh]⟩
 simp [execOp,hop,Instr.alloc,aME T hi,newVar,newRow,hh]
theorem aNT (T:Tab P) {t e sz:Nat} {x y:Operand} {i:Inf} {n1 m:Int} {k1 k2:IntKind}
  (hop:o.op=.makeSlice t x y:=by rfl) (hx:ev l x=some (.int k1 n1):=by rfl) (hy:ev l y=some (.int k2 m):=by rfl) (ht:bC T.und t=some (.slice e sz):=by rfl) (hi:cT T.inf e=some i:=by rfl)
  (hn:0<=n1/\n1<=m/\(i.bytes:Int)*m<=281474976710656/\m<=9223372036854775807):
  Eff P n l h o (fun v' h'=>v'=.slice (some ⟨h.size,0,none⟩) n1.toNat m.toNat/\h'=h.push (.cells (madeCells i.zero.cells (m.toNat*i.size)) e (0,0))):=by
 refine Eff.of_val1 fun a w ha hh=>⟨w.alloc (.cells (madeCells i.zero.cells (m.toNat*i.size)) e),?_,⟨rfl,rfl,rfl⟩,by simp [World.alloc,hh]⟩;obtain ⟨j,h1,h2,h3,h4⟩:=T.okI.look hi;have hm:=run_make (P:=P) w t e j i.zero (T.okU.look ht).1 h1 h2 k1 k2 n1 m hn.1 hn.2.1 (by rw [h4];exact hn.2.2.1) hn.2.2.2;rw [h3] at hm
 simp [execOp,hop,ha.ev hx,ha.ev hy,hm,hh]
theorem aHM (z:Value) (n:Nat):madeCells #[z] (n*1)=Array.replicate n z:=by
 apply Array.ext
 ·simp [madeCells]
 intro i h1 h2
 simp [madeCells,Nat.mod_one]
theorem qJ (T:Tab P) (N M:Nat) {t e sz bts:Nat} {x y:Operand} {i:Inf} {z:Value} {n1 m:Int} {k1 k2:IntKind}
  (hop:o.op=.makeSlice t x y:=by rfl) (hx:ev l x=some (.int k1 n1):=by rfl) (hy:ev l y=some (.int k2 m):=by rfl) (ht:bC T.und t=some (.slice e sz):=by rfl) (hi:cT T.inf e=some i:=by rfl)
  (hsz:i.size=1:=by rfl) (hz:i.zero.cells = #[z]:=by rfl) (hbt:i.bytes=bts:=by rfl)
  (hn:n1=(N:Int)/\m=(M:Int)/\N<=M/\bts*M<=281474976710656/\M<=9223372036854775807):
  Eff P n l h o (fun v' h'=>v'=.slice (some ⟨h.size,0,none⟩) N M/\h'=h.push (.cells (Array.replicate M z) e (0,0))):=by
 obtain ⟨rfl,rfl,h3,h4,h5⟩:=hn;have key:=aNT (n:=n) (l:=l) (h:=h) (o:=o) T hop hx hy ht hi ⟨by omega,by omega,by rw [hbt];omega,by omega⟩;rw [hsz,hz,aHM] at key;exact key
theorem uW (T:Tab P) {t e sz m:Nat} {parts:Array (Nat×Operand)} {ps:List (Nat×Value)} {i:Inf} {cells:Array Value}
  (hop:o.op=.buildSlice t m parts:=by rfl) (ht:bC T.und t=some (.slice e sz):=by rfl) (hi:cT T.inf e=some i:=by rfl)
  (hps:lT l parts.toList=some ps:=by rfl)
  (hsz:Nat.ble (m*i.size) 16777216=true:=by rfl)
  (hfill:Instr.fill (fun j=>some (j*i.size,i.size)) ((Array.range (m*i.size)).map ((if m*i.size=0 then #[] else i.zero.cells)[· % (if m*i.size=0 then #[] else i.zero.cells).size]!)) ps=some cells:=by rfl):
  Eff P n l h o (fun v' h'=>v'=.slice (some ⟨h.size,0,none⟩) m m/\h'=h.push (.cells cells e (0,0))):=by
 refine Eff.of_val1 fun a w ha hh=>⟨w.alloc (.cells cells e),?_,⟨rfl,rfl,rfl⟩,by simp [World.alloc,hh]⟩;have hp:(parts.map fun (p:Nat×Operand)=>(p.1,a.eval p.2)).toList=ps:=by
  rw [Array.toList_map];exact aDA ha hps
 have hle:¬m*i.size>2^24:=by have:=Nat.le_of_ble_eq_true hsz;omega
 have hz:=aME T hi w;have hs:=kK T hi w;have hu:=(T.okU.look ht).1;have key:(Instr.buildSlice t m (parts.map fun (p:Nat×Operand)=>(p.1,a.eval p.2))).run P w=.ok (.slice (some ⟨h.size,0,none⟩) m m) (w.alloc (.cells cells e)):=by
  unfold Instr.buildSlice;simp only [Sem.run_bind,run_underlying hu,Result.andThen,hs];rw [if_neg hle,hp];by_cases h0:m*i.size=0
  ·simp only [h0,if_true] at hfill ⊢;simp only [Sem.run_bind,Sem.run_pure,Result.andThen,hfill]
   simp [newRow,hh]
  simp only [h0,if_false] at hfill ⊢;simp only [Sem.run_bind,Sem.run_pure,Result.andThen,hz,hfill]
  simp [newRow,hh]
 simp only [execOp,hop,Sem.run_bind,key,Result.andThen,Sem.run_pure]
def Own (base:Nat) (h:Array Obj) (e:TypeId) (size:Nat) (v:Value) (m:Nat) (xs:List Value):Prop:=
 xs.length=m*size /\
 ((v=.slice none 0 0/\m=0) \/
  ∃g cap cur,v=.slice (some ⟨g,0,none⟩) m cap/\base<=g/\At h g cur e/\m<=cap/\cap<=maxLen/\cur.size=cap*size/\cur.toList.take (m*size)=xs)
theorem rX {base:Nat} {w:World} {e:TypeId} {size:Nat} {v:Value} {m:Nat} {xs:List Value}:Own base w.heap e size v m xs↔w.ownsRow base e size v m xs:=Iff.rfl
theorem xT (T:Tab P) {t e sz:Nat} {x y:Operand} {i:Inf} {cl:Call} {base m m2 cap2:Nat} {v:Value} {xs news:List Value} {b off:Nat}
  (hown:Own base h e i.size v m xs) (hl:news.length=m2*i.size) (hnews:∀j u,news[j]? = some u->bL h b (off+j)=some u) (h1:∀u∈news,u.oneCell'=true)
  (hop:o.op=.call cl:=by rfl) (hcal:cl.callee=.builtin .append:=by rfl) (hargs:cl.args.toList=[x,y]:=by rfl) (hts:cl.argTypes.toList=[t,t]:=by rfl)
  (hx:ev l x=some v:=by rfl) (hy:ev l y=some (.slice (some ⟨b,off,none⟩) m2 cap2):=by rfl) (ht:bC T.und t=some (.slice e sz):=by rfl) (hi:cT T.inf e=some i:=by rfl)
  (hzs:i.zero.cells.size=i.size:=by rfl) (hsz:Nat.blt 0 i.size=true:=by rfl)
  (h63:m+m2<=maxLen) (hbytes:(m+m2)*i.bytes<=140737488355328) (hbase:base<=h.size):
  Eff P n l h o (fun v' h'=>Own base h' e i.size v' (m+m2) (xs++news)/\h.size<=h'.size/\(∀k,k<h.size->some k≠v.ownBlock->h'[k]? = h[k]?)/\(v'=.slice none 0 0↔v=.slice none 0 0/\m2=0)):=by
 refine Eff.of_value fun a w ha hh=>?_;subst hh;obtain ⟨j,q1,q2,q3,q4⟩:=T.okI.look hi
 obtain ⟨v',w',r1,r2,r3,r4⟩:=run_append_own (P:=P) w base t o.type e j i.zero i.size i.bytes (T.okU.look ht).1 q1 q2 q3 q4 hzs (Nat.blt_eq.mp hsz) v m xs (rX.1 hown)
  ⟨b,off,none⟩ m2 cap2 news hl (fun j u hu=>by rw [fS];exact iQ (hnews j u hu)) h1 h63 hbytes hbase
 refine ⟨v',w',?_,⟨r3.tape,r3.os,r3.output⟩,rX.2 r2,r3.size,r3.block,r4⟩;have e1:cl.args = #[x,y]:=by apply Array.ext';simpa using hargs
 have e2:cl.argTypes = #[t,t]:=by apply Array.ext';simpa using hts
 simp [execOp,hop,resolve,hcal,e1,e2,invoke,builtin,ha.ev hx,ha.ev hy,r1]
theorem bBR (T:Tab P) {t t2 e:Nat} {x y:Operand} {cl:Call} {g og dLen dCap b off sLen sCap:Nat} {cur:Array Value} {te:TypeId} {cs:List Value}
  (hat:At h g cur te)
  (hop:o.op=.call cl:=by rfl) (hcal:cl.callee=.builtin .copy:=by rfl) (hargs:cl.args.toList=[x,y]:=by rfl) (hts:cl.argTypes.toList=[t,t2]:=by rfl)
  (hx:ev l x=some (.slice (some ⟨g,og,none⟩) dLen dCap):=by rfl) (hy:ev l y=some (.slice (some ⟨b,off,none⟩) sLen sCap):=by rfl) (ht:bC T.und t=some (.slice e 1):=by rfl)
  (hn:cs.length=Nat.min sLen dLen) (hsrc:∀j u,cs[j]? = some u->bL h b (off+j)=some u) (hfit:og+cs.length<=cur.size) (h1:∀u∈cs,u.oneCell'=true):
  Eff P n l h o (fun v' h'=>v'=.int .i64 cs.length/\h'=setB h g (cur.toList.take og++cs++cur.toList.drop (og+cs.length)).toArray te):=by
 refine Eff.of_val1 fun a w ha hh=>?_;have hg:w.heap[g]? = some (.cells cur te (0,0)):=by rw [hh];exact hat
 have hc:=run_copy_row (P:=P) w t t2 o.type e g og dLen dCap ⟨b,off,none⟩ sLen sCap cur te cs (T.okU.look ht).1 (T.okU.look ht).2 hg hn (fun j u hu=>by rw [fS];exact iQ (hh▸hsrc j u hu)) hfit h1;refine ⟨w.setRow g (cur.toList.take og++cs++cur.toList.drop (og+cs.length)).toArray,?_,⟨rfl,rfl,rfl⟩,(tX hg _).trans (by rw [hh])⟩;have e1:cl.args = #[x,y]:=by apply Array.ext';simpa using hargs
 have e2:cl.argTypes = #[t,t2]:=by apply Array.ext';simpa using hts
 simp [execOp,hop,resolve,hcal,e1,e2,invoke,builtin,ha.ev hx,ha.ev hy,hc,goInt]
def xI (l:List Nat):ByteArray:=⟨(l.map UInt8.ofNat).toArray⟩
theorem aQX (ns:List Nat):∀(r:ByteArray),(ns.map (fun (q:Nat)=>(q:Int))).foldl (fun r n=>r.push (UInt8.ofNat n.toNat)) r=⟨r.data++(ns.map UInt8.ofNat).toArray⟩:=by
 induction ns with
 |nil=>intro r;simp
 |cons q ns ih=>
  intro r;simp only [List.map_cons,List.foldl_cons,ih,Int.toNat_natCast];apply ByteArray.ext;apply Array.ext'
  simp [ByteArray.push]
theorem tP (T:Tab P) {t t2 e sz:Nat} {x:Operand} {b off len cap:Nat} {ns:List Nat} (hlen:ns.length=len) (hc:∀(j u:Nat),ns[j]? = some u->bL h b (off+j)=some (.int .u8 (u:Nat)))
  (hop:o.op=.convert t t2 x:=by rfl) (hx:ev l x=some (.slice (some ⟨b,off,none⟩) len cap):=by rfl) (ht:bC T.und t=some (.slice e sz):=by rfl) (he:bC T.und e=some (.int .u8):=by rfl) (ht2:bC T.und t2=some .str:=by rfl):
  Eff P n l h o (fun v' h'=>v'=.string (xI ns)/\h'=h):=by
 refine Eff.of_val1 fun a w ha hh=>⟨w,?_,dC.refl w,hh⟩;have h1:=run_convert_bytes_string (P:=P) w t t2 e (some ⟨b,off,none⟩) len cap (T.okU.look ht).1 (T.okU.look he) (T.okU.look ht2);have hl:=run_loadCells_list (P:=P) w ⟨b,off,none⟩ (ns.map fun (q:Nat)=>Value.int .u8 q) (fun j u hu=>by
  rw [fS];simp only [List.getElem?_map,Option.map_eq_some_iff] at hu;obtain ⟨q,hq,rfl⟩:=hu;exact iQ (hh▸hc j q hq))
 have h2:=run_bytesToString (P:=P) w ⟨b,off,none⟩ len cap (ns.map (fun (q:Nat)=>(q:Int))) (by rw [<-hlen,List.map_map];rw [List.length_map] at hl;exact hl);rw [aQX] at h2;have e3:(⟨ByteArray.empty.data++(ns.map UInt8.ofNat).toArray⟩:ByteArray)=xI ns:=by
  apply ByteArray.ext;apply Array.ext';simp [xI]
 rw [e3] at h2
 simp [execOp,hop,ha.ev hx,h1,h2]
theorem aJS (T:Tab P) {t t2 e sz:Nat} {x:Operand} {len cap:Nat}
  (hop:o.op=.convert t t2 x:=by rfl) (hx:ev l x=some (.slice none len cap):=by rfl) (ht:bC T.und t=some (.slice e sz):=by rfl) (he:bC T.und e=some (.int .u8):=by rfl) (ht2:bC T.und t2=some .str:=by rfl):
  Eff P n l h o (fun v' h'=>v'=.string (xI [])/\h'=h):=by
 refine Eff.of_val1 fun a w ha hh=>⟨w,?_,dC.refl w,hh⟩;have h1:=run_convert_bytes_string (P:=P) w t t2 e none len cap (T.okU.look ht).1 (T.okU.look he) (T.okU.look ht2);have h2:(Conv.bytesToString (.slice none len cap)).run P w=.ok (.string ByteArray.empty) w:=by simp [Conv.bytesToString]
 have e3:ByteArray.empty=xI []:=rfl;rw [e3] at h2
 simp [execOp,hop,ha.ev hx,h1,h2]
end ops
/-! a function without a body -/
def Ext (P:Program) (g:FuncId) (args:Array Value) (v:Value):Prop:=∀w,(callFunc g args).run P w=.ok (.value v) w
theorem aKM {l:Fr} {cl:Call} {o:Oper} (hop:o.op=.call cl) {x:Operand} (hcal:cl.callee=.value x) {n:Nat} {a:Act} (ha:bB n l a) {g:FuncId} {first captured:Array Value}
  (hx:ev l x=some (.func (.func g) first captured)) {vs:List Value} (hargs:kI l cl.args.toList=some vs) {v:Value} (hg:Ext P g (first++vs.toArray++captured) v) (w:World):
  (execOp a.eval o).run P w=.ok (.value v) w:=by
 have e1:=kS ha hargs;have e2:cl.args.map a.eval=vs.toArray:=by apply Array.ext';simpa using e1
 have hg':=hg w;rw [Array.append_assoc] at hg'
 simp [execOp,hop,resolve,hcal,ha.ev hx,Deferred.ofValue,invoke,hg',e2]
theorem Eff.ext {n:Nat} {l:Fr} {h:Array Obj} {o:Oper} {cl:Call} {x:Operand} {g:FuncId} {first captured:Array Value} {vs:List Value} {v:Value}
  (H:Ext P g (first++vs.toArray++captured) v)
  (hop:o.op=.call cl:=by rfl) (hcal:cl.callee=.value x:=by rfl)
  (hx:ev l x=some (.func (.func g) first captured):=by rfl) (hargs:kI l cl.args.toList=some vs:=by rfl):Eff P n l h o (fun v' h'=>v'=v/\h'=h):=
 Eff.of_val1 fun _ w ha hh=>⟨w,aKM hop hcal ha hx hargs H w,dC.refl w,hh⟩

/-! every order, at a frame of whatever kind -/
section any
variable {c:Ctx P} {K:List Item} {Q:Exit->Act->World->Prop} {all:Array Oper}
structure Lands (c:Ctx P) (K:List Item) (Q:Exit->Act->World->Prop):Prop where
 normal:∀a w,Q .normal a w->c.Z (lone (c.fr a K) c.cs w)
 panic:∀ch a w,Q (.panic ch) a w -> ∀todo,c.Z (lone {c.fr a todo with mode:=.panicking ch} c.cs w)
 out:∀a w,¬Q .outgrown a w
theorem z_ops (hL:Lands c K Q) (hround:c.round=none \/ ∀(i:Nat) (o:Oper),all[i]? = some o -> ∀cl,o.op ≠ .defer cl):∀(todo:List Nat) (a:Act) (w:World),wpOps P all Q todo a w ->
  c.Z (lone (c.fr a (.inRegion all todo::K)) c.cs w):=by
 intro todo
 induction todo with
 |nil=>
  intro a w hq;exact c.back _ _ (step_lone_go (by simp [stepG,stepG.exec,Ctx.fr])) (hL.normal a w hq)
 |cons i rest ih=>
  intro a w hq;simp only [wpOps] at hq
  cases ho:all[i]? with
  |none=>
   simp only [ho] at hq;have hf:=fC (c:=c) a all i rest K undef;rw [ho] at hf;simp only [Option.bind_none,Act.put] at hf;refine c.back _ _ (step_lone_go ?_) (ih a w hq);rw [<-hf];simp only [Ctx.fr]
   simp [stepG,stepG.exec,ho]
  |some o=>
   simp only [ho] at hq;by_cases hw:Region.wanted o (yielded all a.tmps)=true
   ·simp only [hw,if_true] at hq;have hq:o.wp P a w (wpOps P all Q rest) Q:=by
     rcases hq with hq|⟨_,a0,w0,h0⟩
     ·exact hq
     exact absurd h0 (hL.out _ _)
    exact z_op1 hL.panic hL.out (hround.imp id (fun hh cl=>hh i o ho cl)) ho hw hq ih
   simp only [hw,if_false,Bool.false_eq_true] at hq;have hw':Region.wanted o (yielded all a.tmps)=false:=by simpa using hw
   have hf:=fC (c:=c) a all i rest K undef;rw [ho] at hf;simp only [Option.bind_some] at hf;refine c.back _ _ (step_lone_go ?_) (ih _ _ hq);rw [<-hf];simp only [Ctx.fr] at *
   simp [stepG,stepG.exec,ho,hw']
theorem aKP (hm:P.follows .mixedOrders=true) (hL:Lands c K Q) (hround:c.round=none \/ ∀(i:Nat) (o:Oper),all[i]? = some o -> ∀cl,o.op ≠ .defer cl) {id:Nat} {a:Act} {w:World}
  (H:wpAny P .any all Q all.size (Array.replicate all.size false) a {w with drawn:=w.drawn+1}):c.Z (lone (c.fr a (.code (.region id all true)::K)) c.cs w):=by
 have:=fun t=>wpAny_sound all.size t _ a _ H;refine c.back _ _ (step_lone_go ?_) (z_ops hL hround _ a _ (this (w.tape w.drawn (.order c.fn id))))
 simp [stepG,stepG.exec,Ctx.fr,Region.schedule,hm,choose,Sem.run,Question.forced,Question.cut,Region.linearise]
end any
/-! a quiet head, a forced tail; plain operations float -/
section tail
variable {ops:Array Oper} {md:Region.Mode} {C:World->Prop} {Q:Exit->Act->World->Prop} {E:Nat->Bool}
theorem bAE {j:Nat} {oi oj:Oper} {v:Value} (hj:ops[j]? = some oj) (hap:oi.apart ops oj=true) (hsj:∀cs b,oj.op ≠ .select cs b)
  {Y:Act->Prop} (keep:∀a,Y a -> ∀u,Y (a.put oj.dst u)) {K:Act->Prop} {a:Act} (hy:Y a) (h:qOp P ops C j K (a.put oi.dst v)):
  qOp P ops C j (fun a'=>Y a'/\K (a'.put oi.dst v)) a:=by
 obtain ⟨h1,h2,h3⟩:=Oper.apart_spec hap;unfold qOp at *;simp only [hj] at *;rw [wanted_put oj a oi.dst v h1] at h;split
 ·rename_i hw
  simp only [hw,if_true] at h;obtain ⟨u,hu,hn⟩:=h;refine ⟨u,fun w hw'=>?_,keep a hy u,by rw [<-Act.put_comm a v u h2];exact hn⟩;have:=hu w hw';unfold Oper.quietAt at *
  rwa [execOp_put oj hsj a oi.dst v h1] at this
 rename_i hw
 simp only [hw] at h;exact ⟨keep a hy _,by rw [<-Act.put_comm a v undef h2];exact h⟩
def yI (P:Program) (md:Region.Mode) (ops:Array Oper) (C:World->Prop) (Q:Exit->Act->World->Prop) (E:Nat->Bool):Nat->Array Bool->Act->Prop
 |0,listed,a=>Region.ready md ops listed=[] /\ ∀w,C w->Q .normal a w
 |f+1,listed,a=>(Region.ready md ops listed=[] -> ∀w,C w->Q .normal a w) /\
  ∀i∈Region.ready md ops listed,(E i=true -> ∀w,C w->wpOp P ops Q i (wpAny P md ops Q f (listed.setIfInBounds i true)) a w) /\
   (E i=false->qOp P ops C i (yI P md ops C Q E f (listed.setIfInBounds i true)) a)
theorem aFO:∀(f:Nat) (listed:Array Bool) (a:Act) (w:World),C w->yI P md ops C Q E f listed a->wpAny P md ops Q f listed a w
 |0,_,_,w,hw,h=>⟨h.1,h.2 w hw⟩
 |f+1,_,_,w,hw,h=>⟨fun h0=>h.1 h0 w hw,fun i hi=>by
   have hh:=h.2 i hi
   cases hE:E i with
   |true=>exact hh.1 hE w hw
   |false=>exact wpOp_of_qOp hw (fun a' w' hw'=>aFO f _ a' w' hw') (hh.2 hE)⟩
def aMU (md:Region.Mode) (ops:Array Oper) (k:Nat):List Nat->List Nat->List Nat
 | [],S=>S
 |j::js,S=>match ops[j]? with
  |some o=>if o.after.any fun e=>Region.binds md e&&(e.on==k||S.contains e.on) then aMU md ops k js (j::S) else aMU md ops k js S
  |none=>aMU md ops k js S
def fG (md:Region.Mode) (ops:Array Oper) (listed:Array Bool):Prop:=
 ∀j oj,ops[j]? = some oj->listed.getD j false=true -> ∀e∈oj.after,Region.binds md e=true->listed.getD e.on false=true
theorem fG.set {i:Nat} {listed:Array Bool} (inv:fG md ops listed) (hi:i∈Region.ready md ops listed):fG md ops (listed.setIfInBounds i true):=by
 obtain ⟨_,oi,hoi,hall⟩:=mem_ready.1 hi;intro j oj hj hl e he hb;by_cases hij:i=j
 ·subst hij;have:oj=oi:=Option.some.inj (hj.symm.trans hoi);subst this;exact getD_set_true (hall e he hb)
 rw [getD_set_ne false hij] at hl;exact getD_set_true (inv j oj hj hl e he hb)
theorem aBJ {k:Nat} {listed:Array Bool} (inv:fG md ops listed) (hk:listed.getD k false=false):
  ∀(js S:List Nat),(∀j∈S,listed.getD j false=false/\j∉Region.ready md ops listed) -> ∀j∈aMU md ops k js S,listed.getD j false=false/\j∉Region.ready md ops listed:=by
 intro js
 induction js with
 |nil=>intro S hS j hj;exact hS j hj
 |cons x js ih=>
  intro S hS;unfold aMU;split
  ·rename_i o ho
   split
   ·rename_i hany
    refine ih _ fun j hj=>?_;rcases List.mem_cons.1 hj with rfl|hj
    ·obtain ⟨e,he,hb⟩:=Array.any_eq_true'.1 hany;simp only [Bool.and_eq_true,Bool.or_eq_true,beq_iff_eq] at hb;have hon:listed.getD e.on false=false:=by
      rcases hb.2 with h|h
      ·rw [h];exact hk
      exact (hS e.on (by simpa using h)).1
     refine ⟨?_,fun hr=>?_⟩
     ·cases hl:listed.getD j false with
      |false=>rfl
      |true=>have:=inv j o ho hl e he hb.1;rw [hon] at this;cases this
     obtain ⟨_,o',ho',hall⟩:=mem_ready.1 hr;have:o'=o:=Option.some.inj (ho'.symm.trans ho);subst this;have:=hall e he hb.1;rw [hon] at this;cases this
    exact hS j hj
   exact ih _ hS
  exact ih _ hS
theorem aJR {i:Nat} {oi:Oper} {v:Value} (hi:ops[i]? = some oi) (hsel:∀(j:Nat) (o:Oper) cs b,ops[j]? = some o->o.op ≠ .select cs b) (hQ:∀c a w,¬Q (.panic c) a w)
  (hE:E i=false) {pure:Bool} (hguard:pure=true \/ ∀j,j<ops.size->E j=true->j∈aMU md ops i (List.range ops.size) []):
  ∀(f:Nat) (listed:Array Bool) (a:Act),fG md ops listed ->
   (∀j oj,ops[j]? = some oj->j≠i->listed.getD j true=false->(∀e∈oj.after,Region.binds md e=true->e.on≠i)->oi.apart ops oj=true) ->
   i∈Region.ready md ops listed->YieldsIn P ops C oi v a->(pure=true->Yields P ops oi v a) ->
   yI P md ops C Q E f (listed.setIfInBounds i true) (a.put oi.dst v)->yI P md ops C Q E (f+1) listed a:=by
 intro f
 induction f with
 |zero=>
  intro listed a _ _ hr hy _ H;refine ⟨fun h=>(by rw [h] at hr;cases hr),fun j hj=>?_⟩;by_cases hji:j=i
  ·subst hji;exact ⟨fun h=>(by rw [hE] at h;cases h),fun _=>hy.qOp hi H⟩
  have:=ready_mono hj hji;rw [H.1] at this;cases this
 |succ f ih=>
  intro listed a inv hfree hr hy hyp H;refine ⟨fun h=>(by rw [h] at hr;cases hr),fun j hj=>?_⟩;by_cases hji:j=i
  ·subst hji;exact ⟨fun h=>(by rw [hE] at h;cases h),fun _=>hy.qOp hi H⟩
  have hun:=(mem_ready.1 hr).1;obtain ⟨hjun,oj,hoj,hall⟩:=mem_ready.1 hj;have hnot:∀e∈oj.after,Region.binds md e=true->e.on≠i:=fun e he hb heq=>by
   have h1:=hall e he hb;rw [heq,getD_both hun] at h1;cases h1
  have hap:=hfree j oj hoj hji hjun hnot
  have hfree':∀k ok,ops[k]? = some ok->k≠i->(listed.setIfInBounds j true).getD k true=false ->
    (∀e∈ok.after,Region.binds md e=true->e.on≠i)->oi.apart ops ok=true:=fun k ok hk hki hun hno=>by
   refine hfree k ok hk hki ?_ hno;by_cases hjk:j=k
   ·subst hjk;exact hjun
   rw [getD_set_ne true hjk] at hun;exact hun
  have h1:=H.2 j (ready_mono hj hji);refine ⟨fun hEj w hw=>?_,fun hEj=>?_⟩
  ·rcases hguard with hp|hg
   ·have h2:=wpOp_put hoj hap (fun cs b=>hsel i oi cs b hi) (fun cs b=>hsel j oj cs b hoj) (fun c a w hq=>absurd hq (hQ c _ w)) (hyp hp) (h1.1 hEj w hw);refine wpOp_mono (fun a' w' h3=>?_) h2;refine wpAny_first hi hsel (fun c a w hq=>absurd hq (hQ c _ w)) f (listed.setIfInBounds j true) a' w' hfree' (ready_mono hr (Ne.symm hji)) h3.1 ?_;rw [Array.setIfInBounds_comm _ _ hji];exact h3.2
   exact absurd hj (aBJ inv (getD_both hun) (List.range ops.size) [] (by simp) j (hg j (Array.getElem?_eq_some_iff.1 hoj).1 hEj)).2
  have ⟨_,_,h3⟩:=Oper.apart_spec hap;have keep1:∀(a:Act),(YieldsIn P ops C oi v a/\(pure=true->Yields P ops oi v a)) -> ∀u,(YieldsIn P ops C oi v (a.put oj.dst u)/\(pure=true->Yields P ops oi v (a.put oj.dst u))):=fun a hy u=>by
   have e1:=execOp_put oi (fun cs b=>hsel i oi cs b hi) a oj.dst u h3;have e2:=wanted_put oi a oj.dst u h3;refine ⟨hy.1.of_same e1 e2,fun hp=>?_⟩;have:=hy.2 hp;unfold Yields at *;rw [e1,e2];exact this
  have h2:=bAE hoj hap (fun cs b=>hsel j oj cs b hoj) keep1 ⟨hy,hyp⟩ (h1.2 hEj);refine qOp_mono (fun a' h4=>ih (listed.setIfInBounds j true) a' (inv.set hj) hfree' (ready_mono hr (Ne.symm hji)) h4.1.1 h4.1.2 ?_) h2;rw [Array.setIfInBounds_comm _ _ hji];exact h4.2
def dH (o:Oper):Bool:=
 match o.op with
 | .move _=>true
 | .assign _=>true
 | .pick _ _ _=>true
 | .extract _ _=>true
 | .binOp _ _ _ _ _=>true
 | .unOp _ _ _=>true
 | .index _ _ _=>true
 | .indexAddr _ _ _=>true
 | .slice _ _ _ _ _=>true
 | .fieldAddr _ _ _=>true
 | .field _ _ _=>true
 | .makeInterface _ _=>true
 | .makeFunc _ _ _=>true
 | .nilCheck _=>true
 | .convert _ _ _=>true
 | .call c=>match c.callee with
  | .builtin .len=>true
  | .builtin .max=>true
  | .builtin .min=>true
  |_=>false
 |_=>false
def fF (ops:Array Oper) (k:Nat):Bool:=
 match ops[k]? with
 |some o=>dH o
 |none=>false
def chk1 (md:Region.Mode) (ops:Array Oper) (eff:List Nat) (K:Array Bool->Bool):List Nat->Array Bool->Bool
 | [],listed=>K listed
 |k::ks,listed=>(Region.ready md ops listed).contains k&&Region.free md ops listed k && !eff.contains k &&
   (fF ops k||(let S:=aMU md ops k (List.range ops.size) [];eff.all fun j=>S.contains j))&&chk1 md ops eff K ks (listed.setIfInBounds k true)
def chk2 (md:Region.Mode) (ops:Array Oper):List Nat->Array Bool->Bool
 | [],listed=>decide (Region.ready md ops listed=[])
 |k::ks,listed=>(if fF ops k then (Region.ready md ops listed).contains k&&Region.free md ops listed k else decide (Region.ready md ops listed=[k]))&&chk2 md ops ks (listed.setIfInBounds k true)
def Region.lexX (ops:Array Oper) (head tail:List Nat):Bool:=
 Region.noSelect ops&&decide (head.length+tail.length=ops.size) &&
 (let eff:=tail.filter fun j=> !fF ops j
  chk1 .any ops eff (fun listed=>(Region.ready .any ops listed).all (fun j=>eff.contains j)&&chk2 .any ops tail listed) head (Array.replicate ops.size false))
def sem1 (P:Program) (ops:Array Oper) (C:World->Prop) (K:Act->Prop):List Nat->Act->Prop
 | [],a=>K a
 |k::ks,a=>∃o v,ops[k]? = some o/\YieldsIn P ops C o v a/\(dH o=true->Yields P ops o v a)/\sem1 P ops C K ks (a.put o.dst v)
def aNG (P:Program) (ops:Array Oper) (Q:Exit->Act->World->Prop):List Nat->Act->World->Prop
 | [],a,w=>Q .normal a w
 |k::ks,a,w=>∃o,ops[k]? = some o/\((dH o=true /\ ∃v,Yields P ops o v a/\aNG P ops Q ks (a.put o.dst v) w)\/(dH o=false/\wpOp P ops Q k (aNG P ops Q ks) a w))
theorem aLF (hsel:Region.noSelect ops=true) (hQ:∀c a w,¬Q (.panic c) a w):∀(ks:List Nat) (listed:Array Bool) (a:Act) (w:World),chk2 md ops ks listed=true->aNG P ops Q ks a w->wpAny P md ops Q ks.length listed a w
 | [],listed,a,w,hc,h=>⟨of_decide_eq_true hc,h⟩
 |k::ks,listed,a,w,hc,h=>by
  obtain ⟨o,ho,h⟩:=h;simp only [chk2,Bool.and_eq_true] at hc;have hp:fF ops k=dH o:=by unfold fF;rw [ho]
  rw [hp] at hc;rcases h with ⟨hpu,v,hy,h⟩|⟨hpu,h⟩
  ·rw [hpu,if_pos rfl] at hc;simp only [Bool.and_eq_true] at hc;exact wpAny_take ho hsel hc.1.2 hc.1.1 (fun c a w hq=>absurd hq (hQ c _ w)) hy (aLF hsel hQ ks _ _ w hc.2 h)
  rw [hpu] at hc;simp only [Bool.false_eq_true,if_false,decide_eq_true_eq] at hc;refine ⟨fun h0=>(by rw [hc.1] at h0;cases h0),fun i hi=>?_⟩;rw [hc.1] at hi;have hik:i=k:=by simpa using hi
  subst hik;exact wpOp_mono (fun a' w' h'=>aLF hsel hQ ks _ a' w' hc.2 h') h
theorem bBL (hex:∃w,C w):∀(f:Nat) (listed:Array Bool) (a:Act),(∀w,C w->wpAny P md ops Q f listed a w)->(∀i∈Region.ready md ops listed,E i=true)->yI P md ops C Q E f listed a
 |0,listed,a,h,_=>by
  obtain ⟨w,hw⟩:=hex;exact ⟨(h w hw).1,fun w hw=>(h w hw).2⟩
 |f+1,listed,a,h,hE=>⟨fun h0 w hw=>(h w hw).1 h0,fun i hi=>⟨fun _ w hw=>(h w hw).2 i hi,fun hf=>by rw [hE i hi] at hf;cases hf⟩⟩
theorem aYH (hsel:Region.noSelect ops=true) (hQ:∀c a w,¬Q (.panic c) a w) {eff:List Nat} {g:Nat} {Kb:Array Bool->Bool} {K:Act->Prop}
  (hK:∀listed a,Kb listed=true->K a->yI P md ops C Q eff.contains g listed a):
  ∀(ks:List Nat) (listed:Array Bool) (a:Act),fG md ops listed->chk1 md ops eff Kb ks listed=true->sem1 P ops C K ks a->yI P md ops C Q eff.contains (ks.length+g) listed a
 | [],listed,a,_,hc,h=>by
  simp only [List.length_nil,Nat.zero_add];exact hK listed a hc h
 |k::ks,listed,a,inv,hc,h=>by
  obtain ⟨o,v,ho,hy,hp,h⟩:=h;simp only [chk1,Bool.and_eq_true] at hc;obtain ⟨⟨⟨⟨hr,hf⟩,hE⟩,hg⟩,hc'⟩:=hc;have hpo:fF ops k=dH o:=by unfold fF;rw [ho]
  rw [hpo] at hg;have hE':eff.contains k=false:=by rw [Bool.not_eq_true'] at hE;exact hE
  rw [show (k::ks).length+g=(ks.length+g)+1 by simp only [List.length_cons];omega];refine aJR ho (Region.noSelect_spec hsel) hQ hE' (pure:=dH o) ?_ (ks.length+g) listed a inv (Region.free_spec ho hf) (by simpa using hr) hy hp (aYH hsel hQ hK ks _ _ (inv.set (by simpa using hr)) hc' h);rw [Bool.or_eq_true] at hg;rcases hg with hg|hg
  ·exact .inl hg
  refine .inr fun j _ hj=>?_;have:=List.all_eq_true.1 hg j (by simpa using hj)
  simpa using this
theorem aNP {Q:Exit->Act->World->Prop} {a:Act} {w:World} (head tail:List Nat) (hB:Region.lexX ops head tail=true) (hQ:∀c a w,¬Q (.panic c) a w) (hw:C w)
  (h:sem1 P ops C (fun a'=>∀w',C w'->aNG P ops Q tail a' w') head a):wpAny P .any ops Q ops.size (Array.replicate ops.size false) a w:=by
 simp only [Region.lexX,Bool.and_eq_true,decide_eq_true_eq] at hB;obtain ⟨⟨hsel,hlen⟩,hc⟩:=hB;refine aFO (E:=(tail.filter fun j=> !fF ops j).contains) _ _ _ w hw ?_;have H:=aYH (P:=P) (C:=C) hsel hQ (g:=tail.length) (K:=fun a'=>∀w',C w'->aNG P ops Q tail a' w') (fun listed a hk hs=>?_) head _ a (fun j oj _ hl=>(by rw [getD_replicate_false] at hl;cases hl)) hc h
 ·rwa [hlen] at H
 simp only [Bool.and_eq_true] at hk;exact bBL ⟨w,hw⟩ _ _ _ (fun w' hw'=>aLF hsel hQ tail listed a w' hk.2 (hs w' hw')) (fun i hi=>List.all_eq_true.1 hk.1 i hi)
theorem aMH {Q:Exit->Act->World->Prop} {a:Act} {w:World} (hB:Region.lexB .any ops=true) (hC:C w)
  (h:wpQuiet P ops C (fun a'=>∀w',C w'->Q .normal a' w') ops.toList a):wpAny P .any ops Q ops.size (Array.replicate ops.size false) a w:=by
 simp only [Region.lexB,Bool.and_eq_true] at hB;refine wpAny_of_quiet (Q:=fun a'=>∀w',C w'->Q .normal a' w') (fun _ w' hw' h=>h w' hw') _ _ _ _ hC ?_;have:=wpAnyQ_lex (C:=C) (md:=.any) hB.1 ops.toList 0 (Array.replicate ops.size false) a (by simp) (by simpa using hB.2) h
 simpa using this
end tail
/-! the walk through a quiet region -/
def goQ (T:Tab P) (n:Nat) (h:Array Obj) (all:List Oper) (k:List SI) (ops:Array Oper):List Oper->Fr->(Fr->Prop)->Prop
 | [],l,K=>K l
 |o::rest,l,K=>match o.dst with
  |none=>False
  |some d=>match Nat.blt d n with
   |false=>False
   |true=>match dG l ops o with
    |none=>False
    |some false=>goQ T n h all k ops rest ((d,undef)::l) K
    |some true=>match ev1 T l o.op with
     | .val v=>goQ T n h all k ops rest ((d,v)::l) K
     | .ob p v=>p/\goQ T n h all k ops rest ((d,v)::l) K
     | .tst p i=>match kO all rest k d with
      |true=>(p->goQ T n h all k ops rest ((d,.bool true)::l) K)/\(¬p->goQ T n h all k ops rest ((d,.bool false)::l) K)
      |false=>goQ T n h all k ops rest ((d,.bool (@decide p i))::l) K
     | .ntst p i=>match kO all rest k d with
      |true=>(p->goQ T n h all k ops rest ((d,.bool false)::l) K)/\(¬p->goQ T n h all k ops rest ((d,.bool true)::l) K)
      |false=>goQ T n h all k ops rest ((d,.bool (!@decide p i))::l) K
     | .stop=>match loadAt? T l o.op with
      |some (b,off)=>∃v,bL h b off=some v/\goQ T n h all k ops rest ((d,v)::l) K
      |none=>match o.op with
       | .call cl=>match cl.callee with
        | .value x=>match ev l x with
         |some (.func (.func g) first captured)=>match kI l cl.args.toList with
          |some vs=>∃v,(FnV P g (first++vs.toArray++captured) h (fun v' h'=>v'=v/\h'=h)\/Ext P g (first++vs.toArray++captured) v)/\goQ T n h all k ops rest ((d,v)::l) K
          |none=>False
         |_=>False
        |_=>False
       |_=>False
theorem aWX (T:Tab P) {n:Nat} {h:Array Obj} {all:List Oper} {k:List SI} {ops:Array Oper} {w0:World} {ds:List Deferred} {K:Fr->Prop}:∀(todo:List Oper) (l:Fr),goQ T n h all k ops todo l K ->
  ∀a,bB n l a->a.defers=ds->wpQuiet P ops (fun w=>w.heap=h/\dC w0 w) (fun a'=>∃l',bB n l' a'/\a'.defers=ds/\K l') todo a:=by
 intro todo
 induction todo with
 |nil=>intro l hg a ha hd;exact ⟨l,ha,hd,hg⟩
 |cons o rest ih=>
  intro l hg a ha hd;unfold goQ at hg;split at hg
  ·exact hg.elim
  rename_i d hdst
  split at hg
  ·exact hg.elim
  rename_i hlt
  have hlt:=Nat.blt_eq.mp hlt;have put:∀v,bB n ((d,v)::l) (a.put o.dst v)/\(a.put o.dst v).defers=ds:=fun v=>by rw [hdst];exact ⟨ha.put hlt v,by simpa [Act.put] using hd⟩
  split at hg
  ·exact hg.elim
  ·rename_i hgd
   have hw:=bJ ha hgd;simp only [wpQuiet,hw,Bool.false_eq_true,if_false];exact ih _ hg _ (put _).1 (put _).2
  rename_i hgd
  have hw:=bJ ha hgd;simp only [wpQuiet,hw,if_true];have hk:=fun w=>yO T n l o.op a w o ha rfl
  have val:∀v,(∀w,(execOp a.eval o).run P w=.ok (.value v) w)->goQ T n h all k ops rest ((d,v)::l) K ->
    o.quiet P a (fun w=>w.heap=h/\dC w0 w) (wpQuiet P ops (fun w=>w.heap=h/\dC w0 w) (fun a'=>∃l',bB n l' a'/\a'.defers=ds/\K l') rest):=fun v hv hg=>
   ⟨v,fun w _=>by unfold Oper.quietAt;rw [hv w];exact ⟨rfl,rfl⟩,ih _ hg _ (put v).1 (put v).2⟩
  split at hg
  ·rename_i v hv;simp only [hv,Pu.ok] at hk;exact val v hk hg
  ·rename_i p v hv;simp only [hv,Pu.ok] at hk;exact val v (fun w=>hk w hg.1) hg.2
  ·rename_i p i hv
   simp only [hv,Pu.ok] at hk;split at hg
   ·by_cases hp:p
    ·simp only [hp,decide_true] at hk;exact val _ hk (hg.1 hp)
    simp only [hp,decide_false] at hk;exact val _ hk (hg.2 hp)
   exact val _ hk hg
  ·rename_i p i hv
   simp only [hv,Pu.ok] at hk;split at hg
   ·by_cases hp:p
    ·simp only [hp,decide_true,Bool.not_true] at hk;exact val _ hk (hg.1 hp)
    simp only [hp,decide_false,Bool.not_false] at hk;exact val _ hk (hg.2 hp)
   exact val _ hk hg
  split at hg
  ·rename_i hl
   obtain ⟨v,hc,hg⟩:=hg;refine ⟨v,fun w hw=>?_,ih _ hg _ (put v).1 (put v).2⟩;unfold Oper.quietAt;rw [tC hl ha (hw.1▸hc)];exact ⟨rfl,rfl⟩
  split at hg
  ·rename_i cl hop
   split at hg
   ·rename_i x hcal
    split at hg
    ·rename_i g first captured hx
     split at hg
     ·rename_i vs hargs
      obtain ⟨v,H,hg⟩:=hg;refine ⟨v,fun w hw=>?_,ih _ hg _ (put v).1 (put v).2⟩;unfold Oper.quietAt;rcases H with H|H
      case inr=>rw [aKM hop hcal ha hx hargs H w];exact ⟨rfl,rfl⟩
      rw [pI hop hcal ha hx hargs H.enters w];exact ⟨rfl,(H.calls w hw.1).mono fun e w' ⟨hlk,v',he,hv,hh⟩=>⟨by rw [he,hv],hh,hw.2.trans hlk⟩⟩
     exact hg.elim
    exact hg.elim
   exact hg.elim
  exact hg.elim
theorem aEI {T:Tab P} {l:Fr} {o:Oper} {x:Nat×Nat} (h:loadAt? T l o.op=some x):dH o=false:=by
 unfold loadAt? at h;split at h
 ·rename_i t y hop
  unfold dH;rw [hop]
 cases h
def uU (ops:List Oper):List Nat->List Oper
 | []=>[]
 |k::ks=>match ops[k]? with
  |some o=>o::uU ops ks
  |none=>[]
def inR (n:Nat):List Nat->Bool
 | []=>true
 |k::ks=>Nat.blt k n&&inR n ks
theorem bCH (T:Tab P) {n:Nat} {h:Array Obj} {all:List Oper} {k:List SI} {ops:List Oper} {w0:World} {ds:List Deferred} {K:Fr->Prop}:∀(ks:List Nat),inR ops.length ks=true -> ∀(l:Fr),goQ T n h all k ops.toArray (uU ops ks) l K ->
  ∀a,bB n l a->a.defers=ds->sem1 P ops.toArray (fun w=>w.heap=h/\dC w0 w) (fun a'=>∃l',bB n l' a'/\a'.defers=ds/\K l') ks a:=by
 intro ks
 induction ks with
 |nil=>intro _ l hg a ha hd;exact ⟨l,ha,hd,hg⟩
 |cons i ks ih=>
  intro hin l hg a ha hd;simp only [inR,Bool.and_eq_true] at hin;obtain ⟨hi,hin⟩:=hin;have hi:=Nat.blt_eq.mp hi;have ho:ops[i]? = some ops[i]:=List.getElem?_eq_getElem hi;simp only [uU,ho] at hg
  generalize ops[i]=o at ho hg
  refine ⟨o,?_⟩;have ho':ops.toArray[i]? = some o:=by simpa using ho
  unfold goQ at hg;split at hg
  ·exact hg.elim
  rename_i d hdst
  split at hg
  ·exact hg.elim
  rename_i hlt
  have hlt:=Nat.blt_eq.mp hlt;have put:∀v,bB n ((d,v)::l) (a.put o.dst v)/\(a.put o.dst v).defers=ds:=fun v=>by rw [hdst];exact ⟨ha.put hlt v,by simpa [Act.put] using hd⟩
  split at hg
  ·exact hg.elim
  ·rename_i hgd
   have hw:=bJ ha hgd;exact ⟨undef,ho',.inr ⟨hw,rfl⟩,fun _=>.inr ⟨hw,rfl⟩,ih hin _ hg _ (put _).1 (put _).2⟩
  rename_i hgd
  have hw:=bJ ha hgd;have hk:=fun w=>yO T n l o.op a w o ha rfl
  have val:∀v,(∀w,(execOp a.eval o).run P w=.ok (.value v) w)->goQ T n h all k ops.toArray (uU ops ks) ((d,v)::l) K ->
    ∃v,ops.toArray[i]? = some o/\YieldsIn P ops.toArray (fun w=>w.heap=h/\dC w0 w) o v a/\(dH o=true->Yields P ops.toArray o v a)/\sem1 P ops.toArray (fun w=>w.heap=h/\dC w0 w) (fun a'=>∃l',bB n l' a'/\a'.defers=ds/\K l') ks (a.put o.dst v):=fun v hv hg=>
   ⟨v,ho',.inl ⟨hw,fun w _=>by unfold Oper.quietAt;rw [hv w];exact ⟨rfl,rfl⟩⟩,fun _=>.inl ⟨hw,hv⟩,ih hin _ hg _ (put v).1 (put v).2⟩
  split at hg
  ·rename_i v hv;simp only [hv,Pu.ok] at hk;exact val v hk hg
  ·rename_i p v hv;simp only [hv,Pu.ok] at hk;exact val v (fun w=>hk w hg.1) hg.2
  ·rename_i p i hv
   simp only [hv,Pu.ok] at hk;split at hg
   ·by_cases hp:p
    ·simp only [hp,decide_true] at hk;exact val _ hk (hg.1 hp)
    simp only [hp,decide_false] at hk;exact val _ hk (hg.2 hp)
   exact val _ hk hg
  ·rename_i p i hv
   simp only [hv,Pu.ok] at hk;split at hg
   ·by_cases hp:p
    ·simp only [hp,decide_true,Bool.not_true] at hk;exact val _ hk (hg.1 hp)
    simp only [hp,decide_false,Bool.not_false] at hk;exact val _ hk (hg.2 hp)
   exact val _ hk hg
  split at hg
  ·rename_i hl
   obtain ⟨v,hc,hg⟩:=hg;refine ⟨v,ho',.inl ⟨hw,fun w hw=>?_⟩,fun hp=>(by rw [aEI hl] at hp;cases hp),ih hin _ hg _ (put v).1 (put v).2⟩;unfold Oper.quietAt;rw [tC hl ha (hw.1▸hc)];exact ⟨rfl,rfl⟩
  split at hg
  ·rename_i cl hop
   split at hg
   ·rename_i x hcal
    have hnp:dH o=false:=by unfold dH;rw [hop];simp only [hcal]
    split at hg
    ·rename_i g first captured hx
     split at hg
     ·rename_i vs hargs
      obtain ⟨v,H,hg⟩:=hg;refine ⟨v,ho',.inl ⟨hw,fun w hw=>?_⟩,fun hp=>(by rw [hnp] at hp;cases hp),ih hin _ hg _ (put v).1 (put v).2⟩;unfold Oper.quietAt;rcases H with H|H
      case inr=>rw [aKM hop hcal ha hx hargs H w];exact ⟨rfl,rfl⟩
      rw [pI hop hcal ha hx hargs H.enters w];exact ⟨rfl,(H.calls w hw.1).mono fun e w' ⟨hlk,v',he,hv,hh⟩=>⟨by rw [he,hv],hh,hw.2.trans hlk⟩⟩
     exact hg.elim
    exact hg.elim
   exact hg.elim
  exact hg.elim
section rules
variable {c:Ctx P} {ds:List Deferred} {k:List SI} {l:Fr} {h:Array Obj}
def tG:List Oper->Bool
 | []=>true
 |o::rest=>match o.op with
  | .defer _=>false
  |_=>tG rest
theorem sM {l:List Oper} (hb:tG l=true):∀(i:Nat) (o:Oper),l[i]? = some o -> ∀cl,o.op ≠ .defer cl:=by
 induction l with
 |nil=>intro i o h;simp at h
 |cons x l ih=>
  intro i o ho cl e;unfold tG at hb
  cases i with
  |zero=>simp at ho;subst ho;rw [e] at hb;cases hb
  |succ i=>
   simp at ho
   split at hb
   ·cases hb
   exact ih hb i o ho cl e
theorem aD.quiet (T:Tab P) {id:Nat} {ops:Array Oper} (hB:Region.lexB .any ops=true) (H:goQ T c.n h ops.toList k ops ops.toList l (fun l'=>aD c ds k l' h)) (hnd:tG ops.toList=true:=by rfl):
  aD c ds (.code (.region id ops true)::k) l h:=by
 unfold aD;intro hwf a w ha hd hh hw;refine aKP (K:=its k) (Q:=fun e a' w'=>e=.normal/\c.Z (lone (c.fr a' (its k)) c.cs w')) T.mixed ⟨fun _ _ hq=>hq.2,fun _ _ _ hq=>(by cases hq.1),fun _ _ hq=>(by cases hq.1)⟩ (.inr fun i o ho=>sM hnd i o (by simpa using ho)) ?_;refine aMH (C:=fun w'=>w'.heap=h/\dC c.w0 w') hB ⟨hh,hw.trans ⟨rfl,rfl,rfl⟩⟩ ?_;have:=aWX T (w0:=c.w0) (ds:=ds) ops.toList l H a ha hd;refine (?_:_);have mono:∀(todo:List Oper) (Q Q':Act->Prop),(∀a,Q a->Q' a) -> ∀a,wpQuiet P ops (fun w'=>w'.heap=h/\dC c.w0 w') Q todo a->wpQuiet P ops (fun w'=>w'.heap=h/\dC c.w0 w') Q' todo a:=by
  intro todo
  induction todo with
  |nil=>intro Q Q' hQ a hq;exact hQ a hq
  |cons o rest ih=>
   intro Q Q' hQ a hq;simp only [wpQuiet] at hq ⊢;split
   ·rename_i hwn;rw [if_pos hwn] at hq;exact Oper.quiet_mono (fun a=>ih Q Q' hQ a) hq
   rename_i hwn;rw [if_neg hwn] at hq;exact ih Q Q' hQ _ hq
 refine mono _ _ _ (fun a' ⟨l',hl',hd',hK⟩ w' hw'=>⟨rfl,?_⟩) a this;unfold aD at hK;exact hK (bQ hwf) a' w' hl' hd' hw'.1 hw'.2
def goT (T:Tab P) (n:Nat) (ops:Array Oper):List Oper->Fr->Array Obj->(Fr->Array Obj->Prop)->Prop
 | [],l,h,K=>K l h
 |o::rest,l,h,K=>match dG l ops o with
  |none=>False
  |some false=>match o.dst with
   |none=>goT T n ops rest l h K
   |some d=>match Nat.blt d n with
    |true=>goT T n ops rest ((d,undef)::l) h K
    |false=>False
  |some true=>match dH o with
   |true=>match o.dst with
    |none=>False
    |some d=>match Nat.blt d n with
     |false=>False
     |true=>match ev1 T l o.op with
      | .val v=>goT T n ops rest ((d,v)::l) h K
      | .ob p v=>p/\goT T n ops rest ((d,v)::l) h K
      | .tst p i=>goT T n ops rest ((d,.bool (@decide p i))::l) h K
      | .ntst p i=>goT T n ops rest ((d,.bool (!@decide p i))::l) h K
      | .stop=>False
   |false=>cB n o.dst=true /\ ∃V,Eff P n l h o V /\ ∀v h',V v h'->goT T n ops rest (upd l o.dst v) h' K
theorem aYV (T:Tab P) {n:Nat} {ops:List Oper} {w0:World} {ds:List Deferred} {K:Fr->Array Obj->Prop} {Q:Exit->Act->World->Prop}
  (hQ:∀l h a w,K l h->bB n l a->a.defers=ds->w.heap=h->dC w0 w->Q .normal a w):∀(ks:List Nat),inR ops.length ks=true -> ∀(l:Fr) (h:Array Obj),goT T n ops.toArray (uU ops ks) l h K ->
  ∀a w,bB n l a->a.defers=ds->w.heap=h->dC w0 w->aNG P ops.toArray Q ks a w:=by
 intro ks
 induction ks with
 |nil=>intro _ l h hg a w ha hd hh hw;exact hQ l h a w hg ha hd hh hw
 |cons i ks ih=>
  intro hin l h hg a w ha hd hh hw;simp only [inR,Bool.and_eq_true] at hin;obtain ⟨hi,hin⟩:=hin;have hi:=Nat.blt_eq.mp hi;have ho:ops[i]? = some ops[i]:=List.getElem?_eq_getElem hi;simp only [uU,ho] at hg
  generalize ops[i]=o at ho hg
  have ho':ops.toArray[i]? = some o:=by simpa using ho
  refine ⟨o,ho',?_⟩;unfold goT at hg;split at hg
  ·exact hg.elim
  ·rename_i hgd
   have hwn:=bJ ha hgd;have H:aNG P ops.toArray Q ks (a.put o.dst undef) w:=by
    split at hg
    ·rename_i hdst
     rw [hdst];exact ih hin _ _ hg _ w ha hd hh hw
    rename_i d hdst
    split at hg
    ·rename_i hlt
     rw [hdst];exact ih hin _ _ hg _ w (ha.put (Nat.blt_eq.mp hlt) _) (by simpa [Act.put] using hd) hh hw
    exact hg.elim
   cases hp:dH o with
   |true=>exact .inl ⟨rfl,undef,.inr ⟨hwn,rfl⟩,H⟩
   |false=>
    refine .inr ⟨rfl,?_⟩;unfold wpOp;simp only [ho',hwn,Bool.false_eq_true,if_false];exact H
  rename_i hgd
  have hwn:=bJ ha hgd;split at hg
  ·rename_i hp
   refine .inl ⟨hp,?_⟩;split at hg
   ·exact hg.elim
   rename_i d hdst
   split at hg
   ·exact hg.elim
   rename_i hlt
   have hlt:=Nat.blt_eq.mp hlt;have hk:=fun w=>yO T n l o.op a w o ha rfl
   have val:∀v,(∀w,(execOp a.eval o).run P w=.ok (.value v) w)->goT T n ops.toArray (uU ops ks) ((d,v)::l) h K ->
     ∃v,Yields P ops.toArray o v a/\aNG P ops.toArray Q ks (a.put o.dst v) w:=fun v hv hg=>
    ⟨v,.inl ⟨hwn,hv⟩,ih hin _ _ hg _ w (by rw [hdst];exact ha.put hlt v) (by rw [hdst];simpa [Act.put] using hd) hh hw⟩
   split at hg
   ·rename_i v hv;simp only [hv,Pu.ok] at hk;exact val v hk hg
   ·rename_i p v hv;simp only [hv,Pu.ok] at hk;exact val v (fun w=>hk w hg.1) hg.2
   ·rename_i p i hv;simp only [hv,Pu.ok] at hk;exact val _ hk hg
   ·rename_i p i hv;simp only [hv,Pu.ok] at hk;exact val _ hk hg
   exact hg.elim
  rename_i hp
  refine .inr ⟨hp,?_⟩;obtain ⟨hdst,V,hE,hn⟩:=hg;unfold wpOp;simp only [ho',hwn,if_true];refine .inl (hE a w ha hh _ _ fun v w' hlk hV=>?_);exact ih hin _ _ (hn v _ hV) (a.put o.dst v) w' (eG ha (fE hdst) v) (by cases o.dst<;>simpa [Act.put] using hd) rfl (hw.trans hlk)
def Region.lexY (ops:List Oper) (head tail:List Nat):Bool:=Region.lexX ops.toArray head tail&&inR ops.length head&&inR ops.length tail
theorem aHT {ops:Array Oper} {C:World->Prop} {K K':Act->Prop} (h:∀a,K a->K' a):∀(ks:List Nat) (a:Act),sem1 P ops C K ks a->sem1 P ops C K' ks a
 | [],a,hs=>h a hs
 |_::ks,_,⟨o,v,h1,h2,h3,h4⟩=>⟨o,v,h1,h2,h3,aHT h ks _ h4⟩
theorem aD.drawn (T:Tab P) {id:Nat} {ops:List Oper} (head tail:List Nat) (hB:Region.lexY ops head tail=true)
  (H:goQ T c.n h ops k ops.toArray (uU ops head) l (fun l'=>goT T c.n ops.toArray (uU ops tail) l' h (fun l' h'=>aD c ds k l' h'))) (hnd:tG ops=true:=by rfl):
  aD c ds (.code (.region id ops.toArray true)::k) l h:=by
 unfold aD;intro hwf a w ha hd hh hw;simp only [Region.lexY,Bool.and_eq_true] at hB;obtain ⟨⟨hB,hi1⟩,hi2⟩:=hB;refine aKP (K:=its k) (Q:=fun e a' w'=>e=.normal/\c.Z (lone (c.fr a' (its k)) c.cs w')) T.mixed ⟨fun _ _ hq=>hq.2,fun _ _ _ hq=>(by cases hq.1),fun _ _ hq=>(by cases hq.1)⟩ (.inr fun i o ho=>sM hnd i o (by simpa using ho)) ?_;refine aNP (C:=fun w'=>w'.heap=h/\dC c.w0 w') head tail hB (fun _ _ _ hq=>by cases hq.1) ⟨hh,hw.trans ⟨rfl,rfl,rfl⟩⟩ ?_;refine aHT (fun a' ⟨l',hl',hd',hK⟩ w' hw'=>?_) _ _ (bCH T (w0:=c.w0) (ds:=ds) head hi1 l H a ha hd);refine aYV T (w0:=c.w0) (ds:=ds) (fun l2 h2 a2 w2 hK2 ha2 hd2 hh2 hw2=>⟨rfl,?_⟩) tail hi2 l' h hK a' w' hl' hd' hw'.1 hw'.2;unfold aD at hK2;exact hK2 (bQ hwf) a2 w2 ha2 hd2 hh2 hw2
end rules
end Go.Fw

namespace Go.Fw
open Go
theorem Own.push {base:Nat} {h:Array Obj} {e:TypeId} {sz:Nat} {v:Value} {m:Nat} {xs:List Value} (H:Own base h e sz v m xs) (o:Obj):Own base (h.push o) e sz v m xs:=by
 obtain ⟨hl,H⟩:=H;refine ⟨hl,?_⟩;rcases H with H|⟨g,cap,cur,h1,h2,h3,h4⟩
 ·exact .inl H
 exact .inr ⟨g,cap,cur,h1,h2,h3.push o,h4⟩
theorem Own.ge {base:Nat} {h:Array Obj} {e:TypeId} {sz:Nat} {v:Value} {m:Nat} {xs:List Value} (H:Own base h e sz v m xs) {g:Nat} (hg:v.ownBlock=some g):base<=g:=by
 obtain ⟨hl,H⟩:=H;rcases H with ⟨rfl,_⟩|⟨g',cap,cur,rfl,h2,_⟩
 ·cases hg
 cases hg;exact h2
theorem Own.shape {base:Nat} {h:Array Obj} {e:TypeId} {sz:Nat} {v:Value} {m:Nat} {xs:List Value} (H:Own base h e sz v m xs):∃a cap,v=.slice a m cap:=by
 obtain ⟨hl,H⟩:=H;rcases H with ⟨rfl,rfl⟩|⟨g',cap,cur,rfl,h2,_⟩
 ·exact ⟨_,_,rfl⟩
 exact ⟨_,_,rfl⟩
theorem Own.keeps {base:Nat} {h h':Array Obj} {e:TypeId} {sz:Nat} {v:Value} {m:Nat} {xs:List Value} (H:Own base h e sz v m xs) (hb:base<=h.size) (h1:h.size<=h'.size) (h2:∀k,k<h.size->some k≠v.ownBlock->h'[k]? = h[k]?):aH base h h':=
 ⟨h1,fun k hk=>h2 k (by omega) fun e=>by have:=H.ge e.symm;omega⟩
theorem Own.cells {base:Nat} {h:Array Obj} {e:TypeId} {v:Value} {m:Nat} {xs:List Value} (H:Own base h e 1 v m xs) {a:Option Addr} {cap:Nat} (hv:v=.slice a m cap) (hm:0<m):
  ∃g,a=some ⟨g,0,none⟩ /\ ∀j u,xs[j]? = some u->bL h g (0+j)=some u:=by
 obtain ⟨hl,H⟩:=H;rcases H with ⟨e1,h0⟩|⟨g,cap',cur,e1,h2,hat,h3,h4,h5,h6⟩
 ·omega
 rw [hv] at e1;cases e1;refine ⟨g,rfl,fun j u hj=>?_⟩;rw [hat.cell,Nat.zero_add];rw [<-h6] at hj;have hjm:j<m:=by
  rcases Nat.lt_or_ge j m with h|h
  ·exact h
  rw [List.getElem?_eq_none (by simp;omega)] at hj;cases hj
 rw [List.getElem?_take_of_lt (by omega)] at hj
 simpa using hj
theorem iN {P:Program} {n:Nat} {l:Fr} {h:Array Obj} {o:Oper} (T:Tab P) {t e sz m:Nat} {parts:Array (Nat×Operand)} (vs:List Value) {i:Inf}
  (hop:o.op=.buildSlice t m parts:=by rfl) (ht:bC T.und t=some (.slice e sz):=by rfl) (hi:cT T.inf e=some i:=by rfl)
  (hps:lT l parts.toList=some ((vs.zipIdx 0).map fun x=>(x.2,x.1)):=by rfl)
  (hm:vs.length=m:=by rfl) (hsz:i.size=1:=by rfl) (hle:Nat.ble m 16777216=true:=by rfl) (h1:∀v∈vs,v.cells = #[v]):
  Eff P n l h o (fun v' h'=>v'=.slice (some ⟨h.size,0,none⟩) m m/\h'=h.push (.cells vs.toArray e (0,0))):=
 uW T hop ht hi hps (by rw [hsz,Nat.mul_one];exact hle) (by rw [hsz,Nat.mul_one];exact Go.Great.fill_flat vs _ h1 (by simpa using hm))
theorem aHN {P:Program} {n:Nat} {l:Fr} {h:Array Obj} {o:Oper} (T:Tab P) {t t2 e sz base:Nat} {x:Operand} {a:Option Addr} {len cap:Nat} {ns:List Nat}
  (hown:Own base h e 1 (.slice a len cap) len (ns.map fun (x:Nat)=>Value.int .u8 (x:Int)))
  (hop:o.op=.convert t t2 x:=by rfl) (hx:ev l x=some (.slice a len cap):=by rfl) (ht:bC T.und t=some (.slice e sz):=by rfl) (he:bC T.und e=some (.int .u8):=by rfl) (ht2:bC T.und t2=some .str:=by rfl):
  Eff P n l h o (fun v' h'=>v'=.string (xI ns)/\h'=h):=by
 have hlen:ns.length=len:=by have:=hown.1;simpa using this
 by_cases hm:0<len
 ·obtain ⟨g,rfl,hc⟩:=hown.cells rfl hm;exact tP T hlen (fun j u hu=>hc j _ (by rw [List.getElem?_map,hu];rfl)) hop hx ht he ht2
 have h0:ns=[]:=List.length_eq_zero_iff.1 (by omega);subst h0;obtain ⟨_,⟨h1,_⟩|⟨g,_,_,h1,_⟩⟩:=hown
 ·cases h1;exact aJS T hop hx ht he ht2
 cases h1;exact tP T hlen (fun j u hu=>(by simp at hu)) hop hx ht he ht2
end Go.Fw

namespace Go.Fw
open Go
variable {P:Program} {c:Ctx P} {ds:List Deferred} {k:List SI} {l:Fr} {h:Array Obj}
theorem aD.loopJ {x:Code} {i:Nat} {X Y:Type} (L:X->Fr) (J:X->Array Obj->Prop) (μ:X->Nat) (x0:X) (LE:Y->Fr) (JE:Y->Array Obj->Prop) (h0:J x0 h) (hs:Sub l (L x0))
  (round:∀x0 h,J x0 h->(∀x' h' l',J x' h'->μ x'<μ x0->Sub l' (L x')->aD c ds (.inLoop x::.inBlock i::.mark::k) l' h') ->
   (∀y h' l',JE y h'->Sub l' (LE y)->aD c ds (.mark::k) l' h')->aD c ds (.code x::.inLoop x::.inBlock i::.mark::k) (L x0) h)
  (after:∀y h,JE y h->aD c ds k (LE y) h):
  aD c ds (.code (.loop x)::.inBlock i::k) l h:=by
 have H:aD c ds (.code (.loop x)::.inBlock i::.mark::k) l h:=
  aD.loop L J μ x0 h0 hs fun x0 h hJ ih=>round x0 h hJ ih fun y h' l' hJ hs=>aD.mark (aD.sub hs (after y h' hJ))
 unfold aD at H ⊢;exact fun hwf a w ha hd hh hw=>H (cA trivial (cA trivial (cA trivial (bQ (bQ hwf))))) a w ha hd hh hw
end Go.Fw

namespace Go.Fw
open Go
variable {P:Program}
def lD (P:Program) (l:Nat) (args:Array Value) (h:Array Obj) (R:Value->Array Obj->Prop):Prop:=
 ∀w:World,w.heap=h -> ∃fn tmps assign body,(invoke (.fn (.yield l) #[]) args).run P w=.ok (.round l fn tmps assign body) w /\
  ∀(c:Frame) (cs:List Frame),∃v w',(dC w w'/\R v w'.heap)/\Steps P (lone (Frame.round l fn tmps assign body .normal) (c::cs) w) (lone (c.finish v) cs w')
theorem lD.mono {l:Nat} {args:Array Value} {h:Array Obj} {R R':Value->Array Obj->Prop} (H:lD P l args h R) (hr:∀v h',R v h'->R' v h'):lD P l args h R':=
 fun w hw=>let ⟨fn,tmps,asg,body,h1,h2⟩:=H w hw;⟨fn,tmps,asg,body,h1,fun c cs=>let ⟨v,w',⟨h3,h4⟩,h5⟩:=h2 c cs;⟨v,w',⟨h3,hr _ _ h4⟩,h5⟩⟩
section
variable {c:Ctx P} {ds:List Deferred} {k:List SI} {l:Fr} {h:Array Obj}
theorem aD.callY {all:Array Oper} {rest:List Oper} {o:Oper} {cl:Call} {x:Operand} {y:Nat} {vs:List Value} {d:Nat}
  {R:Value->Array Obj->Prop} (H:lD P y vs.toArray h R)
  (hr:∀v h',R v h'->aD c ds (.ops all rest::k) ((d,v)::l) h')
  (hop:o.op=.call cl:=by rfl) (hcal:cl.callee=.value x:=by rfl)
  (hx:ev l x=some (.func (.yield y) #[] #[]):=by rfl) (hargs:kI l cl.args.toList=some vs:=by rfl) (hgd:dG l all o=some true:=by rfl) (hdst:o.dst=some d:=by rfl) (hdn:Nat.blt d c.n=true:=by rfl):
  aD c ds (.ops all (o::rest)::k) l h:=by
 unfold aD;intro hwf a w ha hd hh hw;have hwn:=bJ ha hgd;obtain ⟨i,e1,e2,ho,hwf'⟩:=iY (hwf _ (List.mem_cons_self ..));obtain ⟨fn,tmps,asg,body,hinv,hround⟩:=H w hh;have hrun:(execOp a.eval o).run P w=.ok (.round y fn tmps asg body) w:=by
  have e1:=kS ha hargs;have e2:cl.args.map a.eval=vs.toArray:=by apply Array.ext';simpa using e1
  simp [execOp,hop,resolve,hcal,ha.ev hx,Deferred.ofValue,hinv,e2]
 have hd':c.round=none \/ ∀cl,o.op ≠ .defer cl:=.inr (fun cl' e=>by rw [hop] at e;cases e);simp only [gU,e1];have hstep:=iA (P:=P) (c:=c) (k:=its k) (todo:=List.range' (i+1) rest.length) (w:=w) ho hwn hd'
 have henter:Go.step P (lone (c.fr a (.inRegion all (i::List.range' (i+1) rest.length)::its k)) c.cs w) =
   .next (lone (Frame.round y fn tmps asg body .normal) (c.fr a (.inRegion all (i::List.range' (i+1) rest.length)::its k)::c.cs) w):=
  step_lone_go (by rw [hstep];simp [stepG.apply,hrun,Ctx.fr])
 obtain ⟨v,w',⟨hlk,hR⟩,hs⟩:=hround (c.fr a (.inRegion all (i::List.range' (i+1) rest.length)::its k)) c.cs;refine c.back _ _ henter (eB c hs ?_);have hf:=fC (c:=c) a all i (List.range' (i+1) rest.length) (its k) v;rw [ho] at hf;simp only [Option.bind_some,hdst] at hf;rw [hf];have hr':=hr v _ hR;unfold aD at hr';have:=hr' (cA hwf' (bQ hwf)) (a.put (some d) v) w' (ha.put (Nat.blt_eq.mp hdn) _) (by simpa [Act.put] using hd) rfl (hw.trans hlk)
 simpa only [gU,e2] using this
end
/-! the rounds -/
def kC (P:Program) (f n l:Nat) (w0:World) (fr:Frame) (cs:List Frame) (R:Value->Array Obj->Prop):Ctx P where
 Z:=fun m=>∃v w',(dC w0 w'/\R v w'.heap)/\Steps P m (lone (fr.finish v) cs w')
 back:=fun _ _ hs ⟨v,w',hR,h⟩=>⟨v,w',hR,.head hs h⟩
 fn:=f
 kind:=.normal
 round:=some l
 cs:=fr::cs
 w0:=w0
 n:=n
section
variable {c:Ctx P} {ds:List Deferred} {k:List SI} {L:Fr} {h:Array Obj} {l:Nat} {r:Loop}
theorem aD.beginRound (hl:h[l]? = some (.loop r)) (hs:r.state=.ready) (hr:aD c ds k L (h.setIfInBounds l (.loop {r with state:=.busy}))) (hc:c.round=some l:=by rfl):
  aD c ds (.item .beginRound::k) L h:=by
 unfold aD at hr ⊢;intro hwf a w ha hd hh hw;have hb:=run_beginRound (P:=P) (w:=w) (by rw [hh];exact hl) hs;refine c.back _ _ (step_lone_go ?_) (hr (bQ hwf) a (w.putObj l (.loop {r with state:=.busy})) ha hd (by simp [World.putObj,hh]) (hw.trans ⟨rfl,rfl,rfl⟩))
 simp [its,SI.it,stepG,stepG.exec,stepG.apply,Ctx.fr,hc,Sem.runT_eq,hb,Result.andThen,Frame.finish]
variable {f n:Nat} {w0:World} {fr:Frame} {cs:List Frame} {R:Value->Array Obj->Prop}
theorem aD.endRound (hl:h[l]? = some (.loop r)) (hR:R (.bool true) (h.setIfInBounds l (.loop {r with state:=.ready,pending:=none}))):
  aD (kC P f n l w0 fr cs R) ds [] L h:=by
 unfold aD;intro hwf a w ha hd hh hw;have hb:=run_endRound (P:=P) (w:=w) none (by rw [hh];exact hl);simp only [Option.isNone_none,if_true] at hb;refine ⟨.bool true,w.putObj l (.loop {r with state:=.ready,pending:=none}),⟨hw.trans ⟨rfl,rfl,rfl⟩,by simpa [World.putObj,hh] using hR⟩,.one (step_lone_go ?_)⟩
 simp [its,stepG,stepG.exec,Ctx.fr,kC,Sem.runT_eq,hb,doReturn]
theorem aD.roundRet (hl:h[l]? = some (.loop r)) (hR:R (.bool false) (h.setIfInBounds l (.loop {r with state:=.done,pending:=some .ret}))):
  aD (kC P f n l w0 fr cs R) ds (.code .ret::k) L h:=by
 unfold aD;intro hwf a w ha hd hh hw;have hb:=run_endRound (P:=P) (w:=w) (some .ret) (by rw [hh];exact hl);simp only [Option.isNone_some,if_false,Bool.false_eq_true] at hb;refine ⟨.bool false,w.putObj l (.loop {r with state:=.done,pending:=some .ret}),⟨hw.trans ⟨rfl,rfl,rfl⟩,by simpa [World.putObj,hh] using hR⟩,.one (step_lone_go ?_)⟩
 simp [its,SI.it,stepG,stepG.exec,Ctx.fr,kC,Sem.runT_eq,hb,doReturn]
end
/-! the statement -/
structure Rec (c:Ctx P) (l:Fr) (D:Nat) (params:Array Tmp) (assign body:Code) (r:Loop):Prop where
 state:r.state=.ready
 pending:r.pending=none
 fn:r.fn=c.fn
 params:r.params=params
 assign:r.assign=assign
 body:r.body=body
 defers:r.defers=D
 holds:bB c.n l {tmps:=r.tmps,defers:=[]}
def bFZ:Option Code->List SI
 |none=>[]
 |some x=>[.code x]
def yR (ps:List Nat) (vs:List Value) (l:Fr):Fr:=
 match ps,vs with
 |p::ps,v::vs=>yR ps vs ((p,v)::l)
 |_,_=>l
theorem aIR {n:Nat} {ds:List Deferred}:∀(ps:List Nat) (vs:List Value) (l:Fr) (tmps:Array Value),bB n l {tmps:=tmps,defers:=ds}->ps.all (fun p=>Nat.blt p n)=true ->
  bB n (yR ps vs l) {tmps:=(ps.zip vs).foldl (fun t (x:Nat×Value)=>t.setIfInBounds x.1 x.2) tmps,defers:=ds}
 | [],vs,l,tmps,h,_=>by cases vs<;>exact h
 |p::ps,[],l,tmps,h,_=>h
 |p::ps,v::vs,l,tmps,h,hp=>by
  simp only [List.all_cons,Bool.and_eq_true] at hp;exact aIR ps vs _ _ (h.put (Nat.blt_eq.mp hp.1) v) hp.2
section
variable {c:Ctx P} {ds:List Deferred} {k:List SI} {l:Fr} {h:Array Obj}
theorem aD.rangeFunc {f:Operand} {params:Array Tmp} {assign body:Code} {g:FuncId} {first captured:Array Value}
  (H:∀r:Loop,Rec c l h.size params assign body r ->
   FnV P g (first ++ #[.func (.yield (h.size+1)) #[] #[]]++captured) ((h.push (.deferred (some []))).push (.loop r)) fun _ h'=>
    ∃r',h'[h.size+1]? = some (.loop r')/\r'.state ≠ .busy /\
     aD c ({target:=.collected h.size,args:=#[]}::ds) (bFZ r'.pending++k) l (h'.setIfInBounds (h.size+1) (.loop {r' with state:=.exhausted})))
  (hro:c.round=none:=by rfl) (hf:ev l f=some (.func (.func g) first captured):=by rfl):
  aD c ds (.code (.rangeFunc f params assign body)::k) l h:=by
 unfold aD;intro hwf a w ha hd hh hw;subst hh;obtain ⟨r,hrdef⟩:∃r:Loop,r = {state:=.ready,pending:=none,fn:=c.fn,tmps:=a.tmps,params:=params,assign:=assign,body:=body,defers:=w.heap.size}:=⟨_,rfl⟩;have hrec:Rec c l w.heap.size params assign body r:=by subst hrdef;exact ⟨rfl,rfl,rfl,rfl,rfl,rfl,rfl,⟨ha.size,ha.get⟩⟩
 have HF:=H r hrec;have hen:=run_enterLoop_outer (P:=P) (w:=w) c.fn a.tmps params assign body;rw [<-hrdef] at hen;obtain ⟨w1,hw1⟩:∃w1,w1=(w.alloc (.deferred (some []))).alloc (.loop r):=⟨_,rfl⟩;rw [<-hw1] at hen;have hheap:w1.heap=(w.heap.push (.deferred (some []))).push (.loop r):=by rw [hw1];rfl
 have hlike:dC w w1:=by rw [hw1];exact ⟨rfl,rfl,rfl⟩
 obtain ⟨e,w',fr,⟨hlk,v,he,r',hr1,hr2,hr3⟩,hcomes,hfn,hleave⟩:=HF.calls w1 hheap (c.fr {a with defers:={target:=.collected w.heap.size,args:=#[]}::ds} (.inRangeFunc (w.heap.size+1)::its k)::c.cs);subst he
 have henter:Go.step P (lone (c.fr a (its (.code (.rangeFunc f params assign body)::k))) c.cs w) =
   .next (lone (Frame.enter P g (first ++ #[.func (.yield (w.heap.size+1)) #[] #[]]++captured) .normal) (c.fr {a with defers:={target:=.collected w.heap.size,args:=#[]}::ds} (.inRangeFunc (w.heap.size+1)::its k)::c.cs) w1):=by
  refine step_lone_go ?_;have hev:(c.fr {a with defers:={target:=.collected w.heap.size,args:=#[]}::ds} (.inRangeFunc (w.heap.size+1)::its k)).eval=({a with defers:={target:=.collected w.heap.size,args:=#[]}::ds}:Act).eval:=c.eval _ _;have ha':bB c.n l {a with defers:={target:=.collected w.heap.size,args:=#[]}::ds}:=⟨ha.size,ha.get⟩;have hfv:=ha'.ev hf;have hc:=nX HF.enters (first ++ #[.func (.yield (w.heap.size+1)) #[] #[]]++captured) w1;have hev2:({a with defers:={target:=.collected w.heap.size,args:=#[]}::ds}:Act).eval (.const (.func (.yield (w.heap.size+1)) #[] #[]))=.func (.yield (w.heap.size+1)) #[] #[]:=rfl;simp only [Ctx.fr,hro] at hev
  have hap:Sem.run P (do let d <-resolve ({fn:=c.fn,tmps:=a.tmps,todo:=Item.inRangeFunc (w.heap.size+1)::its k,defers:={target:=Target.collected w.heap.size,args:=#[]}::ds,mode:=FrameMode.run,kind:=c.kind}:Frame).eval {callee:=.value f,args:=#[.const (.func (.yield (w.heap.size+1)) #[] #[])],argTypes:=#[]} 0;invoke d.target d.args) w1
    = .ok (.enter g (first ++ #[Value.func (Fn.yield (w.heap.size+1)) #[] #[]]++captured)) w1:=by
   have e1:(resolve ({fn:=c.fn,tmps:=a.tmps,todo:=Item.inRangeFunc (w.heap.size+1)::its k,defers:={target:=Target.collected w.heap.size,args:=#[]}::ds,mode:=FrameMode.run,kind:=c.kind}:Frame).eval {callee:=.value f,args:=#[.const (.func (.yield (w.heap.size+1)) #[] #[])],argTypes:=#[]} 0)
     = pure {target:=.fn (.func g) captured,args:=first ++ #[.func (.yield (w.heap.size+1)) #[] #[]]}:=by
    unfold resolve;rw [hev];simp only [hfv,Deferred.ofValue,List.map_toArray,List.map_cons,List.map_nil,hev2]
   rw [e1];simp only [Sem.run_bind,Sem.run_pure,Result.andThen,invoke];exact hc
  simp only [its,SI.it,stepG,stepG.exec,Ctx.fr,Sem.runT_eq,hro,hen,GStep.bare_after,GStep.bare_go,stepG.apply,hd,hap,if_true,List.cons_append,List.nil_append]
 refine c.back _ _ henter (eB c hcomes (c.back _ _ (step_leave_returned hleave) ?_));have hfin:(c.fr {a with defers:={target:=.collected w.heap.size,args:=#[]}::ds} (.inRangeFunc (w.heap.size+1)::its k)).finish v=c.fr {a with defers:={target:=.collected w.heap.size,args:=#[]}::ds} (.endRangeFunc (w.heap.size+1)::its k):=by
  simp [Frame.finish,Ctx.fr]
 rw [hfin];have hend:=run_endLoop (P:=P) (w:=w') hr1 hr2;refine c.back _ (lone (c.fr {a with defers:={target:=.collected w.heap.size,args:=#[]}::ds} (its (bFZ r'.pending++k))) c.cs (w'.putObj (w.heap.size+1) (.loop {r' with state:=.exhausted}))) (step_lone_go ?_) ?_
 ·have ej:its (bFZ r'.pending++k)=(r'.pending.map Item.code).toList++its k:=by
   cases r'.pending<;>rfl
  simp [stepG,stepG.exec,Ctx.fr,Sem.runT_eq,hend,GStep.bare_after,ej]
 unfold aD at hr3;refine hr3 ?_ _ _ ⟨ha.size,ha.get⟩ rfl rfl (hw.trans (hlike.trans (hlk.trans ⟨rfl,rfl,rfl⟩)))
 cases r'.pending with
 |none=>exact bQ hwf
 |some x=>exact cA trivial (bQ hwf)
theorem lD.of {c:Ctx P} {L:Fr} {D y:Nat} {params:Array Tmp} {assign body:Code} {r:Loop} (hrec:Rec c L D params assign body r) {r1:Loop} (hr1:r1.fn=r.fn/\r1.tmps=r.tmps/\r1.params=r.params/\r1.assign=r.assign/\r1.body=r.body)
  (hl:h[y]? = some (.loop r1)) {vs:List Value} {R:Value->Array Obj->Prop}
  (H:∀w0 fr cs,aD (kC P c.fn c.n y w0 fr cs R) [] [.code assign,.item .beginRound,.code body] (yR params.toList vs L) h)
  (hlen:Nat.beq vs.length params.toList.length=true:=by rfl) (hps:params.toList.all (fun p=>Nat.blt p c.n)=true:=by rfl):lD P y vs.toArray h R:=by
 intro w hw;obtain ⟨q1,q2,q3,q4,q5⟩:=hr1;have hlen':vs.length=params.toList.length:=Nat.eq_of_beq_eq_true hlen;have hy:=run_yield (P:=P) (w:=w) (l:=y) (r:=r1) (args:=vs.toArray) (by rw [hw];exact hl) (by rw [q3,hrec.params];simpa using hlen');refine ⟨r1.fn,(r1.params.zip vs.toArray).foldl (fun tmps (x:Nat×Value)=>tmps.setIfInBounds x.1 x.2) r1.tmps,r1.assign,r1.body,hy,fun fr cs=>?_⟩;have hr:=H w fr cs;unfold aD at hr;have hz:bB c.n (yR params.toList vs L) {tmps:=(r1.params.zip vs.toArray).foldl (fun tmps (x:Nat×Value)=>tmps.setIfInBounds x.1 x.2) r1.tmps,defers:=[]}:=by
  have:=aIR params.toList vs L r.tmps hrec.holds hps;rw [q2,q3,hrec.params];have e:(params.zip vs.toArray).foldl (fun tmps (x:Nat×Value)=>tmps.setIfInBounds x.1 x.2) r.tmps=(params.toList.zip vs).foldl (fun t (x:Nat×Value)=>t.setIfInBounds x.1 x.2) r.tmps:=by
   rw [<-Array.foldl_toList];simp
  rw [e];exact this
 have:=hr (fun s hs=>by
  simp only [List.mem_cons,List.not_mem_nil,or_false] at hs;rcases hs with rfl|rfl|rfl<;>trivial) _ w hz rfl hw (dC.refl w)
 rw [q1,hrec.fn,q4,hrec.assign,q5,hrec.body];exact this
end
/-! the return -/
def aQD:List Deferred->Array Obj->Array Obj->Prop
 | [],h,h'=>h'=h
 |d::ds,h,h'=>∃D,d.target=.collected D/\h[D]? = some (.deferred (some []))/\aQD ds (h.setIfInBounds D (.deferred none)) h'
def aFT {P:Program} (T:Tab P) (l:Fr) (h:Array Obj):List ResultVar->List Value->Prop
 | [],[]=>True
 | .tmp t::rs,v::vs=>look l t=some v/\aFT T l h rs vs
 | .cell a t::rs,v::vs=>(∃b o,look l a=some (.pointer (some ⟨b,o,none⟩))/\eY T t=true/\bL h b o=some v)/\aFT T l h rs vs
 |_,_=>False
theorem bGA (T:Tab P) {fn:Func} {n:Nat} {l:Fr} {a:Act} (ha:bB n l a) {w:World} {vs:List Value} (hv:aFT T l w.heap fn.results.toList vs):
  (results fn a.tmps).run P w=.ok (tup vs) w:=by
 have key:∀(rs:List ResultVar) (vs:List Value),aFT T l w.heap rs vs->(rs.mapM (gY a.tmps)).run P w=.ok vs w:=by
  intro rs
  induction rs with
  |nil=>intro vs h;cases vs with
   |nil=>simp
   |cons=>exact h.elim
  |cons r rs ih=>
   intro vs h
   cases vs with
   |nil=>cases r<;>exact h.elim
   |cons v vs=>
    cases r with
    |tmp t=>
     obtain ⟨h1,h2⟩:=h;have hrs:=ih vs h2;have h0:(gY a.tmps (.tmp t)).run P w=.ok v w:=by simp [gY,ha.get t v h1]
     simp only [List.mapM_cons,Sem.run_bind,h0,hrs,Result.andThen,Sem.run_pure]
    |cell p t=>
     obtain ⟨⟨b,o,h1,h2,h3⟩,h4⟩:=h;have hrs:=ih vs h4;have hcell:=iQ h3;have h0:(gY a.tmps (.cell p t)).run P w=.ok v w:=by
      simp [gY,ha.get p _ h1,asAddr,loadVar,lN T h2,Go.load,Sem.run,hcell]
     simp only [List.mapM_cons,Sem.run_bind,h0,hrs,Result.andThen,Sem.run_pure]
 have hk:=key fn.results.toList vs hv;rw [yC,<-Array.toArray_toList (xs:=fn.results),List.mapM_toArray];simp only [Sem.run_bind,map_eq_pure_bind,hk,Sem.run_pure,Result.andThen]
 cases vs with
 |nil=>simp [tup]
 |cons v vs=>cases vs<;>simp [tup]
section ret
variable {f n:Nat} {w0:World} {cs:List Frame} {R:Ending->Array Obj->Prop} {k:List SI} {l:Fr} {h h':Array Obj} {ds:List Deferred}
theorem aDG (T:Tab P) {fn:Func} (hf:P.funcs[f]? = some fn) (todo:List Item):∀(ds:List Deferred) (h:Array Obj),aQD ds h h' -> ∀ {vs:List Value},aFT T l h' fn.results.toList vs->R (.returned (tup vs)) h' ->
  ∀(a:Act) (w:World),bB n l a->a.defers=ds->w.heap=h->dC w0 w ->
  (cW P f n w0 cs R).Z (lone { (cW P f n w0 cs R).fr a todo with mode:=.returning} cs w):=by
 intro ds
 induction ds with
 |nil=>
  intro h hc vs hv hR a w ha hd hh hw;obtain rfl:h'=h:=hc;refine ⟨.returned (tup vs),w,_,⟨hw,hh▸hR⟩,Steps.refl P _,rfl,rfl,hd,rfl,fn,hf,bGA T ha (hh▸hv)⟩
 |cons d ds ih=>
  intro h hc vs hv hR a w ha hd hh hw;obtain ⟨D,h1,h2,h3⟩:=hc;have ht:=run_takeDeferred (P:=P) (w:=w) (b:=D) (by rw [hh];exact h2)
  refine (cW P f n w0 cs R).back _ (lone { (cW P f n w0 cs R).fr {a with defers:=ds} todo with mode:=.returning} cs (w.putObj D (.deferred none))) (step_lone_go ?_)
   (ih _ h3 hv hR {a with defers:=ds} (w.putObj D (.deferred none)) ⟨ha.size,ha.get⟩ rfl (by simp [World.putObj,hh]) (hw.trans ⟨rfl,rfl,rfl⟩))
  obtain ⟨t,ar⟩:=d;simp only at h1;subst h1
  simp [stepG,unwind,Ctx.fr,hd,Sem.runT_eq,ht,GStep.bare_after]
theorem aD.retC (T:Tab P) {fn:Func} (hf:P.funcs[f]? = some fn) (hc:aQD ds h h') {vs:List Value} (hv:aFT T l h' fn.results.toList vs) (hR:R (.returned (tup vs)) h'):
  aD (cW P f n w0 cs R) ds (.code .ret::k) l h:=by
 unfold aD;intro hwf a w ha hd hh hw;refine (cW P f n w0 cs R).back _ _ (step_lone_go ?_) (aDG (n:=n) T hf (its (.code .ret::k)) ds h hc hv hR a w ha hd hh hw)
 simp [its,SI.it,stepG,stepG.exec,Ctx.fr,cW]
end ret
/-! blocks beside -/

def cQ (o:Oper):Bool:=
 match o.op with
 | .load _ _=>true
 | .build _ _=>true
 |_=>dH o
def cN (ops:Array Oper) (k:Nat):Bool:=
 match ops[k]? with
 |some o=>cQ o
 |none=>false
section any
variable {ops:Array Oper} {md:Region.Mode} {Q:Exit->Act->World->Prop}
def nF (md:Region.Mode) (ops:Array Oper) (k:Nat):List Nat:=aMU md ops k (List.range ops.size) []
abbrev tV:=List (Nat×(World->Prop))
def After (md:Region.Mode) (ops:Array Oper) (pins:tV) (i:Nat) (w w':World):Prop:=
 (cN ops i=true->w'=w)/\(cN ops i=false -> ∀p∈pins,i∈nF md ops p.1\/p.2 w')
def pX (P:Program) (md:Region.Mode) (ops:Array Oper) (Q:Exit->Act->World->Prop) (pins:tV):Nat->Array Bool->Act->World->Prop
 |0,listed,a,w=>Region.ready md ops listed=[]/\Q .normal a w
 |f+1,listed,a,w=>(Region.ready md ops listed=[]->Q .normal a w) /\
  ∀i∈Region.ready md ops listed,wpOp P ops Q i (fun a' w'=>After md ops pins i w w'/\pX P md ops Q pins f (listed.setIfInBounds i true) a' w') a w
theorem yL {pins:tV}:∀(f:Nat) (listed:Array Bool) (a:Act) (w:World),pX P md ops Q pins f listed a w->wpAny P md ops Q f listed a w
 |0,_,_,_,h=>h
 |f+1,_,_,_,h=>⟨h.1,fun i hi=>wpOp_mono (fun a' w' h'=>yL f _ a' w' h'.2) (h.2 i hi)⟩
theorem uC {p:Nat×(World->Prop)} {pins:tV}:∀(f:Nat) (listed:Array Bool) (a:Act) (w:World),pX P md ops Q (p::pins) f listed a w->pX P md ops Q pins f listed a w
 |0,_,_,_,h=>h
 |f+1,_,_,_,h=>⟨h.1,fun i hi=>wpOp_mono (fun a' w' h'=>⟨⟨h'.1.1,fun hf q hq=>h'.1.2 hf q (List.mem_cons_of_mem _ hq)⟩,uC f _ a' w' h'.2⟩) (h.2 i hi)⟩
theorem aJX {pins:tV} {C:World->Prop} {i:Nat} {oi:Oper} {v:Value} (hi:ops[i]? = some oi) (hsel:∀(j:Nat) (o:Oper) cs b,ops[j]? = some o->o.op ≠ .select cs b)
  (hQ:∀c a w,¬Q (.panic c) a w) (hfl:cN ops i=true):
  ∀(f:Nat) (listed:Array Bool) (a:Act) (w:World),fG md ops listed ->
   (∀j oj,ops[j]? = some oj->j≠i->listed.getD j true=false->(∀e∈oj.after,Region.binds md e=true->e.on≠i)->oi.apart ops oj=true) ->
   i∈Region.ready md ops listed->YieldsIf P ops C oi v a->C w ->
   pX P md ops Q ((i,C)::pins) f (listed.setIfInBounds i true) (a.put oi.dst v) w->pX P md ops Q pins (f+1) listed a w:=by
 intro f
 induction f with
 |zero=>
  intro listed a w _ _ hr hy hS H;refine ⟨fun h=>(by rw [h] at hr;cases hr),fun j hj=>?_⟩;by_cases hji:j=i
  ·subst hji;exact hy.wpOp hi hS ⟨⟨fun _=>rfl,fun h=>(by rw [hfl] at h;cases h)⟩,H⟩
  have:=ready_mono hj hji;rw [H.1] at this;cases this
 |succ f ih=>
  intro listed a w inv hfree hr hy hS H;refine ⟨fun h=>(by rw [h] at hr;cases hr),fun j hj=>?_⟩;by_cases hji:j=i
  ·subst hji;exact hy.wpOp hi hS ⟨⟨fun _=>rfl,fun h=>(by rw [hfl] at h;cases h)⟩,uC _ _ _ _ H⟩
  have h1:=H.2 j (ready_mono hj hji);obtain ⟨hjun,oj,hoj,hall⟩:=mem_ready.1 hj;have hun:=(mem_ready.1 hr).1;have hnot:∀e∈oj.after,Region.binds md e=true->e.on≠i:=fun e he hb heq=>by
   have h1:=hall e he hb;rw [heq,getD_both hun] at h1;cases h1
  have h2:=wpOp_putIf hoj (hfree j oj hoj hji hjun hnot) (fun cs b=>hsel i oi cs b hi) (fun cs b=>hsel j oj cs b hoj) (fun c a w hq=>absurd hq (hQ c _ w)) hy h1
  have hfree':∀k ok,ops[k]? = some ok->k≠i->(listed.setIfInBounds j true).getD k true=false ->
    (∀e∈ok.after,Region.binds md e=true->e.on≠i)->oi.apart ops ok=true:=fun k ok hk hki hun hno=>by
   refine hfree k ok hk hki ?_ hno;by_cases hjk:j=k
   ·subst hjk;exact hjun
   rw [getD_set_ne true hjk] at hun;exact hun
  refine wpOp_mono (fun a' w' h3=>?_) h2;obtain ⟨hy',⟨ha1,ha2⟩,hrest⟩:=h3;have hC:C w':=by
   cases hfj:cN ops j with
   |true=>rw [ha1 hfj];exact hS
   |false=>
    rcases ha2 hfj (i,C) (List.mem_cons_self ..) with hd|hc
    ·exact absurd hj (aBJ inv (getD_both hun) (List.range ops.size) [] (by simp) j hd).2
    exact hc
  refine ⟨⟨ha1,fun hf q hq=>ha2 hf q (List.mem_cons_of_mem _ hq)⟩,ih (listed.setIfInBounds j true) a' w' (inv.set hj) hfree' (ready_mono hr (Ne.symm hji)) hy' hC ?_⟩;rw [Array.setIfInBounds_comm _ _ hji];exact hrest
def sem3 (P:Program) (md:Region.Mode) (ops:Array Oper) (Q:Exit->Act->World->Prop):tV->List Nat->Act->World->Prop
 |_,[],a,w=>Q .normal a w
 |pins,k::ks,a,w=>∃o,ops[k]? = some o /\
  ((cQ o=true /\ ∃v C,YieldsIf P ops C o v a/\C w/\sem3 P md ops Q ((k,C)::pins) ks (a.put o.dst v) w) \/
   (cQ o=false/\wpOp P ops Q k (fun a' w'=>(∀p∈pins,k∈nF md ops p.1\/p.2 w')/\sem3 P md ops Q pins ks a' w') a w))
def chk3 (md:Region.Mode) (ops:Array Oper):List Nat->Array Bool->Bool
 | [],listed=>decide (Region.ready md ops listed=[])
 |k::ks,listed=>(if cN ops k then (Region.ready md ops listed).contains k&&Region.free md ops listed k else decide (Region.ready md ops listed=[k]))&&chk3 md ops ks (listed.setIfInBounds k true)
theorem aRS (hsel:Region.noSelect ops=true) (hQ:∀c a w,¬Q (.panic c) a w):∀(ks:List Nat) (pins:tV) (listed:Array Bool) (a:Act) (w:World),fG md ops listed->chk3 md ops ks listed=true ->
  sem3 P md ops Q pins ks a w->pX P md ops Q pins ks.length listed a w
 | [],pins,listed,a,w,_,hc,h=>⟨of_decide_eq_true hc,h⟩
 |k::ks,pins,listed,a,w,inv,hc,h=>by
  obtain ⟨o,ho,h⟩:=h;simp only [chk3,Bool.and_eq_true] at hc;have hp:cN ops k=cQ o:=by unfold cN;rw [ho]
  rcases h with ⟨hf,v,C,hy,hC,h⟩|⟨hf,h⟩
  ·rw [hf] at hp;rw [if_pos hp] at hc;simp only [Bool.and_eq_true] at hc;have hr:k∈Region.ready md ops listed:=by simpa using hc.1.1
   exact aJX ho (Region.noSelect_spec hsel) hQ hp ks.length listed a w inv (Region.free_spec ho hc.1.2) hr hy hC (aRS hsel hQ ks _ _ _ w (inv.set hr) hc.2 h)
  rw [hf] at hp;rw [if_neg (by rw [hp];simp)] at hc;simp only [decide_eq_true_eq] at hc;refine ⟨fun h0=>(by rw [hc.1] at h0;cases h0),fun i hi=>?_⟩;have hik:i=k:=by rw [hc.1] at hi;simpa using hi
  subst hik;exact wpOp_mono (fun a' w' h'=>⟨⟨fun h=>(by rw [hp] at h;cases h),fun _=>h'.1⟩,aRS hsel hQ ks _ _ a' w' (inv.set hi) hc.2 h'.2⟩) h
end any
/-! the walk -/
inductive Pin where
 |one (b off:Nat) (v:Value)
 |many (b off:Nat) (vs:List Value)
def jY (h:Array Obj) (b off:Nat) (vs:List Value):Prop:=∀j v,vs[j]? = some v->bL h b (off+j)=some v
def Pin.ok (h:Array Obj):Pin->Prop
 | .one b off v=>bL h b off=some v
 | .many b off vs=>jY h b off vs
def tU (k:Nat):List Nat->Bool
 | []=>false
 |j::js=>match Nat.beq k j with
  |true=>true
  |false=>tU k js
theorem fT {k:Nat}:∀ {l:List Nat},tU k l=true↔k∈l
 | []=>by simp [tU]
 |j::js=>by
  unfold tU
  cases hb:Nat.beq k j with
  |true=>simp [Nat.eq_of_beq_eq_true hb]
  |false=>
   have:k≠j:=fun e=>by subst e;simp at hb
   simp [this,fT (l:=js)]
def mD (keep:List Nat):List (Nat×Pin)->List (Nat×Pin)
 | []=>[]
 |(k,p)::ps=>match tU k keep with
  |true=>(k,p)::mD keep ps
  |false=>mD keep ps
def aGC (h h':Array Obj):List (Nat×Pin)->Prop
 | []=>True
 |(_,p)::ps=>(p.ok h->p.ok h')/\aGC h h' ps
def aAS? {P:Program} (T:Tab P) (l:Fr) (op:Op):Option (Nat×Nat×Nat):=
 match op with
 | .load t x=>match uY T t with
  |true=>match ev l x with
   |some (.pointer (some ⟨b,off,none⟩))=>match cT T.inf t with
    |some i=>some (b,off,i.size)
    |none=>none
   |_=>none
  |false=>none
 |_=>none
theorem aPH {T:Tab P} {l:Fr} {o:Oper} {b off m:Nat} (hl:aAS? T l o.op=some (b,off,m)) {n:Nat} {a:Act} (ha:bB n l a) {w:World} {vs:List Value} (hlen:vs.length=m) (hc:jY w.heap b off vs):
  (execOp a.eval o).run P w=.ok (.value (.agg vs.toArray)) w:=by
 unfold aAS? at hl;split at hl
 ·rename_i t x hop
  split at hl
  ·rename_i hag
   split at hl
   ·rename_i b' off' hx
    split at hl
    ·rename_i i hi
     simp only [Option.some.injEq,Prod.mk.injEq] at hl;obtain ⟨rfl,rfl,rfl⟩:=hl;have hl:=run_loadCells_list (P:=P) w ⟨b',off',none⟩ vs (fun j v hv=>by rw [fS];exact iQ (hc j v hv));rw [hlen] at hl
     simp [execOp,hop,ha.ev hx,Instr.loadAt,Instr.sureAddr,loadVar,rH T hag,kK T hi,hl]
    cases hl
   cases hl
  cases hl
 cases hl
theorem aHC {T:Tab P} {l:Fr} {o:Oper} {x:Nat×Nat×Nat} (h:aAS? T l o.op=some x):dH o=false:=by
 unfold aAS? at h;split at h
 ·rename_i hop;unfold dH;rw [hop]
 cases h
def uJ:List (Nat×List Nat)->List Nat
 | []=>[]
 |(k,_)::r=>k::uJ r
def aUP (P:Program) (n:Nat) (l:Fr) (o:Oper) (v:Value):Prop:=∀a w,bB n l a->(execOp a.eval o).run P w=.ok (.value v) w
def goH (T:Tab P) (n:Nat) (all:List Oper) (st:List SI) (ops:Array Oper):List (Nat×List Nat)->List (Nat×Pin)->Fr->Array Obj->(Fr->Array Obj->Prop)->Prop
 | [],_,l,h,K=>K l h
 |(k,keep)::plan,pins,l,h,K=>match nth all k with
  |none=>False
  |some o=>match cQ o with
   |false=>match dG l ops o with
    |none=>False
    |some false=>match cB n o.dst with
     |true=>goH T n all st ops plan (mD keep pins) (upd l o.dst undef) h K
     |false=>False
    |some true=>cB n o.dst=true /\ ∃V,Eff P n l h o V /\ ∀v h',V v h'->aGC h h' (mD keep pins)/\goH T n all st ops plan (mD keep pins) (upd l o.dst v) h' K
   |true=>match o.dst with
    |none=>False
    |some d=>match Nat.blt d n with
     |false=>False
     |true=>match dG l ops o with
      |none=>False
      |some false=>goH T n all st ops plan pins ((d,undef)::l) h K
      |some true=>match ev1 T l o.op with
       | .val v=>goH T n all st ops plan pins ((d,v)::l) h K
       | .ob p v=>p/\goH T n all st ops plan pins ((d,v)::l) h K
       | .tst p i=>match kO all (uU all (uJ plan)) st d with
        |true=>(p->goH T n all st ops plan pins ((d,.bool true)::l) h K)/\(¬p->goH T n all st ops plan pins ((d,.bool false)::l) h K)
        |false=>goH T n all st ops plan pins ((d,.bool (@decide p i))::l) h K
       | .ntst p i=>match kO all (uU all (uJ plan)) st d with
        |true=>(p->goH T n all st ops plan pins ((d,.bool false)::l) h K)/\(¬p->goH T n all st ops plan pins ((d,.bool true)::l) h K)
        |false=>goH T n all st ops plan pins ((d,.bool (!@decide p i))::l) h K
       | .stop=>match loadAt? T l o.op with
        |some (b,off)=>∃v,bL h b off=some v/\goH T n all st ops plan ((k,.one b off v)::pins) ((d,v)::l) h K
        |none=>match aAS? T l o.op with
         |some (b,off,m)=>∃vs,(vs.length=m/\jY h b off vs)/\goH T n all st ops plan ((k,.many b off vs)::pins) ((d,.agg vs.toArray)::l) h K
         |none=>dH o=false /\ ∃v,aUP P n l o v/\goH T n all st ops plan pins ((d,v)::l) h K
def tE (md:Region.Mode) (ops:Array Oper):List (Nat×List Nat)->List Nat->List Nat->Bool
 | [],_,_=>true
 |(k,keep)::plan,taken,alive=>if cN ops k then (if fF ops k then tE md ops plan taken alive else tE md ops plan (k::taken) (k::alive))
  else taken.all (fun p=>tU p keep&&tU p alive||(nF md ops p).contains k)&&tE md ops plan taken (keep.filter fun p=>tU p alive)
theorem mK {keep:List Nat} {k:Nat} {p:Pin}:∀ {ps:List (Nat×Pin)},(k,p)∈mD keep ps↔(k,p)∈ps/\k∈keep
 | []=>by simp [mD]
 |(j,q)::ps=>by
  unfold mD
  cases hm:tU j keep with
  |true=>
   have hj:=fT.1 hm;simp only [List.mem_cons,Prod.mk.injEq,mK (ps:=ps)]
   constructor
   ·rintro (⟨rfl,rfl⟩|⟨h1,h2⟩)
    ·exact ⟨.inl ⟨rfl,rfl⟩,hj⟩
    exact ⟨.inr h1,h2⟩
   rintro ⟨⟨rfl,rfl⟩|h1,h2⟩
   ·exact .inl ⟨rfl,rfl⟩
   exact .inr ⟨h1,h2⟩
  |false=>
   have hj:j∉keep:=fun h=>by rw [fT.2 h] at hm;cases hm
   simp only [List.mem_cons,Prod.mk.injEq,mK (ps:=ps)]
   constructor
   ·rintro ⟨h1,h2⟩;exact ⟨.inr h1,h2⟩
   rintro ⟨⟨rfl,rfl⟩|h1,h2⟩
   ·exact absurd h2 hj
   exact ⟨h1,h2⟩
theorem aCT {h h':Array Obj}:∀ {ps:List (Nat×Pin)},aGC h h' ps -> ∀k p,(k,p)∈ps->p.ok h->p.ok h'
 | [],_,k,p,hm,_=>by cases hm
 |(j,q)::ps,hk,k,p,hm,hp=>by
  rcases List.mem_cons.1 hm with e|hm
  ·cases e;exact hk.1 hp
  exact aCT hk.2 k p hm hp
structure oU (taken alive:List Nat) (ps:List (Nat×Pin)) (F:tV) (h:Array Obj):Prop where
 ok:∀k p,(k,p)∈ps->p.ok h
 full:∀q∈F,(∀w,q.2 w)\/(q.1∈taken/\(q.1∈alive -> ∃p,(q.1,p)∈ps /\ ∀w:World,p.ok w.heap->q.2 w))
theorem oU.val {taken alive:List Nat} {ps:List (Nat×Pin)} {F:tV} {h:Array Obj} (H:oU taken alive ps F h) (k:Nat):oU taken alive ps ((k,fun _=>True)::F) h:=
 ⟨H.ok,fun q hq=>by
  rcases List.mem_cons.1 hq with rfl|hq
  ·exact .inl fun _=>trivial
  exact H.full q hq⟩
theorem oU.val' {taken alive:List Nat} {ps:List (Nat×Pin)} {F:tV} {h:Array Obj} (H:oU taken alive ps F h) {k:Nat} (hk:k∉taken):oU (k::taken) (k::alive) ps ((k,fun _=>True)::F) h:=
 ⟨H.ok,fun q hq=>by
  rcases List.mem_cons.1 hq with rfl|hq
  ·exact .inl fun _=>trivial
  rcases H.full q hq with h1|⟨h1,h2⟩
  ·exact .inl h1
  refine .inr ⟨List.mem_cons_of_mem _ h1,fun ha=>h2 ?_⟩;rcases List.mem_cons.1 ha with e|ha
  ·exact absurd (e▸h1) hk
  exact ha⟩
theorem oU.load {taken alive:List Nat} {ps:List (Nat×Pin)} {F:tV} {h:Array Obj} (H:oU taken alive ps F h) {k:Nat} (hk:k∉taken) {p:Pin} (hp:p.ok h):
  oU (k::taken) (k::alive) ((k,p)::ps) ((k,fun w=>p.ok w.heap)::F) h:=by
 refine ⟨fun j q hq=>?_,fun q hq=>?_⟩
 ·rcases List.mem_cons.1 hq with e|hq
  ·cases e;exact hp
  exact H.ok j q hq
 rcases List.mem_cons.1 hq with rfl|hq
 ·exact .inr ⟨List.mem_cons_self ..,fun _=>⟨p,List.mem_cons_self ..,fun _ h=>h⟩⟩
 rcases H.full q hq with h1|⟨h1,h2⟩
 ·exact .inl h1
 refine .inr ⟨List.mem_cons_of_mem _ h1,fun ha=>?_⟩;rcases List.mem_cons.1 ha with e|ha
 ·exact absurd (e▸h1) hk
 obtain ⟨p',h3,h4⟩:=h2 ha;exact ⟨p',List.mem_cons_of_mem _ h3,h4⟩
theorem aZF (T:Tab P) {n:Nat} {all:List Oper} {st:List SI} {w0:World} {ds:List Deferred} {K:Fr->Array Obj->Prop} {Q:Exit->Act->World->Prop} {md:Region.Mode}
  (hQ:∀l h a w,K l h->bB n l a->a.defers=ds->w.heap=h->dC w0 w->Q .normal a w):∀(plan:List (Nat×List Nat)) (taken alive:List Nat) (ps:List (Nat×Pin)) (F:tV) (l:Fr) (h:Array Obj),
  tE md all.toArray plan taken alive=true->(uJ plan).Nodup->(∀k∈uJ plan,k∉taken)->oU taken alive ps F h->goH T n all st all.toArray plan ps l h K ->
  ∀a w,bB n l a->a.defers=ds->w.heap=h->dC w0 w->sem3 P md all.toArray Q F (uJ plan) a w:=by
 intro plan
 induction plan with
 |nil=>intro taken alive ps F l h _ _ _ _ hg a w ha hd hh hw;exact hQ l h a w hg ha hd hh hw
 |cons x plan ih=>
  obtain ⟨k,keep⟩:=x;intro taken alive ps F l h hc hnd hnew hrel hg a w ha hd hh hw;simp only [uJ,List.nodup_cons] at hnd;simp only [uJ] at hnew;have hk1:=hnew k (List.mem_cons_self ..);have hnew':∀j∈uJ plan,j∉taken:=fun j hj=>hnew j (List.mem_cons_of_mem _ hj);have hnew'':∀j∈uJ plan,j∉k::taken:=fun j hj=>by
   rw [List.mem_cons];rintro (e|e)
   ·exact hnd.1 (e▸hj)
   exact hnew' j hj e
  unfold goH at hg;split at hg
  ·exact hg.elim
  rename_i o hn
  rw [fW] at hn;have ho:all.toArray[k]? = some o:=by simpa using hn
  have hfa:cN all.toArray k=cQ o:=by unfold cN;rw [ho]
  refine ⟨o,ho,?_⟩;split at hg
  ·rename_i hf
   refine .inr ⟨hf,?_⟩;rw [hf] at hfa;simp only [tE,hfa,Bool.false_eq_true,if_false,Bool.and_eq_true] at hc;obtain ⟨hc1,hc2⟩:=hc;have hpins:∀w':World,(∀k p,(k,p)∈mD keep ps->p.ok w'.heap) -> ∀q∈F,k∈nF md all.toArray q.1\/q.2 w':=fun w' hp q hq=>by
    rcases hrel.full q hq with h1|⟨h1,h2⟩
    ·exact .inr (h1 w')
    have:=List.all_eq_true.1 hc1 q.1 h1;simp only [Bool.or_eq_true,Bool.and_eq_true,fT] at this;rcases this with ⟨h3,h4⟩|h3
    ·obtain ⟨p,hpp,hp2⟩:=h2 h4;exact .inr (hp2 w' (hp q.1 p (mK.2 ⟨hpp,h3⟩)))
    exact .inl (by simpa using h3)
   have hrel':∀h',(∀k p,(k,p)∈mD keep ps->p.ok h')->oU taken (keep.filter fun p=>tU p alive) (mD keep ps) F h':=fun h' hp=>by
    refine ⟨hp,fun q hq=>?_⟩;rcases hrel.full q hq with h1|⟨h1,h2⟩
    ·exact .inl h1
    refine .inr ⟨h1,fun hal=>?_⟩;rw [List.mem_filter,fT] at hal;obtain ⟨p,hpp,hp2⟩:=h2 hal.2;exact ⟨p,mK.2 ⟨hpp,hal.1⟩,hp2⟩
   split at hg
   ·exact hg.elim
   ·rename_i hgd
    have hwn:=bJ ha hgd;unfold wpOp;simp only [ho,hwn,Bool.false_eq_true,if_false];split at hg
    ·rename_i hdo
     have hold:∀k p,(k,p)∈mD keep ps->p.ok h:=fun j p hj=>hrel.ok j p (mK.1 hj).1;refine ⟨hpins w (by rw [hh];exact hold),ih taken _ _ F _ h hc2 hnd.2 hnew' (hrel' h hold) hg _ w (eG ha (fE hdo) undef) (by cases o.dst<;>simpa [Act.put] using hd) hh hw⟩
    exact hg.elim
   rename_i hgd
   have hwn:=bJ ha hgd;unfold wpOp;simp only [ho,hwn,if_true];obtain ⟨hdo,V,hE,hnx⟩:=hg;refine .inl (hE a w ha hh _ _ fun v w' hlk hV=>?_);obtain ⟨hkp,hg'⟩:=hnx v _ hV;have hold:∀k p,(k,p)∈mD keep ps->p.ok w'.heap:=fun j p hj=>aCT hkp j p hj (hrel.ok j p (mK.1 hj).1);exact ⟨hpins w' hold,ih taken _ _ F _ w'.heap hc2 hnd.2 hnew' (hrel' _ hold) hg' _ w' (eG ha (fE hdo) v) (by cases o.dst<;>simpa [Act.put] using hd) rfl (hw.trans hlk)⟩
  rename_i hf
  refine .inl ⟨hf,?_⟩;rw [hf] at hfa;have hpu:fF all.toArray k=dH o:=by unfold fF;rw [ho]
  simp only [tE,hfa,if_true,hpu] at hc
  -- behind a floating operation that asks nothing of the world
  have next:∀(ps':List (Nat×Pin)),ps'=ps -> ∀l' a',goH T n all st all.toArray plan ps' l' h K->bB n l' a'->a'.defers=ds->sem3 P md all.toArray Q ((k,fun _=>True)::F) (uJ plan) a' w:=fun ps' e l' a' hg' ha' hd'=>by
   subst e;split at hc
   ·exact ih taken alive ps' _ l' h hc hnd.2 hnew' (hrel.val k) hg' a' w ha' hd' hh hw
   exact ih (k::taken) (k::alive) ps' _ l' h hc hnd.2 hnew'' (hrel.val' hk1) hg' a' w ha' hd' hh hw
  split at hg
  ·exact hg.elim
  rename_i d hdst
  split at hg
  ·exact hg.elim
  rename_i hlt
  have hlt:=Nat.blt_eq.mp hlt;have put:∀v,bB n ((d,v)::l) (a.put o.dst v)/\(a.put o.dst v).defers=ds:=fun v=>by rw [hdst];exact ⟨ha.put hlt v,by simpa [Act.put] using hd⟩
  split at hg
  ·exact hg.elim
  ·rename_i hgd
   have hwn:=bJ ha hgd;exact ⟨undef,fun _=>True,.inr ⟨hwn,rfl⟩,trivial,next ps rfl _ _ hg (put _).1 (put _).2⟩
  rename_i hgd
  have hwn:=bJ ha hgd;have hk:=fun w=>yO T n l o.op a w o ha rfl
  have val:∀v,(∀w,(execOp a.eval o).run P w=.ok (.value v) w)->goH T n all st all.toArray plan ps ((d,v)::l) h K ->
    ∃v C,YieldsIf P all.toArray C o v a/\C w/\sem3 P md all.toArray Q ((k,C)::F) (uJ plan) (a.put o.dst v) w:=fun v hv hg=>
   ⟨v,fun _=>True,.inl ⟨hwn,fun w _=>hv w⟩,trivial,next ps rfl _ _ hg (put v).1 (put v).2⟩
  have lod:∀v (p:Pin),p.ok h->dH o=false->(∀w:World,p.ok w.heap->(execOp a.eval o).run P w=.ok (.value v) w)->goH T n all st all.toArray plan ((k,p)::ps) ((d,v)::l) h K ->
    ∃v C,YieldsIf P all.toArray C o v a/\C w/\sem3 P md all.toArray Q ((k,C)::F) (uJ plan) (a.put o.dst v) w:=fun v p hp hno hv hg=>by
   rw [hno,if_neg (by simp)] at hc;exact ⟨v,fun w=>p.ok w.heap,.inl ⟨hwn,hv⟩,(by show Pin.ok w.heap p;rw [hh];exact hp),ih (k::taken) (k::alive) _ _ _ h hc hnd.2 hnew'' (hrel.load hk1 hp) hg _ w (put v).1 (put v).2 hh hw⟩
  split at hg
  ·rename_i v hv;simp only [hv,Pu.ok] at hk;exact val v hk hg
  ·rename_i p v hv;simp only [hv,Pu.ok] at hk;exact val v (fun w=>hk w hg.1) hg.2
  ·rename_i p i hv
   simp only [hv,Pu.ok] at hk;split at hg
   ·by_cases hp:p
    ·simp only [hp,decide_true] at hk;exact val _ hk (hg.1 hp)
    simp only [hp,decide_false] at hk;exact val _ hk (hg.2 hp)
   exact val _ hk hg
  ·rename_i p i hv
   simp only [hv,Pu.ok] at hk;split at hg
   ·by_cases hp:p
    ·simp only [hp,decide_true,Bool.not_true] at hk;exact val _ hk (hg.1 hp)
    simp only [hp,decide_false,Bool.not_false] at hk;exact val _ hk (hg.2 hp)
   exact val _ hk hg
  split at hg
  ·rename_i hl
   obtain ⟨v,hc',hg⟩:=hg;exact lod v (.one _ _ v) hc' (aEI hl) (fun w hw=>tC hl ha hw) hg
  split at hg
  ·rename_i hl
   obtain ⟨vs,⟨hlen,hc'⟩,hg⟩:=hg;exact lod _ (.many _ _ vs) hc' (aHC hl) (fun w hw=>aPH hl ha hlen hw) hg
  obtain ⟨_,v,hv,hg⟩:=hg;exact val v (fun w=>hv a w ha) hg
theorem aD.held {c:Ctx P} {ds:List Deferred} {k:List SI} {l:Fr} {h:Array Obj} (T:Tab P) {id:Nat} {ops:List Oper} (plan:List (Nat×List Nat))
  (hB:(Region.noSelect ops.toArray&&decide ((uJ plan).length=ops.toArray.size)&&chk3 .any ops.toArray (uJ plan) (Array.replicate ops.toArray.size false)&&tE .any ops.toArray plan [] []&&decide (uJ plan).Nodup)=true)
  (H:goH T c.n ops k ops.toArray plan [] l h (fun l' h'=>aD c ds k l' h')) (hnd:tG ops=true:=by rfl):
  aD c ds (.code (.region id ops.toArray true)::k) l h:=by
 unfold aD;intro hwf a w ha hd hh hw;simp only [Bool.and_eq_true,decide_eq_true_eq] at hB;obtain ⟨⟨⟨⟨hsel,hlen⟩,hc3⟩,hcp⟩,hnod⟩:=hB;refine aKP (K:=its k) (Q:=fun e a' w'=>e=.normal/\c.Z (lone (c.fr a' (its k)) c.cs w')) T.mixed ⟨fun _ _ hq=>hq.2,fun _ _ _ hq=>(by cases hq.1),fun _ _ hq=>(by cases hq.1)⟩ (.inr fun i o ho=>sM hnd i o (by simpa using ho)) ?_;have H3:=aZF T (w0:=c.w0) (ds:=ds) (md:=.any) (Q:=fun e a' w'=>e=.normal/\c.Z (lone (c.fr a' (its k)) c.cs w')) (K:=fun l' h'=>aD c ds k l' h') (fun l2 h2 a2 w2 hK2 ha2 hd2 hh2 hw2=>⟨rfl,by
  unfold aD at hK2;exact hK2 (bQ hwf) a2 w2 ha2 hd2 hh2 hw2⟩) plan [] [] [] [] l h hcp hnod (fun _ _ h=>by cases h) ⟨(fun _ _ h=>by cases h),(fun _ h=>by cases h)⟩ H a {w with drawn:=w.drawn+1} ha hd hh (hw.trans ⟨rfl,rfl,rfl⟩)
 have H4:=aRS hsel (fun _ _ _ hq=>by cases hq.1) (uJ plan) [] (Array.replicate ops.toArray.size false) a _ (fun j oj _ hl=>(by rw [getD_replicate_false] at hl;cases hl)) hc3 H3;rw [hlen] at H4;exact yL _ _ _ _ H4
theorem aH.cells {B:Nat} {h h':Array Obj} (hk:aH B h h') {b off:Nat} {vs:List Value} (hb:b<B) (H:jY h b off vs):jY h' b off vs:=
 fun j v hv=>(hk.cell hb).trans (H j v hv)

structure New (h h':Array Obj) (cs:Array Value) (t:TypeId):Prop where
 size:h'.size=h.size+1
 blk:At h' h.size cs t
 old:∀k,k<h.size->h'[k]? = h[k]?
structure Put (h h':Array Obj) (b:Nat) (cs:Array Value) (t:TypeId):Prop where
 size:h'.size=h.size
 blk:At h' b cs t
 other:∀k,k≠b->h'[k]? = h[k]?
theorem New.of (h:Array Obj) (cs:Array Value) (t:TypeId):New h (h.push (.cells cs t (0,0))) cs t:=⟨by simp,gH _ _ _,fun k hk=>pF hk _⟩
theorem Put.of {h:Array Obj} {b:Nat} (hb:b<h.size) (cs:Array Value) (t:TypeId):Put h (setB h b cs t) b cs t:=⟨by simp,fQ hb _ _,fun k hk=>bGC hk _ _⟩
theorem New.keeps {h h':Array Obj} {cs:Array Value} {t:TypeId} (N:New h h' cs t):aH h.size h h':=⟨by rw [N.size];omega,N.old⟩
theorem Put.keeps {h h':Array Obj} {b:Nat} {cs:Array Value} {t:TypeId} (N:Put h h' b cs t):aH b h h':=⟨by rw [N.size];omega,fun k hk=>N.other k (by omega)⟩
theorem New.at {h h':Array Obj} {cs:Array Value} {t:TypeId} (N:New h h' cs t) {b:Nat} {c:Array Value} {e:TypeId} (H:At h b c e):At h' b c e:=N.keeps.at H H.lt
theorem Put.at {h h':Array Obj} {g:Nat} {cs:Array Value} {t:TypeId} (N:Put h h' g cs t) {b:Nat} {c:Array Value} {e:TypeId} (H:At h b c e) (hne:b≠g):At h' b c e:=by
 unfold At;rw [N.other b hne];exact H
theorem Put.cell {h h':Array Obj} {g:Nat} {cs:Array Value} {t:TypeId} (N:Put h h' g cs t) {b o:Nat} (hne:b≠g):bL h' b o=bL h b o:=by
 unfold bL;rw [N.other b hne]
theorem At.one {h:Array Obj} {g:Nat} {v:Value} {e:TypeId} (H:At h g #[v] e):bL h g 0=some v:=by rw [H.cell];rfl
section ops
variable {n:Nat} {l:Fr} {h:Array Obj} {o:Oper}
theorem Eff.mono {V V':Value->Array Obj->Prop} (H:Eff P n l h o V) (hv:∀v h',V v h'->V' v h'):Eff P n l h o V':=
 fun a w ha hh next Q hn=>H a w ha hh next Q fun v w' hl hV=>hn v w' hl (hv _ _ hV)
theorem bAT {t:TypeId} {x:Operand} {v:Value} {cs:Array Value} (hcs:v.cells=cs)
  (hop:o.op=.box t x:=by rfl) (hx:ev l x=some v:=by rfl):Eff P n l h o (fun v' h'=>v'=.pointer (some ⟨h.size,0,none⟩)/\New h h' cs t):=
 (aDU hop hx).mono fun _ _ ⟨h1,h2⟩=>⟨h1,by rw [h2,hcs];exact New.of ..⟩
theorem aGX (T:Tab P) {t:TypeId} {i:Inf} {cs:Array Value} (hop:o.op=.alloc t:=by rfl) (hi:cT T.inf t=some i:=by rfl) (hcs:i.zero.cells=cs:=by rfl):
  Eff P n l h o (fun v' h'=>v'=.pointer (some ⟨h.size,0,none⟩)/\New h h' cs t):=
 (aIJ T hop hi).mono fun _ _ ⟨h1,h2⟩=>⟨h1,by rw [h2,hcs];exact New.of ..⟩
theorem lZ (T:Tab P) {t:TypeId} {x y:Operand} {b off:Nat} {v:Value} {cs:Array Value} {e:TypeId} {i:Inf} (hat:At h b cs e)
  (hop:o.op=.store t x y:=by rfl) (hx:ev l x=some (.pointer (some ⟨b,off,none⟩)):=by rfl) (hy:ev l y=some v:=by rfl) (hi:cT T.inf t=some i:=by rfl)
  (hsz:i.size=1:=by rfl) (hv:v.cells = #[v]:=by rfl) (h1:v.oneCell'=true:=by rfl) (hlt:off<cs.size):
  Eff P n l h o (fun _ h'=>Put h h' b (cs.setIfInBounds off v) e):=
 (kN T hat hop hx hy hi hsz hv h1 hlt).mono fun _ _ h2=>by rw [h2];exact Put.of hat.lt ..
theorem jG (T:Tab P) {t:TypeId} {x y:Operand} {b:Nat} {u v:Value} {e:TypeId} {i:Inf} (hat:At h b #[u] e)
  (hop:o.op=.store t x y:=by rfl) (hx:ev l x=some (.pointer (some ⟨b,0,none⟩)):=by rfl) (hy:ev l y=some v:=by rfl) (hi:cT T.inf t=some i:=by rfl)
  (hsz:i.size=1:=by rfl) (hv:v.cells = #[v]:=by rfl) (h1:v.oneCell'=true:=by rfl):
  Eff P n l h o (fun _ h'=>Put h h' b #[v] e):=
 lZ T hat hop hx hy hi hsz hv h1 (by simp)
theorem wY (T:Tab P) (N M:Nat) {t e sz bts:Nat} {x y:Operand} {i:Inf} {z:Value} {n1 m:Int} {k1 k2:IntKind}
  (hop:o.op=.makeSlice t x y:=by rfl) (hx:ev l x=some (.int k1 n1):=by rfl) (hy:ev l y=some (.int k2 m):=by rfl) (ht:bC T.und t=some (.slice e sz):=by rfl) (hi:cT T.inf e=some i:=by rfl)
  (hsz:i.size=1:=by rfl) (hz:i.zero.cells = #[z]:=by rfl) (hbt:i.bytes=bts:=by rfl)
  (hn:n1=(N:Int)/\m=(M:Int)/\N<=M/\bts*M<=281474976710656/\M<=9223372036854775807):
  Eff P n l h o (fun v' h'=>v'=.slice (some ⟨h.size,0,none⟩) N M/\New h h' (Array.replicate M z) e):=
 (qJ T N M hop hx hy ht hi hsz hz hbt hn).mono fun _ _ ⟨h1,h2⟩=>⟨h1,by rw [h2];exact New.of ..⟩
theorem sD (T:Tab P) {t e sz m:Nat} {parts:Array (Nat×Operand)} (vs:List Value) {i:Inf}
  (hop:o.op=.buildSlice t m parts:=by rfl) (ht:bC T.und t=some (.slice e sz):=by rfl) (hi:cT T.inf e=some i:=by rfl)
  (hps:lT l parts.toList=some ((vs.zipIdx 0).map fun x=>(x.2,x.1)):=by rfl)
  (hm:vs.length=m:=by rfl) (hsz:i.size=1:=by rfl) (hle:Nat.ble m 16777216=true:=by rfl) (h1:∀v∈vs,v.cells = #[v]):
  Eff P n l h o (fun v' h'=>v'=.slice (some ⟨h.size,0,none⟩) m m/\New h h' vs.toArray e):=
 (iN T vs hop ht hi hps hm hsz hle h1).mono fun _ _ ⟨h1,h2⟩=>⟨h1,by rw [h2];exact New.of ..⟩
theorem aWK (T:Tab P) {t t2 e:Nat} {x y:Operand} {cl:Call} {g og dLen dCap b off sLen sCap:Nat} {cur:Array Value} {te:TypeId} {cs:List Value}
  (hat:At h g cur te)
  (hop:o.op=.call cl:=by rfl) (hcal:cl.callee=.builtin .copy:=by rfl) (hargs:cl.args.toList=[x,y]:=by rfl) (hts:cl.argTypes.toList=[t,t2]:=by rfl)
  (hx:ev l x=some (.slice (some ⟨g,og,none⟩) dLen dCap):=by rfl) (hy:ev l y=some (.slice (some ⟨b,off,none⟩) sLen sCap):=by rfl) (ht:bC T.und t=some (.slice e 1):=by rfl)
  (hn:cs.length=Nat.min sLen dLen) (hsrc:∀j u,cs[j]? = some u->bL h b (off+j)=some u) (hfit:og+cs.length<=cur.size) (h1:∀u∈cs,u.oneCell'=true):
  Eff P n l h o (fun v' h'=>v'=.int .i64 cs.length/\Put h h' g (cur.toList.take og++cs++cur.toList.drop (og+cs.length)).toArray te):=
 (bBR T hat hop hcal hargs hts hx hy ht hn hsrc hfit h1).mono fun _ _ ⟨h1,h2⟩=>⟨h1,by rw [h2];exact Put.of hat.lt ..⟩
end ops
/-! the loop's record, by what it leaves -/
structure nK (h h':Array Obj) (b:Nat):Prop where
 size:h'.size=h.size
 other:∀k,k≠b->h'[k]? = h[k]?
theorem nK.of (h:Array Obj) (b:Nat) (o:Obj):nK h (h.setIfInBounds b o) b:=⟨by simp,fun k hk=>by rw [Array.getElem?_setIfInBounds_ne (by omega)]⟩
theorem nK.keeps {h h':Array Obj} {b:Nat} (N:nK h h' b):aH b h h':=⟨by rw [N.size];omega,fun k hk=>N.other k (by omega)⟩
theorem nK.at {h h':Array Obj} {g b:Nat} {c:Array Value} {e:TypeId} (N:nK h h' g) (H:At h b c e) (hne:b≠g):At h' b c e:=by
 unfold At;rw [N.other b hne];exact H
theorem nK.cell {h h':Array Obj} {g:Nat} (N:nK h h' g) {b o:Nat} (hne:b≠g):bL h' b o=bL h b o:=by
 unfold bL;rw [N.other b hne]
structure mB (h:Array Obj) (y:Nat) (r:Loop) (st:LoopState) (pend:Option Code):Prop where
 ex:∃r1:Loop,h[y]? = some (.loop r1)/\r1.state=st/\r1.pending=pend/\r1.fn=r.fn/\r1.tmps=r.tmps/\r1.params=r.params/\r1.assign=r.assign/\r1.body=r.body
theorem mB.same {h h':Array Obj} {y:Nat} {r:Loop} {st:LoopState} {pend:Option Code} (H:mB h y r st pend) (e:h'[y]? = h[y]?):mB h' y r st pend:=by
 obtain ⟨r1,h1,h2⟩:=H;exact ⟨r1,e.trans h1,h2⟩
theorem mB.lt {h:Array Obj} {y:Nat} {r:Loop} {st:LoopState} {pend:Option Code} (H:mB h y r st pend):y<h.size:=by
 obtain ⟨r1,h1,_⟩:=H;exact (Array.getElem?_eq_some_iff.1 h1).1
section loops
variable {c:Ctx P} {ds:List Deferred} {k:List SI} {l:Fr} {h:Array Obj} {y:Nat} {r:Loop}
theorem aD.beginRoundL (hl:mB h y r .ready none) (hr:∀h',nK h h' y->mB h' y r .busy none->aD c ds k l h') (hc:c.round=some y:=by rfl):aD c ds (.item .beginRound::k) l h:=by
 have hlt:=hl.lt;obtain ⟨r1,h1,h2,h3,h4⟩:=hl;exact aD.beginRound h1 h2 (hr _ (nK.of ..) ⟨{r1 with state:=.busy},by rw [Array.getElem?_setIfInBounds_self_of_lt hlt],rfl,h3,h4⟩) hc
section ends
variable {f n:Nat} {w0:World} {fr:Frame} {cs:List Frame} {R:Value->Array Obj->Prop}
theorem aD.endRoundL (hl:mB h y r .busy none) (hr:∀h',nK h h' y->mB h' y r .ready none->R (.bool true) h'):aD (kC P f n y w0 fr cs R) ds [] l h:=by
 have hlt:=hl.lt;obtain ⟨r1,h1,h2,h3,h4⟩:=hl;exact aD.endRound h1 (hr _ (nK.of ..) ⟨{r1 with state:=.ready,pending:=none},by rw [Array.getElem?_setIfInBounds_self_of_lt hlt],rfl,rfl,h4⟩)
end ends
structure Laid2 (h h':Array Obj) (r:Loop):Prop where
 size:h'.size=h.size+2
 dfr:h'[h.size]? = some (.deferred (some []))
 loop:mB h' (h.size+1) r .ready none
 old:∀k,k<h.size->h'[k]? = h[k]?
theorem Laid2.keeps {h h':Array Obj} {r:Loop} (N:Laid2 h h' r):aH h.size h h':=⟨by rw [N.size];omega,N.old⟩
theorem aD.rangeFuncL {f:Operand} {params:Array Tmp} {assign body:Code} {g:FuncId} {first captured:Array Value}
  (H:∀(r:Loop) (h1:Array Obj),Rec c l h.size params assign body r->Laid2 h h1 r ->
   FnV P g (first ++ #[.func (.yield (h.size+1)) #[] #[]]++captured) h1 fun _ h'=>
    ∃st pend,mB h' (h.size+1) r st pend/\st ≠ .busy /\ ∀h3,nK h' h3 (h.size+1) ->
     aD c ({target:=.collected h.size,args:=#[]}::ds) (bFZ pend++k) l h3)
  (hro:c.round=none:=by rfl) (hf:ev l f=some (.func (.func g) first captured):=by rfl):
  aD c ds (.code (.rangeFunc f params assign body)::k) l h:=by
 refine aD.rangeFunc (fun r hrec=>?_) hro hf;refine (H r _ hrec ⟨by simp,?_,⟨r,?_,hrec.state,hrec.pending,rfl,rfl,rfl,rfl,rfl⟩,fun k hk=>?_⟩).mono ?_
 ·rw [pF (by simp)];simp
 ·have:(h.push (.deferred (some []))).size=h.size+1:=by simp
  rw [<-this,Array.getElem?_push_size]
 ·rw [pF (by simp;omega),pF hk]
 rintro v h' ⟨st,pend,⟨r1,q1,q2,q3,q4⟩,hst,hr⟩;subst q3;exact ⟨r1,q1,by rw [q2];exact hst,hr _ (nK.of ..)⟩
theorem lD.ofL {D:Nat} {params:Array Tmp} {assign body:Code} (hrec:Rec c l D params assign body r) {st:LoopState} {pend:Option Code} (hl:mB h y r st pend) {vs:List Value} {R:Value->Array Obj->Prop}
  (H:∀w0 fr cs,aD (kC P c.fn c.n y w0 fr cs R) [] [.code assign,.item .beginRound,.code body] (yR params.toList vs l) h)
  (hlen:Nat.beq vs.length params.toList.length=true:=by rfl) (hps:params.toList.all (fun p=>Nat.blt p c.n)=true:=by rfl):lD P y vs.toArray h R:=by
 obtain ⟨r1,h1,_,_,h4⟩:=hl;exact lD.of hrec h4 h1 H hlen hps
end loops
end Go.Fw

namespace Go.Fw
open Go Go.RowKit Go.WideShapes Go.ChangeShapes
section
variable {H:Type} {enc:TypeId×Value->H} {P:Program}
theorem aHF {f:Func} {s:ChangeSpec} {apart gQ handsOn again:Bool} {W W':World} {args:Array Value} {v:Value} {ds gs:List (DataW H)} {before pa pv:List MemPlace}
  (hW:DataW.Whole enc P f.params.toList s.vars apart W args.toList ds gs before)
  (hres:∀(b:Nat) (sp:Nat->Bool) (hd:Bool),DataW.TrodAll enc P W' b sp hd f.resultTypes.toList (v.resultList f.resultTypes.size) (s.fn H (ds++gs)).results [])
  (hargs:∀sp:Nat->Bool,(∀p∈before,sp p.block=true)->DataW.TrodAll enc P W' 0 sp true f.params.toList args.toList (s.fn H (ds++gs)).args pa)
  (hvars:∀sp:Nat->Bool,(∀p∈before,sp p.block=true)->DataW.TrodVars enc P W' sp s.vars (s.fn H (ds++gs)).vars pv)
  (hps:before=pa++pv) (hb:Below W.heap.size W W')
  (hok:∀(j:Nat) (t:TypeId) (r:Value),f.resultTypes[j]? = some t->(v.resultList f.resultTypes.size)[j]? = some r->Value.okWide P W' .any 0 t r):
  s.post enc P f apart gQ handsOn again W args v W':=by
 have hlt:∀p∈before,p.block<W.heap.size:=fun p hp=>hW.lt p hp;have hold:∀p∈before,(fun b=>decide (b<W.heap.size)) p.block=true:=fun p hp=>by simpa using hlt p hp
 refine ⟨ds,gs,before,[],pa,pv,hW,hres _ _ _,hargs _ hold,hvars _ hold,World.keptBut_mono (fun p hp=>⟨hp,?_⟩) (hb.frame (· ∈ before)),fun _=>?_⟩
 ·rw [hps,List.mem_append] at hp;exact Or.inr hp
 obtain ⟨_,_,_,_,_,hz,hn⟩:=hW;refine ⟨hok,_,_,([]++pa)++pv,⟨[]++pa,pv,trodAll_append (hargs _ (fun _ _=>rfl)) (hres _ _ _),hvars _ (fun _ _=>rfl),rfl,?_,?_⟩,?_⟩
 ·intro b off hp;have hin:MemPlace.cell b off∈before:=by rw [hps];simpa using hp
  rw [hb.frozen (hlt _ hin)];exact hz b off hin
 ·intro ha;have:=hn ha;rw [hps] at this
  simpa using this
 intro p hp _;rw [hps]
 simpa using hp
end
theorem FnV.below {P:Program} {f:FuncId} {args:Array Value} {W:World} {R:Value->Prop} (H:FnV P f args W.heap fun r h'=>R r/\aH W.heap.size W.heap h'):
  Calls P f args W fun e W'=>∃v,e=.returned v/\R v/\Below W.heap.size W W':=
 (H.calls W rfl).mono fun _ _ ⟨hl,v,he,hR,hk⟩=>⟨v,he,hR,hl.os,hl.tape,hl.output,hk.size,hk.same⟩
theorem aOA {W:World} {b o:Nat} {v:Value} (h:W.cell? ⟨b,o,none⟩=some v):bL W.heap b o=some v:=by
 unfold World.cell? at h;unfold bL;split at h
 ·rename_i hc;rw [hc];simpa using h
 cases h
end Go.Fw

namespace Go.Fw
open Go
variable {P:Program}
section
variable {c:Ctx P} {ds:List Deferred} {k:List SI} {l:Fr} {h:Array Obj} {u:FrameMode}
def Unw (c:Ctx P) (ds:List Deferred) (u:FrameMode) (l:Fr) (h:Array Obj):Prop:=
 ∀(a:Act) (w:World) (todo:List Item),bB c.n l a->a.defers=ds->w.heap=h->dC c.w0 w->c.Z (lone {c.fr a todo with mode:=u} c.cs w)
theorem aD.retU (H:Unw c ds .returning l h) (hro:c.round=none:=by rfl):aD c ds (.code .ret::k) l h:=by
 unfold aD;intro hwf a w ha hd hh hw;refine c.back _ _ (step_lone_go ?_) (H a w (its (.code .ret::k)) ha hd hh hw)
 simp [its,SI.it,stepG,stepG.exec,Ctx.fr,hro]
theorem aD.finU (H:Unw c ds .returning l h) (hro:c.round=none:=by rfl):aD c ds [] l h:=by
 unfold aD;intro hwf a w ha hd hh hw;refine c.back _ _ (step_lone_go ?_) (H a w [] ha hd hh hw)
 simp [its,stepG,stepG.exec,Ctx.fr,hro]
theorem aD.panicU {all:Array Oper} {rest:List Oper} {o:Oper} {x:Operand} {t:TypeId} {v:Value} (H:Unw c ds (.panicking [{v:=.iface t v,recovered:=false}]) l h)
  (hop:o.op=.panic x:=by rfl) (hx:ev l x=some (.iface t v):=by rfl) (hgd:dG l all o=some true:=by rfl):aD c ds (.ops all (o::rest)::k) l h:=by
 unfold aD;intro hwf a w ha hd hh hw;have hwn:=bJ ha hgd;obtain ⟨i,e1,e2,ho,hwf'⟩:=iY (hwf _ (List.mem_cons_self ..));refine c.back _ _ (step_lone_go ?_) (H a w (its (.ops all (o::rest)::k)) ha hd hh hw);have hrun:(execOp a.eval o).run P w=.halt (.panic (.iface t v)) w:=by
  have e:(Instr.panic (.iface t v)).run P w=.halt (.panic (.iface t v)) w:=rfl
  simp [execOp,hop,ha.ev hx,e]
 simp only [gU,e1];rw [iA (P:=P) (c:=c) (k:=its k) (todo:=List.range' (i+1) rest.length) (w:=w) ho hwn (.inr fun cl e=>by rw [hop] at e;cases e)]
 simp [stepG.apply,hrun,Frame.raise,Ctx.fr]
theorem aD.callE {all:Array Oper} {rest:List Oper} {o:Oper} {cl:Call} {x:Operand} {g:FuncId} {first captured:Array Value} {vs:List Value}
  {R:Ending->Array Obj->Prop} (H:Fn P g (first++vs.toArray++captured) h R) (hno:∀h',¬R .outgrown h')
  (hp:∀ch h',R (.panicked ch) h'->Unw c ds (.panicking ch) l h')
  (hr:∀v h',R (.returned v) h'->aD c ds (.ops all rest::k) (upd l o.dst v) h')
  (hop:o.op=.call cl:=by rfl) (hcal:cl.callee=.value x:=by rfl)
  (hx:ev l x=some (.func (.func g) first captured):=by rfl) (hargs:kI l cl.args.toList=some vs:=by rfl) (hgd:dG l all o=some true:=by rfl) (hdn:cB c.n o.dst=true:=by rfl):
  aD c ds (.ops all (o::rest)::k) l h:=by
 unfold aD;intro hwf a w ha hd hh hw;have hwn:=bJ ha hgd;obtain ⟨i,e1,e2,ho,hwf'⟩:=iY (hwf _ (List.mem_cons_self ..));have hrun:=pI hop hcal ha hx hargs H.enters w;have hd':c.round=none \/ ∀cl,o.op ≠ .defer cl:=.inr (fun cl' e=>by rw [hop] at e;cases e);simp only [gU,e1];have hstep:=iA (P:=P) (c:=c) (k:=its k) (todo:=List.range' (i+1) rest.length) (w:=w) ho hwn hd'
 have henter:Go.step P (lone (c.fr a (.inRegion all (i::List.range' (i+1) rest.length)::its k)) c.cs w) =
   .next (lone (Frame.enter P g (first++vs.toArray++captured) .normal) (c.fr a (.inRegion all (i::List.range' (i+1) rest.length)::its k)::c.cs) w):=
  step_lone_go (by rw [hstep];simp [stepG.apply,hrun,Ctx.fr])
 obtain ⟨e,w',fr,⟨hlk,hR⟩,hcomes,hfn,hleave⟩:=H.calls w hh (c.fr a (.inRegion all (i::List.range' (i+1) rest.length)::its k)::c.cs);refine c.back _ _ henter ?_
 cases e with
 |outgrown=>exact absurd hR (hno _)
 |returned v=>
  refine eB c hcomes ?_;refine c.back _ _ (step_leave_returned hleave) ?_;have hf:=fC (c:=c) a all i (List.range' (i+1) rest.length) (its k) v;rw [ho] at hf;simp only [Option.bind_some] at hf;rw [hf];have hr':=hr v _ hR;unfold aD at hr';have:=hr' (cA hwf' (bQ hwf)) (a.put o.dst v) w' (eG ha (fE hdn) _) (by cases o.dst<;>simpa [Act.put] using hd) rfl (hw.trans hlk)
  simpa only [gU,e2] using this
 |panicked ch=>
  refine eB c hcomes ?_;refine c.back _ _ (step_leave_panicked hleave) ?_;exact hp ch _ hR a w' _ ha hd rfl (hw.trans hlk)
theorem aD.deferU {all:Array Oper} {rest:List Oper} {o:Oper} {cl:Call} {x:Operand} {g:FuncId} {first captured:Array Value} {vs:List Value}
  (hr:aD c ({target:=.fn (.func g) captured,args:=first++vs.toArray}::ds) (.ops all rest::k) l h)
  (hop:o.op=.defer cl:=by rfl) (hcal:cl.callee=.value x:=by rfl) (hx:ev l x=some (.func (.func g) first captured):=by rfl) (hargs:kI l cl.args.toList=some vs:=by rfl)
  (hgd:dG l all o=some true:=by rfl) (hdst:o.dst=none:=by rfl) (hro:c.round=none:=by rfl):aD c ds (.ops all (o::rest)::k) l h:=by
 unfold aD at hr ⊢;intro hwf a w ha hd hh hw;have hwn:=bJ ha hgd;obtain ⟨i,e1,e2,ho,hwf'⟩:=iY (hwf _ (List.mem_cons_self ..));have hr':=hr (cA hwf' (bQ hwf)) {a with defers:={target:=.fn (.func g) captured,args:=first++vs.toArray}::ds} w ⟨ha.size,ha.get⟩ rfl hh hw;refine c.back _ _ (step_lone_go ?_) hr';have ea:cl.args.map a.eval=vs.toArray:=by
  have e1:=kS ha hargs;apply Array.ext';simpa using e1
 have hrun:(execOp a.eval o).run P w=.ok (.defer {target:=.fn (.func g) captured,args:=first++vs.toArray}) w:=by
  simp [execOp,hop,resolve,hcal,ha.ev hx,Deferred.ofValue,ea]
 simp only [gU,e1,e2];have hf:=fC (c:=c) {a with defers:={target:=.fn (.func g) captured,args:=first++vs.toArray}::ds} all i (List.range' (i+1) rest.length) (its k) undef;rw [ho] at hf;simp only [Option.bind_some,hdst,Act.put] at hf;rw [<-hf,iA ho hwn (.inl hro)]
 simp [stepG.apply,hrun,Ctx.fr,hd]
end
/-! the ends of a function that is called -/
section
variable {f n:Nat} {w0:World} {cs:List Frame} {R:Ending->Array Obj->Prop} {l:Fr} {h h':Array Obj} {ds:List Deferred}
theorem Unw.pan {ch:List PanicEntry} {fn:Func} (hf:P.funcs[f]? = some fn) (hR:R (.panicked ch) h):Unw (cW P f n w0 cs R) [] (.panicking ch) l h:=fun a w todo ha hd hh hw=>
 ⟨.panicked ch,w,_,⟨hw,hh▸hR⟩,Steps.refl P _,rfl,rfl,hd,fn,hf⟩
end
/-! deferred functions -/
structure FnD (P:Program) (f:FuncId) (args:Array Value) (u:FrameMode) (h:Array Obj) (R:Ending->FrameMode->Array Obj->Prop):Prop where
 enters:aJI P f
 calls:∀w:World,w.heap=h->CallsD P f args u w fun e u' w'=>dC w w'/\R e u' w'.heap
theorem FnD.mono {f:FuncId} {args:Array Value} {u:FrameMode} {h:Array Obj} {R R':Ending->FrameMode->Array Obj->Prop} (H:FnD P f args u h R) (hr:∀e u' h',R e u' h'->R' e u' h'):FnD P f args u h R':=
 ⟨H.enters,fun w hw=>(H.calls w hw).mono fun _ _ _ ⟨a,b⟩=>⟨a,hr _ _ _ b⟩⟩
theorem Unw.defer {c:Ctx P} {ds:List Deferred} {u:FrameMode} {l:Fr} {h:Array Obj} {g:FuncId} {args captured:Array Value} {R:Ending->FrameMode->Array Obj->Prop}
  (H:FnD P g (args++captured) u h R) (hu:u ≠ .run) (hno:∀u' h',¬R .outgrown u' h')
  (hr:∀v u' h',R (.returned v) u' h'->Unw c ds (settle u') l h')
  (hp:∀ch u' h',R (.panicked ch) u' h'->Unw c ds (raised u' ch) l h'):
  Unw c ({target:=.fn (.func g) captured,args:=args}::ds) u l h:=by
 intro a w todo ha hd hh hw;have hinv:(invoke (.fn (.func g) captured) args).run P w=.ok (.enter g (args++captured)) w:=nX H.enters _ w;have h1:=step_defer (P:=P) (fr:={c.fr a todo with mode:=u}) (cs:=c.cs) (w:=w) (d:={target:=.fn (.func g) captured,args:=args}) (ds:=ds) hu hd rfl hinv;obtain ⟨e,u',w',frX,⟨hlk,hR⟩,hsteps,hkX,hgo⟩:=H.calls w hh { {c.fr a todo with mode:=u} with defers:=ds} c.cs rfl;refine c.back _ _ h1 ?_
 cases e with
 |outgrown=>exact absurd hR (hno _ _)
 |returned v=>
  refine eB c hsteps (c.back _ _ (step_going_returned (cs:=c.cs) hkX hgo) ?_);exact hr v u' _ hR {a with defers:=ds} w' todo ⟨ha.size,ha.get⟩ rfl rfl (hw.trans hlk)
 |panicked ch=>
  refine eB c hsteps (c.back _ _ (step_going_panicked (cs:=c.cs) hgo) ?_);exact hp ch u' _ hR {a with defers:=ds} w' todo ⟨ha.size,ha.get⟩ rfl rfl (hw.trans hlk)
def dD (P:Program) (f n:Nat) (w0:World) (c0:Frame) (cs:List Frame) (u:FrameMode) (R:Ending->FrameMode->Array Obj->Prop):Ctx P where
 Z:=fun m=>∃e u' w' fr,(dC w0 w'/\R e u' w'.heap)/\Comes P m (lone fr ({c0 with mode:=u'}::cs) w') e/\fr.kind=.deferred/\fr.going P w' e
 back:=fun _ _ hs ⟨e,u',w',fr,hR,hc,hk,hl⟩=>⟨e,u',w',fr,hR,hc.of_steps (.one hs),hk,hl⟩
 fn:=f
 kind:=.deferred
 round:=none
 cs:={c0 with mode:=u}::cs
 w0:=w0
 n:=n
theorem FnD.of {f:FuncId} {fn:Func} {code:Code} (hf:P.funcs[f]? = some fn) (hname:(fn.name == "runtime.NumGoroutine")=false) (hb:fn.body=some code) {n:Nat} (hnt:fn.ntmps=n)
  {args:List Value} (hargs:Nat.ble args.length n=true) {u:FrameMode} {h:Array Obj} {R:Ending->FrameMode->Array Obj->Prop}
  (H:∀w0 c0 cs,aD (dD P f n w0 c0 cs u R) [] [.code code] (xP 0 args) h):FnD P f args.toArray u h R:=by
 refine ⟨⟨fn,code,hf,hname,hb⟩,fun w hw c0 cs hu=>?_⟩;have hr:=H w c0 cs;unfold aD at hr;have:=hr (fun s hs=>by simp at hs;subst hs;trivial) {tmps:=args.toArray++Array.replicate (n - args.toArray.size) undef,defers:=[]} w (aEL _ _ (Nat.le_of_ble_eq_true hargs)) rfl hw (dC.refl w);have henter:Frame.enter P f args.toArray .deferred=(dD P f n w c0 cs u R).fr {tmps:=args.toArray++Array.replicate (n - args.toArray.size) undef,defers:=[]} (its [.code code]):=by
  simp [Frame.enter,Ctx.fr,hf,hb,hnt,dD,its,SI.it]
 have hc:({c0 with mode:=u}:Frame)=c0:=by subst hu;rfl
 rw [<-henter] at this;obtain ⟨e,u',w',fr,hR,hcs,hk,hl⟩:=this;refine ⟨e,u',w',fr,hR,?_,hk,hl⟩;have e2:(dD P f n w c0 cs u R).cs=c0::cs:=by simp only [dD,hc]
 rw [e2] at hcs;exact hcs
section
variable {f n:Nat} {w0:World} {c0:Frame} {cs:List Frame} {u:FrameMode} {R:Ending->FrameMode->Array Obj->Prop} {k:List SI} {l:Fr} {h:Array Obj} {ds:List Deferred}
theorem Unw.retD (T:Tab P) {fn:Func} (hf:P.funcs[f]? = some fn) {vs:List Value} (hv:aFT T l h fn.results.toList vs) (hR:R (.returned (tup vs)) u h):
  Unw (dD P f n w0 c0 cs u R) [] .returning l h:=fun a w todo ha hd hh hw=>
 ⟨.returned (tup vs),u,w,_,⟨hw,hh▸hR⟩,Steps.refl P _,rfl,rfl,hd,fn,hf,bGA T ha (hh▸hv)⟩
theorem aD.recoverP {all:Array Oper} {rest:List Oper} {o:Oper} {cl:Call} {v:Value} {older:List PanicEntry}
  (hr:aD (dD P f n w0 c0 cs (.panicking ({v,recovered:=true}::older)) R) ds (.ops all rest::k) (upd l o.dst v) h)
  (hop:o.op=.call cl:=by rfl) (hcal:cl.callee=.builtin .recover:=by rfl) (hgd:dG l all o=some true:=by rfl) (hdn:cB n o.dst=true:=by rfl):
  aD (dD P f n w0 c0 cs (.panicking ({v,recovered:=false}::older)) R) ds (.ops all (o::rest)::k) l h:=by
 obtain ⟨c,hc⟩:∃c,c=dD P f n w0 c0 cs (.panicking ({v,recovered:=false}::older)) R:=⟨_,rfl⟩;obtain ⟨c',hc'⟩:∃c,c=dD P f n w0 c0 cs (.panicking ({v,recovered:=true}::older)) R:=⟨_,rfl⟩;unfold aD at hr ⊢;intro hwf a w ha hd hh hw;have hwn:=bJ ha hgd;obtain ⟨i,e1,e2,ho,hwf'⟩:=iY (hwf _ (List.mem_cons_self ..));have hr':=hr (cA hwf' (bQ hwf)) (a.put o.dst v) w (eG ha (fE hdn) _) (by cases o.dst<;>simpa [Act.put] using hd) hh hw;have hf:=fC (c:=dD P f n w0 c0 cs (.panicking ({v,recovered:=false}::older)) R) a all i (List.range' (i+1) rest.length) (its k) v;rw [ho] at hf;simp only [Option.bind_some] at hf;have hrun:(execOp a.eval o).run P w=.ok .recover w:=by
  simp [execOp,hop,resolve,hcal,invoke,builtin]
 refine (dD P f n w0 c0 cs (.panicking ({v,recovered:=false}::older)) R).back _ (lone ((dD P f n w0 c0 cs (.panicking ({v,recovered:=true}::older)) R).fr (a.put o.dst v) (its (.ops all rest::k))) (dD P f n w0 c0 cs (.panicking ({v,recovered:=true}::older)) R).cs w) (step_lone_go ?_) hr';simp only [gU,e1,e2];rw [iA (c:=dD P f n w0 c0 cs (.panicking ({v,recovered:=false}::older)) R) ho hwn (.inl rfl)]
 have htr:tryRecover ((dD P f n w0 c0 cs (.panicking ({v,recovered:=false}::older)) R).fr a (.inRegion all (i::List.range' (i+1) rest.length)::its k)) (dD P f n w0 c0 cs (.panicking ({v,recovered:=false}::older)) R).cs =
   some (v,(dD P f n w0 c0 cs (.panicking ({v,recovered:=true}::older)) R).cs):=by
  rw [tryRecover_deferred (by rfl)];rfl
 have hro:((dD P f n w0 c0 cs (.panicking ({v,recovered:=false}::older)) R).fr a (.inRegion all (i::List.range' (i+1) rest.length)::its k)).roundOf=none:=rfl;simp only [stepG.apply,Sem.runT_eq,hrun,hro,htr,GStep.bare_after,hf,ite_self];rfl
theorem aD.recoverN {all:Array Oper} {rest:List Oper} {o:Oper} {cl:Call}
  (hr:aD (dD P f n w0 c0 cs .returning R) ds (.ops all rest::k) (upd l o.dst .nilIface) h)
  (hop:o.op=.call cl:=by rfl) (hcal:cl.callee=.builtin .recover:=by rfl) (hgd:dG l all o=some true:=by rfl) (hdn:cB n o.dst=true:=by rfl):
  aD (dD P f n w0 c0 cs .returning R) ds (.ops all (o::rest)::k) l h:=by
 unfold aD at hr ⊢;intro hwf a w ha hd hh hw;have hwn:=bJ ha hgd;obtain ⟨i,e1,e2,ho,hwf'⟩:=iY (hwf _ (List.mem_cons_self ..));have hr':=hr (cA hwf' (bQ hwf)) (a.put o.dst .nilIface) w (eG ha (fE hdn) _) (by cases o.dst<;>simpa [Act.put] using hd) hh hw;have hf:=fC (c:=dD P f n w0 c0 cs .returning R) a all i (List.range' (i+1) rest.length) (its k) .nilIface;rw [ho] at hf;simp only [Option.bind_some] at hf;have hrun:(execOp a.eval o).run P w=.ok .recover w:=by
  simp [execOp,hop,resolve,hcal,invoke,builtin]
 refine (dD P f n w0 c0 cs .returning R).back _ _ (step_lone_go ?_) hr';simp only [gU,e1,e2];rw [iA (c:=dD P f n w0 c0 cs .returning R) ho hwn (.inl rfl)];have htr:tryRecover ((dD P f n w0 c0 cs .returning R).fr a (.inRegion all (i::List.range' (i+1) rest.length)::its k)) (dD P f n w0 c0 cs .returning R).cs=none:=by
  rw [tryRecover_deferred (by rfl)];rfl
 have hro:((dD P f n w0 c0 cs .returning R).fr a (.inRegion all (i::List.range' (i+1) rest.length)::its k)).roundOf=none:=rfl;simp only [stepG.apply,Sem.runT_eq,hrun,hro,htr,GStep.bare_after,hf,ite_self];rfl
end
end Go.Fw

namespace Go.Fw
open Go
variable {P:Program} {n:Nat} {l:Fr} {h:Array Obj} {o:Oper}
theorem xR {t xt:TypeId} {d:TypeDesc} {x:Operand} {v:Value} {ok:Bool} (ht:P.underlying t=some d) (hd:∀ms,d ≠ .interface ms)
  (hop:o.op=.typeAssert x xt t ok:=by rfl) (hx:ev l x=some (.iface t v):=by rfl):Eff P n l h o (fun v' h'=>v'=(if ok then .tuple #[v,.bool true] else v)/\h'=h):=by
 refine Eff.of_val1 fun a w ha hh=>⟨w,?_,dC.refl w,hh⟩;have e:(Instr.typeAssert (.iface t v) xt t ok).run P w=.ok (if ok then .tuple #[v,.bool true] else v) w:=by
  unfold Instr.typeAssert;simp only [Sem.run_bind,run_underlying ht,Result.andThen_ok];cases d<;>first|exact absurd rfl (hd _)|(cases ok<;>simp)
 simp [execOp,hop,ha.ev hx,e]
end Go.Fw

namespace Go.Fw
open Go
variable {P:Program}
def FnO (P:Program) (ch:List PanicEntry) (f:FuncId) (args:Array Value) (h:Array Obj) (r:Option Value):Prop:=
 Fn P f args h fun e h'=>e=(match r with|some v=>.returned v|none=>.panicked ch)/\aH h.size h h'
section
variable {f n:Nat} {w0:World} {cs:List Frame} {l:Fr} {h h0:Array Obj} {ch:List PanicEntry} {r:Option Value}
abbrev outR (ch:List PanicEntry) (h0:Array Obj) (r:Option Value):Ending->Array Obj->Prop:=
 fun e h'=>e=(match r with|some v=>.returned v|none=>.panicked ch)/\aH h0.size h0 h'
end

def xD (P:Program) (n:Nat) (l:Fr) (h:Array Obj) (o:Oper) (V:Value->Array Obj->Prop) (PN:List PanicEntry->Array Obj->Prop):Prop:=
 ∀a w,bB n l a->w.heap=h -> ∀(next:Act->World->Prop) (Q:Exit->Act->World->Prop),(∀v w',dC w w'->V v w'.heap->next (a.put o.dst v) w') ->
  (∀ch w',dC w w'->PN ch w'.heap->Q (.panic ch) a w')->o.wp P a w next Q
theorem xD.of_eff {n:Nat} {l:Fr} {h:Array Obj} {o:Oper} {V:Value->Array Obj->Prop} (H:Eff P n l h o V):xD P n l h o V (fun _ _=>False):=
 fun a w ha hh next Q hn _=>H a w ha hh next Q hn
theorem xD.callO {n:Nat} {l:Fr} {h:Array Obj} {o:Oper} {cl:Call} {x:Operand} {g:FuncId} {first captured:Array Value} {vs:List Value} {ch:List PanicEntry} {r:Option Value}
  (H:FnO P ch g (first++vs.toArray++captured) h r)
  (hop:o.op=.call cl:=by rfl) (hcal:cl.callee=.value x:=by rfl)
  (hx:ev l x=some (.func (.func g) first captured):=by rfl) (hargs:kI l cl.args.toList=some vs:=by rfl):
  xD P n l h o (fun v h'=>r=some v/\aH h.size h h') (fun ch' h'=>r=none/\ch'=ch/\aH h.size h h'):=by
 intro a w ha hh next Q hn hp
 unfold Oper.wp;rw [pI hop hcal ha hx hargs H.enters w,Oper.upon_enter];refine (H.calls w hh).mono fun e w' ⟨hlk,he,hk⟩=>?_
 cases r with
 |some v=>subst he;exact hn v w' hlk ⟨rfl,hk⟩
 |none=>subst he;exact hp ch w' hlk ⟨rfl,rfl,hk⟩
section any
variable {ops:Array Oper} {md:Region.Mode} {Q:Exit->Act->World->Prop}
theorem aHD {pins:tV} {C:World->Prop} {i:Nat} {oi:Oper} {v:Value} (hi:ops[i]? = some oi) (hsel:∀(j:Nat) (o:Oper) cs b,ops[j]? = some o->o.op ≠ .select cs b)
  (hQ:∀c a w,Q (.panic c) (a.put oi.dst v) w->Q (.panic c) a w) (hfl:cN ops i=true):
  ∀(f:Nat) (listed:Array Bool) (a:Act) (w:World),fG md ops listed ->
   (∀j oj,ops[j]? = some oj->j≠i->listed.getD j true=false->(∀e∈oj.after,Region.binds md e=true->e.on≠i)->oi.apart ops oj=true) ->
   i∈Region.ready md ops listed->YieldsIf P ops C oi v a->C w ->
   pX P md ops Q ((i,C)::pins) f (listed.setIfInBounds i true) (a.put oi.dst v) w->pX P md ops Q pins (f+1) listed a w:=by
 intro f
 induction f with
 |zero=>
  intro listed a w _ _ hr hy hS H;refine ⟨fun h=>(by rw [h] at hr;cases hr),fun j hj=>?_⟩;by_cases hji:j=i
  ·subst hji;exact hy.wpOp hi hS ⟨⟨fun _=>rfl,fun h=>(by rw [hfl] at h;cases h)⟩,H⟩
  have:=ready_mono hj hji;rw [H.1] at this;cases this
 |succ f ih=>
  intro listed a w inv hfree hr hy hS H;refine ⟨fun h=>(by rw [h] at hr;cases hr),fun j hj=>?_⟩;by_cases hji:j=i
  ·subst hji;exact hy.wpOp hi hS ⟨⟨fun _=>rfl,fun h=>(by rw [hfl] at h;cases h)⟩,uC _ _ _ _ H⟩
  have h1:=H.2 j (ready_mono hj hji);obtain ⟨hjun,oj,hoj,hall⟩:=mem_ready.1 hj;have hun:=(mem_ready.1 hr).1;have hnot:∀e∈oj.after,Region.binds md e=true->e.on≠i:=fun e he hb heq=>by
   have h1:=hall e he hb;rw [heq,getD_both hun] at h1;cases h1
  have h2:=wpOp_putIf hoj (hfree j oj hoj hji hjun hnot) (fun cs b=>hsel i oi cs b hi) (fun cs b=>hsel j oj cs b hoj) hQ hy h1
  have hfree':∀k ok,ops[k]? = some ok->k≠i->(listed.setIfInBounds j true).getD k true=false ->
    (∀e∈ok.after,Region.binds md e=true->e.on≠i)->oi.apart ops ok=true:=fun k ok hk hki hun hno=>by
   refine hfree k ok hk hki ?_ hno;by_cases hjk:j=k
   ·subst hjk;exact hjun
   rw [getD_set_ne true hjk] at hun;exact hun
  refine wpOp_mono (fun a' w' h3=>?_) h2;obtain ⟨hy',⟨ha1,ha2⟩,hrest⟩:=h3;have hC:C w':=by
   cases hfj:cN ops j with
   |true=>rw [ha1 hfj];exact hS
   |false=>
    rcases ha2 hfj (i,C) (List.mem_cons_self ..) with hd|hc
    ·exact absurd hj (aBJ inv (getD_both hun) (List.range ops.size) [] (by simp) j hd).2
    exact hc
  refine ⟨⟨ha1,fun hf q hq=>ha2 hf q (List.mem_cons_of_mem _ hq)⟩,ih (listed.setIfInBounds j true) a' w' (inv.set hj) hfree' (ready_mono hr (Ne.symm hji)) hy' hC ?_⟩;rw [Array.setIfInBounds_comm _ _ hji];exact hrest
end any
def yB:List Oper->List Nat
 | []=>[]
 |o::os=>match o.dst with
  |some d=>d::yB os
  |none=>yB os
theorem aML:∀ {ops:List Oper} {k:Nat} {o:Oper} {d:Nat},ops[k]? = some o->o.dst=some d->d∈yB ops
 | [],k,o,d,h,_=>by simp at h
 |x::xs,0,o,d,h,hd=>by
  simp at h;subst h
  unfold yB;rw [hd];exact List.mem_cons_self ..
 |x::xs,k+1,o,d,h,hd=>by
  have:=aML (ops:=xs) (k:=k) (by simpa using h) hd;unfold yB;split
  ·exact List.mem_cons_of_mem _ this
  exact this
def aFZ (D:List Nat):Fr->Fr
 | []=>[]
 |(d,v)::l=>match tU d D with
  |true=>aFZ D l
  |false=>(d,v)::aFZ D l
theorem aBU {D:List Nat}:∀ {l:Fr} {d:Nat} {v:Value},look (aFZ D l) d=some v->d∉D/\look l d=some v
 | [],d,v,h=>by cases h
 |(e,u)::l,d,v,h=>by
  unfold aFZ at h
  cases hm:tU e D with
  |true=>
   simp only [hm] at h;obtain ⟨h1,h2⟩:=aBU h;refine ⟨h1,?_⟩;have:Nat.beq e d=false:=by
    cases hb:Nat.beq e d with
    |false=>rfl
    |true=>exact absurd (fT.1 hm) (Nat.eq_of_beq_eq_true hb▸h1)
   simp only [look,this];exact h2
  |false=>
   simp only [hm,look] at h
   cases hb:Nat.beq e d with
   |true=>
    simp only [hb,Option.some.injEq] at h;have he:=Nat.eq_of_beq_eq_true hb;subst he h;exact ⟨fun hc=>(by rw [fT.2 hc] at hm;cases hm),by simp [look]⟩
   |false=>
    simp only [hb] at h;obtain ⟨h1,h2⟩:=aBU h;exact ⟨h1,by simp only [look,hb];exact h2⟩
def aAM (D:List Nat) (a a':Act):Prop:=a'.tmps.size=a.tmps.size/\a'.defers=a.defers /\ ∀d,d∉D->a'.tmps[d]? = a.tmps[d]?
theorem aAM.refl (D:List Nat) (a:Act):aAM D a a:=⟨rfl,rfl,fun _ _=>rfl⟩
theorem aAM.put {D:List Nat} {a a':Act} (H:aAM D a a') {dst:Option Nat} (hd:∀d,dst=some d->d∈D) (v:Value):aAM D (a.put dst v) a':=by
 cases dst with
 |none=>exact H
 |some d=>
  refine ⟨by simpa [Act.put] using H.1,by simpa [Act.put] using H.2.1,fun e he=>?_⟩;rw [H.2.2 e he];have hne:d≠e:=fun h=>he (h▸hd d rfl);simp only [Act.put];rw [Array.getElem?_setIfInBounds_ne hne]
theorem bB.alike {n:Nat} {l:Fr} {a a':Act} {D:List Nat} (ha:bB n l a) (H:aAM D a a'):bB n (aFZ D l) a':=
 ⟨by rw [H.1];exact ha.size,fun d v hv=>by
  obtain ⟨h1,h2⟩:=aBU hv;rw [H.2.2 d h1];exact ha.get d v h2⟩

def aBM {P:Program} (T:Tab P) (l:Fr) (h:Array Obj):List ResultVar->List Value->Prop
 | [],[]=>True
 | .tmp t::rs,v::vs=>look l t=some v/\aBM T l h rs vs
 | .cell a t::rs,v::vs=>(∃b o,look l a=some (.pointer (some ⟨b,o,none⟩)) /\
   ((eY T t=true/\bL h b o=some v) \/ ∃i ws,uY T t=true/\cT T.inf t=some i/\ws.length=i.size/\jY h b o ws/\v=.agg ws.toArray))/\aBM T l h rs vs
 |_,_=>False
theorem aKU (T:Tab P) {fn:Func} {n:Nat} {l:Fr} {a:Act} (ha:bB n l a) {w:World} {vs:List Value} (hv:aBM T l w.heap fn.results.toList vs):
  (results fn a.tmps).run P w=.ok (tup vs) w:=by
 have key:∀(rs:List ResultVar) (vs:List Value),aBM T l w.heap rs vs->(rs.mapM (gY a.tmps)).run P w=.ok vs w:=by
  intro rs
  induction rs with
  |nil=>intro vs h;cases vs with
   |nil=>simp
   |cons=>exact h.elim
  |cons r rs ih=>
   intro vs h
   cases vs with
   |nil=>cases r<;>exact h.elim
   |cons v vs=>
    cases r with
    |tmp t=>
     obtain ⟨h1,h2⟩:=h;have hrs:=ih vs h2;have h0:(gY a.tmps (.tmp t)).run P w=.ok v w:=by simp [gY,ha.get t v h1]
     simp only [List.mapM_cons,Sem.run_bind,h0,hrs,Result.andThen,Sem.run_pure]
    |cell p t=>
     obtain ⟨⟨b,o,h1,h2⟩,h4⟩:=h;have hrs:=ih vs h4;have h0:(gY a.tmps (.cell p t)).run P w=.ok v w:=by
      rcases h2 with ⟨h2,h3⟩|⟨i,ws,hag,hi,hlen,hc,rfl⟩
      ·have hcell:=iQ h3
       simp [gY,ha.get p _ h1,asAddr,loadVar,lN T h2,Go.load,Sem.run,hcell]
      have hl:=run_loadCells_list (P:=P) w ⟨b,o,none⟩ ws (fun j v hv=>by rw [fS];exact iQ (hc j v hv));rw [hlen] at hl
      simp [gY,ha.get p _ h1,asAddr,loadVar,rH T hag,kK T hi,hl]
     simp only [List.mapM_cons,Sem.run_bind,h0,hrs,Result.andThen,Sem.run_pure]
 have hk:=key fn.results.toList vs hv;rw [yC,<-Array.toArray_toList (xs:=fn.results),List.mapM_toArray];simp only [Sem.run_bind,map_eq_pure_bind,hk,Sem.run_pure,Result.andThen]
 cases vs with
 |nil=>simp [tup]
 |cons v vs=>cases vs<;>simp [tup]
section
variable {f n:Nat} {w0:World} {cs:List Frame} {R:Ending->Array Obj->Prop} {l:Fr} {h:Array Obj} {k:List SI}
theorem Unw.retA (T:Tab P) {fn:Func} (hf:P.funcs[f]? = some fn) {vs:List Value} (hv:aBM T l h fn.results.toList vs) (hR:R (.returned (tup vs)) h):
  Unw (cW P f n w0 cs R) [] .returning l h:=fun a w todo ha hd hh hw=>
 ⟨.returned (tup vs),w,_,⟨hw,hh▸hR⟩,Steps.refl P _,rfl,rfl,hd,rfl,fn,hf,aKU T ha (hh▸hv)⟩
end
theorem aNK {n:Nat} {l:Fr} {o:Oper} {t:TypeId} {parts:Array (Nat×Operand)} {us:List (Nat×Value)} {cells:Array Value} (hb:P.built t us=some cells)
  (hop:o.op=.build t parts:=by rfl) (hps:lT l parts.toList=some us:=by rfl):aUP P n l o (.agg cells):=by
 intro a w ha;have e1:(parts.map fun (x:Nat×Operand)=>(x.1,a.eval x.2)).toList=us:=by
  rw [Array.toList_map];exact aDA ha hps
 have:=run_build (P:=P) w t (parts.map fun (x:Nat×Operand)=>(x.1,a.eval x.2)) cells (by rw [e1];exact hb)
 simp [execOp,hop,this]
end Go.Fw
