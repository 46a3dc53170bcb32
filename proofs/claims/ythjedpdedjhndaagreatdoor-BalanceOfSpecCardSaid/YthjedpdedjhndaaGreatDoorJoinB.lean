/- Texts of this seat, joined: The symbolic heap: values that name blocks, what a heap holds under these names, and walks over them. The symbolic heap: w -/
import Derived.Test.YthjedpdedjhndaaGreatDoorJoinA
import Derived.MapKept
import Derived.Maps.AppendAt
set_option linter.unusedVariables false
set_option linter.unusedSimpArgs false
set_option maxRecDepth 100000
set_option maxHeartbeats 99999999
namespace Go.Fw
open Go
variable {P:Program}
inductive SV where
 |v (x:Value)
 |ptr (b off:Nat)
 |buf (b:Nat)
 |row (b:Nat) (i:Int) (off sz:Nat)
 |agg (cs:List SV)
 |tup (vs:List SV)
 |ifc (t:TypeId) (x:SV)
 |fn (f:Go.Fn) (first captured:List SV)
abbrev Env:=Nat->Value
def ownB:Value->Option Nat
 | .pointer (some a)=>some a.block
 | .slice (some a) _ _=>some a.block
 | .map (some r)=>some r
 |_=>none
def iI (x:Value):Nat:=(ownB x).getD 0
def aGG:Value->Nat
 | .slice (some a) _ _=>a.off
 |_=>0
mutual
def SV.g (E:Env):SV->Value
 | .v x=>x
 | .ptr b off=>.pointer (some ⟨iI (E b),off,none⟩)
 | .buf b=>E b
 | .row b i off sz=>.pointer (some ⟨iI (E b),aGG (E b)+i.toNat*sz+off,none⟩)
 | .agg cs=>.agg (SV.gs E cs).toArray
 | .tup vs=>.tuple (SV.gs E vs).toArray
 | .ifc t x=>.iface t (SV.g E x)
 | .fn f a b=>.func f (SV.gs E a).toArray (SV.gs E b).toArray
def SV.gs (E:Env):List SV->List Value
 | []=>[]
 |x::xs=>SV.g E x::SV.gs E xs
end
mutual
/-- its names lie below n -/
def SV.bd (n:Nat):SV->Bool
 | .v _=>true
 | .ptr b _=>Nat.blt b n
 | .buf b=>Nat.blt b n
 | .row b _ _ _=>Nat.blt b n
 | .agg cs=>SV.bds n cs
 | .tup vs=>SV.bds n vs
 | .ifc _ x=>SV.bd n x
 | .fn _ a b=>match SV.bds n a with
  |true=>SV.bds n b
  |false=>false
def SV.bds (n:Nat):List SV->Bool
 | []=>true
 |x::xs=>match SV.bd n x with
  |true=>SV.bds n xs
  |false=>false
end
mutual
def SV.ren (f:Nat->Nat):SV->SV
 | .v x=>.v x
 | .ptr b off=>.ptr (f b) off
 | .buf b=>.buf (f b)
 | .row b i off sz=>.row (f b) i off sz
 | .agg cs=>.agg (SV.rens f cs)
 | .tup vs=>.tup (SV.rens f vs)
 | .ifc t x=>.ifc t (SV.ren f x)
 | .fn g a b=>.fn g (SV.rens f a) (SV.rens f b)
def SV.rens (f:Nat->Nat):List SV->List SV
 | []=>[]
 |x::xs=>SV.ren f x::SV.rens f xs
end
def Ag (n:Nat) (E E':Env):Prop:=∀b,b<n->E' b=E b
theorem Ag.refl (n:Nat) (E:Env):Ag n E E:=fun _ _=>rfl
theorem Ag.trans {n:Nat} {E E' E'':Env} (h:Ag n E E') (k:Ag n E' E''):Ag n E E'':=fun b hb=>(k b hb).trans (h b hb)
theorem Ag.mono {n m:Nat} {E E':Env} (h:Ag n E E') (hm:m<=n):Ag m E E':=fun b hb=>h b (by omega)
mutual
theorem SV.g_ag {n:Nat} {E E':Env} (H:Ag n E E'):∀x:SV,x.bd n=true->x.g E'=x.g E
 | .v _,_=>rfl
 | .ptr b off,h=>by simp only [SV.bd] at h;simp only [SV.g,H b (Nat.blt_eq.mp h)]
 | .buf b,h=>by simp only [SV.bd] at h;simp only [SV.g,H b (Nat.blt_eq.mp h)]
 | .row b i off sz,h=>by simp only [SV.bd] at h;simp only [SV.g,H b (Nat.blt_eq.mp h)]
 | .agg cs,h=>by simp only [SV.bd] at h;simp only [SV.g,SV.gs_ag H cs h]
 | .tup vs,h=>by simp only [SV.bd] at h;simp only [SV.g,SV.gs_ag H vs h]
 | .ifc t x,h=>by simp only [SV.bd] at h;simp only [SV.g,SV.g_ag H x h]
 | .fn f a b,h=>by
  simp only [SV.bd] at h
  cases ha:SV.bds n a with
  |false=>simp [ha] at h
  |true=>simp only [ha] at h;simp only [SV.g,SV.gs_ag H a ha,SV.gs_ag H b h]
theorem SV.gs_ag {n:Nat} {E E':Env} (H:Ag n E E'):∀xs:List SV,SV.bds n xs=true->SV.gs E' xs=SV.gs E xs
 | [],_=>rfl
 |x::xs,h=>by
  simp only [SV.bds] at h
  cases hx:SV.bd n x with
  |false=>simp [hx] at h
  |true=>simp only [hx] at h;simp only [SV.gs,SV.g_ag H x hx,SV.gs_ag H xs h]
end
mutual
theorem SV.g_ren (f:Nat->Nat) (E:Env):∀x:SV,(x.ren f).g E=x.g (fun b=>E (f b))
 | .v _=>rfl
 | .ptr b off=>rfl
 | .buf b=>rfl
 | .row b i off sz=>rfl
 | .agg cs=>by simp only [SV.ren,SV.g,SV.gs_ren f E cs]
 | .tup vs=>by simp only [SV.ren,SV.g,SV.gs_ren f E vs]
 | .ifc t x=>by simp only [SV.ren,SV.g,SV.g_ren f E x]
 | .fn g a b=>by simp only [SV.ren,SV.g,SV.gs_ren f E a,SV.gs_ren f E b]
theorem SV.gs_ren (f:Nat->Nat) (E:Env):∀xs:List SV,SV.gs E (SV.rens f xs)=SV.gs (fun b=>E (f b)) xs
 | []=>rfl
 |x::xs=>by simp only [SV.rens,SV.gs,SV.g_ren f E x,SV.gs_ren f E xs]
end
theorem aBW (E:Env):∀xs:List SV,SV.gs E xs=xs.map (SV.g E)
 | []=>rfl
 |x::xs=>by simp only [SV.gs,List.map_cons,aBW E xs]
theorem fM (E:Env) (xs:List SV):(SV.gs E xs).length=xs.length:=by rw [aBW];simp
theorem sV (E:Env) (xs ys:List SV):SV.gs E (xs++ys)=SV.gs E xs++SV.gs E ys:=by simp [aBW]
theorem uR (E:Env) (xs:List SV) (i:Nat):(SV.gs E xs)[i]? = (xs[i]?).map (SV.g E):=by simp [aBW]
def toV (l:List Value):List SV:=match l with
 | []=>[]
 |x::xs=>.v x::toV xs
theorem nL (E:Env):∀l:List Value,SV.gs E (toV l)=l
 | []=>rfl
 |x::xs=>by simp only [toV,SV.gs,SV.g,nL E xs]
/-! frames -/
abbrev SFr:=List (Nat×SV)
def oS:SFr->Nat->Option SV
 | [],_=>none
 |(s,v)::l,d=>match Nat.beq s d with
  |true=>some v
  |false=>oS l d
def gF (E:Env):SFr->Fr
 | []=>[]
 |(s,x)::l=>(s,x.g E)::gF E l
theorem aUM (E:Env):∀(l:SFr) (d:Nat),look (gF E l) d=(oS l d).map (SV.g E)
 | [],d=>rfl
 |(s,x)::l,d=>by
  simp only [gF,look,oS]
  cases Nat.beq s d with
  |true=>rfl
  |false=>exact aUM E l d
theorem fD {E:Env} {l:SFr} {d:Nat} {x:SV} (h:oS l d=some x):look (gF E l) d=some (x.g E):=by rw [aUM,h];rfl
def evS (l:SFr):Operand->Option SV
 | .tmp t=>oS l t
 | .const v=>some (.v v)
 | .global g=>some (.v (.pointer (some ⟨g,0,none⟩)))
 | .func f=>some (.v (.func (.func f) #[] #[]))
theorem bN {E:Env} {l:SFr} {x:Operand} {v:SV} (h:evS l x=some v):ev (gF E l) x=some (v.g E):=by
 cases x with
 |tmp t=>exact fD h
 |const u=>simp only [evS,Option.some.injEq] at h;subst h;rfl
 |global g=>simp only [evS,Option.some.injEq] at h;subst h;rfl
 |func f=>simp only [evS,Option.some.injEq] at h;subst h;rfl
def bdF (n:Nat):SFr->Bool
 | []=>true
 |(_,x)::l=>match x.bd n with
  |true=>bdF n l
  |false=>false
theorem iX {n:Nat} {E E':Env} (H:Ag n E E'):∀l:SFr,bdF n l=true->gF E' l=gF E l
 | [],_=>rfl
 |(s,x)::l,h=>by
  simp only [bdF] at h
  cases hx:x.bd n with
  |false=>simp [hx] at h
  |true=>simp only [hx] at h;simp only [gF,SV.g_ag H x hx,iX H l h]
def aLJ (l:SFr) (dst:Option Nat) (x:SV):SFr:=
 match dst with
 |some d=>(d,x)::l
 |none=>l
theorem eP (E:Env) (l:SFr) (dst:Option Nat) (x:SV):gF E (aLJ l dst x)=upd (gF E l) dst (x.g E):=by
 cases dst<;>rfl
def gK (l:SFr):List Operand->Option (List SV)
 | []=>some []
 |x::xs=>match evS l x with
  |some v=>match gK l xs with
   |some vs=>some (v::vs)
   |none=>none
  |none=>none
theorem kH {E:Env} {l:SFr}:∀ {xs:List Operand} {vs:List SV},gK l xs=some vs->kI (gF E l) xs=some (SV.gs E vs)
 | [],vs,h=>by simp only [gK,Option.some.injEq] at h;subst h;rfl
 |x::xs,vs,h=>by
  simp only [gK] at h
  cases hx:evS l x with
  |none=>simp [hx] at h
  |some v=>
   cases hxs:gK l xs with
   |none=>simp [hx,hxs] at h
   |some us=>
    simp only [hx,hxs,Option.some.injEq] at h;subst h;simp only [kI,bN hx,kH hxs,SV.gs]
/-! heaps -/
inductive Blk where
 /-- a variable -/
 |cells (t:TypeId) (cs:List SV)
 /-- a slice that owns its array -/
 |own (e:TypeId) (sz:Nat) (rows:List (List Value))
 /-- a slice that is only read -/
 |ro (sz:Nat) (rows:List (List Value))
 /-- a map of the walk's own: keys and values -/
 |map (d:TypeDesc) (es:List (Value×Value))
 /-- an object that is no value -/
 |raw (a:Nat) (o:Obj)
abbrev SH:=List (Nat×Blk)
def wr:Blk->Bool
 | .ro _ _=>false
 |_=>true
structure Kp (F:Nat->Prop) (h0 h:Array Obj):Prop where
 size:h0.size<=h.size
 same:∀k,F k->h[k]? = h0[k]?
 lt:∀k,F k->k<h0.size
theorem Kp.trans {F:Nat->Prop} {a b c:Array Obj} (h:Kp F a b) (k:Kp F b c):Kp F a c:=⟨Nat.le_trans h.size k.size,fun i hi=>(k.same i hi).trans (h.same i hi),h.lt⟩
theorem Kp.ge {F:Nat->Prop} {a b:Array Obj} (h:Kp F a b) {k:Nat} (hk:b.size<=k):¬F k:=fun hf=>by have:=h.lt k hf;have:=h.size;omega
def iS (F:Nat->Prop) (h:Array Obj) (a:Option Addr) (rows:List (List Value)):Prop:=
 rows=[] \/ ∃g o,a=some ⟨g,o,none⟩/\F g/\jY h g o rows.flatten
def aDE (h:Array Obj) (g:Nat) (d:TypeDesc) (es:List (Value×Value)):Prop:=
 (∃(en:Array MapEntry) (clock:Nat),h[g]? = some (.map en clock)/\en.toList.map (fun e=>(e.key,e.val))=es) /\ ∀p∈es,MapKept.IsKey d p.1
theorem aDE.same {h h':Array Obj} {g:Nat} {d:TypeDesc} {es:List (Value×Value)} (H:aDE h g d es) (e:h'[g]? = h[g]?):aDE h' g d es:=⟨by rw [e];exact H.1,H.2⟩
theorem aDE.lt {h:Array Obj} {g:Nat} {d:TypeDesc} {es:List (Value×Value)} (H:aDE h g d es):g<h.size:=by
 obtain ⟨⟨_,_,h1,_⟩,_⟩:=H;exact (Array.getElem?_eq_some_iff.1 h1).1
def aIE (h:Array Obj) (g a:Nat) (o:Obj):Prop:=g=a/\h[g]? = some o
theorem aIE.same {h h':Array Obj} {g a:Nat} {o:Obj} (H:aIE h g a o) (e:h'[g]? = h[g]?):aIE h' g a o:=⟨H.1,e.trans H.2⟩
theorem aIE.lt {h:Array Obj} {g a:Nat} {o:Obj} (H:aIE h g a o):g<h.size:=(Array.getElem?_eq_some_iff.1 H.2).1
def mH (sz:Nat) (rows:List (List Value)):Prop:=∀r∈rows,r.length=sz /\ ∀u∈r,u.oneCell'=true
def aUS:Value->Prop
 | .slice _ n c=>n<=c
 |_=>True
def Blk.ok (E:Env) (F:Nat->Prop) (h:Array Obj) (x:Value):Blk->Prop
 | .cells t cs=>∃g,x=.pointer (some ⟨g,0,none⟩)/\At h g (SV.gs E cs).toArray t /\ ¬F g
 | .own e sz rows=>mH sz rows/\Own 0 h e sz x rows.length rows.flatten /\ ∀g,ownB x=some g -> ¬F g
 | .ro sz rows=>mH sz rows/\(rows.length<=maxLen/\aUS x) /\ ∃a cap,x=.slice a rows.length cap/\iS F h a rows
 | .map d es=>∃g,x=.map (some g)/\aDE h g d es /\ ¬F g
 | .raw a o=>∃g,x=.pointer (some ⟨g,0,none⟩)/\aIE h g a o /\ ¬F g
def nM (E:Env) (p q:Nat×Blk):Prop:=wr p.2=true->wr q.2=true -> ∀g,ownB (E p.1)=some g->ownB (E q.1)≠some g
theorem nM.symm {E:Env} {p q:Nat×Blk} (h:nM E p q):nM E q p:=fun hq hp g e1 e2=>h hp hq g e2 e1
structure Sat (E:Env) (F:Nat->Prop) (H:SH) (h:Array Obj):Prop where
 ok:∀p∈H,p.2.ok E F h (E p.1)
 apart:H.Pairwise (nM E)
def bX:SH->Nat->Option Blk
 | [],_=>none
 |(s,v)::l,d=>match Nat.beq s d with
  |true=>some v
  |false=>bX l d
theorem bW:∀ {H:SH} {b:Nat} {x:Blk},bX H b=some x->(b,x)∈H
 | [],_,_,h=>by cases h
 |(s,v)::l,d,x,h=>by
  simp only [bX] at h
  cases hb:Nat.beq s d with
  |true=>
   simp only [hb,Option.some.injEq] at h;have:=Nat.eq_of_beq_eq_true hb;subst h this;exact List.mem_cons_self ..
  |false=>simp only [hb] at h;exact List.mem_cons_of_mem _ (bW h)
def nG:SH->Nat->Blk->SH
 | [],_,_=>[]
 |(s,v)::l,d,x=>match Nat.beq s d with
  |true=>(s,x)::l
  |false=>(s,v)::nG l d x
def aAA:SH->Nat->SH
 | [],_=>[]
 |(s,v)::l,d=>match Nat.beq s d with
  |true=>aAA l d
  |false=>(s,v)::aAA l d
theorem iE:∀(H:SH) (b:Nat),(aAA H b).Sublist H
 | [],_=>List.Sublist.refl _
 |(s,v)::l,d=>by
  simp only [aAA]
  cases Nat.beq s d with
  |true=>exact (iE l d).cons _
  |false=>exact (iE l d).cons_cons _
theorem tI:∀ {H:SH} {b:Nat} {p:Nat×Blk},p∈aAA H b->p.1≠b
 | [],_,_,h=>by cases h
 |(s,v)::l,d,p,h=>by
  simp only [aAA] at h
  cases hb:Nat.beq s d with
  |true=>simp only [hb] at h;exact tI h
  |false=>
   simp only [hb] at h;rcases List.mem_cons.1 h with rfl|h
   ·exact fun e=>by simp only at e;subst e;simp at hb
   exact tI h
theorem Sat.sub {E:Env} {F:Nat->Prop} {H H':SH} {h:Array Obj} (S:Sat E F H h) (hs:H'.Sublist H):Sat E F H' h:=⟨fun p hp=>S.ok p (hs.subset hp),S.apart.sublist hs⟩
def bdB (n:Nat):Blk->Bool
 | .cells _ cs=>SV.bds n cs
 |_=>true
def bdH (n:Nat):SH->Bool
 | []=>true
 |(b,x)::l=>match Nat.blt b n with
  |true=>match bdB n x with
   |true=>bdH n l
   |false=>false
  |false=>false
theorem jO {n:Nat}:∀ {H:SH} {p:Nat×Blk},bdH n H=true->p∈H->p.1<n/\bdB n p.2=true
 | [],_,_,h=>by cases h
 |(b,x)::l,p,h,hp=>by
  simp only [bdH] at h
  cases hb:Nat.blt b n with
  |false=>simp [hb] at h
  |true=>
   cases hx:bdB n x with
   |false=>simp [hb,hx] at h
   |true=>
    simp only [hb,hx] at h;rcases List.mem_cons.1 hp with rfl|hp
    ·exact ⟨Nat.blt_eq.mp hb,hx⟩
    exact jO h hp
theorem Blk.ok_ag {n:Nat} {E E':Env} (H:Ag n E E') {F:Nat->Prop} {h:Array Obj} {x:Value} {b:Blk} (hb:bdB n b=true) (hk:b.ok E F h x):b.ok E' F h x:=by
 cases b with
 |cells t cs=>
  obtain ⟨g,h1,h2,h3⟩:=hk;exact ⟨g,h1,by rw [SV.gs_ag H cs hb];exact h2,h3⟩
 |own=>exact hk
 |ro=>exact hk
 |map|raw=>exact hk
theorem Sat.ag {n:Nat} {E E':Env} (A:Ag n E E') {F:Nat->Prop} {H:SH} {h:Array Obj} (hb:bdH n H=true) (S:Sat E F H h):Sat E' F H h:=by
 refine ⟨fun p hp=>?_,List.Pairwise.imp_of_mem (fun {p q} hp hq hA=>?_) S.apart⟩
 ·obtain ⟨h1,h2⟩:=jO hb hp;rw [A _ h1];exact Blk.ok_ag A h2 (S.ok p hp)
 intro hp' hq' g e1;rw [A _ (jO hb hp).1] at e1;rw [A _ (jO hb hq).1];exact hA hp' hq' g e1
theorem Blk.lt {E:Env} {F:Nat->Prop} {h:Array Obj} {x:Value} {b:Blk} (hk:b.ok E F h x) (hw:wr b=true) {g:Nat} (hg:ownB x=some g):g<h.size /\ ¬F g:=by
 cases b with
 |cells t cs=>
  obtain ⟨g',rfl,h2,h3⟩:=hk;simp only [ownB,Option.some.injEq] at hg;subst hg;exact ⟨h2.lt,h3⟩
 |own e sz rows=>
  obtain ⟨_,h2,h3⟩:=hk;refine ⟨?_,h3 g hg⟩;obtain ⟨_,⟨rfl,_⟩|⟨g',cap,cur,rfl,_,hat,_⟩⟩:=h2
  ·cases hg
  simp only [ownB,Option.some.injEq] at hg;subst hg;exact hat.lt
 |ro=>cases hw
 |map d es|raw d es=>
  obtain ⟨g',rfl,h2,h3⟩:=hk;simp only [ownB,Option.some.injEq] at hg;subst hg;exact ⟨h2.lt,h3⟩
theorem iS.keep {F:Nat->Prop} {h h':Array Obj} {a:Option Addr} {rows:List (List Value)} (H:iS F h a rows) (hs:∀k,F k->h'[k]? = h[k]?):iS F h' a rows:=by
 rcases H with H|⟨g,o,h1,h2,h3⟩
 ·exact .inl H
 refine .inr ⟨g,o,h1,h2,fun j v hj=>?_⟩;have:=h3 j v hj;unfold bL at this ⊢;rw [hs g h2];exact this
theorem Own.same {base:Nat} {h h':Array Obj} {e:TypeId} {sz:Nat} {v:Value} {m:Nat} {xs:List Value} (H:Own base h e sz v m xs) (hs:∀g,ownB v=some g->h'[g]? = h[g]?):Own base h' e sz v m xs:=by
 obtain ⟨hl,H⟩:=H;refine ⟨hl,?_⟩;rcases H with H|⟨g,cap,cur,rfl,h2,h3,h4⟩
 ·exact .inl H
 exact .inr ⟨g,cap,cur,rfl,h2,(hs g rfl).trans h3,h4⟩
theorem Blk.keep {E:Env} {F:Nat->Prop} {h h':Array Obj} {x:Value} {b:Blk} (hk:b.ok E F h x) (hw:wr b=true -> ∀g,ownB x=some g->h'[g]? = h[g]?) (hF:∀k,F k->h'[k]? = h[k]?):b.ok E F h' x:=by
 cases b with
 |cells t cs=>
  obtain ⟨g,rfl,h2,h3⟩:=hk;exact ⟨g,rfl,(hw rfl g rfl).trans h2,h3⟩
 |own e sz rows=>
  obtain ⟨h1,h2,h3⟩:=hk;exact ⟨h1,h2.same (hw rfl),h3⟩
 |ro sz rows=>
  obtain ⟨h1,h0,a,cap,h2,h3⟩:=hk;exact ⟨h1,h0,a,cap,h2,h3.keep hF⟩
 |map d es|raw d es=>
  obtain ⟨g,rfl,h2,h3⟩:=hk;exact ⟨g,rfl,h2.same (hw rfl g rfl),h3⟩
theorem Sat.keep {E:Env} {F:Nat->Prop} {H:SH} {h h':Array Obj} (S:Sat E F H h) (hw:∀p∈H,wr p.2=true -> ∀g,ownB (E p.1)=some g->h'[g]? = h[g]?) (hF:∀k,F k->h'[k]? = h[k]?):Sat E F H h':=
 ⟨fun p hp=>Blk.keep (S.ok p hp) (hw p hp) hF,S.apart⟩
theorem Sat.keeps {E:Env} {F:Nat->Prop} {H:SH} {h0 h h':Array Obj} (S:Sat E F H h) (K:Kp F h0 h) (k:aH h.size h h'):Sat E F H h'/\Kp F h0 h':=by
 have hF:∀i,F i->h'[i]? = h[i]? :=fun i hi=>k.same i (by have:=K.lt i hi;have:=K.size;omega);exact ⟨S.keep (fun p hp hw g hg=>k.same g (Blk.lt (S.ok p hp) hw hg).1) hF,⟨Nat.le_trans K.size k.size,fun i hi=>(hF i hi).trans (K.same i hi),K.lt⟩⟩
def push (E:Env) (n:Nat) (x:Value):Env:=fun b=>match Nat.beq b n with
 |true=>x
 |false=>E b
theorem gA (E:Env) (n:Nat) (x:Value):Ag n E (push E n x):=fun b hb=>by
 unfold push;have:Nat.beq b n=false:=by cases h:Nat.beq b n with|false=>rfl|true=>have:=Nat.eq_of_beq_eq_true h;omega
 simp [this]
theorem gW (E:Env) (n:Nat) (x:Value):push E n x n=x:=by unfold push;simp
theorem Sat.add {n:Nat} {E:Env} {F:Nat->Prop} {H:SH} {h:Array Obj} {x:Value} {b:Blk} (S:Sat E F H h) (hb:bdH n H=true) (hk:b.ok (push E n x) F h x)
  (hap:wr b=true -> ∀p∈H,wr p.2=true -> ∀g,ownB (E p.1)=some g->ownB x≠some g):Sat (push E n x) F ((n,b)::H) h:=by
 have S':=S.ag (gA E n x) hb;refine ⟨fun p hp=>?_,List.pairwise_cons.2 ⟨fun q hq=>?_,S'.apart⟩⟩
 ·rcases List.mem_cons.1 hp with rfl|hp
  ·show b.ok _ F h (push E n x n);rw [gW];exact hk
  exact S'.ok p hp
 intro hw hq' g e1 e2;simp only [gW] at e1;rw [gA E n x _ (jO hb hq).1] at e2;exact hap hw q hq hq' g e2 e1
theorem Sat.set {E:Env} {F:Nat->Prop} {h h':Array Obj} {b:Nat} {x y:Blk} (hwx:wr x=true) (hwy:wr y=true) (hy:y.ok E F h' (E b)) (hF:∀k,F k->h'[k]? = h[k]?)
  (ho:∀g,ownB (E b)≠some g->h'[g]? = h[g]? \/ h.size<=g):∀ {H:SH},Sat E F H h->bX H b=some x->Sat E F (nG H b y) h'
 | [],_,hl=>by cases hl
 |(s,z)::H,S,hl=>by
  obtain ⟨hp,hps⟩:=List.pairwise_cons.1 S.apart;have ST:Sat E F H h:=⟨fun p hp=>S.ok p (List.mem_cons_of_mem _ hp),hps⟩;simp only [bX,nG] at *
  cases hb:Nat.beq s b with
  |true=>
   simp only [hb,Option.some.injEq] at hl ⊢;have:=Nat.eq_of_beq_eq_true hb;subst hl this;have hk:∀p∈H,wr p.2=true -> ∀g,ownB (E p.1)=some g->h'[g]? = h[g]? :=fun p hpm hw g hg=>by
    rcases ho g (fun e=>hp p hpm hwx hw g e hg) with h1|h1
    ·exact h1
    have:=(Blk.lt (ST.ok p hpm) hw hg).1;omega
   have ST':=ST.keep hk hF;refine ⟨fun p hp=>?_,List.pairwise_cons.2 ⟨fun q hq=>?_,ST'.apart⟩⟩
   ·rcases List.mem_cons.1 hp with rfl|hp
    ·exact hy
    exact ST'.ok p hp
   exact fun _ hwq=>hp q hq hwx hwq
  |false=>
   simp only [hb] at hl ⊢;have IH:=Sat.set hwx hwy hy hF ho ST hl;have hz:z.ok E F h' (E s):=by
    refine Blk.keep (S.ok _ (List.mem_cons_self ..)) (fun hw g hg=>?_) hF;rcases ho g (fun e=>hp _ (bW hl) hw hwx g hg e) with h1|h1
    ·exact h1
    have:=(Blk.lt (S.ok (s,z) (List.mem_cons_self ..)) hw hg).1;omega
   refine ⟨fun p hp=>?_,List.pairwise_cons.2 ⟨fun q hq=>?_,IH.apart⟩⟩
   ·rcases List.mem_cons.1 hp with rfl|hp
    ·exact hz
    exact IH.ok p hp
   have hq':q∈H\/q=(b,y):=by
    clear IH S ST hps hp hz
    revert hl hq
    induction H with
    |nil=>intro hl;cases hl
    |cons r H ih=>
     intro hl hq;obtain ⟨r1,r2⟩:=r;simp only [nG] at hq
     cases hrb:Nat.beq r1 b with
     |true=>
      simp only [hrb] at hq;have:=Nat.eq_of_beq_eq_true hrb;subst this;rcases List.mem_cons.1 hq with rfl|hq
      ·exact .inr rfl
      exact .inl (List.mem_cons_of_mem _ hq)
     |false=>
      simp only [hrb] at hq;simp only [bX,hrb] at hl;rcases List.mem_cons.1 hq with rfl|hq
      ·exact .inl (List.mem_cons_self ..)
      rcases ih hl hq with h1|h1
      ·exact .inl (List.mem_cons_of_mem _ h1)
      exact .inr h1
   rcases hq' with h1|rfl
   ·exact hp q h1
   exact fun hw _=>hp (b,x) (bW hl) hw hwx
/-! walks -/
structure cY where
 g:FuncId
 captured:List SV
 args:List SV
 /-- the collected calls of a loop's rounds -/
 col:Option Nat
def cY.c (E:Env) (d:cY):Deferred:=match d.col with
 |none=>{target:=.fn (.func d.g) (SV.gs E d.captured).toArray,args:=(SV.gs E d.args).toArray}
 |some D=>{target:=.collected D,args:=#[]}
def gD (E:Env):List cY->List Deferred
 | []=>[]
 |d::l=>d.c E::gD E l
def bdD (n:Nat):List cY->Bool
 | []=>true
 |d::l=>match SV.bds n d.captured with
  |true=>match SV.bds n d.args with
   |true=>bdD n l
   |false=>false
  |false=>false
theorem jA {n:Nat} {E E':Env} (H:Ag n E E'):∀l:List cY,bdD n l=true->gD E' l=gD E l
 | [],_=>rfl
 |d::l,h=>by
  simp only [bdD] at h
  cases h1:SV.bds n d.captured with
  |false=>simp [h1] at h
  |true=>
   cases h2:SV.bds n d.args with
   |false=>simp [h1,h2] at h
   |true=>simp only [h1,h2] at h;simp only [gD,cY.c,SV.gs_ag H _ h1,SV.gs_ag H _ h2,jA H l h]
structure SCx (P:Program) where
 c:Ctx P
 F:Nat->Prop
 h0:Array Obj
 E0:Env
 n0:Nat
structure aA (s:SCx P) (ds:List cY) (nx:Nat) (st:List SI) (l:SFr) (H:SH):Prop where
 run:∀(E:Env) (h:Array Obj),Ag s.n0 s.E0 E->Sat E s.F H h->Kp s.F s.h0 h->aD s.c (gD E ds) st (gF E l) h
structure aB (s:SCx P) (ds:List cY) (u:FrameMode) (nx:Nat) (l:SFr) (H:SH):Prop where
 run:∀(E:Env) (h:Array Obj),Ag s.n0 s.E0 E->Sat E s.F H h->Kp s.F s.h0 h->Unw s.c (gD E ds) u (gF E l) h
def gQ (n0 nx:Nat) (l:SFr) (H:SH) (ds:List cY):Bool:=match Nat.ble n0 nx with
 |true=>match bdF nx l with
  |true=>match bdH nx H with
   |true=>bdD nx ds
   |false=>false
  |false=>false
 |false=>false
theorem dW {n0 nx:Nat} {l:SFr} {H:SH} {ds:List cY} (h:gQ n0 nx l H ds=true):n0<=nx/\bdF nx l=true/\bdH nx H=true/\bdD nx ds=true:=by
 unfold gQ at h;split at h
 ·split at h
  ·split at h
   ·exact ⟨Nat.le_of_ble_eq_true (by assumption),by assumption,by assumption,h⟩
   cases h
  cases h
 cases h
def jZ (o:Oper):Bool:=
 match o.op with
 | .load _ _=>false
 |_=>cQ o
def cJ (P:Program) (n:Nat) (F:Nat->Prop) (h0:Array Obj) (l:SFr) (H:SH) (o:Oper) (x:SV) (H':SH):Prop:=
 (∀E h,Sat E F H h->Kp F h0 h->Eff P n (gF E l) h o (fun v h'=>v=x.g E/\Sat E F H' h'/\Kp F h0 h')) /\
 (jZ o=true->H'=H /\ ∀E h,Sat E F H h->Kp F h0 h -> ∀a w,bB n (gF E l) a->(execOp a.eval o).run P w=.ok (.value (x.g E)) w)
def EffL (P:Program) (n:Nat) (F:Nat->Prop) (h0:Array Obj) (l:SFr) (H:SH) (o:Oper) (x:SV) (H':SH):Prop:=
 ∀E h,Sat E F H h->Kp F h0 h->Eff P n (gF E l) h o (fun v h'=>v=x.g E/\Sat E F H' h'/\Kp F h0 h')
theorem cJ.of_eff {n:Nat} {F:Nat->Prop} {h0:Array Obj} {l:SFr} {H H':SH} {o:Oper} {x:SV} (hn:jZ o=false)
  (hE:∀E h,Sat E F H h->Kp F h0 h->Eff P n (gF E l) h o (fun v h'=>v=x.g E/\Sat E F H' h'/\Kp F h0 h')):cJ P n F h0 l H o x H':=
 ⟨hE,fun hp=>by rw [hn] at hp;cases hp⟩
def aEU (P:Program) (n:Nat) (F:Nat->Prop) (h0:Array Obj) (nx:Nat) (l:SFr) (H:SH) (o:Oper) (x:SV) (H':SH):Prop:=
 ∀E h,Sat E F H h->Kp F h0 h->Eff P n (gF E l) h o (fun v h'=>∃E',Ag nx E E'/\v=x.g E'/\Sat E' F H' h'/\Kp F h0 h')
theorem cJ.of_plain {n:Nat} {F:Nat->Prop} {h0:Array Obj} {l:SFr} {H:SH} {o:Oper} {x:SV}
  (hr:∀E h,Sat E F H h->Kp F h0 h -> ∀a w,bB n (gF E l) a->(execOp a.eval o).run P w=.ok (.value (x.g E)) w):cJ P n F h0 l H o x H:=
 ⟨fun E h S K=>Eff.of_value fun a w ha hh=>⟨_,w,hr E h S K a w ha,dC.refl w,rfl,hh▸S,hh▸K⟩,fun _=>⟨rfl,hr⟩⟩
section
variable {s:SCx P} {ds:List cY} {nx:Nat} {k:List SI} {l:SFr} {H:SH}
theorem aA.effL {all:Array Oper} {rest:List Oper} {o:Oper} {x:SV} {H':SH} (hE:EffL P s.c.n s.F s.h0 l H o x H')
  (hgd:∀E,dG (gF E l) all o=some true) (hdst:cB s.c.n o.dst=true) (hnd:dY o=true)
  (hr:aA s ds nx (.ops all rest::k) (aLJ l o.dst x) H'):aA s ds nx (.ops all (o::rest)::k) l H:=⟨fun E h hA S K=>
 aD.eff (hE E h S K) (fun v h' ⟨hv,S',K'⟩=>by
  subst hv;have:=hr.run E h' hA S' K';rw [eP] at this;exact this) (hgd E) hdst hnd⟩
theorem aA.effK {all:Array Oper} {rest:List Oper} {o:Oper} {x:SV} {H':SH} (hE:cJ P s.c.n s.F s.h0 l H o x H')
  (hgd:∀E,dG (gF E l) all o=some true) (hdst:cB s.c.n o.dst=true) (hnd:dY o=true)
  (hr:aA s ds nx (.ops all rest::k) (aLJ l o.dst x) H'):aA s ds nx (.ops all (o::rest)::k) l H:=aA.effL hE.1 hgd hdst hnd hr
theorem aA.eff {all:Array Oper} {rest:List Oper} {o:Oper} {x:SV} {H':SH} {nx':Nat} (hE:aEU P s.c.n s.F s.h0 nx l H o x H')
  (hgd:∀E,dG (gF E l) all o=some true) (hdst:cB s.c.n o.dst=true) (hnd:dY o=true) (hn:s.n0<=nx) (hb:bdF nx l=true) (hd:bdD nx ds=true)
  (hr:aA s ds nx' (.ops all rest::k) (aLJ l o.dst x) H'):aA s ds nx (.ops all (o::rest)::k) l H:=⟨fun E h hA S K=>
 aD.eff (hE E h S K) (fun v h' ⟨E',hag,hv,S',K'⟩=>by
  subst hv;have:=hr.run E' h' (hA.trans (hag.mono hn)) S' K';rw [eP,iX hag l hb,jA hag ds hd] at this;exact this) (hgd E) hdst hnd⟩
end
/-! guards -/
def bT (l:SFr) (ops:Array Oper) (o:Oper):Option Bool:=
 match o.guard with
 |none=>some true
 |some (j,want)=>match nth ops.toList j with
  |none=>none
  |some oj=>match oj.dst with
   |none=>none
   |some d=>match oS l d with
    |some (.v (.bool b))=>match b with
     |true=>match want with
      |true=>some true
      |false=>some false
     |false=>match want with
      |true=>some false
      |false=>some true
    |some (.v (.tuple _))=>some false
    |_=>none
theorem bK {E:Env} {l:SFr} {ops:Array Oper} {o:Oper} {b:Bool} (h:bT l ops o=some b):dG (gF E l) ops o=some b:=by
 unfold bT at h;unfold dG
 cases hg:o.guard with
 |none=>rw [hg] at h;exact h
 |some jw=>
  obtain ⟨j,want⟩:=jw;rw [hg] at h;simp only at h ⊢
  cases hj:nth ops.toList j with
  |none=>rw [hj] at h;cases h
  |some oj=>
   rw [hj] at h;simp only at h ⊢
   cases hd:oj.dst with
   |none=>rw [hd] at h;cases h
   |some d=>
    rw [hd] at h;simp only at h ⊢;split at h
    ·rename_i hl
     rw [fD hl];simp only [SV.g];split at h<;>split at h<;>exact h
    ·rename_i hl
     rw [fD hl];exact h
    cases h

inductive PuS where
 |stop
 |val (x:SV)
 |vala (cs:List SV)
 |ob (p:Prop) (x:SV)
 |tst (p:Prop) (i:Decidable p)
 |ntst (p:Prop) (i:Decidable p)
 /-- a new block -/
 |new (x:SV) (b:Blk)
 |newo (p:Prop) (x:SV) (b:Blk)
 /-- append: the old slice's name goes, a new one comes -/
 |app (p:Prop) (r:Option Nat) (b:Blk)
 /-- a block's contents turn -/
 |put (b:Nat) (y:Blk)
 |puto (p:Prop) (b:Nat) (y:Blk)
 /-- a load out of row i -/
 |rowv (rows:List (List Value)) (i:Int) (o:Nat)
 |rowa (rows:List (List Value)) (i:Int) (o n:Nat)
 /-- a store into row i -/
 |rput (b e sz:Nat) (rows:List (List Value)) (i:Int) (o:Nat) (vals:List Value)
 /-- a load out of memory that stays -/
 |old (b off:Nat)
 |olda (b off n:Nat)
 /-- the string of some bytes -/
 |bytes (rows:List (List Value))
 /-- a remainder -/
 |rem (x y:Int)
 /-- a part of a slice that is only read -/
 |sub (p:Prop) (b:Blk)
def aPM (x y r:Int):Prop:=y≠0/\r=Int.tmod x y
theorem aPM.nonneg {x y:Int} (hx:0<=x) (hy:y≠0):aPM x y (x%y):=⟨hy,(Int.tmod_eq_emod_of_nonneg hx).symm⟩
theorem oF {p q X Y:Prop} (h:p->X) (g:q->Y):(p->X)/\(q->Y):=⟨h,g⟩
theorem sH {p:Prop} (h:p:=by repeat (first|exact trivial|refine ⟨by rfl,?_⟩)):p:=h
theorem oN {a b:Prop} (h:b) (g:a:=by first|omega|exact Nat.le_of_ble_eq_true rfl):a/\b:=⟨g,h⟩
theorem oM {x y:Int} {K:Int->Prop} (h:K (x%y)) (a:0<=x:=by omega) (b:y≠0:=by omega):∃r,aPM x y r/\K r:=⟨_,aPM.nonneg a b,h⟩
theorem oL {a b:Prop} (h:b) (g:a:=by omega):a/\b:=⟨g,h⟩
theorem oR {a b:Prop} (h:a) (g:b:=by omega):a/\b:=⟨h,g⟩
theorem oB {a b:Prop} (h:b) (g:a:=by (conv=>whnf);(repeat (guard_target=_/\_;refine And.intro (by (conv=>whnf);first|rfl|exact trivial) ?_;conv=>whnf));exact trivial):a/\b:=⟨g,h⟩
def strI (is:List Int):ByteArray:=⟨(is.map fun (i:Int)=>UInt8.ofNat i.toNat).toArray⟩
def jK (is:List Int):List (List Value):=is.map fun (i:Int)=>[Value.int .u8 i]
def OldC (F:Nat->Prop) (h0:Array Obj) (b off:Nat) (v:Value):Prop:=F b/\bL h0 b off=some v
def aMF (F:Nat->Prop) (h0:Array Obj) (b off:Nat) (vs:List Value):Prop:=∀j v,vs[j]? = some v->F b/\bL h0 b (off+j)=some v
def opnds:Op->List Operand
 | .unOp _ _ x=>[x]
 | .convert _ _ x=>[x]
 | .binOp _ _ x y _=>[x,y]
 | .index _ x i=>[x,i]
 | .indexAddr _ x i=>[x,i]
 | .slice _ x lo hi none=>x::(lo.toList++hi.toList)
 | .fieldAddr _ x _=>[x]
 | .field _ x _=>[x]
 | .makeInterface _ x=>[x]
 | .extract x _=>[x]
 | .nilCheck x=>[x]
 | .makeFunc _ a b=>a.toList++b.toList
 | .call c=>c.args.toList
 |_=>[]
def evl (l:SFr):List Operand->Fr
 | []=>[]
 |x::xs=>match x with
  | .tmp t=>match oS l t with
   |some (.v v)=>(t,v)::evl l xs
   |_=>evl l xs
  |_=>evl l xs
theorem aDT (E:Env) (l:SFr):∀xs:List Operand,Sub (gF E l) (evl l xs)
 | []=>trivial
 |x::xs=>by
  unfold evl;split
  ·split
   ·rename_i hl
    exact ⟨fD hl,aDT E l xs⟩
   exact aDT E l xs
  exact aDT E l xs
def jH (T:Tab P) (l:SFr) (op:Op):PuS:=
 match ev1 T (evl l (opnds op)) op with
 | .stop=>.stop
 | .val v=>.val (.v v)
 | .ob p v=>.ob p (.v v)
 | .tst p i=>.tst p i
 | .ntst p i=>.ntst p i
def aBS:SV->Option (List SV)
 | .v x=>match x with
  | .agg cs=>some (toV cs.toList)
  | .tuple _=>none
  |x=>some [.v x]
 | .agg cs=>some cs
 | .tup _=>none
 | .buf _=>none
 |x=>some [x]
theorem aIP (E:Env) {x:SV} {cs:List SV} (h:aBS x=some cs):(x.g E).cells=(SV.gs E cs).toArray:=by
 cases x with
 |v y=>cases y<;>simp only [aBS,Option.some.injEq] at h<;>first|(cases h;done)|(subst h;first|rfl|simp [SV.g,Value.cells,nL])
 |_=>simp only [aBS,Option.some.injEq] at h<;>first|(cases h;done)|(subst h;first|rfl|simp [SV.g,Value.cells])
def uH (H:SH):SV->Option (List SV)
 | .buf b=>match bX H b with
  |some (.own _ _ _)=>some [.buf b]
  |some (.ro _ _)=>some [.buf b]
  |_=>none
 |x=>aBS x
theorem Own.slice {base:Nat} {h:Array Obj} {e:TypeId} {sz:Nat} {v:Value} {m:Nat} {xs:List Value} (H:Own base h e sz v m xs):∃a cap,v=.slice a m cap:=H.shape
def aQH:Blk->Bool
 | .own _ _ _=>true
 | .ro _ _=>true
 |_=>false
theorem aIX {E:Env} {F:Nat->Prop} {h:Array Obj} {H:SH} (S:Sat E F H h) {b:Nat} {x:Blk} (hl:bX H b=some x) (hx:aQH x=true):∃a n c,E b=.slice a n c:=by
 have:=S.ok _ (bW hl)
 cases x with
 |cells t cs=>cases hx
 |map d es|raw d es=>cases hx
 |own e sz rows=>obtain ⟨a,c,h1⟩:=this.2.1.shape;exact ⟨a,_,c,h1⟩
 |ro sz rows=>obtain ⟨_,_,a,c,h1,_⟩:=this;exact ⟨a,_,c,h1⟩
theorem aBK {E:Env} {F:Nat->Prop} {h:Array Obj} {H:SH} (S:Sat E F H h) {x:SV} {cs:List SV} (hc:uH H x=some cs):(x.g E).cells=(SV.gs E cs).toArray:=by
 unfold uH at hc;split at hc
 ·have key:∀ {b:Nat} {y:Blk},bX H b=some y->aQH y=true->(SV.g E (.buf b)).cells=(SV.gs E [.buf b]).toArray:=by
   intro b y hl hy;obtain ⟨a,n,c,h1⟩:=aIX S hl hy
   simp [SV.g,SV.gs,h1,Value.cells]
  split at hc
  ·simp only [Option.some.injEq] at hc;subst hc;exact key (by assumption) rfl
  ·simp only [Option.some.injEq] at hc;subst hc;exact key (by assumption) rfl
  cases hc
 exact aIP E hc
def oneS (H:SH):SV->Bool
 | .v x=>x.oneCell'
 | .agg _=>false
 | .tup _=>false
 | .buf b=>match bX H b with
  |some (.own _ _ _)=>true
  |some (.ro _ _)=>true
  |_=>false
 |_=>true
def aOE (H:SH):List SV->Bool
 | []=>true
 |x::xs=>match oneS H x with
  |true=>aOE H xs
  |false=>false
theorem oneS_of {E:Env} {F:Nat->Prop} {h:Array Obj} {H:SH} (S:Sat E F H h) {x:SV} (hx:oneS H x=true):(x.g E).oneCell'=true:=by
 cases x with
 |v y=>exact hx
 |agg cs=>cases hx
 |tup vs=>cases hx
 |ptr b off=>rfl
 |row b i off sz=>rfl
 |ifc t y=>rfl
 |fn f a b=>rfl
 |buf b=>
  have key:∀ {y:Blk},bX H b=some y->aQH y=true->(SV.g E (.buf b)).oneCell'=true:=by
   intro y hl hy;obtain ⟨a,n,c,h1⟩:=aIX S hl hy
   simp [SV.g,h1,Value.oneCell']
  simp only [oneS] at hx;split at hx
  ·exact key (by assumption) rfl
  ·exact key (by assumption) rfl
  cases hx
theorem aOF {E:Env} {F:Nat->Prop} {h:Array Obj} {H:SH} (S:Sat E F H h):∀ {xs:List SV},aOE H xs=true->(SV.gs E xs).all Value.oneCell'=true
 | [],_=>rfl
 |x::xs,hx=>by
  simp only [aOE] at hx
  cases h1:oneS H x with
  |false=>simp [h1] at hx
  |true=>
   simp only [h1] at hx;simp only [SV.gs,List.all_cons,oneS_of S h1,aOF S hx,Bool.and_self]
def spl (cs:List SV) (off:Nat) (xs:List SV):List SV:=cs.take off++xs++cs.drop (off+xs.length)
theorem aAR (E:Env) (n:Nat) (cs:List SV):SV.gs E (cs.take n)=(SV.gs E cs).take n:=by simp [aBW]
theorem yY (E:Env) (n:Nat) (cs:List SV):SV.gs E (cs.drop n)=(SV.gs E cs).drop n:=by simp [aBW]
theorem bAM (E:Env) (cs:List SV) (off:Nat) (xs:List SV):SV.gs E (spl cs off xs)=(SV.gs E cs).take off++SV.gs E xs++(SV.gs E cs).drop (off+xs.length):=by
 simp only [spl,sV,aAR,yY]
def putS:List SV->Nat->List SV->List SV
 | [],_,_=>[]
 |c::cs,off,xs=>match off with
  |0=>match xs with
   | []=>c::cs
   |x::xs=>x::putS cs 0 xs
  |off+1=>c::putS cs off xs
theorem aKF:∀(cs:List SV) (off:Nat) (xs:List SV),off+xs.length<=cs.length->putS cs off xs=spl cs off xs
 | [],off,xs,h=>by
  simp only [List.length_nil] at h;have h1:off=0:=by omega
  have h2:xs=[]:=List.eq_nil_of_length_eq_zero (by omega);subst h1 h2;rfl
 |c::cs,0,[],h=>by simp [putS,spl]
 |c::cs,0,x::xs,h=>by
  have:=aKF cs 0 xs (by simp at h;omega);simp only [putS,this,spl]
  simp
 |c::cs,off+1,xs,h=>by
  have:=aKF cs off xs (by simp at h;omega);simp only [putS,this,spl];rw [show off+1+xs.length=(off+xs.length)+1 by omega]
  simp
def aDB (H:SH) (pV:Nat->Option (Nat×Nat)) (cells:List SV):List (Nat×SV)->Option (List SV)
 | []=>some cells
 |(i,x)::rest=>match pV i with
  |none=>none
  |some (off,n)=>match uH H x with
   |none=>none
   |some xs=>match Nat.beq xs.length n with
    |false=>none
    |true=>match Nat.ble (off+n) cells.length with
     |false=>none
     |true=>aDB H pV (putS cells off xs) rest
def gP (E:Env):List (Nat×SV)->List (Nat×Value)
 | []=>[]
 |(i,x)::r=>(i,x.g E)::gP E r
theorem yV {E:Env} {F:Nat->Prop} {h:Array Obj} {H:SH} (S:Sat E F H h) {pV:Nat->Option (Nat×Nat)}:∀ {ps:List (Nat×SV)} {cells cs:List SV},aDB H pV cells ps=some cs->Instr.fill pV (SV.gs E cells).toArray (gP E ps)=some (SV.gs E cs).toArray
 | [],cells,cs,h=>by simp only [aDB,Option.some.injEq] at h;subst h;rfl
 |(i,x)::rest,cells,cs,h=>by
  simp only [aDB] at h;simp only [gP,Instr.fill]
  cases hp:pV i with
  |none=>simp [hp] at h
  |some q=>
   obtain ⟨off,n⟩:=q;simp only [hp] at h ⊢
   cases hc:uH H x with
   |none=>simp [hc] at h
   |some xs=>
    simp only [hc] at h
    cases h1:Nat.beq xs.length n with
    |false=>simp [h1] at h
    |true=>
     cases h2:Nat.ble (off+n) cells.length with
     |false=>simp [h1,h2] at h
     |true=>
      simp only [h1,h2] at h;have hn:=Nat.eq_of_beq_eq_true h1;have hle:=Nat.le_of_ble_eq_true h2;rw [aKF _ _ _ (by omega)] at h;have hv:=aBK S hc;rw [hv,if_neg (by simp [fM];omega)];have IH:=yV S h;rw [<-IH]
      congr 1
      obtain ⟨g1,g2⟩:=Go.Great.foldl_set off (SV.gs E xs) 0 (SV.gs E cells).toArray
      have e1:((SV.gs E xs).toArray.zipIdx.foldl (fun cs (c,j)=>cs.setIfInBounds (off+j) c) (SV.gs E cells).toArray) =
        ((SV.gs E xs).zipIdx 0).foldl (fun cs (x:Value×Nat)=>cs.setIfInBounds (off+x.2) x.1) (SV.gs E cells).toArray:=by
       rw [<-Array.foldl_toList];simp
      rw [e1];apply Array.ext_getElem?;intro j;rw [g2 j,bAM];simp only [Nat.add_zero,List.getElem?_toArray,List.size_toArray,fM];by_cases hj:off<=j/\j<off+xs.length/\j<cells.length
      ·rw [if_pos hj,List.append_assoc,List.getElem?_append_right (by simp [fM];omega),List.getElem?_append_left (by simp [fM];omega)];simp only [List.length_take,fM];rw [Nat.min_eq_left (by omega)]
      rw [if_neg hj];by_cases hj1:j<off
      ·rw [List.append_assoc,List.getElem?_append_left (by simp [fM];omega),List.getElem?_take_of_lt hj1]
      rw [List.getElem?_append_right (by simp [fM];omega),List.getElem?_drop];simp only [List.length_append,List.length_take,fM];rw [Nat.min_eq_left (by omega)]
      congr 1
      omega
def qH (l:SFr):List (Nat×Operand)->Option (List (Nat×SV))
 | []=>some []
 |(i,x)::q=>match evS l x with
  |some v=>match qH l q with
   |some vs=>some ((i,v)::vs)
   |none=>none
  |none=>none
theorem aCB {E:Env} {l:SFr}:∀ {q:List (Nat×Operand)} {ps:List (Nat×SV)},qH l q=some ps->lT (gF E l) q=some (gP E ps)
 | [],ps,h=>by simp only [qH,Option.some.injEq] at h;subst h;rfl
 |(i,x)::q,ps,h=>by
  simp only [qH] at h
  cases hx:evS l x with
  |none=>simp [hx] at h
  |some v=>
   cases hq:qH l q with
   |none=>simp [hx,hq] at h
   |some vs=>
    simp only [hx,hq,Option.some.injEq] at h;subst h;simp only [lT,bN hx,aCB hq,gP]
def unV:List SV->Option (List Value)
 | []=>some []
 |x::xs=>match x with
  | .v x=>match unV xs with
   |some vs=>some (x::vs)
   |none=>none
  |_=>none
theorem aQC (E:Env):∀ {xs:List SV} {vs:List Value},unV xs=some vs->SV.gs E xs=vs
 | [],vs,h=>by simp only [unV,Option.some.injEq] at h;subst h;rfl
 |x::xs,vs,h=>by
  cases x<;>simp only [unV] at h<;>try (cases h;done)
  cases hv:unV xs with
  |none=>simp [hv] at h
  |some ws=>
   simp only [hv,Option.some.injEq] at h;subst h;simp only [SV.gs,SV.g,aQC E hv]
def qR (sz:Nat):Nat->List Value->List (List Value)
 |0,_=>[]
 |m+1,vs=>vs.take sz::qR sz m (vs.drop sz)
theorem aMS (sz:Nat):∀(m:Nat) (vs:List Value),vs.length=m*sz->(∀r∈qR sz m vs,r.length=sz)/\(qR sz m vs).length=m/\(qR sz m vs).flatten=vs
 |0,vs,h=>by
  have:vs=[]:=List.eq_nil_of_length_eq_zero (by simpa using h);subst this
  simp [qR]
 |m+1,vs,h=>by
  rw [Nat.add_mul] at h;obtain ⟨h1,h2,h3⟩:=aMS sz m (vs.drop sz) (by simp;omega);refine ⟨fun r hr=>?_,by simp [qR,h2],by simp [qR,h3]⟩;simp only [qR,List.mem_cons] at hr;rcases hr with rfl|hr
  ·simp;omega
  exact h1 r hr
def tL (z:List Value):Nat->List Value
 |0=>[]
 |m+1=>z++tL z m
theorem xB (z:List Value):∀m,(tL z m).length=m*z.length
 |0=>by simp [tL]
 |m+1=>by simp [tL,xB z m,Nat.add_mul];omega
theorem aCC (z:List Value):∀(m i:Nat),i<m*z.length->(tL z m)[i]? = z[i%z.length]?
 |0,i,h=>by simp at h
 |m+1,i,h=>by
  rw [Nat.add_mul] at h;simp only [tL];by_cases hi:i<z.length
  ·rw [List.getElem?_append_left hi,Nat.mod_eq_of_lt hi]
  rw [List.getElem?_append_right (by omega),aCC z m _ (by omega)]
  congr 1
  conv=>rhs;rw [<-Nat.sub_add_cancel (show z.length<=i by omega),Nat.add_mod_right]
theorem aJG (z:List Value):∀m,tL z m=(List.replicate m z).flatten
 |0=>rfl
 |m+1=>by simp [tL,aJG z m,List.replicate_succ]
theorem aPW (z:Array Value) (m:Nat):((Array.range (m*z.size)).map ((if m*z.size=0 then #[] else z)[· % (if m*z.size=0 then #[] else z).size]!))=(tL z.toList m).toArray:=by
 by_cases h0:m*z.size=0
 ·simp only [h0,if_true];have:tL z.toList m=[]:=List.eq_nil_of_length_eq_zero (by rw [xB];simpa using h0);rw [this];simp
 simp only [h0,if_false];apply Array.ext_getElem?;intro i;by_cases hi:i<m*z.size
 ·have h1:=aCC z.toList m i (by simpa using hi);have hz:0<z.size:=Nat.pos_of_ne_zero (fun e=>h0 (by simp [e]));have hlt:=Nat.mod_lt i hz;simp only [List.getElem?_toArray,h1,Array.length_toList,Array.getElem?_toList];rw [Array.getElem?_map,Array.getElem?_range]
  simp [hi,hlt,getElem!_pos]
 rw [Array.getElem?_eq_none (by simp;omega),Array.getElem?_eq_none (by simp [xB];omega)]
def remO (H:SH):Option Nat->SH
 |some b=>aAA H b
 |none=>H
def aAH:List Value->Bool
 | []=>true
 |x::xs=>match x.oneCell' with
  |true=>aAH xs
  |false=>false
theorem uO:∀ {xs:List Value},aAH xs=true -> ∀v∈xs,v.oneCell'=true
 | [],_,v,h=>by cases h
 |x::xs,hx,v,h=>by
  simp only [aAH] at hx
  cases h1:x.oneCell' with
  |false=>simp [h1] at hx
  |true=>
   simp only [h1] at hx;rcases List.mem_cons.1 h with rfl|h
   ·exact h1
   exact uO hx v h
def jX (row:List Value) (off:Nat) (vals:List Value):List Value:=row.take off++vals++row.drop (off+vals.length)
def rowsAt (H:SH) (b:Nat):Option (Nat×List (List Value)):=
 match bX H b with
 |some (.own _ sz rows)=>some (sz,rows)
 |some (.ro sz rows)=>some (sz,rows)
 |_=>none
structure DP where
 p:Prop
 d:Decidable p
def qC (k:Nat) (x y:SV):Option DP:=
 match k with
 |0=>match x with
  | .v (.bool a)=>match y with
   | .v (.bool b)=>some ⟨a=b,inferInstance⟩
   |_=>none
  |_=>none
 |1=>match x with
  | .v (.int k a)=>match y with
   | .v (.int k' b)=>match same k k' with
    |true=>some ⟨a=b,inferInstance⟩
    |false=>none
   |_=>none
  |_=>none
 |2=>match x with
  | .v (.string a)=>match y with
   | .v (.string b)=>some ⟨a=b,inferInstance⟩
   |_=>none
  |_=>none
 |_=>none
def mN:List Nat->List SV->List SV->Option DP
 | [],[],[]=>some ⟨True,inferInstance⟩
 |k::ks,x::xs,y::ys=>match qC k x y with
  |some ⟨p,i⟩=>match ks with
   | []=>match xs with
    | []=>match ys with
     | []=>some ⟨p,i⟩
     |_::_=>none
    |_::_=>none
   |_::_=>match mN ks xs ys with
    |some ⟨q,j⟩=>some ⟨p/\q,@instDecidableAnd p q i j⟩
    |none=>none
  |none=>none
 |_,_,_=>none
def rL:SV->Option (List SV)
 | .agg cs=>some cs
 | .v (.agg cs)=>some (toV cs.toList)
 |_=>none
def eqA (T:Tab P) (op:BinOp) (t:TypeId) (x y:SV):PuS:=
 match aUE T.eqs t with
 |some ks=>match rL x with
  |some xs=>match rL y with
   |some ys=>match mN ks xs ys with
    |some ⟨p,i⟩=>match op with
     | .eql=>.tst p i
     | .neq=>.ntst p i
     |_=>.stop
    |none=>.stop
   |none=>.stop
  |none=>.stop
 |none=>.stop
def isAggS:SV->Bool
 | .agg _=>true
 | .v (.agg _)=>true
 |_=>false
def evO (T:Tab P) (l:SFr) (H:SH) (nx:Nat) (op:Op):PuS:=
 match op with
 | .move x=>match evS l x with
  |some v=>.val v
  |none=>.stop
 | .assign x=>match evS l x with
  |some v=>.val v
  |none=>.stop
 | .pick c a b=>match evS l c with
  |some (.v (.bool true))=>match evS l a with
   |some v=>.val v
   |none=>.stop
  |some (.v (.bool false))=>match evS l b with
   |some v=>.val v
   |none=>.stop
  |_=>.stop
 | .extract t i=>match evS l t with
  |some (.tup vs)=>match nth vs i with
   |some v=>.val v
   |none=>.stop
  |some (.v _)=>jH T l op
  |_=>.stop
 | .fieldAddr t x f=>match evS l x with
  |some (.ptr b off)=>match bC T.und t with
   |some (.struct fs)=>match nth fs f with
    |some (o,_,_)=>match o with
     |0=>.val (.ptr b off)
     |o+1=>.val (.ptr b (off+(o+1)))
    |none=>.stop
   |_=>.stop
  |some (.row b i off sz)=>match bC T.und t with
   |some (.struct fs)=>match nth fs f with
    |some (o,_,_)=>match o with
     |0=>.val (.row b i off sz)
     |o+1=>.val (.row b i (off+(o+1)) sz)
    |none=>.stop
   |_=>.stop
  |some (.v _)=>jH T l op
  |_=>.stop
 | .field t x f=>match evS l x with
  |some (.agg cs)=>match bC T.und t with
   |some (.struct fs)=>match nth fs f with
    |some (o,_,false)=>match nth cs o with
     |some v=>.val v
     |none=>.stop
    |some (o,n,true)=>.vala ((cs.drop o).take n)
    |none=>.stop
   |_=>.stop
  |some (.v _)=>jH T l op
  |_=>.stop
 | .indexAddr t x i=>match evS l x with
  |some (.buf b)=>match evS l i with
   |some (.v (.int _ n))=>match bC T.und t with
    |some (.slice _ sz)=>match rowsAt H b with
     |some (sz',rows)=>match Nat.beq sz sz' with
      |true=>.ob (0<=n/\n<rows.length) (.row b n 0 sz)
      |false=>.stop
     |none=>.stop
    |_=>.stop
   |_=>.stop
  |some (.ptr b off)=>match evS l i with
   |some (.v (.int _ n))=>match bC T.und t with
    |some (.array len _ sz)=>.ob (0<=n/\n<len) (.ptr b (off+n.toNat*sz))
    |_=>.stop
   |_=>.stop
  |some (.v _)=>jH T l op
  |_=>.stop
 | .nilCheck x=>match evS l x with
  |some (.ptr b off)=>.val (.ptr b off)
  |some (.row b i off sz)=>.val (.row b i off sz)
  |some (.v _)=>jH T l op
  |_=>.stop
 | .makeInterface t x=>match evS l x with
  |some (.v _)=>jH T l op
  |some y=>match bC T.und t with
   |some .iface=>.stop
   |some _=>.val (.ifc t y)
   |none=>.stop
  |none=>.stop
 | .makeFunc fn first captured=>match gK l first.toList with
  |some a=>match gK l captured.toList with
   |some b=>.val (.fn fn a b)
   |none=>.stop
  |none=>.stop
 | .load t x=>match evS l x with
  |some (.ptr b off)=>match bX H b with
   |some (.cells _ cs)=>match eY T t with
    |true=>match nth cs off with
     |some v=>.val v
     |none=>.stop
    |false=>match uY T t with
     |true=>match cT T.inf t with
      |some i=>match Nat.ble (off+i.size) cs.length with
       |true=>.vala ((cs.drop off).take i.size)
       |false=>.stop
      |none=>.stop
     |false=>.stop
   |_=>.stop
  |some (.row b i off sz)=>match rowsAt H b with
   |some (sz',rows)=>match Nat.beq sz sz' with
    |true=>match eY T t with
     |true=>.rowv rows i off
     |false=>match uY T t with
      |true=>match cT T.inf t with
       |some j=>.rowa rows i off j.size
       |none=>.stop
      |false=>.stop
    |false=>.stop
   |none=>.stop
  |some (.v (.pointer (some ⟨b,off,none⟩)))=>match eY T t with
   |true=>.old b off
   |false=>match uY T t with
    |true=>match cT T.inf t with
     |some j=>.olda b off j.size
     |none=>.stop
    |false=>.stop
  |_=>.stop
 | .store t x y=>match evS l x with
  |some (.ptr b off)=>match bX H b with
   |some (.cells t' cs)=>match evS l y with
    |some v=>match cT T.inf t with
     |some i=>match uH H v with
      |some xs=>match Nat.beq xs.length i.size with
       |true=>match aOE H xs with
        |true=>match Nat.ble (off+xs.length) cs.length with
         |true=>.put b (.cells t' (spl cs off xs))
         |false=>.stop
        |false=>.stop
       |false=>.stop
      |none=>.stop
     |none=>.stop
    |none=>.stop
   |_=>.stop
  |some (.row b i off sz)=>match bX H b with
   |some (.own e sz' rows)=>match Nat.beq sz sz' with
    |true=>match evS l y with
     |some v=>match cT T.inf t with
      |some j=>match aBS v with
       |some xs=>match unV xs with
        |some vals=>match Nat.beq vals.length j.size with
         |true=>match aAH vals with
          |true=>match Nat.ble (off+vals.length) sz with
           |true=>.rput b e sz rows i off vals
           |false=>.stop
          |false=>.stop
         |false=>.stop
        |none=>.stop
       |none=>.stop
      |none=>.stop
     |none=>.stop
    |false=>.stop
   |_=>.stop
  |_=>.stop
 | .box t x=>match evS l x with
  |some v=>match uH H v with
   |some cs=>.new (.ptr nx 0) (.cells t cs)
   |none=>.stop
  |none=>.stop
 | .alloc t=>match cT T.inf t with
  |some i=>.new (.ptr nx 0) (.cells t (toV i.zero.cells.toList))
  |none=>.stop
 | .build t parts=>match qH l parts.toList with
  |some ps=>match cT T.inf t with
   |some i=>match bC T.und t with
    |some (.struct fs)=>match aDB H (fun k=>match nth fs k with|some (o,n,_)=>some (o,n)|none=>none) (toV i.zero.cells.toList) ps with
     |some cs=>.vala cs
     |none=>.stop
    |some (.array _ _ sz)=>match aDB H (fun k=>some (k*sz,sz)) (toV i.zero.cells.toList) ps with
     |some cs=>.vala cs
     |none=>.stop
    |_=>.stop
   |none=>.stop
  |none=>.stop
 | .buildSlice t m parts=>match bC T.und t with
  |some (.slice e sz)=>match cT T.inf e with
   |some i=>match Nat.beq i.zero.cells.size i.size with
    |true=>match qH l parts.toList with
     |some ps=>match Nat.ble (m*i.size) 16777216 with
      |true=>match aDB H (fun j=>some (j*i.size,i.size)) (toV (tL i.zero.cells.toList m)) ps with
       |some cs=>match unV cs with
        |some vs=>match Nat.beq vs.length (m*i.size) with
         |true=>match aAH vs with
          |true=>match Nat.ble m 16777216 with
           |true=>.new (.buf nx) (.own e i.size (qR i.size m vs))
           |false=>.stop
          |false=>.stop
         |false=>.stop
        |none=>.stop
       |none=>.stop
      |false=>.stop
     |none=>.stop
    |false=>.stop
   |none=>.stop
  |_=>.stop
 | .makeSlice t x y=>match evS l x with
  |some (.v (.int _ n))=>match evS l y with
   |some (.v (.int _ m))=>match bC T.und t with
    |some (.slice e _)=>match cT T.inf e with
     |some i=>match Nat.beq i.zero.cells.size i.size with
      |true=>match aAH i.zero.cells.toList with
       |true=>.newo (0<=n/\n<=m/\(i.bytes:Int)*m<=281474976710656/\m<=9223372036854775807) (.buf nx) (.own e i.size (List.replicate n.toNat i.zero.cells.toList))
       |false=>.stop
      |false=>.stop
     |none=>.stop
    |_=>.stop
   |_=>.stop
  |_=>.stop
 | .call c=>match c.callee with
  | .builtin .append=>match c.args.toList with
   | [x,y]=>match c.argTypes.toList with
    | [t,t2]=>match Nat.beq t t2 with
     |true=>match bC T.und t with
      |some (.slice e _)=>match cT T.inf e with
       |some i=>match Nat.beq i.zero.cells.size i.size with
        |true=>match Nat.blt 0 i.size with
         |true=>match evS l y with
          |some (.buf b2)=>match rowsAt H b2 with
           |some (sz2,rows2)=>match Nat.beq sz2 i.size with
            |true=>match evS l x with
             |some (.buf b)=>match bX H b with
              |some (.own e' sz rows)=>match Nat.beq e e' with
               |true=>match Nat.beq sz i.size with
                |true=>.app (0<1/\rows.length+rows2.length<=9223372036854775807/\(rows.length+rows2.length)*i.bytes<=140737488355328/\b≠b2) (some b) (.own e sz (rows++rows2))
                |false=>.stop
               |false=>.stop
              |_=>.stop
             |some (.v (.slice none 0 0))=>.app (0<1/\rows2.length<=9223372036854775807/\rows2.length*i.bytes<=140737488355328) none (.own e i.size rows2)
             |_=>.stop
            |false=>.stop
           |none=>.stop
          |_=>.stop
         |false=>.stop
        |false=>.stop
       |none=>.stop
      |_=>.stop
     |false=>.stop
    |_=>.stop
   |_=>.stop
  | .builtin .len=>match c.args.toList with
   | [x]=>match evS l x with
    |some (.buf b)=>match c.argTypes.toList with
     | [t]=>match bC T.und t with
      |some (.slice _ _)=>match rowsAt H b with
       |some (_,rows)=>.val (.v (.int .i64 rows.length))
       |none=>.stop
      |_=>.stop
     |_=>.stop
    |some (.v _)=>jH T l op
    |_=>.stop
   |_=>.stop
  | .builtin .max=>jH T l op
  | .builtin .min=>jH T l op
  |_=>.stop
 | .binOp bop t x y _=>match evS l x with
  |some a=>match isAggS a with
   |true=>match evS l y with
    |some b=>eqA T bop t a b
    |none=>.stop
   |false=>match bop with
    | .rem=>match a with
     | .v (.int .i64 m)=>match evS l y with
      |some (.v (.int .i64 n))=>.rem m n
      |_=>.stop
     |_=>jH T l op
    |_=>jH T l op
  |none=>.stop
 | .unOp _ _ _=>jH T l op
 | .convert t t2 x=>match evS l x with
  |some (.buf b)=>match bC T.und t with
   |some (.slice e _)=>match bC T.und e with
    |some (.int .u8)=>match bC T.und t2 with
     |some .str=>match rowsAt H b with
      |some (1,rows)=>.bytes rows
      |_=>.stop
     |_=>.stop
    |_=>.stop
   |_=>.stop
  |_=>jH T l op
 | .index _ _ _=>jH T l op
 | .slice t x lo hi none=>match evS l x with
  |some (.buf b)=>match bX H b with
   |some (.ro sz rows)=>match bC T.und t with
    |some (.slice _ sz')=>match Nat.beq sz' sz with
     |true=>match lo with
      |none=>match hi with
       |some y=>match evS l y with
        |some (.v (.int _ n))=>.sub (0<=n/\n<=rows.length) (.ro sz (rows.take n.toNat))
        |_=>.stop
       |none=>.stop
      |some y=>match hi with
       |none=>match evS l y with
        |some (.v (.int _ n))=>.sub (0<=n/\n<=rows.length) (.ro sz (rows.drop n.toNat))
        |_=>.stop
       |some _=>.stop
     |false=>.stop
    |_=>.stop
   |_=>.stop
  |_=>jH T l op
 |_=>.stop

section
variable (P) (n:Nat) (F:Nat->Prop) (h0:Array Obj) (nx:Nat) (l:SFr) (H:SH) (o:Oper)
def PuS.ok:PuS->Prop
 | .stop=>True
 | .val x=>cJ P n F h0 l H o x H
 | .vala cs=>cJ P n F h0 l H o (.agg cs) H
 | .ob p x=>p->cJ P n F h0 l H o x H
 | .tst p i=>cJ P n F h0 l H o (.v (.bool (@decide p i))) H
 | .ntst p i=>cJ P n F h0 l H o (.v (.bool (!@decide p i))) H
 | .new x b=>bdH nx H=true->bdB nx b=true->aEU P n F h0 nx l H o x ((nx,b)::H)
 | .newo p x b=>p->bdH nx H=true->bdB nx b=true->aEU P n F h0 nx l H o x ((nx,b)::H)
 | .app p r b=>p->bdH nx H=true->aEU P n F h0 nx l H o (.buf nx) ((nx,b)::remO H r)
 | .put b y=>cJ P n F h0 l H o (.v undef) (nG H b y)
 | .puto p b y=>p->cJ P n F h0 l H o (.v undef) (nG H b y)
 | .rowv rows i off=>∀row,rows[i.toNat]? = some row -> ∀x,nth row off=some x->cJ P n F h0 l H o (.v x) H
 | .rowa rows i off m=>∀row,rows[i.toNat]? = some row->off+m<=row.length->cJ P n F h0 l H o (.agg (toV ((row.drop off).take m))) H
 | .rput b e sz rows i off vals=>∀row,rows[i.toNat]? = some row->cJ P n F h0 l H o (.v undef) (nG H b (.own e sz (rows.set i.toNat (jX row off vals))))
 | .rem x y=>∀r,aPM x y r->cJ P n F h0 l H o (.v (.int .i64 r)) H
 | .sub p b=>p->bdH nx H=true -> ∀E h,Sat E F H h->Kp F h0 h -> ∃v,(∀a w,bB n (gF E l) a->(execOp a.eval o).run P w=.ok (.value v) w)/\Sat (push E nx v) F ((nx,b)::H) h
 | .bytes rows=>∀is,rows=jK is->EffL P n F h0 l H o (.v (.string (strI is))) H
 | .old b off=>∀v,OldC F h0 b off v->cJ P n F h0 l H o (.v v) H
 | .olda b off m=>∀vs,vs.length=m->aMF F h0 b off vs->cJ P n F h0 l H o (.agg (toV vs)) H
end
section
variable {n:Nat} {F:Nat->Prop} {h0:Array Obj} {nx:Nat} {l:SFr} {H:SH} {o:Oper}
theorem eE (T:Tab P) (op:Op) (ho:o.op=op):(jH T l op).ok P n F h0 nx l H o:=by
 have key:∀E a w,bB n (gF E l) a->(ev1 T (evl l (opnds op)) op).ok fun v=>(execOp a.eval o).run P w=.ok (.value v) w:=fun E a w ha=>yO T n _ op a w o (ha.sub (aDT E l _)) ho;unfold jH
 cases hv:ev1 T (evl l (opnds op)) op with
 |stop=>trivial
 |val v=>exact cJ.of_plain fun E h S K a w ha=>by have:=key E a w ha;rw [hv] at this;exact this
 |ob p v=>exact fun hp=>cJ.of_plain fun E h S K a w ha=>by have:=key E a w ha;rw [hv] at this;exact this hp
 |tst p i=>exact cJ.of_plain fun E h S K a w ha=>by have:=key E a w ha;rw [hv] at this;exact this
 |ntst p i=>exact cJ.of_plain fun E h S K a w ha=>by have:=key E a w ha;rw [hv] at this;exact this
theorem Sat.cellsAt {E:Env} {h:Array Obj} (S:Sat E F H h) {b:Nat} {t:TypeId} {cs:List SV} (hl:bX H b=some (.cells t cs)):
  E b=.pointer (some ⟨iI (E b),0,none⟩)/\At h (iI (E b)) (SV.gs E cs).toArray t /\ ¬F (iI (E b)):=by
 obtain ⟨g,h1,h2,h3⟩:=S.ok _ (bW hl);simp only at h1;have:iI (E b)=g:=by rw [h1];rfl
 rw [this];exact ⟨h1,h2,h3⟩
theorem Sat.rowsAt {E:Env} {h:Array Obj} (S:Sat E F H h) {b sz:Nat} {rows:List (List Value)} (hl:rowsAt H b=some (sz,rows)):
  mH sz rows /\ ∃a cap,E b=.slice a rows.length cap/\(rows=[] \/ ∃g o,a=some ⟨g,o,none⟩/\jY h g o rows.flatten):=by
 unfold Fw.rowsAt at hl;split at hl
 ·rename_i e sz' rows' hb
  simp only [Option.some.injEq,Prod.mk.injEq] at hl;obtain ⟨rfl,rfl⟩:=hl;obtain ⟨h1,h2,h3⟩:=S.ok _ (bW hb);refine ⟨h1,?_⟩;obtain ⟨h4,⟨h5,h6⟩|⟨g,cap,cur,h5,h6,h7,h8,h9,h10,h11⟩⟩:=h2
  ·simp only at h5;exact ⟨none,0,by rw [h5,h6],.inl (List.eq_nil_of_length_eq_zero h6)⟩
  refine ⟨_,cap,h5,.inr ⟨g,0,rfl,fun j v hj=>?_⟩⟩;rw [<-h11] at hj;rw [h7.cell,Nat.zero_add];rw [List.getElem?_take] at hj;split at hj
  ·simpa using hj
  cases hj
 ·rename_i sz' rows' hb
  simp only [Option.some.injEq,Prod.mk.injEq] at hl;obtain ⟨rfl,rfl⟩:=hl;obtain ⟨h1,_,a,cap,h2,h3⟩:=S.ok _ (bW hb);refine ⟨h1,a,cap,h2,?_⟩;rcases h3 with h3|⟨g,o,h3,_,h4⟩
  ·exact .inl h3
  exact .inr ⟨g,o,h3,h4⟩
 cases hl
theorem Sat.rowsLen {E:Env} {h:Array Obj} (S:Sat E F H h) {b sz:Nat} {rows:List (List Value)} (hl:Fw.rowsAt H b=some (sz,rows)):rows.length<=9223372036854775807:=by
 unfold Fw.rowsAt at hl;split at hl
 ·rename_i e sz' rows' hb
  simp only [Option.some.injEq,Prod.mk.injEq] at hl;obtain ⟨rfl,rfl⟩:=hl;obtain ⟨h1,⟨h4,⟨h5,h6⟩|⟨g,cap,cur,h5,h6,h7,h8,h9,h10,h11⟩⟩,h3⟩:=S.ok _ (bW hb)
  ·omega
  have e:maxLen=9223372036854775807:=rfl;omega
 ·rename_i sz' rows' hb
  simp only [Option.some.injEq,Prod.mk.injEq] at hl;obtain ⟨rfl,rfl⟩:=hl;obtain ⟨h1,h2,_⟩:=S.ok _ (bW hb);exact h2.1
 cases hl
theorem Sat.rowsCap {E:Env} {h:Array Obj} (S:Sat E F H h) {b sz:Nat} {rows:List (List Value)} (hl:Fw.rowsAt H b=some (sz,rows)):aUS (E b):=by
 unfold Fw.rowsAt at hl;split at hl
 ·rename_i e sz' rows' hb
  obtain ⟨h1,⟨h4,⟨h5,h6⟩|⟨g,cap,cur,h5,h6,h7,h8,h9,h10,h11⟩⟩,h3⟩:=S.ok _ (bW hb)
  ·simp only at h5;rw [h5];exact Nat.le_refl 0
  simp only at h5;rw [h5];exact h8
 ·rename_i sz' rows' hb
  obtain ⟨h1,h2,_⟩:=S.ok _ (bW hb);exact h2.2
 cases hl
theorem vK {sz:Nat}:∀ {rows:List (List Value)} {i off:Nat} {row:List Value} {x:Value},mH sz rows->rows[i]? = some row->row[off]? = some x->rows.flatten[i*sz+off]? = some x
 | [],i,off,row,x,_,h,_=>by simp at h
 |r::rs,0,off,row,x,hl,h,hx=>by
  simp only [List.getElem?_cons_zero,Option.some.injEq] at h;subst h;have:=(List.getElem?_eq_some_iff.1 hx).1;rw [List.flatten_cons,List.getElem?_append_left (by omega),Nat.zero_mul,Nat.zero_add];exact hx
 |r::rs,i+1,off,row,x,hl,h,hx=>by
  have hr:=(hl r (List.mem_cons_self ..)).1;rw [List.flatten_cons,List.getElem?_append_right (by rw [hr,Nat.add_mul];omega)];have:(i+1)*sz+off - r.length=i*sz+off:=by rw [hr,Nat.add_mul];omega
  rw [this];exact vK (fun q hq=>hl q (List.mem_cons_of_mem _ hq)) (by simpa using h) hx
theorem aFQ (T:Tab P) {L:Fr} {h:Array Obj} {t:TypeId} {x y:Operand} {b off:Nat} {v:Value} {cs:Array Value} {e:TypeId} {i:Inf} (hat:At h b cs e)
  (hop:o.op=.store t x y) (hx:ev L x=some (.pointer (some ⟨b,off,none⟩))) (hy:ev L y=some v) (hi:cT T.inf t=some i)
  (hsz:v.cells.size=i.size) (h1:v.cells.toList.all Value.oneCell'=true) (hlt:off+v.cells.size<=cs.size):
  Eff P n L h o (fun v' h'=>v'=undef/\h'=setB h b ((cs.toList.take off)++v.cells.toList++(cs.toList.drop (off+v.cells.size))).toArray e):=by
 refine Eff.of_skip fun a w ha hh=>?_;have hg:w.heap[b]? = some (.cells cs e (0,0)):=by rw [hh];exact hat
 have hst:=run_storeCells_at P b off e v.cells.toList 0 cs w hg (by simpa using hlt) (List.all_eq_true.1 h1);simp only [Nat.add_zero,Array.length_toList] at hst;refine ⟨w.setRow b (cs.toList.take off++v.cells.toList++cs.toList.drop (off+v.cells.size)).toArray,?_,⟨rfl,rfl,rfl⟩,rfl,(tX hg _).trans (by rw [hh])⟩
 simp [execOp,hop,ha.ev hx,ha.ev hy,Instr.storeAt,Instr.sureAddr,storeVar,kK T hi,hsz,hst]
theorem tJ {h:Array Obj} {b k:Nat} (hne:k≠b) (cs:Array Value) (e:TypeId):(setB h b cs e)[k]? = h[k]? :=bGC hne cs e
theorem Sat.putB {E:Env} {h:Array Obj} (S:Sat E F H h) (K:Kp F h0 h) {b:Nat} {t:TypeId} {cs cs':List SV} (hl:bX H b=some (.cells t cs)):
  Sat E F (nG H b (.cells t cs')) (setB h (iI (E b)) (SV.gs E cs').toArray t)/\Kp F h0 (setB h (iI (E b)) (SV.gs E cs').toArray t):=by
 obtain ⟨h1,h2,h3⟩:=S.cellsAt hl;have hF:∀k,F k->(setB h (iI (E b)) (SV.gs E cs').toArray t)[k]? = h[k]? :=fun k hk=>tJ (fun e=>h3 (by rw [<-e];exact hk)) _ _;have hy:(Blk.cells t cs').ok E F (setB h (iI (E b)) (SV.gs E cs').toArray t) (E b):=⟨_,h1,fQ h2.lt _ _,h3⟩;refine ⟨Sat.set (x:=.cells t cs) rfl rfl hy hF (fun g hg=>.inl (tJ (fun e=>hg ?_) _ _)) S hl,⟨by simpa [setB] using K.size,fun k hk=>(hF k hk).trans (K.same k hk),K.lt⟩⟩;rw [h1];simp [ownB,e]
theorem Sat.pushB {E:Env} {h:Array Obj} (S:Sat E F H h) (K:Kp F h0 h) (ob:Obj):Sat E F H (h.push ob)/\Kp F h0 (h.push ob):=
 S.keeps K ⟨by simp,fun k hk=>pF hk ob⟩
theorem Sat.newCells {E:Env} {h:Array Obj} (S:Sat E F H h) (K:Kp F h0 h) (hb:bdH nx H=true) (t:TypeId) (cs:List SV) (hbs:SV.bds nx cs=true) (vs:Array Value) (hcs:vs=(SV.gs E cs).toArray):
  Sat (push E nx (.pointer (some ⟨h.size,0,none⟩))) F ((nx,.cells t cs)::H) (h.push (.cells vs t (0,0)))/\Kp F h0 (h.push (.cells vs t (0,0))):=by
 obtain ⟨S',K'⟩:=S.pushB K (.cells vs t (0,0));refine ⟨S'.add hb ⟨h.size,rfl,?_,K.ge (Nat.le_refl _)⟩ (fun _ p hp hw g hg e=>?_),K'⟩
 ·rw [SV.gs_ag (gA _ _ _) _ hbs,<-hcs];exact gH _ _ _
 have:=(Blk.lt (S.ok p hp) hw hg).1;simp only [ownB,Option.some.injEq] at e;omega
theorem xN {v:Value} {a:Option Addr} {m c:Nat} (h:v=.slice a m c):v.ownBlock=ownB v:=by subst h;cases a<;>rfl
end

section
variable {n:Nat} {F:Nat->Prop} {h0:Array Obj} {nx:Nat} {l:SFr} {H:SH} {o:Oper}
theorem bAP {x:Operand} {v:SV} (ho:o.op=.move x) (hx:evS l x=some v):cJ P n F h0 l H o v H:=
 cJ.of_plain fun E h S K a w ha=>by simp [execOp,ho,ha.ev (bN hx)]
theorem aQW {x:Operand} {v:SV} (ho:o.op=.assign x) (hx:evS l x=some v):cJ P n F h0 l H o v H:=
 cJ.of_plain fun E h S K a w ha=>by simp [execOp,ho,ha.ev (bN hx)]
theorem aPP {c x y:Operand} {b:Bool} {v:SV} (ho:o.op=.pick c x y) (hc:evS l c=some (.v (.bool b))) (hx:evS l (if b then x else y)=some v):cJ P n F h0 l H o v H:=
 cJ.of_plain fun E h S K a w ha=>by
  have h1:a.eval c=.bool b:=ha.ev (bN hc);have h2:=ha.ev (bN (E:=E) hx);cases b<;>simp at h2<;>simp [execOp,ho,h1,h2,asBool]
theorem aOQ {t:Operand} {i:Nat} {vs:List SV} {v:SV} (ho:o.op=.extract t i) (ht:evS l t=some (.tup vs)) (hv:nth vs i=some v):cJ P n F h0 l H o v H:=
 cJ.of_plain fun E h S K a w ha=>by
  rw [fW] at hv;have h1:=ha.ev (bN (E:=E) ht);simp only [SV.g] at h1
  simp [execOp,ho,h1,Instr.extract,uR,hv]
theorem aOD (T:Tab P) {t:TypeId} {fs:List (Nat×Nat×Bool)} {f oo m:Nat} {q:Bool} (hu:bC T.und t=some (.struct fs)) (hn:nth fs f=some (oo,m,q)) (b off:Nat) (w:World):
  (Instr.fieldAt t (.pointer (some ⟨b,off,none⟩)) f).run P w=.ok (.pointer (some ⟨b,off+oo,none⟩)) w:=by
 have key:=aIZ T t (.pointer (some ⟨b,off,none⟩)) f w;unfold aLV at key;simp only [hu,hn] at key
 cases oo with
 |zero=>exact key
 |succ k=>exact key
theorem wZ {t:TypeId} (T:Tab P) {x:Operand} {f oo m:Nat} {q:Bool} {fs:List (Nat×Nat×Bool)} (ho:o.op=.fieldAddr t x f) (hu:bC T.und t=some (.struct fs)) (hn:nth fs f=some (oo,m,q)) {y z:SV}
  (hx:evS l x=some y) (hyz:∀E,∃b off,y.g E=.pointer (some ⟨b,off,none⟩)/\z.g E=.pointer (some ⟨b,off+oo,none⟩)):cJ P n F h0 l H o z H:=
 cJ.of_plain fun E h S K a w ha=>by
  obtain ⟨b,off,e1,e2⟩:=hyz E;have h1:=ha.ev (bN (E:=E) hx);rw [e1] at h1
  simp [execOp,ho,h1,aOD T hu hn,e2]
theorem aGD {t:TypeId} (T:Tab P) {x:Operand} {f:Nat} {cs:List SV} {z:SV} (ho:o.op=.field t x f) (hx:evS l x=some (.agg cs))
  (hz:∀E,uF T t (.agg (SV.gs E cs).toArray) f=.val (z.g E)):cJ P n F h0 l H o z H:=
 cJ.of_plain fun E h S K a w ha=>by
  have h1:=ha.ev (bN (E:=E) hx);simp only [SV.g] at h1;have key:=aHV T t (.agg (SV.gs E cs).toArray) f w;rw [hz E] at key;simp only [Pu.ok] at key
  simp [execOp,ho,h1,key]
theorem aPB (T:Tab P) {t e sz:Nat} (hu:bC T.und t=some (.slice e sz)) (b off len cap:Nat) (k:IntKind) (i:Int) (hi:0<=i/\i<len) (w:World):
  (Instr.indexAt t (.slice (some ⟨b,off,none⟩) len cap) (.int k i)).run P w=.ok (.pointer (some ⟨b,off+i.toNat*sz,none⟩)) w:=by
 have key:=xQ T t (.slice (some ⟨b,off,none⟩) len cap) (.int k i) w;unfold zD at key;simp only [hu] at key
 cases hb:Nat.beq sz 1 with
 |true=>
  have:=Nat.eq_of_beq_eq_true hb;subst this;simp only [hb] at key;rw [Nat.mul_one];exact key hi
 |false=>simp only [hb] at key;exact key hi
theorem aVT (T:Tab P) {t e sz b:Nat} {x i:Operand} {k:IntKind} {j:Int} {rows:List (List Value)} (ho:o.op=.indexAddr t x i) (hx:evS l x=some (.buf b)) (hi:evS l i=some (.v (.int k j)))
  (hu:bC T.und t=some (.slice e sz)) (hr:rowsAt H b=some (sz,rows)) (hj:0<=j/\j<rows.length):cJ P n F h0 l H o (.row b j 0 sz) H:=
 cJ.of_plain fun E h S K a w ha=>by
  obtain ⟨h1,ad,cap,h2,h3⟩:=S.rowsAt hr;have h4:=ha.ev (bN (E:=E) hx);have h5:=ha.ev (bN (E:=E) hi);simp only [SV.g] at h4 h5;rcases h3 with rfl|⟨g,oo,rfl,_⟩
  ·simp at hj;omega
  have key:=aPB T hu g oo rows.length cap k j hj w;rw [h2] at h4
  simp [execOp,ho,h4,h5,key,SV.g,h2,iI,ownB,aGG]
theorem aPX (T:Tab P) {t e sz b off len:Nat} {x i:Operand} {k:IntKind} {j:Int} (ho:o.op=.indexAddr t x i) (hx:evS l x=some (.ptr b off)) (hi:evS l i=some (.v (.int k j)))
  (hu:bC T.und t=some (.array len e sz)) (hj:0<=j/\j<len):cJ P n F h0 l H o (.ptr b (off+j.toNat*sz)) H:=
 cJ.of_plain fun E h S K a w ha=>by
  have h4:=ha.ev (bN (E:=E) hx);have h5:=ha.ev (bN (E:=E) hi);simp only [SV.g] at h4 h5;have key:=xQ T t (.pointer (some ⟨iI (E b),off,none⟩)) (.int k j) w;unfold zD at key;simp only [hu] at key;have:(Instr.indexAt t (.pointer (some ⟨iI (E b),off,none⟩)) (.int k j)).run P w=.ok (.pointer (some ⟨iI (E b),off+j.toNat*sz,none⟩)) w:=by
   cases hb:Nat.beq sz 1 with
   |true=>
    have:=Nat.eq_of_beq_eq_true hb;subst this;simp only [hb] at key;rw [Nat.mul_one];exact key hj
   |false=>simp only [hb] at key;exact key hj
  simp [execOp,ho,h4,h5,this,SV.g]
theorem aTY {x:Operand} {y:SV} (ho:o.op=.nilCheck x) (hx:evS l x=some y) (hy:∀E,∃a,y.g E=.pointer (some a)):cJ P n F h0 l H o y H:=
 cJ.of_plain fun E h S K a w ha=>by
  obtain ⟨ad,e⟩:=hy E;have h1:=ha.ev (bN (E:=E) hx);rw [e] at h1
  simp [execOp,ho,h1,e]
theorem aSL (T:Tab P) {t:TypeId} {u:UD} (hu:bC T.und t=some u) (hne:u ≠ .iface):∃d,P.underlying t=some d /\ ∀ms,d ≠ .interface ms:=by
 have hk:=T.okU.look hu;cases u<;>simp only [UD.ok] at hk;case int k=>exact ⟨_,hk,by simp⟩
 case bool=>exact ⟨_,hk,by simp⟩
 case str=>exact ⟨_,hk,by simp⟩
 case slice e sz=>exact ⟨_,hk.1,by simp⟩
 case struct fs=>obtain ⟨q,hq,_⟩:=hk;exact ⟨_,hq,by simp⟩
 case map=>obtain ⟨k,e,hq⟩:=hk;exact ⟨_,hq,by simp⟩
 case ptr=>obtain ⟨e,hq⟩:=hk;exact ⟨_,hq,by simp⟩
 case func=>obtain ⟨_,_,_,hq⟩:=hk;exact ⟨_,hq,by simp⟩
 case iface=>exact absurd rfl hne
 case array n e sz=>exact ⟨_,hk.1,by simp⟩
 case other=>
  cases hq:P.underlying t with
  |none=>simp [hq] at hk
  |some d=>refine ⟨d,rfl,fun ms e=>?_⟩;subst e;simp [hq] at hk
theorem aWE (T:Tab P) {t:TypeId} {x:Operand} {y:SV} {u:UD} (ho:o.op=.makeInterface t x) (hx:evS l x=some y) (hu:bC T.und t=some u) (hne:u ≠ .iface):cJ P n F h0 l H o (.ifc t y) H:=
 cJ.of_plain fun E h S K a w ha=>by
  obtain ⟨d,hd,hni⟩:=aSL T hu hne;have h1:=ha.ev (bN (E:=E) hx);simp only [execOp,ho,h1,Instr.makeInterface,SV.g];cases d<;>simp [run_underlying hd]<;>exact absurd rfl (hni _)
theorem aZW {f:Go.Fn} {first captured:Array Operand} {us vs:List SV} (ho:o.op=.makeFunc f first captured) (h1:gK l first.toList=some us) (h2:gK l captured.toList=some vs):cJ P n F h0 l H o (.fn f us vs) H:=
 cJ.of_plain fun E h S K a w ha=>by
  have e1:=kS ha (kH (E:=E) h1);have e2:=kS ha (kH (E:=E) h2);have e1':first.map a.eval=(SV.gs E us).toArray:=by apply Array.ext';simpa using e1
  have e2':captured.map a.eval=(SV.gs E vs).toArray:=by apply Array.ext';simpa using e2
  simp [execOp,ho,Instr.makeFunc,e1',e2',SV.g]
theorem Eff.toS {E:Env} {h:Array Obj} {x:SV} (hA:Sat E F H h) (hK:Kp F h0 h) (He:Eff P n (gF E l) h o (fun v h'=>v=x.g E/\h'=h)):Eff P n (gF E l) h o (fun v h'=>v=x.g E/\Sat E F H h'/\Kp F h0 h'):=
 He.mono fun v h' ⟨e1,e2⟩=>⟨e1,by rw [e2];exact hA,by rw [e2];exact hK⟩
theorem aYU (T:Tab P) {t t':TypeId} {x:Operand} {b off:Nat} {cs:List SV} {v:SV} (ho:o.op=.load t x) (hx:evS l x=some (.ptr b off)) (hb:bX H b=some (.cells t' cs)) (ht:eY T t=true) (hv:nth cs off=some v):
  cJ P n F h0 l H o v H:=cJ.of_eff (by simp [jZ,cQ,dH,ho]) fun E h S K=>by
 refine Eff.toS S K (aFY T (v:=v.g E) ?_ ho (bN hx) ht);obtain ⟨_,h2,_⟩:=S.cellsAt hb;rw [fW] at hv;rw [h2.cell];simp [uR,hv]
theorem yK (E:Env) (cs:List SV) (off m j:Nat) {v:Value} (h:(SV.gs E ((cs.drop off).take m))[j]? = some v):(SV.gs E cs)[off+j]? = some v:=by
 simp only [aAR,yY,List.getElem?_take,List.getElem?_drop] at h;split at h
 ·exact h
 cases h
theorem aXL (T:Tab P) {t t':TypeId} {x:Operand} {b off:Nat} {cs:List SV} {i:Inf} (ho:o.op=.load t x) (hx:evS l x=some (.ptr b off)) (hb:bX H b=some (.cells t' cs)) (ht:uY T t=true) (hi:cT T.inf t=some i) (hle:off+i.size<=cs.length):
  cJ P n F h0 l H o (.agg ((cs.drop off).take i.size)) H:=cJ.of_eff (by simp [jZ,cQ,dH,ho]) fun E h S K=>by
 obtain ⟨_,h2,_⟩:=S.cellsAt hb;refine Eff.toS S K ((vB T (vs:=SV.gs E ((cs.drop off).take i.size)) (fun j v hj=>?_) (by simp [fM];omega) ho (bN hx) ht hi));rw [h2.cell]
 simpa using yK E cs off i.size j hj
theorem aWY (T:Tab P) {t:TypeId} {x:Operand} {b off sz:Nat} {i:Int} {rows:List (List Value)} {row:List Value} {v:Value} (ho:o.op=.load t x) (hx:evS l x=some (.row b i off sz)) (hb:rowsAt H b=some (sz,rows)) (ht:eY T t=true) (hr:rows[i.toNat]? = some row) (hv:nth row off=some v):
  cJ P n F h0 l H o (.v v) H:=cJ.of_eff (by simp [jZ,cQ,dH,ho]) fun E h S K=>by
 obtain ⟨h1,ad,cap,h2,h3⟩:=S.rowsAt hb;rw [fW] at hv;rcases h3 with rfl|⟨g,oo,rfl,h4⟩
 ·simp at hr
 have hx':=bN (E:=E) hx;simp only [SV.g,h2,iI,ownB,aGG,Option.getD_some] at hx';refine Eff.toS S K (aFY T (b:=g) (off:=oo+i.toNat*sz+off) ?_ ho hx' ht);rw [Nat.add_assoc];exact h4 _ _ (vK h1 hr hv)
theorem aRQ (T:Tab P) {t:TypeId} {x:Operand} {b off sz:Nat} {i:Int} {j:Inf} {rows:List (List Value)} {row:List Value} (ho:o.op=.load t x) (hx:evS l x=some (.row b i off sz)) (hb:rowsAt H b=some (sz,rows)) (ht:uY T t=true) (hi:cT T.inf t=some j) (hr:rows[i.toNat]? = some row) (hle:off+j.size<=row.length):
  cJ P n F h0 l H o (.agg (toV ((row.drop off).take j.size))) H:=cJ.of_eff (by simp [jZ,cQ,dH,ho]) fun E h S K=>by
 obtain ⟨h1,ad,cap,h2,h3⟩:=S.rowsAt hb;rcases h3 with rfl|⟨g,oo,rfl,h4⟩
 ·simp at hr
 have hx':=bN (E:=E) hx;simp only [SV.g,h2,iI,ownB,aGG,Option.getD_some] at hx';have key:=vB (n:=n) (h:=h) T (vs:=(row.drop off).take j.size) (b:=g) (off:=oo+i.toNat*sz+off) (fun q v hq=>?_) (by simp;omega) ho hx' ht hi
 ·refine Eff.toS S K (key.mono fun v h' ⟨e1,e2⟩=>⟨by rw [e1];simp only [SV.g,nL],e2⟩)
 have hq':row[off+q]? = some v:=by
  rw [List.getElem?_take] at hq;split at hq
  ·simpa using hq
  cases hq
 have:=h4 _ _ (vK h1 hr hq');rw [show oo+i.toNat*sz+off+q=oo+(i.toNat*sz+(off+q)) by omega];exact this
theorem okS_old (T:Tab P) {t:TypeId} {x:Operand} {b off:Nat} {v:Value} (ho:o.op=.load t x) (hx:evS l x=some (.v (.pointer (some ⟨b,off,none⟩)))) (ht:eY T t=true) (hv:OldC F h0 b off v):
  cJ P n F h0 l H o (.v v) H:=cJ.of_eff (by simp [jZ,cQ,dH,ho]) fun E h S K=>by
 refine Eff.toS S K (aFY T ?_ ho (bN hx) ht);have:=hv.2;unfold bL at this ⊢;rw [K.same b hv.1];exact this
theorem bBF (T:Tab P) {t:TypeId} {x:Operand} {b off:Nat} {vs:List Value} {i:Inf} (ho:o.op=.load t x) (hx:evS l x=some (.v (.pointer (some ⟨b,off,none⟩)))) (ht:uY T t=true) (hi:cT T.inf t=some i) (hlen:vs.length=i.size) (hv:aMF F h0 b off vs):
  cJ P n F h0 l H o (.agg (toV vs)) H:=cJ.of_eff (by simp [jZ,cQ,dH,ho]) fun E h S K=>by
 refine Eff.toS S K ((vB T (vs:=vs) (fun j v hj=>?_) hlen ho (bN hx) ht hi).mono fun v h' ⟨e1,e2⟩=>⟨by rw [e1];simp only [SV.g,nL],e2⟩);obtain ⟨h1,h2⟩:=hv j v hj;unfold bL at h2 ⊢;rw [K.same b h1];exact h2
theorem aWL (T:Tab P) {t t':TypeId} {x y:Operand} {b off:Nat} {cs xs:List SV} {v:SV} {i:Inf} (ho:o.op=.store t x y) (hx:evS l x=some (.ptr b off)) (hb:bX H b=some (.cells t' cs)) (hy:evS l y=some v) (hi:cT T.inf t=some i)
  (hc:uH H v=some xs) (hlen:xs.length=i.size) (h1:aOE H xs=true) (hle:off+xs.length<=cs.length):cJ P n F h0 l H o (.v undef) (nG H b (.cells t' (spl cs off xs))):=cJ.of_eff (by simp [jZ,cQ,dH,ho]) fun E h S K=>by
 obtain ⟨_,h2,_⟩:=S.cellsAt hb;have hcv:=aBK S hc;have key:=aFQ (n:=n) T (v:=v.g E) h2 ho (bN hx) (bN hy) hi (by rw [hcv];simp [fM,hlen]) (by rw [hcv];simpa using aOF S h1) (by rw [hcv];simp [fM];omega);refine key.mono fun v' h' ⟨e1,e2⟩=>⟨e1,?_⟩;have e3:h'=setB h (iI (E b)) (SV.gs E (spl cs off xs)).toArray t':=by
  rw [e2,hcv,bAM];simp [fM]
 rw [e3];exact S.putB K hb
theorem okS_box {t:TypeId} {x:Operand} {v:SV} {cs:List SV} (ho:o.op=.box t x) (hx:evS l x=some v) (hc:uH H v=some cs) (hb:bdH nx H=true) (hbs:SV.bds nx cs=true):
  aEU P n F h0 nx l H o (.ptr nx 0) ((nx,.cells t cs)::H):=fun E h S K=>
 (aDU (v:=v.g E) ho (bN hx)).mono fun v' h' ⟨e1,e2⟩=>by
  obtain ⟨S',K'⟩:=S.newCells K hb t cs hbs _ (aBK S hc);refine ⟨_,gA E nx _,?_,by rw [e2];exact S',by rw [e2];exact K'⟩;rw [e1];simp [SV.g,gW,iI,ownB]
theorem aUI (m:Nat):∀l:List Value,SV.bds m (toV l)=true
 | []=>rfl
 |x::xs=>by simp only [toV,SV.bds,SV.bd,aUI m xs]
theorem aVF (T:Tab P) {t:TypeId} {i:Inf} (ho:o.op=.alloc t) (hi:cT T.inf t=some i) (hb:bdH nx H=true):
  aEU P n F h0 nx l H o (.ptr nx 0) ((nx,.cells t (toV i.zero.cells.toList))::H):=fun E h S K=>
 (aIJ T ho hi).mono fun v' h' ⟨e1,e2⟩=>by
  obtain ⟨S',K'⟩:=S.newCells K hb t (toV i.zero.cells.toList) (aUI _ _) i.zero.cells (by rw [nL]);refine ⟨_,gA E nx _,?_,by rw [e2];exact S',by rw [e2];exact K'⟩;rw [e1];simp [SV.g,gW,iI,ownB]
theorem aCA {t:TypeId} {parts:Array (Nat×Operand)} {ps:List (Nat×SV)} {cs:List SV} (ho:o.op=.build t parts) (hp:qH l parts.toList=some ps) (hb:∀E h,Sat E F H h->P.built t (gP E ps)=some (SV.gs E cs).toArray):
  cJ P n F h0 l H o (.agg cs) H:=cJ.of_plain fun E h S K a w ha=>aNK (hb E h S) ho (aCB hp) a w ha
theorem aPC {fs:List Field} {xs:List (Nat×Nat×Bool)} (h:uP P fs xs):fs.mapM (fun f=>(P.info? f.type).map fun i=>(f.offset,i.size))=some (xs.map fun x=>(x.1,x.2.1)):=by
 induction fs generalizing xs with
 |nil=>cases xs with
  |nil=>rfl
  |cons=>exact h.elim
 |cons f fs ih=>cases xs with
  |nil=>exact h.elim
  |cons x xs=>
   obtain ⟨⟨h1,h2,_⟩,h3⟩:=h
   cases hi:P.info? f.type with
   |none=>simp [hi] at h2
   |some i=>
    simp only [hi,Option.map_some,Option.some.injEq] at h2
    simp [List.mapM_cons,hi,ih h3,h1,h2]
theorem aLP (T:Tab P) {t:TypeId} {i:Inf} {fs:List (Nat×Nat×Bool)} (hi:cT T.inf t=some i) (hu:bC T.und t=some (.struct fs)) (ps:List (Nat×Value)):
  P.built t ps=Instr.fill (fun k=>match nth fs k with|some (o,n,_)=>some (o,n)|none=>none) i.zero.cells ps:=by
 obtain ⟨j,q1,q2,q3,q4⟩:=T.okI.look hi;obtain ⟨ar,h1,h2⟩:=T.okU.look hu;unfold Program.built;simp only [q1,h1,q2,aPC h2]
 congr 1
 funext k
 rw [fW]
 simp
 cases fs[k]? with
 |none=>rfl
 |some x=>rfl
theorem aMJ (T:Tab P) {t:TypeId} {i:Inf} {m e sz:Nat} (hi:cT T.inf t=some i) (hu:bC T.und t=some (.array m e sz)) (ps:List (Nat×Value)):
  P.built t ps=Instr.fill (fun k=>some (k*sz,sz)) i.zero.cells ps:=by
 obtain ⟨j,q1,q2,q3,q4⟩:=T.okI.look hi;obtain ⟨h1,h2⟩:=T.okU.look hu;unfold Program.built
 cases he:P.info? e with
 |none=>simp [he] at h2
 |some ie=>
  simp only [he,Option.map_some,Option.some.injEq] at h2;simp only [q1,h1,q2,he,h2]
theorem Sat.newOwn {E:Env} {h:Array Obj} (S:Sat E F H h) (K:Kp F h0 h) (hb:bdH nx H=true) {e sz cap:Nat} {rows:List (List Value)} {cur:Array Value} (hr:mH sz rows)
  (hm:rows.length<=cap) (hc:cap<=maxLen) (hs:cur.size=cap*sz) (ht:cur.toList.take (rows.length*sz)=rows.flatten):
  Sat (push E nx (.slice (some ⟨h.size,0,none⟩) rows.length cap)) F ((nx,.own e sz rows)::H) (h.push (.cells cur e (0,0)))/\Kp F h0 (h.push (.cells cur e (0,0))):=by
 obtain ⟨S',K'⟩:=S.pushB K (.cells cur e (0,0));have hlen:rows.flatten.length=rows.length*sz:=by
  clear ht hm
  induction rows with
  |nil=>simp
  |cons r rs ih=>simp [ih (fun q hq=>hr q (List.mem_cons_of_mem _ hq)),(hr r (List.mem_cons_self ..)).1,Nat.add_mul];omega
 refine ⟨S'.add hb ⟨hr,⟨hlen,.inr ⟨h.size,cap,cur,rfl,Nat.zero_le _,gH _ _ _,hm,hc,hs,ht⟩⟩,fun g hg=>?_⟩ (fun _ p hp hw g hg e=>?_),K'⟩
 ·simp only [ownB,Option.some.injEq] at hg;subst hg;exact K.ge (Nat.le_refl _)
 have:=(Blk.lt (S.ok p hp) hw hg).1;simp only [ownB,Option.some.injEq] at e;omega
theorem aGJ (T:Tab P) {t e sz m:Nat} {parts:Array (Nat×Operand)} {ps:List (Nat×SV)} {i:Inf} {cs:List SV} {vs:List Value} (ho:o.op=.buildSlice t m parts) (hu:bC T.und t=some (.slice e sz)) (hi:cT T.inf e=some i) (hz:i.zero.cells.size=i.size)
  (hp:qH l parts.toList=some ps) (hle:Nat.ble (m*i.size) 16777216=true) (hf:aDB H (fun j=>some (j*i.size,i.size)) (toV (tL i.zero.cells.toList m)) ps=some cs) (hv:unV cs=some vs) (hlen:vs.length=m*i.size) (hm:m<=maxLen) (hv1:aAH vs=true) (hb:bdH nx H=true):
  aEU P n F h0 nx l H o (.buf nx) ((nx,.own e i.size (qR i.size m vs))::H):=fun E h S K=>by
 obtain ⟨c1,c2,c3⟩:=aMS i.size m vs hlen;have hfl:=yV S hf;rw [nL,aQC E hv] at hfl;have hfill:Instr.fill (fun j=>some (j*i.size,i.size)) ((Array.range (m*i.size)).map ((if m*i.size=0 then #[] else i.zero.cells)[· % (if m*i.size=0 then #[] else i.zero.cells).size]!)) (gP E ps)=some vs.toArray:=by
  have:=aPW i.zero.cells m;rw [hz] at this;rw [this];exact hfl
 refine (uW T ho hu hi (aCB hp) hle hfill).mono fun v' h' ⟨e1,e2⟩=>?_;obtain ⟨S',K'⟩:=S.newOwn (e:=e) (cap:=m) (cur:=vs.toArray) K hb (fun r hr=>⟨c1 r hr,fun u hu=>uO hv1 u (by rw [<-c3];exact List.mem_flatten.2 ⟨r,hr,hu⟩)⟩) (by omega) hm (by simpa using hlen) (by rw [c2,c3];simp [<-hlen]);refine ⟨_,gA E nx _,?_,by rw [e2];exact S',by rw [e2];exact K'⟩;rw [e1];simp [SV.g,gW,c2]
end

section
variable {n:Nat} {F:Nat->Prop} {h0:Array Obj} {nx:Nat} {l:SFr} {H:SH} {o:Oper}
theorem aCJ:maxLen=9223372036854775807:=rfl
theorem aGY (z:Array Value) (k m:Nat) (hkm:k<=m) (hz:0<z.size\/True):(madeCells z (m*z.size)).size=m*z.size/\(madeCells z (m*z.size)).toList.take (k*z.size)=(List.replicate k z.toList).flatten:=by
 have hsz:(madeCells z (m*z.size)).size=m*z.size:=by simp [madeCells]
 refine ⟨hsz,?_⟩;rw [<-aJG];apply List.ext_getElem?;intro i;by_cases hi:i<k*z.size
 ·have h1:=aCC z.toList k i (by simpa using hi);have hz:0<z.size:=Nat.pos_of_ne_zero (fun e=>by rw [e] at hi;simp at hi);have hlt:=Nat.mod_lt i hz;have him:i<m*z.size:=Nat.lt_of_lt_of_le hi (Nat.mul_le_mul_right _ hkm);rw [List.getElem?_take_of_lt hi,h1]
  simp [madeCells,him,hlt]
 rw [List.getElem?_eq_none (by simp;omega),List.getElem?_eq_none (by rw [xB];simpa using hi)]
theorem aYR (T:Tab P) {t e sz:Nat} {x y:Operand} {k1 k2:IntKind} {a m:Int} {i:Inf} (ho:o.op=.makeSlice t x y) (hx:evS l x=some (.v (.int k1 a))) (hy:evS l y=some (.v (.int k2 m))) (hu:bC T.und t=some (.slice e sz)) (hi:cT T.inf e=some i)
  (hz:i.zero.cells.size=i.size) (hz1:aAH i.zero.cells.toList=true) (hp:0<=a/\a<=m/\(i.bytes:Int)*m<=281474976710656/\m<=9223372036854775807) (hb:bdH nx H=true):
  aEU P n F h0 nx l H o (.buf nx) ((nx,.own e i.size (List.replicate a.toNat i.zero.cells.toList))::H):=fun E h S K=>by
 refine (aNT T ho (bN (E:=E) hx) (bN (E:=E) hy) hu hi hp).mono fun v' h' ⟨e1,e2⟩=>?_;obtain ⟨q1,q2⟩:=aGY i.zero.cells a.toNat m.toNat (by omega) (.inr trivial);rw [hz] at q1 q2
 obtain ⟨S',K'⟩:=S.newOwn (e:=e) (sz:=i.size) (rows:=List.replicate a.toNat i.zero.cells.toList) (cap:=m.toNat) (cur:=madeCells i.zero.cells (m.toNat*i.size)) K hb
  (fun r hr=>by rw [List.eq_of_mem_replicate hr];exact ⟨by simpa using hz,uO hz1⟩) (by simp;omega) (by rw [aCJ];omega) q1 (by rw [List.length_replicate];exact q2)
 refine ⟨_,gA E nx _,?_,by rw [e2];exact S',by rw [e2];exact K'⟩;rw [e1];simp [SV.g,gW]
theorem okS_len (T:Tab P) {cl:Call} {t e sz b sz':Nat} {x:Operand} {rows:List (List Value)} (ho:o.op=.call cl) (hc:cl.callee=.builtin .len) (ha:cl.args.toList=[x]) (hts:cl.argTypes.toList=[t]) (hx:evS l x=some (.buf b)) (hu:bC T.und t=some (.slice e sz)) (hr:rowsAt H b=some (sz',rows)):
  cJ P n F h0 l H o (.v (.int .i64 rows.length)) H:=
 cJ.of_plain fun E h S K a w hh=>by
  obtain ⟨h1,ad,cap,h2,h3⟩:=S.rowsAt hr;have h4:=hh.ev (bN (E:=E) hx);simp only [SV.g] at h4;have e1:cl.args = #[x]:=by apply Array.ext';simpa using ha
  have e2:cl.argTypes = #[t]:=by apply Array.ext';simpa using hts
  have key:=aUC T t o.type (E b) w;unfold lenP at key;rw [h2] at key;simp only [hu,Pu.ok] at key
  simp [execOp,ho,resolve,hc,e1,e2,invoke,builtin,h4,h2,key,SV.g]
theorem rO {sz:Nat}:∀ {rows:List (List Value)},mH sz rows->rows.flatten.length=rows.length*sz
 | [],_=>by simp
 |r::rs,h=>by
  have:=rO (rows:=rs) (fun q hq=>h q (List.mem_cons_of_mem _ hq))
  simp [this,(h r (List.mem_cons_self ..)).1,Nat.add_mul];omega
theorem aDK (w:World) {t ty e:TypeId} {i:TypeInfo} (ht:P.underlying t=some (.slice e)) (hi:P.info? e=some i) (a:Option Addr) (m c:Nat) (hmc:m<=c) (c2:Nat):
  (Builtin.append_ #[t,t] ty #[.slice a m c,.slice none 0 c2]).run P w=.ok (.slice a m c) w:=by
 cases a<;>simp [Builtin.append_,run_underlying ht,sizeOf,typeInfo,hi,Builtin.lenOf,Builtin.firstCells,loadCells,loadCellsFrom,hmc,storeCells]
theorem aFX (T:Tab P) {cl:Call} {t e sz:Nat} {x y:Operand} {i:Inf} {v:SV} {b2:Nat} {r:Option Nat} {rows rows2:List (List Value)} (ho:o.op=.call cl) (hc:cl.callee=.builtin .append) (ha:cl.args.toList=[x,y]) (hts:cl.argTypes.toList=[t,t])
  (hu:bC T.und t=some (.slice e sz)) (hi:cT T.inf e=some i) (hz:i.zero.cells.size=i.size) (hsz:0<i.size) (hy:evS l y=some (.buf b2)) (hr2:rowsAt H b2=some (i.size,rows2)) (hx:evS l x=some v)
  (h1:∀E h,Sat E F H h->mH i.size rows/\Own 0 h e i.size (v.g E) rows.length rows.flatten /\
   (∀g,ownB (v.g E)=some g -> ¬F g /\ ∃b,r=some b/\E b=v.g E /\ ∃q,bX H b=some q/\wr q=true) )
  (hp:0<1/\rows.length+rows2.length<=9223372036854775807/\(rows.length+rows2.length)*i.bytes<=140737488355328) (hb:bdH nx H=true):
  aEU P n F h0 nx l H o (.buf nx) ((nx,.own e i.size (rows++rows2))::remO H r):=fun E h S K=>by
 obtain ⟨q1,q2,q3⟩:=h1 E h S;obtain ⟨p1,ad,cap,p2,p3⟩:=S.rowsAt hr2;have hx':=bN (E:=E) hx;have hy':=bN (E:=E) hy;simp only [SV.g] at hy';rw [p2] at hy';obtain ⟨j,w1,w2,w3,w4⟩:=T.okI.look hi;intro a w hh hw next Q hn
 subst hw;obtain ⟨c00,m00,hv00⟩:=q2.shape;obtain ⟨v',w',r1,r2,r3,r5⟩:∃v' w',(Builtin.append_ #[t,t] o.type #[v.g E,.slice ad rows2.length cap]).run P w=.ok v' w'/\w'.ownsRow 0 e i.size v' (rows.length+rows2.length) (rows.flatten++rows2.flatten)/\w.grownBy w' (v.g E).ownBlock/\(v'.ownBlock=(v.g E).ownBlock\/v'.ownBlock=some w.heap.size):=by
  have kit:∀ad',(∀j u,rows2.flatten[j]? = some u->w.cell? (ad'.add j)=some u) -> ∃v' w',(Builtin.append_ #[t,t] o.type #[v.g E,.slice (some ad') rows2.length cap]).run P w=.ok v' w'/\w'.ownsRow 0 e i.size v' (rows.length+rows2.length) (rows.flatten++rows2.flatten)/\w.grownBy w' (v.g E).ownBlock/\(v'.ownBlock=(v.g E).ownBlock\/v'.ownBlock=some w.heap.size):=fun ad' hcell=>by
   obtain ⟨v',w',r1,r2,r3,r4,r5⟩:=run_append_own_at (P:=P) w 0 t o.type e j i.zero i.size i.bytes (T.okU.look hu).1 w1 w2 w3 w4 hz hsz (v.g E) rows.length rows.flatten (rX.1 q2)
    ad' rows2.length cap rows2.flatten (rO p1) hcell (fun u hu=>by
     obtain ⟨r,hr,hur⟩:=List.mem_flatten.1 hu;exact (p1 r hr).2 u hur) (by rw [aCJ];omega) hp.2.2 (Nat.zero_le _)
   exact ⟨v',w',r1,r2,r3,r5⟩
  rcases p3 with rfl|⟨g,oo,rfl,p4⟩
  ·cases ad with
   |some ad'=>exact kit ad' (fun j u hu=>by simp at hu)
   |none=>
    have hmc:rows.length<=m00:=by
     obtain ⟨_,⟨h1,_⟩|⟨g,cap,cur,h1,_,_,hc,_⟩⟩:=q2
     ·rw [h1] at hv00;injection hv00 with _ e2 e3
      omega
     rw [h1] at hv00;injection hv00 with _ e2 e3
     omega
    rw [hv00];refine ⟨_,w,aDK w (T.okU.look hu).1 w1 c00 rows.length m00 hmc cap,?_,⟨rfl,rfl,rfl,Nat.le_refl _,fun _ _ _=>rfl⟩,.inl rfl⟩;rw [<-hv00]
    simpa using rX.1 q2
  exact kit ⟨g,oo,none⟩ (fun j u hu=>by rw [fS];exact iQ (p4 j u hu))
 have e1:cl.args = #[x,y]:=by apply Array.ext';simpa using ha
 have e2:cl.argTypes = #[t,t]:=by apply Array.ext';simpa using hts
 have hrun:(execOp a.eval o).run P w=.ok (.value v') w':=by
  simp [execOp,ho,resolve,hc,e1,e2,invoke,builtin,hh.ev hx',hh.ev hy',r1]
 unfold Oper.wp;rw [hrun];refine hn v' w' ⟨r3.tape,r3.os,r3.output⟩ ⟨push E nx v',gA E nx _,by simp [SV.g,gW],?_⟩;obtain ⟨c0,m0,hv0⟩:=q2.shape;have hob:(v.g E).ownBlock=ownB (v.g E):=xN hv0;have hown':Own 0 w'.heap e i.size v' (rows++rows2).length (rows++rows2).flatten:=by
  rw [List.length_append,List.flatten_append];exact rX.2 r2
 obtain ⟨c1,m1,hv1⟩:=hown'.shape;rw [xN hv1] at r5;rw [hob] at r5 r3;have hF:∀k,F k->w'.heap[k]? = w.heap[k]? :=fun k hk=>r3.block k (by have:=K.lt k hk;have:=K.size;omega) (fun e=>(q3 k e.symm).1 hk);have K':Kp F h0 w'.heap:=⟨Nat.le_trans K.size r3.size,fun k hk=>(hF k hk).trans (K.same k hk),K.lt⟩;refine ⟨?_,K'⟩;obtain ⟨H',hH'⟩:∃H',H'=remO H r:=⟨_,rfl⟩;rw [<-hH'];have hsub:H'.Sublist H:=by rw [hH'];cases r;exact List.Sublist.refl _;exact iE _ _
 have hne:∀p∈H',wr p.2=true -> ∀g,ownB (E p.1)=some g->ownB (v.g E)≠some g:=fun p hp hw g hg e=>by
  obtain ⟨b,hrb,hEb,q,hq,hwq⟩:=(q3 g e).2;subst hrb;rw [hH'] at hp;have hpb:=tI hp;have hpm:p∈H:=(iE H b).subset hp;have hqm:=bW hq;have:=S.apart
  -- two entries of other names
  have key:∀ {L:SH},L.Pairwise (nM E)->p∈L->(b,q)∈L->ownB (E b)≠some g:=by
   intro L
   induction L with
   |nil=>intro _ h;cases h
   |cons x L ih=>
    intro hpw h1 h2;obtain ⟨hx1,hx2⟩:=List.pairwise_cons.1 hpw;rcases List.mem_cons.1 h1 with h1|h1
    ·rcases List.mem_cons.1 h2 with h2|h2
     ·exact absurd (by rw [h1,<-h2]) hpb
     have:=hx1 _ h2;rw [<-h1] at this;exact this hw hwq g hg
    rcases List.mem_cons.1 h2 with h2|h2
    ·have:=hx1 _ h1;rw [<-h2] at this;intro e;exact this hwq hw g e hg
    exact ih hx2 h1 h2
  rw [<-hEb] at e;exact key this hpm hqm e
 have S1:Sat E F H' w.heap:=S.sub hsub;have S2:Sat E F H' w'.heap:=S1.keep (fun p hp hw g hg=>r3.block g (Blk.lt (S1.ok p hp) hw hg).1 (fun e=>hne p hp hw g hg e.symm)) hF;have hb':bdH nx H'=true:=by
  rw [hH']
  cases r with
  |none=>exact hb
  |some b0=>
   clear hH' S1 S2 hne hsub q1 q2 q3 h1 hr2 S hn;simp only [remO]
   induction H with
   |nil=>rfl
   |cons x H ih=>
    obtain ⟨s,z⟩:=x;simp only [bdH] at hb
    cases hs:Nat.blt s nx with
    |false=>simp [hs] at hb
    |true=>
     cases hz:bdB nx z with
     |false=>simp [hs,hz] at hb
     |true=>
      simp only [hs,hz] at hb;simp only [aAA]
      cases Nat.beq s b0 with
      |true=>exact ih hb
      |false=>simp only [bdH,hs,hz];exact ih hb
 refine S2.add hb' ⟨fun r hr=>?_,hown',fun g hg=>?_⟩ (fun _ p hp hw g hg e=>?_)
 ·rcases List.mem_append.1 hr with hr|hr
  ·exact q1 r hr
  exact p1 r hr
 ·rcases r5 with e|e
  ·rw [e] at hg;exact (q3 g hg).1
  rw [e] at hg;simp only [Option.some.injEq] at hg;subst hg;exact K.ge (Nat.le_refl _)
 rcases r5 with e5|e5
 ·rw [e5] at e;exact hne p hp hw g hg e
 rw [e5] at e;simp only [Option.some.injEq] at e;have:=(Blk.lt (S1.ok p hp) hw hg).1;omega
theorem aCZ {E:Env} {h:Array Obj} (S:Sat E F H h) {b e sz:Nat} {rows:List (List Value)} (hl:bX H b=some (.own e sz rows)):
  mH sz rows/\Own 0 h e sz (E b) rows.length rows.flatten /\ ∀g,ownB (E b)=some g -> ¬F g:=S.ok _ (bW hl)
theorem aGM {sz:Nat}:∀ {rows:List (List Value)} {i:Nat} {row row':List Value},mH sz rows->rows[i]? = some row->row'.length=sz->(rows.set i row').flatten=rows.flatten.take (i*sz)++row'++rows.flatten.drop (i*sz+sz)
 | [],i,row,row',_,h,_=>by simp at h
 |r::rs,0,row,row',hl,h,hx=>by
  have hr:=(hl r (List.mem_cons_self ..)).1;simp only [List.set_cons_zero,List.flatten_cons,Nat.zero_mul,Nat.zero_add,List.take_zero,List.nil_append];rw [List.drop_append_of_le_length (by omega),List.drop_of_length_le (by omega)];rfl
 |r::rs,i+1,row,row',hl,h,hx=>by
  have hr:=(hl r (List.mem_cons_self ..)).1;have ih:=aGM (fun q hq=>hl q (List.mem_cons_of_mem _ hq)) (show rs[i]? = some row by simpa using h) hx;simp only [List.set_cons_succ,List.flatten_cons,ih];have e1:(i+1)*sz=r.length+i*sz:=by rw [hr,Nat.add_mul];omega
  have e2:(i+1)*sz+sz=r.length+(i*sz+sz):=by rw [hr,Nat.add_mul];omega
  have t1:r.take (r.length+i*sz)=r:=List.take_of_length_le (by omega);have t2:r.drop (r.length+(i*sz+sz))=[]:=List.drop_of_length_le (by omega);rw [e2,e1,List.take_append,List.drop_append,t1,t2,show r.length+i*sz - r.length=i*sz by omega,show r.length+(i*sz+sz) - r.length=i*sz+sz by omega];simp only [List.nil_append,List.append_assoc]
theorem aZR (T:Tab P) {t:TypeId} {x y:Operand} {b e off sz:Nat} {i:Int} {rows:List (List Value)} {row vals:List Value} {xs:List SV} {v:SV} {j:Inf} (ho:o.op=.store t x y) (hx:evS l x=some (.row b i off sz)) (hb:bX H b=some (.own e sz rows)) (hy:evS l y=some v) (hi:cT T.inf t=some j)
  (hc:aBS v=some xs) (hu:unV xs=some vals) (hlen:vals.length=j.size) (h1:aAH vals=true) (hle:off+vals.length<=sz) (hr:rows[i.toNat]? = some row):
  cJ P n F h0 l H o (.v undef) (nG H b (.own e sz (rows.set i.toNat (jX row off vals)))):=cJ.of_eff (by simp [jZ,cQ,dH,ho]) fun E h S K=>by
 obtain ⟨r1,r2,r3⟩:=aCZ S hb;have hrow:row∈rows:=List.mem_of_getElem? hr;have hilt:i.toNat<rows.length:=(List.getElem?_eq_some_iff.1 hr).1;obtain ⟨w1,⟨w2,w3⟩|⟨g,cap,cur,w2,_,w3,w4,w5,w6,w7⟩⟩:=r2
 ·omega
 have hx':=bN (E:=E) hx;simp only [SV.g,w2,iI,ownB,aGG,Option.getD_some,Nat.zero_add] at hx';have hcv:(v.g E).cells=vals.toArray:=by rw [aIP E hc,aQC E hu]
 have hmul:(i.toNat+1)*sz<=rows.length*sz:=Nat.mul_le_mul_right _ hilt;rw [Nat.add_mul,Nat.one_mul] at hmul;have hcap:rows.length*sz<=cap*sz:=Nat.mul_le_mul_right _ w4;have key:=aFQ (n:=n) T (v:=v.g E) w3 ho hx' (bN hy) hi (by rw [hcv];simpa using hlen) (by rw [hcv];simpa using uO h1) (by rw [hcv];simp;omega);refine key.mono fun v' h' ⟨e1,e2⟩=>⟨e1,?_⟩;rw [hcv] at e2;simp only [List.size_toArray] at e2;obtain ⟨cur',hcur'⟩:∃c,c=(cur.toList.take (i.toNat*sz+off)++vals++cur.toList.drop (i.toNat*sz+off+vals.length)).toArray:=⟨_,rfl⟩;rw [<-hcur'] at e2;subst e2;have hF:∀k,F k->(setB h g cur' e)[k]? = h[k]? :=fun k hk=>tJ (fun e=>r3 g (by rw [w2];rfl) (by rw [<-e];exact hk)) _ _;have hsl:(jX row off vals).length=sz:=by
  have:=(r1 row hrow).1
  simp [jX];omega
 obtain ⟨A,hA⟩:∃A,A=rows.flatten.take (i.toNat*sz):=⟨_,rfl⟩;obtain ⟨B,hB⟩:∃B,B=rows.flatten.drop (i.toNat*sz+sz):=⟨_,rfl⟩;obtain ⟨D,hD⟩:∃D,D=cur.toList.drop (rows.length*sz):=⟨_,rfl⟩;have hflat:rows.flatten=A++row++B:=by
  have:=aGM r1 hr (r1 row hrow).1;have h2:rows.set i.toNat row=rows:=by
   apply List.ext_getElem?;intro q;rw [List.getElem?_set];split
   ·rename_i hq;subst hq;simp [hilt];rw [List.getElem?_eq_getElem hilt] at hr;exact (Option.some.inj hr).symm
   rfl
  rw [h2] at this;rw [hA,hB];exact this
 have hAl:A.length=i.toNat*sz:=by rw [hA,List.length_take,rO r1];omega
 have hC:cur.toList=A++(row++(B++D)):=by
  have:=List.take_append_drop (rows.length*sz) cur.toList;rw [<-this,w7,hflat,hD];simp
 have hC':(cur.toList.take (i.toNat*sz+off)++vals++cur.toList.drop (i.toNat*sz+off+vals.length))=A++(jX row off vals++(B++D)):=by
  have hrl:=(r1 row hrow).1;have t1:A.take (i.toNat*sz+off)=A:=List.take_of_length_le (by omega);have t2:A.drop (i.toNat*sz+off+vals.length)=[]:=List.drop_of_length_le (by omega)
  rw [hC,List.take_append,List.drop_append,t1,t2,hAl,show i.toNat*sz+off - i.toNat*sz=off by omega,show i.toNat*sz+off+vals.length - i.toNat*sz=off+vals.length by omega,
   List.take_append_of_le_length (by omega),List.drop_append_of_le_length (by omega)]
  simp [jX]
 have hrok:mH sz (rows.set i.toNat (jX row off vals)):=fun r hr'=>by
  rcases List.mem_or_eq_of_mem_set hr' with h2|rfl
  ·exact r1 r h2
  refine ⟨hsl,fun u hu=>?_⟩;simp only [jX,List.mem_append] at hu;rcases hu with (hu|hu)|hu
  ·exact (r1 row hrow).2 u (List.mem_of_mem_take hu)
  ·exact uO h1 u hu
  exact (r1 row hrow).2 u (List.mem_of_mem_drop hu)
 have hy':(Blk.own e sz (rows.set i.toNat (jX row off vals))).ok E F (setB h g cur' e) (E b):=by
  refine ⟨hrok,⟨rO hrok,.inr ⟨g,cap,cur',by rw [w2];simp,Nat.zero_le _,fQ w3.lt _ _,by simpa using w4,w5,?_,?_⟩⟩,r3⟩
  ·rw [hcur',hC'];simp only [List.size_toArray,List.length_append,hsl,hAl];have:=congrArg List.length hC;simp only [List.length_append,hAl] at this;have hrl:=(r1 row hrow).1;rw [Array.length_toList] at this;omega
  rw [aGM r1 hr hsl,List.length_set,hcur',hC',<-hA,<-hB];have:A++(jX row off vals++(B++D))=(A++jX row off vals++B)++D:=by simp
  rw [this];have hl2:(A++jX row off vals++B).length=rows.length*sz:=by
   have h3:=congrArg List.length hflat;simp only [List.length_append,hsl,hAl,(r1 row hrow).1,rO r1] at h3 ⊢;omega
  rw [<-hl2,List.take_left'];rfl
 have hob:ownB (E b)=some g:=by rw [w2];rfl
 exact ⟨Sat.set (x:=.own e sz rows) rfl rfl hy' hF (fun k hk=>.inl (tJ (fun e=>hk (by rw [hob,e])) _ _)) S hb,⟨by simpa [setB] using K.size,fun k hk=>(hF k hk).trans (K.same k hk),K.lt⟩⟩
theorem aNH (ns:List Int):∀(r:ByteArray),ns.foldl (fun r (n:Int)=>r.push (UInt8.ofNat n.toNat)) r=⟨r.data++(ns.map fun (i:Int)=>UInt8.ofNat i.toNat).toArray⟩:=by
 induction ns with
 |nil=>intro r;simp
 |cons q ns ih=>
  intro r;simp only [List.foldl_cons,ih];apply ByteArray.ext;apply Array.ext'
  simp [ByteArray.push]
theorem aHI (is:List Int):(jK is).flatten=is.map (Value.int .u8):=by
 induction is with
 |nil=>rfl
 |cons i is ih=>simp only [jK,List.map_cons,List.flatten_cons,List.singleton_append] at ih ⊢;rw [ih]
theorem aXX (T:Tab P) {t t2 e sz b:Nat} {x:Operand} {is:List Int} (ho:o.op=.convert t t2 x) (hx:evS l x=some (.buf b)) (hu:bC T.und t=some (.slice e sz)) (he:bC T.und e=some (.int .u8)) (ht2:bC T.und t2=some .str)
  (hr:rowsAt H b=some (1,jK is)):EffL P n F h0 l H o (.v (.string (strI is))) H:=fun E h S K=>by
 refine Eff.toS S K ?_;obtain ⟨h1,ad,cap,h2,h3⟩:=S.rowsAt hr;have hx':=bN (E:=E) hx;simp only [SV.g] at hx';rw [h2] at hx';refine Eff.of_val1 fun a w ha hh=>⟨w,?_,dC.refl w,hh⟩;have hlen:(jK is).length=is.length:=by simp [jK]
 have h4:=run_convert_bytes_string (P:=P) w t t2 e ad (jK is).length cap (T.okU.look hu).1 (T.okU.look he) (T.okU.look ht2);rcases h3 with h3|⟨g,oo,rfl,h5⟩
 ·have:is=[]:=by cases is with
   |nil=>rfl
   |cons=>simp [jK] at h3
  subst this;have h0:(jK []).length=0:=rfl;rw [h0] at h4 hx';have h6:(Conv.bytesToString (.slice ad 0 cap)).run P w=.ok (.string ByteArray.empty) w:=by
   cases ad with
   |none=>simp [Conv.bytesToString]
   |some ad=>
    have hl:=run_loadCells_list (P:=P) w ad [] (fun j v hj=>by simp at hj)
    simpa using run_bytesToString (P:=P) w ad 0 cap [] hl
  have e3:(ByteArray.empty:ByteArray)=strI []:=rfl;rw [e3] at h6
  simp [execOp,ho,ha.ev hx',h4,h6,SV.g]
 rw [aHI] at h5;have hl:=run_loadCells_list (P:=P) w ⟨g,oo,none⟩ (is.map (Value.int .u8)) (fun j u hu=>by rw [fS];exact iQ (hh▸h5 j u hu));rw [List.length_map] at hl;have h6:=run_bytesToString (P:=P) w ⟨g,oo,none⟩ (jK is).length cap is (by rw [hlen];exact hl);rw [aNH] at h6;have e3:(⟨ByteArray.empty.data++(is.map fun (i:Int)=>UInt8.ofNat i.toNat).toArray⟩:ByteArray)=strI is:=by
  apply ByteArray.ext;apply Array.ext';simp [strI]
 rw [e3] at h6
 simp [execOp,ho,ha.ev hx',h4,h6,SV.g]
/-! structs compared -/
theorem pN (E:Env) {x:SV} {cs:List SV} (h:rL x=some cs):x.g E=.agg (SV.gs E cs).toArray:=by
 cases x with
 |agg c=>simp only [rL,Option.some.injEq] at h;subst h;rfl
 |v y=>cases y<;>simp only [rL] at h<;>first|(cases h;done)|(simp only [Option.some.injEq] at h;subst h;simp [SV.g,nL])
 |_=>simp [rL] at h
theorem aRY (E:Env) {k:Nat} {x y:SV} {D:DP} (he:qC k x y=some D) {t:TypeId} (hk:aEE P t k=true) (d:Nat) (w:World):
  (isAgg t).run P w=.ok false w/\(Op.equalIn (d+1) t (x.g E) (y.g E)).run P w=.ok (@decide D.p D.d) w:=by
 unfold aEE at hk;split at hk
 ·rename_i ht
  have:=Nat.eq_of_beq_eq_true hk;subst this;simp only [qC] at he;split at he
  ·split at he
   ·simp only [Option.some.injEq] at he;subst he;refine ⟨by simp [isAgg,run_underlying ht],?_⟩;simp only [SV.g];rw [run_equalIn_bool' w d t _ _ ht]
    rename_i a _ b
    cases a<;>cases b<;>rfl
   cases he
  cases he
 ·rename_i ht
  have:=Nat.eq_of_beq_eq_true hk;subst this;simp only [qC] at he;split at he
  ·split at he
   ·split at he
    ·rename_i hs
     obtain rfl:=aSS hs;simp only [Option.some.injEq] at he;subst he;refine ⟨by simp [isAgg,run_underlying ht],?_⟩;simp only [SV.g];rw [run_equalIn_int w d t _ _ _ _ ht]
     rename_i a _ b _
     by_cases h:a=b<;>simp [h]
    cases he
   cases he
  cases he
 ·rename_i ht
  have:=Nat.eq_of_beq_eq_true hk;subst this;simp only [qC] at he;split at he
  ·split at he
   ·simp only [Option.some.injEq] at he;subst he;refine ⟨by simp [isAgg,run_underlying ht],?_⟩;simp only [SV.g];rw [run_equalIn_string w d t _ _ ht,ba_eq]
   cases he
  cases he
 cases hk
def DP.b (D:DP):Bool:=@decide D.p D.d
def eqL:List Nat->List SV->List SV->Option Bool
 | [],[],[]=>some true
 |k::ks,x::xs,y::ys=>match qC k x y with
  |some D=>match eqL ks xs ys with
   |some b=>some (D.b&&b)
   |none=>none
  |none=>none
 |_,_,_=>none
theorem bAD:∀ {ks:List Nat} {xs ys:List SV} {D:DP},mN ks xs ys=some D->eqL ks xs ys=some D.b
 | [],[],[],D,h=>by simp only [mN,Option.some.injEq] at h;subst h;rfl
 | [],[],_::_,_,h=>by simp [mN] at h
 | [],_::_,_,_,h=>by simp [mN] at h
 |_::_,[],_,_,h=>by simp [mN] at h
 |_::_,_::_,[],_,h=>by simp [mN] at h
 |k::ks,x::xs,y::ys,D,h=>by
  simp only [mN] at h;simp only [eqL]
  cases hc:qC k x y with
  |none=>simp [hc] at h
  |some C=>
   obtain ⟨p,ip⟩:=C;simp only [hc] at h ⊢
   cases ks with
   |nil=>
    cases xs with
    |cons=>simp at h
    |nil=>
     cases ys with
     |cons=>simp at h
     |nil=>
      simp only [Option.some.injEq] at h;subst h
      simp [eqL]
   |cons k' ks'=>
    simp only at h
    cases hr:mN (k'::ks') xs ys with
    |none=>simp [hr] at h
    |some R=>
     obtain ⟨q,iq⟩:=R;simp only [hr,Option.some.injEq] at h;subst h;rw [bAD hr];simp only [DP.b,Option.some.injEq];by_cases hp:p<;>by_cases hq:q<;>simp [hp,hq]
theorem bFX:∀ {ks:List Nat} {xs ys:List SV} {b:Bool},eqL ks xs ys=some b->xs.length=ks.length/\ys.length=ks.length
 | [],[],[],_,_=>⟨rfl,rfl⟩
 | [],[],_::_,_,h=>by simp [eqL] at h
 | [],_::_,_,_,h=>by simp [eqL] at h
 |_::_,[],_,_,h=>by simp [eqL] at h
 |_::_,_::_,[],_,h=>by simp [eqL] at h
 |k::ks,x::xs,y::ys,b,h=>by
  simp only [eqL] at h
  cases hc:qC k x y with
  |none=>simp [hc] at h
  |some C=>
   cases hr:eqL ks xs ys with
   |none=>simp [hc,hr] at h
   |some q=>
    have:=bFX hr
    simp [this.1,this.2]
theorem aHU:∀ {k1 k2:List Nat} {xs ys:List SV} {b:Bool},eqL (k1++k2) xs ys=some b -> ∃x1 x2 y1 y2 b1 b2,xs=x1++x2/\ys=y1++y2/\eqL k1 x1 y1=some b1/\eqL k2 x2 y2=some b2/\b=(b1&&b2)
 | [],k2,xs,ys,b,h=>⟨[],xs,[],ys,true,b,rfl,rfl,rfl,h,by simp⟩
 |k::k1,k2,[],_,_,h=>by simp [eqL] at h
 |k::k1,k2,_::_,[],_,h=>by simp [eqL] at h
 |k::k1,k2,x::xs,y::ys,b,h=>by
  simp only [List.cons_append,eqL] at h
  cases hc:qC k x y with
  |none=>simp [hc] at h
  |some C=>
   cases hr:eqL (k1++k2) xs ys with
   |none=>simp [hc,hr] at h
   |some q=>
    simp only [hc,hr,Option.some.injEq] at h;subst h;obtain ⟨x1,x2,y1,y2,b1,b2,rfl,rfl,h1,h2,rfl⟩:=aHU hr;refine ⟨x::x1,x2,y::y1,y2,C.b&&b1,b2,rfl,rfl,?_,h2,by simp [Bool.and_assoc]⟩;simp only [eqL,hc,h1]
def vT (E:Env) (agg:Bool) (xs:List SV):Value:=match agg with
 |true=>.agg (SV.gs E xs).toArray
 |false=>match xs with
  |x::_=>x.g E
  | []=>undef
def EqTo (P:Program) (E:Env) (d:Nat) (t:TypeId) (kt:List Nat):Prop:=
 ∀(m:Nat) (w:World) (xs ys:List SV) (b:Bool),eqL kt xs ys=some b ->
  (isAgg t).run P w=.ok (aCF P t) w/\(aCF P t=false->kt.length=1)/\(Op.equalIn (m+d+1) t (vT E (aCF P t) xs) (vT E (aCF P t) ys)).run P w=.ok b w
theorem aMW (E:Env) (d:Nat) {t:TypeId} {ks r:List Nat} (h:eqSB P t ks=some r):∃kt,ks=kt++r/\EqTo P E d t kt:=by
 cases ks with
 |nil=>cases h
 |cons k ks=>
  simp only [eqSB] at h;split at h
  ·rename_i hk
   cases h;refine ⟨[k],rfl,fun m w xs ys b hb=>?_⟩;have hag:aCF P t=false:=by
    unfold aEE at hk;unfold aCF;split at hk<;>first|(rename_i ht;rw [ht];done)|(rename_i ht;simp [ht])|cases hk
   match xs,ys,hb with
   | [x],[y],hb=>
    simp only [eqL] at hb
    cases hc:qC k x y with
    |none=>simp [hc] at hb
    |some D=>
     simp only [hc,Bool.and_true,Option.some.injEq] at hb;subst hb;obtain ⟨h1,h2⟩:=aRY (P:=P) E hc hk (m+d) w;rw [hag];exact ⟨h1,fun _=>rfl,h2⟩
   | [],[],hb=>simp [eqL] at hb
   | [],_::_,hb=>simp [eqL] at hb
   |_::_,[],hb=>simp [eqL] at hb
   |_::_::_,[_],hb=>have:=bFX hb;simp at this
   | [_],_::_::_,hb=>have:=bFX hb;simp at this
   |_::_::_,_::_::_,hb=>have:=bFX hb;simp at this
  cases h
theorem aMD (E:Env) {t:TypeId} {X x1 x2:List SV} {i:Nat} (hX:X.drop i=x1++x2) (hs:(P.info? t).map (·.size)=some x1.length) (w:World) (ha:(isAgg t).run P w=.ok (aCF P t) w) (h1:aCF P t=false->x1.length=1):
  (part t (SV.gs E X).toArray i).run P w=.ok (vT E (aCF P t) x1) w:=by
 simp only [part,Sem.run_bind,ha,Result.andThen_ok]
 cases hag:aCF P t with
 |true=>
  simp only [if_true,Sem.run_bind,eQ hs,Result.andThen_ok,Sem.run_pure,vT]
  congr 2
  have hl:i+x1.length<=X.length\/x1=[]:=by
   have:=congrArg List.length hX;rw [List.length_drop,List.length_append] at this;rcases Nat.lt_or_ge i X.length with h|h
   ·left;omega
   right;exact List.eq_nil_of_length_eq_zero (by omega)
  apply Array.ext';simp only [List.extract_toArray,List.extract_eq_take_drop];rw [<-yY,<-aAR,hX,show i+x1.length - i=x1.length by omega,List.take_left]
 |false=>
  simp only [Bool.false_eq_true,if_false];obtain ⟨x,rfl⟩:∃x,x1=[x]:=by
   have:=h1 hag
   match x1,this with
   | [x],_=>exact ⟨x,rfl⟩
  have hx:X[i]? = some x:=by
   have:=congrArg (·[0]?) hX
   simpa using this
  have:(SV.gs E X).toArray[i]? = some (x.g E):=by simp [uR,hx]
  simp [this,vT]
theorem aIN (E:Env) (d:Nat) (H:∀ {t:TypeId} {ks r:List Nat},eqTB P d t ks=some r -> ∃kt,ks=kt++r/\EqTo P E d t kt):∀ {fs:List Field} {i:Nat} {ks r:List Nat},aPQ P (eqTB P d) fs i ks=some r ->
  ∃kt,ks=kt++r /\ ∀(m:Nat) (w:World) (X Y xs ys X' Y':List SV) (b:Bool),eqL kt xs ys=some b->X.drop i=xs++X'->Y.drop i=ys++Y' ->
   (Op.eqFields (m+d+1) (SV.gs E X).toArray (SV.gs E Y).toArray fs).run P w=.ok b w
 | [],i,ks,r,h=>by
  simp only [aPQ,Option.some.injEq] at h;subst h;refine ⟨[],rfl,fun m w X Y xs ys X' Y' b hb _ _=>?_⟩
  match xs,ys,hb with
  | [],[],hb=>simp only [eqL,Option.some.injEq] at hb;subst hb;simp [Op.eqFields]
  | [],_::_,hb=>simp [eqL] at hb
  |_::_,[],hb=>simp [eqL] at hb
  |_::_,_::_,hb=>simp [eqL] at hb
 |f::fs,i,ks,r,h=>by
  simp only [aPQ] at h;split at h
  ·cases h
  rename_i hno
  simp only [Bool.and_eq_true,decide_eq_true_eq] at hno;obtain ⟨n1,n2⟩:=hno;split at h
  ·cases h
  rename_i r1 hr1
  split at h
  ·cases h
  rename_i hsz
  simp only [decide_eq_true_eq] at hsz;obtain ⟨kt1,e1,T1⟩:=H hr1;obtain ⟨kt2,e2,T2⟩:=aIN E d H h;have hlen:ks.length - r1.length=kt1.length:=by rw [e1,List.length_append];omega
  rw [hlen] at hsz T2;refine ⟨kt1++kt2,by rw [e1,e2,List.append_assoc],fun m w X Y xs ys X' Y' b hb hX hY=>?_⟩;obtain ⟨x1,x2,y1,y2,b1,b2,rfl,rfl,q1,q2,rfl⟩:=aHU hb;obtain ⟨l1,l2⟩:=bFX q1;obtain ⟨a1,a2,a3⟩:=T1 m w x1 y1 b1 q1;rw [List.append_assoc] at hX hY;have p1:=aMD (P:=P) E hX (by rw [hsz,l1]) w a1 (fun e=>by rw [l1];exact a2 e);have p2:=aMD (P:=P) E hY (by rw [hsz,l2]) w a1 (fun e=>by rw [l2];exact a2 e);have hX2:X.drop (i+kt1.length)=x2++X':=by rw [<-List.drop_drop,hX,<-l1,List.drop_left]
  have hY2:Y.drop (i+kt1.length)=y2++Y':=by rw [<-List.drop_drop,hY,<-l2,List.drop_left]
  have rest:=T2 m w X Y x2 y2 X' Y' b2 q2 hX2 hY2;rw [<-n2] at p1 p2;simp only [Op.eqFields,n1,ne_eq,not_false_eq_true,if_true,Sem.run_bind,p1,p2,a3,Result.andThen_ok]
  cases b1 with
  |true=>simp [rest]
  |false=>simp
theorem aOH (E:Env):∀(d:Nat) {t:TypeId} {ks r:List Nat},eqTB P d t ks=some r -> ∃kt,ks=kt++r/\EqTo P E d t kt
 |0,t,ks,r,h=>aMW E 0 h
 |d+1,t,ks,r,h=>by
  simp only [eqTB] at h;split at h
  ·rename_i fs ht
   split at h
   ·cases h
   rename_i hst
   obtain ⟨kt,e,T⟩:=aIN E d (fun h=>aOH E d h) h;have hag:aCF P t=true:=by unfold aCF;rw [ht]
   have hfo:P.fieldsOf t=fs:=by unfold Program.fieldsOf;rw [ht]
   refine ⟨kt,e,fun m w xs ys b hb=>⟨?_,(fun e=>(by rw [hag] at e;cases e)),?_⟩⟩
   ·rw [hag];simp [isAgg,run_underlying ht]
   rw [hag];simp only [vT];rw [show m+(d+1)+1=(m+d+1)+1 by omega,run_equalIn_agg w (m+d+1) t _ _ (by rw [hfo];exact ht) hst,hfo];exact T m w xs ys xs ys [] [] b hb (by simp) (by simp)
  exact aMW E (d+1) h
theorem eqA_ok (T:Tab P) {bop:BinOp} {t yt:TypeId} {x y:Operand} {a b:SV} (ho:o.op=.binOp bop t x y yt) (hx:evS l x=some a) (hy:evS l y=some b):(eqA T bop t a b).ok P n F h0 nx l H o:=by
 unfold eqA;split
 ·rename_i ks hks
  split
  ·rename_i xs hxs
   split
   ·rename_i ys hys
    split
    ·rename_i p i he
     have hok:=T.okE.look hks;unfold aTG at hok;simp only [Bool.and_eq_true,Bool.not_eq_true',decide_eq_true_eq] at hok;obtain ⟨⟨h1,h2⟩,h3⟩:=hok;have key:∀(E:Env) (w:World),(Op.equalIn 10000 t (.agg (SV.gs E xs).toArray) (.agg (SV.gs E ys).toArray)).run P w=.ok (@decide p i) w:=fun E w=>by
      obtain ⟨kt,e,T⟩:=aOH (P:=P) E 8 h2;rw [List.append_nil] at e;subst e;have:=(T 9991 w xs ys _ (bAD he)).2.2;rw [h1] at this;exact this
     split
     ·refine cJ.of_plain fun E h S K a' w ha=>?_;have ex:=ha.ev (bN (E:=E) hx);have ey:=ha.ev (bN (E:=E) hy);rw [pN E hxs] at ex;rw [pN E hys] at ey
      simp [execOp,ho,ex,ey,run_eqGuard_agg w .eql t x y _ _ h3,run_eql_struct,key E w,SV.g]
     ·refine cJ.of_plain fun E h S K a' w ha=>?_;have ex:=ha.ev (bN (E:=E) hx);have ey:=ha.ev (bN (E:=E) hy);rw [pN E hxs] at ex;rw [pN E hys] at ey
      simp [execOp,ho,ex,ey,run_eqGuard_agg w .neq t x y _ _ h3,run_neq_struct,key E w,SV.g]
     trivial
    trivial
   trivial
  trivial
 trivial
theorem okS_rem {t yt:TypeId} {x y:Operand} {m n' r:Int} (ho:o.op=.binOp .rem t x y yt) (hx:evS l x=some (.v (.int .i64 m))) (hy:evS l y=some (.v (.int .i64 n'))) (hr:aPM m n' r):cJ P n F h0 l H o (.v (.int .i64 r)) H:=
 cJ.of_plain fun E h S K a w ha=>by
  have h1:=ha.ev (bN (E:=E) hx);have h2:=ha.ev (bN (E:=E) hy);simp only [SV.g] at h1 h2
  simp [execOp,ho,h1,h2,eqGuard,binOp,Op.intDiv,hr.1,hr.2,SV.g]
end

theorem iS.take {F:Nat->Prop} {h:Array Obj} {a:Option Addr} {rows:List (List Value)} (H:iS F h a rows) (n:Nat):iS F h a (rows.take n):=by
 rcases H with H|⟨g,o,h1,h2,h3⟩
 ·exact .inl (by rw [H];simp)
 refine .inr ⟨g,o,h1,h2,fun j v hj=>h3 j v ?_⟩;have e:rows.flatten=(rows.take n).flatten++(rows.drop n).flatten:=by rw [<-List.flatten_append,List.take_append_drop]
 rw [e,List.getElem?_append_left (List.getElem?_eq_some_iff.1 hj).1];exact hj
theorem aNQ (w:World) {t e:TypeId} {sz:Nat} (ht:P.underlying t=some (.slice e)) (hs:(P.info? e).map (·.size)=some sz) (a:Option Addr) (m c:Nat) (k:IntKind) (n:Int) (hn:0<=n/\n<=c):
  (Instr.slice t (.slice a m c) none (some (.int k n)) none).run P w=.ok (.slice a n.toNat c) w:=by
 simp only [Instr.slice,Sem.run_bind,run_underlying ht,Result.andThen_ok,Instr.sliceBounds,Instr.sliceBound,asIntOf,Sem.run_pure,hn,and_self,if_true,eQ hs];by_cases hc:c=0
 ·subst hc;simp
 simp only [hc,if_false,Nat.zero_mul,Nat.sub_zero]
 cases a with
 |none=>rfl
 |some x=>rfl
theorem iS.drop {F:Nat->Prop} {h:Array Obj} {a:Option Addr} {rows:List (List Value)} {sz:Nat} (hr:mH sz rows) (H:iS F h a rows) (n:Nat):iS F h (a.map (·.add (n*sz))) (rows.drop n):=by
 by_cases hn:n<rows.length
 ·rcases H with H|⟨g,o,h1,h2,h3⟩
  ·rw [H] at hn;cases hn
  refine .inr ⟨g,o+n*sz,by rw [h1,Option.map_some,fS],h2,fun j v hj=>?_⟩;have e:rows.flatten=(rows.take n).flatten++(rows.drop n).flatten:=by rw [<-List.flatten_append,List.take_append_drop]
  have hl:(rows.take n).flatten.length=n*sz:=by rw [rO (sz:=sz) (fun r h=>hr r (List.mem_of_mem_take h)),List.length_take];congr 1;omega
  have:=h3 (n*sz+j) v (by rw [e,List.getElem?_append_right (by omega),hl,Nat.add_sub_cancel_left];exact hj);rw [Nat.add_assoc];exact this
 exact .inl (List.drop_eq_nil_of_le (by omega))
theorem aHP (w:World) {t e:TypeId} {sz:Nat} (ht:P.underlying t=some (.slice e)) (hs:(P.info? e).map (·.size)=some sz) (a:Option Addr) (m c:Nat) (k:IntKind) (n:Int) (hn:0<=n/\n<=m) (hmc:m<=c):
  (Instr.slice t (.slice a m c) (some (.int k n)) none none).run P w=.ok (.slice (if c=n.toNat then a else a.map (·.add (n.toNat*sz))) (m - n.toNat) (c - n.toNat)) w:=by
 simp only [Instr.slice,Sem.run_bind,run_underlying ht,Result.andThen_ok,Instr.sliceBounds,Instr.sliceBound,asIntOf,Sem.run_pure,hn,and_self,if_true,eQ hs]
section
variable {n:Nat} {F:Nat->Prop} {h0:Array Obj} {nx:Nat} {l:SFr} {H:SH} {o:Oper}
theorem aUN (T:Tab P) {t e sz b:Nat} {x y:Operand} {k:IntKind} {m:Int} {rows:List (List Value)} (hb:bX H b=some (.ro sz rows)) (hx:evS l x=some (.buf b)) (hy:evS l y=some (.v (.int k m))) (ht:bC T.und t=some (.slice e sz)):
  (o.op=.slice t x none (some y) none->(PuS.sub (0<=m/\m<=rows.length) (.ro sz (rows.take m.toNat))).ok P n F h0 nx l H o) /\
  (o.op=.slice t x (some y) none none->(PuS.sub (0<=m/\m<=rows.length) (.ro sz (rows.drop m.toNat))).ok P n F h0 nx l H o):=by
 refine ⟨fun hop hn hbd E h S K=>?_,fun hop hn hbd E h S K=>?_⟩
 all_goals
  obtain ⟨g1,g2,ad,cap,g3,g4⟩:=S.ok _ (bW hb);simp only at g3;have hcap:rows.length<=cap:=by have:=g2.2;rw [g3] at this;exact this
  obtain ⟨h1,h2⟩:=T.okU.look ht
 ·refine ⟨.slice ad m.toNat cap,fun a w ha=>?_,?_⟩
  ·have e1:=ha.ev (bN (E:=E) hx);have e2:=ha.ev (bN (E:=E) hy);simp only [SV.g] at e1 e2;rw [g3] at e1;have hrun:=aNQ (P:=P) w h1 h2 ad rows.length cap k m (by omega)
   simp [execOp,hop,e1,e2,Instr.sliceAt,run_underlying h1,hrun]
  refine S.add hbd ?_ (fun hw=>by cases hw);have hlt:(rows.take m.toNat).length=m.toNat:=by rw [List.length_take];omega
  refine ⟨fun r hr=>g1 r (List.mem_of_mem_take hr),⟨?_,?_⟩,ad,cap,by rw [hlt],g4.take _⟩
  ·have:=g2.1;rw [hlt];omega
  show m.toNat<=cap;omega
 refine ⟨.slice (if cap=m.toNat then ad else ad.map (·.add (m.toNat*sz))) (rows.length - m.toNat) (cap - m.toNat),fun a w ha=>?_,?_⟩
 ·have e1:=ha.ev (bN (E:=E) hx);have e2:=ha.ev (bN (E:=E) hy);simp only [SV.g] at e1 e2;rw [g3] at e1;have hrun:=aHP (P:=P) w h1 h2 ad rows.length cap k m hn hcap
  simp [execOp,hop,e1,e2,Instr.sliceAt,run_underlying h1,hrun]
 refine S.add hbd ?_ (fun hw=>by cases hw);have hlt:(rows.drop m.toNat).length=rows.length - m.toNat:=List.length_drop;refine ⟨fun r hr=>g1 r (List.mem_of_mem_drop hr),⟨?_,?_⟩,_,cap - m.toNat,by rw [hlt],?_⟩
 ·have:=g2.1;rw [hlt];omega
 ·show rows.length - m.toNat<=cap - m.toNat;omega
 split
 ·exact .inl (List.drop_eq_nil_of_le (by omega))
 exact g4.drop g1 _
theorem aNX (T:Tab P) {t:TypeId} {cs:List SV} {f:Nat} {fs:List (Nat×Nat×Bool)} (hu:bC T.und t=some (.struct fs)):
  (∀oo m v,nth fs f=some (oo,m,false)->nth cs oo=some v -> ∀E,uF T t (.agg (SV.gs E cs).toArray) f=.val (v.g E)) /\
  (∀oo m,nth fs f=some (oo,m,true) -> ∀E,uF T t (.agg (SV.gs E cs).toArray) f=.val (SV.g E (.agg ((cs.drop oo).take m)))):=by
 refine ⟨fun oo m v hn hv E=>?_,fun oo m hn E=>?_⟩
 ·unfold uF;simp only [hu,hn];rw [fW] at hv;have:nth (SV.gs E cs) oo=some (v.g E):=by rw [fW,uR,hv];rfl
  simp [this]
 unfold uF;simp only [hu,hn,SV.g,aAR,yY]
theorem aJW (T:Tab P) (op:Op) (ho:o.op=op):(evO T l H nx op).ok P n F h0 nx l H o:=by
 unfold evO;split
 ·split
  ·exact bAP ho (by assumption)
  trivial
 ·split
  ·exact aQW ho (by assumption)
  trivial
 ·split
  ·split
   ·exact aPP ho (by assumption) (by assumption)
   trivial
  ·split
   ·exact aPP ho (by assumption) (by assumption)
   trivial
  trivial
 ·split
  ·split
   ·exact aOQ ho (by assumption) (by assumption)
   trivial
  ·exact eE T _ ho
  trivial
 ·split
  ·split
   ·split
    ·split
     ·exact wZ (oo:=0) T ho (by assumption) (by assumption) (by assumption) (fun E=>⟨_,_,rfl,rfl⟩)
     exact wZ T ho (by assumption) (by assumption) (by assumption) (fun E=>⟨_,_,rfl,by simp only [SV.g]⟩)
    trivial
   trivial
  ·split
   ·split
    ·split
     ·exact wZ (oo:=0) T ho (by assumption) (by assumption) (by assumption) (fun E=>⟨_,_,rfl,rfl⟩)
     exact wZ T ho (by assumption) (by assumption) (by assumption) (fun E=>⟨_,_,rfl,by simp only [SV.g,Nat.add_assoc]⟩)
    trivial
   trivial
  ·exact eE T _ ho
  trivial
 ·split
  ·split
   ·rename_i hu
    split
    ·rename_i hn
     split
     ·rename_i hv
      exact aGD T ho (by assumption) ((aNX T hu).1 _ _ _ hn hv)
     trivial
    ·rename_i hn
     exact aGD T ho (by assumption) ((aNX T hu).2 _ _ hn)
    trivial
   trivial
  ·exact eE T _ ho
  trivial
 ·split
  ·split
   ·split
    ·split
     ·split
      ·rename_i hb
       have:=Nat.eq_of_beq_eq_true hb;subst this;exact fun hp=>aVT T ho (by assumption) (by assumption) (by assumption) (by assumption) hp
      trivial
     trivial
    trivial
   trivial
  ·split
   ·split
    ·exact fun hp=>aPX T ho (by assumption) (by assumption) (by assumption) hp
    trivial
   trivial
  ·exact eE T _ ho
  trivial
 ·split
  ·exact aTY ho (by assumption) (fun E=>⟨_,rfl⟩)
  ·exact aTY ho (by assumption) (fun E=>⟨_,rfl⟩)
  ·exact eE T _ ho
  trivial
 ·split
  ·exact eE T _ ho
  ·split
   ·trivial
   ·rename_i hne hu
    exact aWE T ho (by assumption) hu (fun e=>hne e)
   trivial
  trivial
 ·split
  ·split
   ·exact aZW ho (by assumption) (by assumption)
   trivial
  trivial
 ·split
  ·split
   ·split
    ·split
     ·exact aYU T ho (by assumption) (by assumption) (by assumption) (by assumption)
     trivial
    split
    ·split
     ·split
      ·exact aXL T ho (by assumption) (by assumption) (by assumption) (by assumption) (Nat.le_of_ble_eq_true (by assumption))
      trivial
     trivial
    trivial
   trivial
  ·split
   ·split
    ·rename_i hb
     have:=Nat.eq_of_beq_eq_true hb;subst this;split
     ·exact fun row hr x hx=>aWY T ho (by assumption) (by assumption) (by assumption) hr hx
     split
     ·split
      ·exact fun row hr hle=>aRQ T ho (by assumption) (by assumption) (by assumption) (by assumption) hr hle
      trivial
     trivial
    trivial
   trivial
  ·split
   ·exact fun v hv=>okS_old T ho (by assumption) (by assumption) hv
   split
   ·split
    ·exact fun vs hl hv=>bBF T ho (by assumption) (by assumption) (by assumption) hl hv
    trivial
   trivial
  trivial
 ·split
  ·split
   ·split
    ·split
     ·split
      ·split
       ·split
        ·split
         ·exact aWL T ho (by assumption) (by assumption) (by assumption) (by assumption) (by assumption) (Nat.eq_of_beq_eq_true (by assumption)) (by assumption) (Nat.le_of_ble_eq_true (by assumption))
         trivial
        trivial
       trivial
      trivial
     trivial
    trivial
   trivial
  ·split
   ·split
    ·rename_i hb
     have:=Nat.eq_of_beq_eq_true hb;subst this;split
     ·split
      ·split
       ·split
        ·split
         ·split
          ·split
           ·exact fun row hr=>aZR T ho (by assumption) (by assumption) (by assumption) (by assumption) (by assumption) (by assumption) (Nat.eq_of_beq_eq_true (by assumption)) (by assumption) (Nat.le_of_ble_eq_true (by assumption)) hr
           trivial
          trivial
         trivial
        trivial
       trivial
      trivial
     trivial
    trivial
   trivial
  trivial
 ·split
  ·split
   ·exact fun hb hbs=>okS_box ho (by assumption) (by assumption) hb hbs
   trivial
  trivial
 ·split
  ·exact fun hb _=>aVF T ho (by assumption) hb
  trivial
 ·split
  ·split
   ·rename_i hi
    split
    ·rename_i hu
     split
     ·rename_i hf
      refine aCA ho (by assumption) fun E h S=>?_;rw [aLP T hi hu];have:=yV S hf;rw [nL,Array.toArray_toList] at this;exact this
     trivial
    ·rename_i hu
     split
     ·rename_i hf
      refine aCA ho (by assumption) fun E h S=>?_;rw [aMJ T hi hu];have:=yV S hf;rw [nL,Array.toArray_toList] at this;exact this
     trivial
    trivial
   trivial
  trivial
 ·split
  ·split
   ·split
    ·split
     ·split
      ·split
       ·split
        ·split
         ·split
          ·split
           ·exact fun hb _=>aGJ T ho (by assumption) (by assumption) (Nat.eq_of_beq_eq_true (by assumption)) (by assumption) (by assumption) (by assumption) (by assumption) (Nat.eq_of_beq_eq_true (by assumption))
             (Nat.le_trans (m:=16777216) (Nat.le_of_ble_eq_true (by assumption)) (by rw [aCJ];omega)) (by assumption) hb
           trivial
          trivial
         trivial
        trivial
       trivial
      trivial
     trivial
    trivial
   trivial
  trivial
 ·split
  ·split
   ·split
    ·split
     ·split
      ·split
       ·exact fun hp hb _=>aYR T ho (by assumption) (by assumption) (by assumption) (by assumption) (Nat.eq_of_beq_eq_true (by assumption)) (by assumption) hp hb
       trivial
      trivial
     trivial
    trivial
   trivial
  trivial
 ·rename_i c
  split
  ·rename_i hc
   split
   ·rename_i x y ha
    split
    ·rename_i t t2 hts
     split
     ·rename_i htt
      have:=Nat.eq_of_beq_eq_true htt;subst this;split
      ·rename_i e sz hu
       split
       ·rename_i i hi
        split
        ·rename_i hz
         split
         ·rename_i hsz
          split
          ·rename_i b2 hy
           split
           ·rename_i sz2 rows2 hr2
            split
            ·rename_i h22
             have:=Nat.eq_of_beq_eq_true h22;subst this;split
             ·rename_i b hx
              split
              ·rename_i e' sz' rows hl
               split
               ·rename_i hee
                have:=Nat.eq_of_beq_eq_true hee;subst this;split
                ·rename_i hss
                 have:=Nat.eq_of_beq_eq_true hss;subst this;refine fun hp hb=>aFX T ho hc ha hts hu hi (Nat.eq_of_beq_eq_true hz) (Nat.blt_eq.mp hsz) hy hr2 hx (r:=some b) (fun E h S=>?_) ⟨hp.1,hp.2.1,hp.2.2.1⟩ hb;obtain ⟨k1,k2,k3⟩:=aCZ S hl;exact ⟨k1,k2,fun g hg=>⟨k3 g hg,b,rfl,rfl,_,hl,rfl⟩⟩
                trivial
               trivial
              trivial
             ·rename_i hx
              refine fun hp hb=>aFX T ho hc ha hts hu hi (Nat.eq_of_beq_eq_true hz) (Nat.blt_eq.mp hsz) hy hr2 hx (r:=none) (rows:=[]) (fun E h S=>?_) ⟨hp.1,by simpa using hp.2.1,by simpa using hp.2.2⟩ hb;exact ⟨(fun _ h=>by cases h),⟨by simp,.inl ⟨rfl,rfl⟩⟩,fun g hg=>by cases hg⟩
             trivial
            trivial
           trivial
          trivial
         trivial
        trivial
       trivial
      trivial
     trivial
    trivial
   trivial
  ·split
   ·split
    ·split
     ·split
      ·split
       ·exact okS_len T ho (by assumption) (by assumption) (by assumption) (by assumption) (by assumption) (by assumption)
       trivial
      trivial
     trivial
    ·exact eE T _ ho
    trivial
   trivial
  ·exact eE T _ ho
  ·exact eE T _ ho
  trivial
 ·split
  ·split
   ·split
    ·exact eqA_ok T ho (by assumption) (by assumption)
    trivial
   split
   ·split
    ·split
     ·exact fun r hr=>okS_rem ho (by assumption) (by assumption) hr
     trivial
    exact eE T _ ho
   exact eE T _ ho
  trivial
 ·exact eE T _ ho
 ·split
  ·split
   ·split
    ·split
     ·split
      ·rename_i hr
       intro is his;rw [his] at hr;exact aXX T ho (by assumption) (by assumption) (by assumption) (by assumption) hr
      trivial
     trivial
    trivial
   trivial
  exact eE T _ ho
 ·exact eE T _ ho
 ·split
  ·split
   ·split
    ·split
     ·rename_i hb
      have:=Nat.eq_of_beq_eq_true hb;subst this;split
      ·split
       ·split
        ·exact (aUN T (by assumption) (by assumption) (by assumption) (by assumption)).1 ho
        trivial
       trivial
      split
      ·split
       ·exact (aUN T (by assumption) (by assumption) (by assumption) (by assumption)).2 ho
       trivial
      trivial
     trivial
    trivial
   trivial
  exact eE T _ ho
 trivial
end

def nC:List SV->(List SV->Prop)->Prop
 | [],K=>K []
 |x::xs,K=>nC xs (fun ys=>K (x::ys))
theorem iK:∀(xs:List SV) (K:List SV->Prop),nC xs K=K xs
 | [],K=>rfl
 |x::xs,K=>by simp only [nC,iK xs]
def uV (b:Blk) (K:Blk->Prop):Prop:=match b with
 | .cells t cs=>nC cs fun cs'=>K (.cells t cs')
 | .own e sz rows=>K (.own e sz rows)
 | .ro sz rows=>K (.ro sz rows)
 | .map d es=>K (.map d es)
 | .raw a o=>K (.raw a o)
theorem oA (b:Blk) (K:Blk->Prop):uV b K=K b:=by cases b<;>simp only [uV,iK]
def aHA:SH->Nat->(SH->Prop)->Prop
 | [],_,K=>K []
 |(s,v)::l,d,K=>match Nat.beq s d with
  |true=>aHA l d K
  |false=>aHA l d (fun H'=>K ((s,v)::H'))
theorem sT:∀(H:SH) (d:Nat) (K:SH->Prop),aHA H d K=K (aAA H d)
 | [],d,K=>rfl
 |(s,v)::l,d,K=>by
  simp only [aHA,aAA]
  cases Nat.beq s d with
  |true=>exact sT l d K
  |false=>simp only [sT l d]
def aUY (H:SH) (r:Option Nat) (K:SH->Prop):Prop:=match r with
 |some b=>aHA H b K
 |none=>K H
theorem aNC (H:SH) (r:Option Nat) (K:SH->Prop):aUY H r K=K (remO H r):=by cases r<;>simp only [aUY,remO,sT]
def yS:SH->Nat->Blk->(SH->Prop)->Prop
 | [],_,_,K=>K []
 |(s,v)::l,d,x,K=>match Nat.beq s d with
  |true=>K ((s,x)::l)
  |false=>yS l d x (fun H'=>K ((s,v)::H'))
theorem jN:∀(H:SH) (d:Nat) (x:Blk) (K:SH->Prop),yS H d x K=K (nG H d x)
 | [],d,x,K=>rfl
 |(s,v)::l,d,x,K=>by
  simp only [yS,nG]
  cases Nat.beq s d with
  |true=>rfl
  |false=>simp only [jN l d]
def fJ (l:SFr) (dst:Option Nat) (x:SV) (K:SFr->Prop):Prop:=match dst with
 |some d=>K ((d,x)::l)
 |none=>K l
theorem bD (l:SFr) (dst:Option Nat) (x:SV) (K:SFr->Prop):fJ l dst x K=K (aLJ l dst x):=by cases dst<;>rfl
def goS (T:Tab P) (n n0:Nat) (F:Nat->Prop) (h0:Array Obj) (ds:List cY) (stop:Nat->List SI->SFr->SH->Prop):Nat->Nat->List SI->SFr->SH->Prop
 |0,nx,st,l,H=>stop nx st l H
 |f+1,nx,st,l,H=>match st with
  | []=>stop nx st l H
  |it::k=>match it with
   | .inBlock _=>goS T n n0 F h0 ds stop f nx k l H
   | .inScope _=>goS T n n0 F h0 ds stop f nx k l H
   | .ops all todo=>match todo with
    | []=>goS T n n0 F h0 ds stop f nx k l H
    |o::rest=>match cB n o.dst with
     |false=>stop nx st l H
     |true=>match bT l all o with
      |none=>stop nx st l H
      |some false=>fJ l o.dst (.v undef) fun l=>goS T n n0 F h0 ds stop f nx (.ops all rest::k) l H
      |some true=>match evO T l H nx o.op with
       | .stop=>stop nx st l H
       | .val x=>fJ l o.dst x fun l=>goS T n n0 F h0 ds stop f nx (.ops all rest::k) l H
       | .vala cs=>nC cs fun cs=>fJ l o.dst (.agg cs) fun l=>goS T n n0 F h0 ds stop f nx (.ops all rest::k) l H
       | .ob p x=>p/\fJ l o.dst x fun l=>goS T n n0 F h0 ds stop f nx (.ops all rest::k) l H
       | .tst p i=>match o.dst with
        |none=>stop nx st l H
        |some d=>match kO all.toList rest k d with
         |true=>(p->goS T n n0 F h0 ds stop f nx (.ops all rest::k) ((d,.v (.bool true))::l) H)/\(¬p->goS T n n0 F h0 ds stop f nx (.ops all rest::k) ((d,.v (.bool false))::l) H)
         |false=>goS T n n0 F h0 ds stop f nx (.ops all rest::k) ((d,.v (.bool (@decide p i)))::l) H
       | .ntst p i=>match o.dst with
        |none=>stop nx st l H
        |some d=>match kO all.toList rest k d with
         |true=>(p->goS T n n0 F h0 ds stop f nx (.ops all rest::k) ((d,.v (.bool false))::l) H)/\(¬p->goS T n n0 F h0 ds stop f nx (.ops all rest::k) ((d,.v (.bool true))::l) H)
         |false=>goS T n n0 F h0 ds stop f nx (.ops all rest::k) ((d,.v (.bool (!@decide p i)))::l) H
       | .new x b=>match gQ n0 nx l H ds with
        |false=>stop nx st l H
        |true=>match bdB nx b with
         |false=>stop nx st l H
         |true=>uV b fun b=>fJ l o.dst x fun l=>goS T n n0 F h0 ds stop f (nx+1) (.ops all rest::k) l ((nx,b)::H)
       | .newo p x b=>match gQ n0 nx l H ds with
        |false=>stop nx st l H
        |true=>match bdB nx b with
         |false=>stop nx st l H
         |true=>p/\uV b fun b=>fJ l o.dst x fun l=>goS T n n0 F h0 ds stop f (nx+1) (.ops all rest::k) l ((nx,b)::H)
       | .app p r b=>match gQ n0 nx l H ds with
        |false=>stop nx st l H
        |true=>p/\aUY H r fun H=>fJ l o.dst (.buf nx) fun l=>goS T n n0 F h0 ds stop f (nx+1) (.ops all rest::k) l ((nx,b)::H)
       | .put b y=>uV y fun y=>yS H b y fun H=>fJ l o.dst (.v undef) fun l=>goS T n n0 F h0 ds stop f nx (.ops all rest::k) l H
       | .puto p b y=>p/\uV y fun y=>yS H b y fun H=>fJ l o.dst (.v undef) fun l=>goS T n n0 F h0 ds stop f nx (.ops all rest::k) l H
       | .rowv rows i off=>∃row,rows[i.toNat]? = some row/\(match nth row off with
        |some x=>fJ l o.dst (.v x) fun l=>goS T n n0 F h0 ds stop f nx (.ops all rest::k) l H
        |none=>False)
       | .rowa rows i off m=>∃row,rows[i.toNat]? = some row/\off+m<=row.length/\nC (toV ((row.drop off).take m)) fun cs=>fJ l o.dst (.agg cs) fun l=>goS T n n0 F h0 ds stop f nx (.ops all rest::k) l H
       | .rput b e sz rows i off vals=>∃row,rows[i.toNat]? = some row/\yS H b (.own e sz (rows.set i.toNat (jX row off vals))) fun H=>fJ l o.dst (.v undef) fun l=>goS T n n0 F h0 ds stop f nx (.ops all rest::k) l H
       | .old b off=>∃v,OldC F h0 b off v/\fJ l o.dst (.v v) fun l=>goS T n n0 F h0 ds stop f nx (.ops all rest::k) l H
       | .rem x y=>∃r,aPM x y r/\fJ l o.dst (.v (.int .i64 r)) fun l=>goS T n n0 F h0 ds stop f nx (.ops all rest::k) l H
       | .sub p b=>match gQ n0 nx l H ds with
        |false=>stop nx st l H
        |true=>p/\fJ l o.dst (.buf nx) fun l=>goS T n n0 F h0 ds stop f (nx+1) (.ops all rest::k) l ((nx,b)::H)
       | .bytes rows=>∃is,rows=jK is/\fJ l o.dst (.v (.string (strI is))) fun l=>goS T n n0 F h0 ds stop f nx (.ops all rest::k) l H
       | .olda b off m=>∃vs,(vs.length=m/\aMF F h0 b off vs)/\nC (toV vs) fun cs=>fJ l o.dst (.agg cs) fun l=>goS T n n0 F h0 ds stop f nx (.ops all rest::k) l H
   | .code c=>match c with
    | .skip=>goS T n n0 F h0 ds stop f nx k l H
    | .label _=>goS T n n0 F h0 ds stop f nx k l H
    | .seq a b=>goS T n n0 F h0 ds stop f nx (.code a::.code b::k) l H
    | .cond x y z=>match evS l x with
     |some (.v (.bool true))=>goS T n n0 F h0 ds stop f nx (.code y::k) l H
     |some (.v (.bool false))=>goS T n n0 F h0 ds stop f nx (.code z::k) l H
     |_=>stop nx st l H
    | .block i b=>goS T n n0 F h0 ds stop f nx (.code b::.inBlock i::k) l H
    | .scope b=>goS T n n0 F h0 ds stop f nx (.code b::.inScope b::k) l H
    | .exit i=>match aGZ i k with
     |some k'=>goS T n n0 F h0 ds stop f nx k' l H
     |none=>stop nx st l H
    | .goto i=>match aFF i k with
     |some k'=>goS T n n0 F h0 ds stop f nx k' l H
     |none=>stop nx st l H
    | .region _ ops draw=>match draw with
     |false=>goS T n n0 F h0 ds stop f nx (.ops ops ops.toList::k) l H
     |true=>stop nx st l H
    |_=>stop nx st l H
   |_=>stop nx st l H
theorem aD.opSkip0 {c:Ctx P} {ds:List Deferred} {k:List SI} {l:Fr} {h:Array Obj} {all:Array Oper} {rest:List Oper} {o:Oper} (hdn:cB c.n o.dst=true) (hg:dG l all o=some false)
  (hr:aD c ds (.ops all rest::k) (upd l o.dst undef) h):aD c ds (.ops all (o::rest)::k) l h:=by
 unfold aD at hr ⊢;intro hwf a w ha hd hh hw;have hwn:=bJ ha hg;obtain ⟨i,e1,e2,ho,hwf'⟩:=iY (hwf _ (List.mem_cons_self ..));have hr':=hr (cA hwf' (bQ hwf)) _ w (eG ha (fE hdn) undef) (by cases o.dst<;>simpa [Act.put] using hd) hh hw;refine c.back _ _ (step_lone_go ?_) hr';simp only [gU,e1,e2];have hf:=fC (c:=c) a all i (List.range' (i+1) rest.length) (its k) undef;rw [ho] at hf;simp only [Option.bind_some] at hf;rw [<-hf];simp only [Ctx.fr] at *
 simp [stepG,stepG.exec,ho,hwn]
theorem aWB (T:Tab P) {l:SFr} {H:SH} {nx:Nat} {o:Oper} (h:evO T l H nx o.op ≠ .stop):dY o=true:=by
 unfold dY;split
 ·rename_i cl hop
  rw [hop] at h;exact absurd rfl h
 rfl
section
variable {s:SCx P} {ds:List cY}
theorem aA.lift1 {nx nx':Nat} {st st':List SI} {l:SFr} {H:SH} (h:∀E hh,aD s.c (gD E ds) st' (gF E l) hh->aD s.c (gD E ds) st (gF E l) hh) (hr:aA s ds nx' st' l H):aA s ds nx st l H:=
 ⟨fun E hh hA S K=>h E hh (hr.run E hh hA S K)⟩
theorem pM (T:Tab P):∀(f nx:Nat) (st:List SI) (l:SFr) (H:SH),goS T s.c.n s.n0 s.F s.h0 ds (fun nx st l H=>aA s ds nx st l H) f nx st l H->aA s ds nx st l H:=by
 intro f
 induction f with
 |zero=>intro nx st l H hg;exact hg
 |succ f ih=>
  intro nx st l H hg;unfold goS at hg;split at hg
  ·exact hg
  split at hg
  ·exact aA.lift1 (fun E hh=>aD.inBlock) (ih _ _ _ _ hg)
  ·exact aA.lift1 (fun E hh=>aD.inScope) (ih _ _ _ _ hg)
  ·split at hg
   ·exact aA.lift1 (fun E hh=>aD.regionEnd) (ih _ _ _ _ hg)
   rename_i o rest
   split at hg
   ·exact hg
   rename_i hdst
   split at hg
   ·exact hg
   ·rename_i hgd
    rw [bD] at hg;refine ⟨fun E h hA S K=>?_⟩;have:=(ih _ _ _ _ hg).run E h hA S K;rw [eP] at this;exact aD.opSkip0 hdst (bK hgd) this
   rename_i hgd
   have hgd':∀E,dG (gF E l) _ o=some true:=fun E=>bK hgd;have hk:=aJW (P:=P) (n:=s.c.n) (F:=s.F) (h0:=s.h0) (nx:=nx) (l:=l) (H:=H) (o:=o) T o.op rfl;have hnd:=fun h=>aWB (l:=l) (H:=H) (nx:=nx) (o:=o) T h;split at hg
   ·exact hg
   ·rename_i hv;rw [hv] at hk hnd
    rw [bD] at hg;exact aA.effK hk hgd' hdst (hnd (by simp)) (ih _ _ _ _ hg)
   ·rename_i hv;rw [hv] at hk hnd
    rw [iK,bD] at hg;exact aA.effK hk hgd' hdst (hnd (by simp)) (ih _ _ _ _ hg)
   ·rename_i hv;rw [hv] at hk hnd
    rw [bD] at hg;exact aA.effK (hk hg.1) hgd' hdst (hnd (by simp)) (ih _ _ _ _ hg.2)
   ·rename_i p i hv;rw [hv] at hk hnd
    simp only [PuS.ok] at hk;split at hg
    ·exact hg
    rename_i d hd
    split at hg
    ·by_cases hp:p
     ·simp only [hp,decide_true] at hk;refine aA.effK hk hgd' hdst (hnd (by simp)) ?_;rw [hd];exact ih _ _ _ _ (hg.1 hp)
     simp only [hp,decide_false] at hk;refine aA.effK hk hgd' hdst (hnd (by simp)) ?_;rw [hd];exact ih _ _ _ _ (hg.2 hp)
    refine aA.effK hk hgd' hdst (hnd (by simp)) ?_;rw [hd];exact ih _ _ _ _ hg
   ·rename_i p i hv;rw [hv] at hk hnd
    simp only [PuS.ok] at hk;split at hg
    ·exact hg
    rename_i d hd
    split at hg
    ·by_cases hp:p
     ·simp only [hp,decide_true,Bool.not_true] at hk;refine aA.effK hk hgd' hdst (hnd (by simp)) ?_;rw [hd];exact ih _ _ _ _ (hg.1 hp)
     simp only [hp,decide_false,Bool.not_false] at hk;refine aA.effK hk hgd' hdst (hnd (by simp)) ?_;rw [hd];exact ih _ _ _ _ (hg.2 hp)
    refine aA.effK hk hgd' hdst (hnd (by simp)) ?_;rw [hd];exact ih _ _ _ _ hg
   ·rename_i hv;rw [hv] at hk hnd
    split at hg
    ·exact hg
    rename_i hf
    obtain ⟨f1,f2,f3,f4⟩:=dW hf;split at hg
    ·exact hg
    rw [oA,bD] at hg;exact aA.eff (hk f3 (by assumption)) hgd' hdst (hnd (by simp)) f1 f2 f4 (ih _ _ _ _ hg)
   ·rename_i hv;rw [hv] at hk hnd
    split at hg
    ·exact hg
    rename_i hf
    obtain ⟨f1,f2,f3,f4⟩:=dW hf;split at hg
    ·exact hg
    rw [oA,bD] at hg;exact aA.eff (hk hg.1 f3 (by assumption)) hgd' hdst (hnd (by simp)) f1 f2 f4 (ih _ _ _ _ hg.2)
   ·rename_i hv;rw [hv] at hk hnd
    split at hg
    ·exact hg
    rename_i hf
    obtain ⟨f1,f2,f3,f4⟩:=dW hf;rw [aNC,bD] at hg;exact aA.eff (hk hg.1 f3) hgd' hdst (hnd (by simp)) f1 f2 f4 (ih _ _ _ _ hg.2)
   ·rename_i hv;rw [hv] at hk hnd
    rw [oA,jN,bD] at hg;exact aA.effK hk hgd' hdst (hnd (by simp)) (ih _ _ _ _ hg)
   ·rename_i hv;rw [hv] at hk hnd
    rw [oA,jN,bD] at hg;exact aA.effK (hk hg.1) hgd' hdst (hnd (by simp)) (ih _ _ _ _ hg.2)
   ·rename_i hv;rw [hv] at hk hnd
    obtain ⟨row,hr,hg⟩:=hg;split at hg
    ·rename_i x hx
     rw [bD] at hg;exact aA.effK (hk row hr x hx) hgd' hdst (hnd (by simp)) (ih _ _ _ _ hg)
    exact hg.elim
   ·rename_i hv;rw [hv] at hk hnd
    obtain ⟨row,hr,hle,hg⟩:=hg;rw [iK,bD] at hg;exact aA.effK (hk row hr hle) hgd' hdst (hnd (by simp)) (ih _ _ _ _ hg)
   ·rename_i hv;rw [hv] at hk hnd
    obtain ⟨row,hr,hg⟩:=hg;rw [jN,bD] at hg;exact aA.effK (hk row hr) hgd' hdst (hnd (by simp)) (ih _ _ _ _ hg)
   ·rename_i hv;rw [hv] at hk hnd
    obtain ⟨v,hc,hg⟩:=hg;rw [bD] at hg;exact aA.effK (hk v hc) hgd' hdst (hnd (by simp)) (ih _ _ _ _ hg)
   ·rename_i hv;rw [hv] at hk hnd
    obtain ⟨r,hr,hg⟩:=hg;rw [bD] at hg;exact aA.effK (hk r hr) hgd' hdst (hnd (by simp)) (ih _ _ _ _ hg)
   ·rename_i hv;rw [hv] at hk hnd
    split at hg
    ·exact hg
    rename_i hf
    obtain ⟨f1,f2,f3,f4⟩:=dW hf;rw [bD] at hg;refine aA.eff (x:=.buf nx) (fun E h S K=>?_) hgd' hdst (hnd (by simp)) f1 f2 f4 (ih _ _ _ _ hg.2);obtain ⟨v,e1,e2⟩:=hk hg.1 f3 E h S K;exact Eff.of_value fun a w ha hh=>⟨v,w,e1 a w ha,dC.refl w,push E nx v,gA E nx v,by show _=push E nx v nx;rw [gW],hh▸e2,hh▸K⟩
   ·rename_i hv;rw [hv] at hk hnd
    obtain ⟨is,his,hg⟩:=hg;rw [bD] at hg;exact aA.effL (hk is his) hgd' hdst (hnd (by simp)) (ih _ _ _ _ hg)
   rename_i hv;rw [hv] at hk hnd
   obtain ⟨vs,⟨hl,hc⟩,hg⟩:=hg;rw [iK,bD] at hg;exact aA.effK (hk vs hl hc) hgd' hdst (hnd (by simp)) (ih _ _ _ _ hg)
  ·split at hg
   ·exact aA.lift1 (fun E hh=>aD.skip) (ih _ _ _ _ hg)
   ·exact aA.lift1 (fun E hh=>aD.label) (ih _ _ _ _ hg)
   ·exact aA.lift1 (fun E hh=>aD.seq) (ih _ _ _ _ hg)
   ·split at hg
    ·rename_i hx
     exact aA.lift1 (fun E hh hr=>aD.cond (bN hx) hr) (ih _ _ _ _ hg)
    ·rename_i hx
     exact aA.lift1 (fun E hh hr=>aD.cond (bN hx) hr) (ih _ _ _ _ hg)
    exact hg
   ·exact aA.lift1 (fun E hh=>aD.block) (ih _ _ _ _ hg)
   ·exact aA.lift1 (fun E hh=>aD.scope) (ih _ _ _ _ hg)
   ·split at hg
    ·rename_i hx
     exact aA.lift1 (fun E hh hr=>aD.exit hx hr) (ih _ _ _ _ hg)
    exact hg
   ·split at hg
    ·rename_i hx
     exact aA.lift1 (fun E hh hr=>aD.goto hx hr) (ih _ _ _ _ hg)
    exact hg
   ·split at hg
    ·exact aA.lift1 (fun E hh=>aD.region) (ih _ _ _ _ hg)
    exact hg
   exact hg
  exact hg
end

/-! other names -/
def aLX (f:Nat->Nat):Blk->Blk
 | .cells t cs=>.cells t (SV.rens f cs)
 |b=>b
def rn (m:List (Nat×Nat)) (b:Nat):Nat:=match m with
 | []=>b
 |(x,y)::m=>match Nat.beq x b with
  |true=>y
  |false=>rn m b
def bGJ (f:Nat->Nat) (l:SFr):SFr->Prop
 | []=>True
 |(s,x)::l'=>oS l s=some (x.ren f)/\bGJ f l l'
def nE (f:Nat->Nat) (H:SH):SH->Prop
 | []=>True
 |(b,x)::H'=>bX H (f b)=some (aLX f x)/\nE f H H'
def aHJ (k:Nat):List Nat->Bool
 | []=>false
 |j::js=>match Nat.beq k j with
  |true=>true
  |false=>aHJ k js
theorem aAZ {k:Nat}:∀ {l:List Nat},aHJ k l=false->k∉l
 | [],_=>by simp
 |j::js,h=>by
  simp only [aHJ] at h
  cases hb:Nat.beq k j with
  |true=>simp [hb] at h
  |false=>
   simp only [hb] at h;rw [List.mem_cons];rintro (e|e)
   ·subst e;simp at hb
   exact aAZ h e
def dV (f:Nat->Nat):SH->List Nat->Bool
 | [],_=>true
 |(b,_)::H,seen=>match aHJ (f b) seen with
  |true=>false
  |false=>dV f H (f b::seen)
theorem bGJ.ok {f:Nat->Nat} {E:Env} {l:SFr}:∀ {l':SFr},bGJ f l l'->Sub (gF E l) (gF (fun b=>E (f b)) l')
 | [],_=>trivial
 |(s,x)::l',h=>⟨by rw [fD h.1,SV.g_ren],bGJ.ok h.2⟩
theorem nE.mem {f:Nat->Nat} {H:SH}:∀ {H':SH},nE f H H' -> ∀p∈H',(f p.1,aLX f p.2)∈H
 | [],_,p,hp=>by cases hp
 |(b,x)::H',h,p,hp=>by
  rcases List.mem_cons.1 hp with rfl|hp
  ·exact bW h.1
  exact nE.mem h.2 p hp
theorem rJ {E:Env} {H:SH} (hp:H.Pairwise (nM E)) {p q:Nat×Blk} (h1:p∈H) (h2:q∈H) (hne:p.1≠q.1):nM E p q:=by
 induction H with
 |nil=>cases h1
 |cons x H ih=>
  obtain ⟨hx,hr⟩:=List.pairwise_cons.1 hp;rcases List.mem_cons.1 h1 with e1|h1
  ·rcases List.mem_cons.1 h2 with e2|h2
   ·exact absurd (by rw [e1,e2]) hne
   rw [e1];exact hx q h2
  rcases List.mem_cons.1 h2 with e2|h2
  ·rw [e2];exact (hx p h1).symm
  exact ih hr h1 h2
theorem aZD {f:Nat->Nat} {E:Env} {F:Nat->Prop} {h:Array Obj} {x:Value} {b:Blk}:(aLX f b).ok E F h x↔b.ok (fun b=>E (f b)) F h x:=by
 cases b with
 |cells t cs=>simp only [aLX,Blk.ok,SV.gs_ren]
 |own=>exact Iff.rfl
 |ro=>exact Iff.rfl
 |map|raw=>exact Iff.rfl
theorem aSH (f:Nat->Nat) (b:Blk):wr (aLX f b)=wr b:=by cases b<;>rfl
theorem aJF {f:Nat->Nat} {E:Env} {H:SH} (hp:H.Pairwise (nM E)):∀ {H':SH} {seen:List Nat},nE f H H'->dV f H' seen=true ->
  (∀p∈H',f p.1∉seen)/\H'.Pairwise (nM (fun b=>E (f b)))
 | [],_,_,_=>⟨fun _ h=>(by cases h),List.Pairwise.nil⟩
 |(b,x)::H',seen,hs,hn=>by
  simp only [dV] at hn
  cases hm:aHJ (f b) seen with
  |true=>simp [hm] at hn
  |false=>
   simp only [hm] at hn;obtain ⟨h1,h2⟩:=aJF hp hs.2 hn;have hb:=aAZ hm;refine ⟨fun p hp'=>?_,List.pairwise_cons.2 ⟨fun q hq=>?_,h2⟩⟩
   ·rcases List.mem_cons.1 hp' with rfl|hp'
    ·exact hb
    exact fun hc=>h1 p hp' (List.mem_cons_of_mem _ hc)
   have hne:f b≠f q.1:=fun e=>h1 q hq (by rw [e];exact List.mem_cons_self ..);have:=rJ hp (bW hs.1) (nE.mem hs.2 q hq) hne;intro hw1 hw2 g e1 e2;exact this (by rw [aSH];exact hw1) (by rw [aSH];exact hw2) g e1 e2
theorem Sat.ren {f:Nat->Nat} {E:Env} {F:Nat->Prop} {H H':SH} {h:Array Obj} (S:Sat E F H h) (hs:nE f H H') (hn:dV f H' []=true):Sat (fun b=>E (f b)) F H' h:=
 ⟨fun p hp=>aZD.1 (S.ok _ (nE.mem hs p hp)),(aJF S.apart hs hn).2⟩
def bGM (f:Nat->Nat):List cY->List cY
 | []=>[]
 |d::l=>⟨d.g,SV.rens f d.captured,SV.rens f d.args,d.col⟩::bGM f l
theorem aZH (f:Nat->Nat) (E:Env):∀l:List cY,gD E (bGM f l)=gD (fun b=>E (f b)) l
 | []=>rfl
 |d::l=>by simp only [bGM,gD,cY.c,SV.gs_ren,aZH f E l]
section
variable {s:SCx P} {ds:List cY} {nx:Nat} {k:List SI} {l:SFr} {H:SH} {st:List SI}
theorem aA.sub {ds':List cY} {nx':Nat} {l':SFr} {H':SH} (f:Nat->Nat) (hr:aA s ds' nx' st l' H') (hf:∀b,b<s.n0->f b=b) (hn:dV f H' []=true) (hd:bGM f ds'=ds) (hl:bGJ f l l') (hH:nE f H H'):aA s ds nx st l H:=.mk fun E h hA S K=>by
 have:=hr.run (fun b=>E (f b)) h (fun b hb=>by show E (f b)=_;rw [hf b hb];exact hA b hb) (S.ren hH hn) K;rw [<-aZH,hd] at this;exact aD.sub hl.ok this
theorem aA.mark (hr:aA s ds nx k l H):aA s ds nx (.mark::k) l H:=aA.lift1 (fun _ _=>aD.mark) hr
theorem aA.loopB {x:Code} {c:Ctx P} {E0:Env} {n0:Nat} {X:Type} (S:X->(Nat->Prop)×Array Obj) (L:X->SFr) (HH:X->SH) (nxl:Nat) (J:X->Prop) (μ:X->Nat)
  (round:∀x0,J x0->(∀x',J x'->μ x'<μ x0->aA ⟨c,(S x').1,(S x').2,E0,n0⟩ ds nxl (.inLoop x::k) (L x') (HH x'))->aA ⟨c,(S x0).1,(S x0).2,E0,n0⟩ ds nxl (.code x::.inLoop x::k) (L x0) (HH x0)):
  ∀x0,J x0->aA ⟨c,(S x0).1,(S x0).2,E0,n0⟩ ds nxl (.code (.loop x)::k) (L x0) (HH x0):=by
 have key:∀m x0,μ x0=m->J x0->aA ⟨c,(S x0).1,(S x0).2,E0,n0⟩ ds nxl (.code x::.inLoop x::k) (L x0) (HH x0):=by
  intro m
  induction m using Nat.strongRecOn with
  |_ m ih=>
   intro x0 hm hJ;exact round x0 hJ fun x' hJ' hlt=>aA.lift1 (fun _ _=>aD.inLoop) (ih (μ x') (hm▸hlt) x' rfl hJ')
 exact fun x0 hJ=>aA.lift1 (fun _ _=>aD.loop1) (key _ x0 rfl hJ)
theorem aA.loop {x:Code} {X:Type} (L:X->SFr) (HH:X->SH) (nxl:Nat) (J:X->Prop) (μ:X->Nat)
  (round:∀x0,J x0->(∀x',J x'->μ x'<μ x0->aA s ds nxl (.inLoop x::k) (L x') (HH x'))->aA s ds nxl (.code x::.inLoop x::k) (L x0) (HH x0)):
  ∀x0,J x0->aA s ds nxl (.code (.loop x)::k) (L x0) (HH x0):=
 aA.loopB (c:=s.c) (E0:=s.E0) (n0:=s.n0) (fun _=>(s.F,s.h0)) L HH nxl J μ round
theorem aA.join {x:Code} {Y:Type} (L:Y->SFr) (HH:Y->SH) (nxe:Nat) (J:Y->Prop) (after:∀y,J y->aA s ds nxe k (L y) (HH y))
  (body:(∀y,J y->aA s ds nxe (.mark::k) (L y) (HH y))->aA s ds nx (.code x::.mark::k) l H):aA s ds nx (.code x::k) l H:=.mk fun E h hA S K=>by
 have:=(body (fun y hy=>aA.mark (after y hy))).run E h hA S K;unfold aD at this ⊢;exact fun hwf a w ha hd hh hw=>this (cA trivial (cA trivial (bQ hwf))) a w ha hd hh hw
theorem aA.meet {x:Code} {i:Nat} {Y:Type} (L:Y->SFr) (HH:Y->SH) (nxe:Nat) (J:Y->Prop) (after:∀y,J y->aA s ds nxe k (L y) (HH y))
  (body:(∀y,J y->aA s ds nxe (.mark::k) (L y) (HH y))->aA s ds nx (.code x::.inBlock i::.mark::k) l H):aA s ds nx (.code x::.inBlock i::k) l H:=.mk fun E h hA S K=>by
 have:=(body (fun y hy=>aA.mark (after y hy))).run E h hA S K;unfold aD at this ⊢;exact fun hwf a w ha hd hh hw=>this (cA trivial (cA trivial (cA trivial (bQ (bQ hwf))))) a w ha hd hh hw
end
/-! calls -/
def eM (l:SFr) (x:Operand):Option (FuncId×List SV×List SV):=
 match evS l x with
 |some (.v (.func (.func g) a b))=>some (g,toV a.toList,toV b.toList)
 |some (.fn (.func g) a b)=>some (g,a,b)
 |_=>none
theorem kL {E:Env} {l:SFr} {x:Operand} {g:FuncId} {a b:List SV} (h:eM l x=some (g,a,b)):ev (gF E l) x=some (.func (.func g) (SV.gs E a).toArray (SV.gs E b).toArray):=by
 unfold eM at h;split at h
 ·rename_i hx
  simp only [Option.some.injEq,Prod.mk.injEq] at h;obtain ⟨rfl,rfl,rfl⟩:=h;rw [bN hx];simp [SV.g,nL]
 ·rename_i hx
  simp only [Option.some.injEq,Prod.mk.injEq] at h;obtain ⟨rfl,rfl,rfl⟩:=h;rw [bN hx];rfl
 cases h
theorem zF (E:Env) (a b c:List SV):(SV.gs E a).toArray++(SV.gs E b).toArray++(SV.gs E c).toArray=(SV.gs E (a++(b++c))).toArray:=by
 apply Array.ext';simp [sV]
section
variable {s:SCx P} {ds:List cY} {nx:Nat} {k:List SI} {l:SFr} {H:SH}
variable {all:Array Oper} {rest:List Oper} {o:Oper} {cl:Call} {x:Operand} {g:FuncId} {first captured vs:List SV}
theorem aA.callE {R:Env->Array Obj->Ending->Array Obj->Prop}
  (H1:∀E h,Ag s.n0 s.E0 E->Sat E s.F H h->Kp s.F s.h0 h->Fn P g (SV.gs E (first++(vs++captured))).toArray h (R E h))
  (hno:∀E h h',¬R E h .outgrown h')
  (hp:∀E h,Ag s.n0 s.E0 E->Sat E s.F H h->Kp s.F s.h0 h -> ∀ch h',R E h (.panicked ch) h'->Unw s.c (gD E ds) (.panicking ch) (gF E l) h')
  (hr:∀E h,Ag s.n0 s.E0 E->Sat E s.F H h->Kp s.F s.h0 h -> ∀v h',R E h (.returned v) h'->aD s.c (gD E ds) (.ops all rest::k) (upd (gF E l) o.dst v) h')
  (hop:o.op=.call cl:=by rfl) (hcal:cl.callee=.value x:=by rfl) (hx:eM l x=some (g,first,captured):=by rfl) (hargs:gK l cl.args.toList=some vs:=by rfl)
  (hgd:bT l all o=some true:=by rfl) (hdn:cB s.c.n o.dst=true:=by rfl):aA s ds nx (.ops all (o::rest)::k) l H:=.mk fun E h hA S K=>
 aD.callE (first:=(SV.gs E first).toArray) (captured:=(SV.gs E captured).toArray) (vs:=SV.gs E vs) (by rw [zF];exact H1 E h hA S K) (hno E h) (hp E h hA S K) (hr E h hA S K) hop hcal (kL hx) (kH hargs) (bK hgd) hdn
theorem aA.callV {X:Value}
  (H1:∀E h,Ag s.n0 s.E0 E->Sat E s.F H h->Kp s.F s.h0 h->FnV P g (SV.gs E (first++(vs++captured))).toArray h fun r h'=>r=X/\aH h.size h h')
  (hr:fJ l o.dst (.v X) fun l=>aA s ds nx (.ops all rest::k) l H)
  (hop:o.op=.call cl:=by rfl) (hcal:cl.callee=.value x:=by rfl) (hx:eM l x=some (g,first,captured):=by rfl) (hargs:gK l cl.args.toList=some vs:=by rfl)
  (hgd:bT l all o=some true:=by rfl) (hdn:cB s.c.n o.dst=true:=by rfl):aA s ds nx (.ops all (o::rest)::k) l H:=by
 refine aA.callE (R:=fun E h e h'=>∃v,e=.returned v/\v=X/\aH h.size h h') H1 ?_ ?_ ?_ hop hcal hx hargs hgd hdn
 ·rintro E h h' ⟨v,e,_⟩;cases e
 ·rintro E h _ _ _ ch h' ⟨v,e,_⟩;cases e
 rintro E h hA S K v h' ⟨v',e,rfl,hk⟩;cases e;obtain ⟨S',K'⟩:=S.keeps K hk;rw [bD] at hr;have:=hr.run E h' hA S' K';rw [eP] at this;exact this
theorem aA.callO {ch:List PanicEntry} {r:Option Value}
  (H1:∀E h,Ag s.n0 s.E0 E->Sat E s.F H h->Kp s.F s.h0 h->FnO P ch g (SV.gs E (first++(vs++captured))).toArray h r)
  (hp:r=none->aB s ds (.panicking ch) nx l H)
  (hr:∀X,r=some X->fJ l o.dst (.v X) fun l=>aA s ds nx (.ops all rest::k) l H)
  (hop:o.op=.call cl:=by rfl) (hcal:cl.callee=.value x:=by rfl) (hx:eM l x=some (g,first,captured):=by rfl) (hargs:gK l cl.args.toList=some vs:=by rfl)
  (hgd:bT l all o=some true:=by rfl) (hdn:cB s.c.n o.dst=true:=by rfl):aA s ds nx (.ops all (o::rest)::k) l H:=by
 refine aA.callE (R:=fun E h=>outR ch h r) H1 ?_ ?_ ?_ hop hcal hx hargs hgd hdn
 ·rintro E h h' ⟨e,_⟩;cases r<;>cases e
 ·rintro E h hA S K ch' h' ⟨e,hk⟩
  cases r with
  |some v=>cases e
  |none=>
   cases e;obtain ⟨S',K'⟩:=S.keeps K hk;exact (hp rfl).run E h' hA S' K'
 rintro E h hA S K v h' ⟨e,hk⟩
 cases r with
 |none=>cases e
 |some v'=>
  cases e;obtain ⟨S',K'⟩:=S.keeps K hk;have hr:=hr _ rfl;rw [bD] at hr;have:=hr.run E h' hA S' K';rw [eP] at this;exact this
theorem aA.callS {ch:List PanicEntry} {X:Value}
  (H1:∀E h,Ag s.n0 s.E0 E->Sat E s.F H h->Kp s.F s.h0 h->FnO P ch g (SV.gs E (first++(vs++captured))).toArray h (some X))
  (hr:fJ l o.dst (.v X) fun l=>aA s ds nx (.ops all rest::k) l H)
  (hop:o.op=.call cl:=by rfl) (hcal:cl.callee=.value x:=by rfl) (hx:eM l x=some (g,first,captured):=by rfl) (hargs:gK l cl.args.toList=some vs:=by rfl)
  (hgd:bT l all o=some true:=by rfl) (hdn:cB s.c.n o.dst=true:=by rfl):aA s ds nx (.ops all (o::rest)::k) l H:=
 aA.callO H1 (fun e=>by cases e) (fun X' e=>by cases e;exact hr) hop hcal hx hargs hgd hdn
theorem aA.callF {ch:List PanicEntry}
  (H1:∀E h,Ag s.n0 s.E0 E->Sat E s.F H h->Kp s.F s.h0 h->FnO P ch g (SV.gs E (first++(vs++captured))).toArray h none)
  (hp:aB s ds (.panicking ch) nx l H)
  (hop:o.op=.call cl:=by rfl) (hcal:cl.callee=.value x:=by rfl) (hx:eM l x=some (g,first,captured):=by rfl) (hargs:gK l cl.args.toList=some vs:=by rfl)
  (hgd:bT l all o=some true:=by rfl) (hdn:cB s.c.n o.dst=true:=by rfl):aA s ds nx (.ops all (o::rest)::k) l H:=
 aA.callO H1 (fun _=>hp) (fun X' e=>by cases e) hop hcal hx hargs hgd hdn
end
/-! ends -/
def resS {P:Program} (T:Tab P) (l:SFr) (H:SH):List ResultVar->Option (List SV)
 | []=>some []
 | .tmp t::rs=>match oS l t with
  |some x=>match resS T l H rs with
   |some xs=>some (x::xs)
   |none=>none
  |none=>none
 | .cell a t::rs=>match oS l a with
  |some (.ptr b off)=>match bX H b with
   |some (.cells _ cs)=>match eY T t with
    |true=>match nth cs off with
     |some x=>match resS T l H rs with
      |some xs=>some (x::xs)
      |none=>none
     |none=>none
    |false=>match uY T t with
     |true=>match cT T.inf t with
      |some i=>match Nat.ble (off+i.size) cs.length with
       |true=>match resS T l H rs with
        |some xs=>some (.agg ((cs.drop off).take i.size)::xs)
        |none=>none
       |false=>none
      |none=>none
     |false=>none
   |_=>none
  |_=>none
def tupS:List SV->SV
 | [x]=>x
 |xs=>.tup xs
theorem tupS_g (E:Env) (xs:List SV):(tupS xs).g E=tup (SV.gs E xs):=by
 cases xs with
 |nil=>rfl
 |cons x xs=>cases xs<;>rfl
theorem aDS (T:Tab P) {E:Env} {F:Nat->Prop} {l:SFr} {H:SH} {h:Array Obj} (S:Sat E F H h):∀ {rs:List ResultVar} {xs:List SV},resS T l H rs=some xs->aBM T (gF E l) h rs (SV.gs E xs)
 | [],xs,hx=>by simp only [resS,Option.some.injEq] at hx;subst hx;trivial
 | .tmp t::rs,xs,hx=>by
  simp only [resS] at hx;split at hx
  ·rename_i x h1
   split at hx
   ·rename_i ys h2
    simp only [Option.some.injEq] at hx;subst hx;exact ⟨fD h1,aDS T S h2⟩
   cases hx
  cases hx
 | .cell a t::rs,xs,hx=>by
  simp only [resS] at hx;split at hx
  ·rename_i b off hl
   split at hx
   ·rename_i t' cs hb
    obtain ⟨_,h2,_⟩:=S.cellsAt hb;split at hx
    ·rename_i hs
     split at hx
     ·rename_i x hn
      split at hx
      ·rename_i ys h3
       simp only [Option.some.injEq] at hx;subst hx;refine ⟨⟨_,_,fD hl,.inl ⟨hs,?_⟩⟩,aDS T S h3⟩;rw [fW] at hn;rw [h2.cell];simp [uR,hn]
      cases hx
     cases hx
    split at hx
    ·rename_i hag
     split at hx
     ·rename_i i hi
      split at hx
      ·rename_i hle
       split at hx
       ·rename_i ys h3
        simp only [Option.some.injEq] at hx;subst hx;have:=Nat.le_of_ble_eq_true hle;refine ⟨⟨_,_,fD hl,.inr ⟨i,SV.gs E ((cs.drop off).take i.size),hag,hi,by simp [fM];omega,fun j v hj=>?_,rfl⟩⟩,aDS T S h3⟩;rw [h2.cell]
        simpa using yK E cs off i.size j hj
       cases hx
      cases hx
     cases hx
    cases hx
   cases hx
  cases hx
section
variable {f n nx:Nat} {w0:World} {cs:List Frame} {R:Ending->Array Obj->Prop} {F:Nat->Prop} {h0:Array Obj} {E0:Env} {n0:Nat} {k:List SI} {l:SFr} {H:SH} {ds:List cY} {s:SCx P}
theorem aB.ret (T:Tab P) {fn:Func} {xs:List SV} (hf:P.funcs[f]? = some fn) (hx:resS T l H fn.results.toList=some xs)
  (hR:∀E h,Ag n0 E0 E->Sat E F H h->Kp F h0 h->R (.returned ((tupS xs).g E)) h):aB ⟨cW P f n w0 cs R,F,h0,E0,n0⟩ [] .returning nx l H:=.mk fun E h hA S K=>
 Unw.retA T hf (aDS T S hx) (by rw [<-tupS_g];exact hR E h hA S K)
theorem aB.pan {ch:List PanicEntry} {fn:Func} (hf:P.funcs[f]? = some fn)
  (hR:∀E h,Ag n0 E0 E->Sat E F H h->Kp F h0 h->R (.panicked ch) h):aB ⟨cW P f n w0 cs R,F,h0,E0,n0⟩ [] (.panicking ch) nx l H:=.mk fun E h hA S K=>
 Unw.pan hf (hR E h hA S K)
theorem aA.retU (hr:aB s ds .returning nx l H) (hro:s.c.round=none:=by rfl):aA s ds nx (.code .ret::k) l H:=.mk fun E h hA S K=>aD.retU (hr.run E h hA S K) hro
theorem aA.finU (hr:aB s ds .returning nx l H) (hro:s.c.round=none:=by rfl):aA s ds nx [] l H:=.mk fun E h hA S K=>aD.finU (hr.run E h hA S K) hro
theorem aA.panicU {all:Array Oper} {rest:List Oper} {o:Oper} {x:Operand} {t:TypeId} {v:Value} (hr:aB s ds (.panicking [{v:=.iface t v,recovered:=false}]) nx l H)
  (hop:o.op=.panic x:=by rfl) (hx:evS l x=some (.v (.iface t v)):=by rfl) (hgd:bT l all o=some true:=by rfl):aA s ds nx (.ops all (o::rest)::k) l H:=.mk fun E h hA S K=>
 aD.panicU (hr.run E h hA S K) hop (bN hx) (bK hgd)
theorem aA.panicX {all:Array Oper} {rest:List Oper} {o:Oper} {x:Operand} {t:TypeId} {y:SV} {v:Value} (hr:aB s ds (.panicking [{v:=.iface t v,recovered:=false}]) nx l H) (hy:∀E,y.g E=v)
  (hop:o.op=.panic x:=by rfl) (hx:evS l x=some (.ifc t y):=by rfl) (hgd:bT l all o=some true:=by rfl):aA s ds nx (.ops all (o::rest)::k) l H:=.mk fun E h hA S K=>
 aD.panicU (hr.run E h hA S K) hop (by rw [bN hx,SV.g,hy]) (bK hgd)
theorem aA.deferU {all:Array Oper} {rest:List Oper} {o:Oper} {cl:Call} {x:Operand} {g:FuncId} {first captured vs:List SV}
  (hr:aA s (⟨g,captured,first++vs,none⟩::ds) nx (.ops all rest::k) l H)
  (hop:o.op=.defer cl:=by rfl) (hcal:cl.callee=.value x:=by rfl) (hx:eM l x=some (g,first,captured):=by rfl) (hargs:gK l cl.args.toList=some vs:=by rfl)
  (hgd:bT l all o=some true:=by rfl) (hdst:o.dst=none:=by rfl) (hro:s.c.round=none:=by rfl):aA s ds nx (.ops all (o::rest)::k) l H:=.mk fun E h hA S K=>by
 refine aD.deferU (first:=(SV.gs E first).toArray) (captured:=(SV.gs E captured).toArray) (vs:=SV.gs E vs) ?_ hop hcal (kL hx) (kH hargs) (bK hgd) hdst hro;have:=hr.run E h hA S K;simp only [gD,cY.c,sV] at this
 simpa using this
end
def argS:Nat->List Value->SFr
 |_,[]=>[]
 |i,v::vs=>(i,.v v)::argS (i+1) vs
theorem aUB (E:Env):∀(i:Nat) (vs:List Value),gF E (argS i vs)=xP i vs
 |_,[]=>rfl
 |i,v::vs=>by simp only [argS,gF,SV.g,xP,aUB E (i+1) vs]
def argK:Nat->List Value->(SFr->Prop)->Prop
 |_,[],K=>K []
 |i,v::vs,K=>argK (i+1) vs fun l=>K ((i,.v v)::l)
theorem aUU:∀(i:Nat) (vs:List Value) (K:SFr->Prop),argK i vs K=K (argS i vs)
 |_,[],_=>rfl
 |i,v::vs,K=>by simp only [argK,argS,aUU (i+1) vs]
theorem Sat.nil {E:Env} {F:Nat->Prop} {h:Array Obj}:Sat E F [] h:=⟨fun _ h=>(by cases h),List.Pairwise.nil⟩
theorem Kp.start (h:Array Obj):Kp (fun k=>k<h.size) h h:=⟨Nat.le_refl _,fun _ _=>rfl,fun _ h=>h⟩
theorem Kp.keeps {h h':Array Obj} (K:Kp (fun k=>k<h.size) h h'):aH h.size h h':=⟨K.size,K.same⟩
theorem Fn.ofS {f:FuncId} {fn:Func} {code:Code} (hf:P.funcs[f]? = some fn) (hname:(fn.name == "runtime.NumGoroutine")=false) (hb:fn.body=some code) {n:Nat} (hnt:fn.ntmps=n)
  {args:List Value} (hargs:Nat.ble args.length n=true) {h:Array Obj} {R:Ending->Array Obj->Prop}
  (H:∀w0 cs,argK 0 args fun l=>aA ⟨cW P f n w0 cs R,fun k=>k<h.size,h,fun _=>undef,0⟩ [] 0 [.code code] l []):Fn P f args.toArray h R:=
 Fn.of hf hname hb hnt hargs fun w0 cs=>by
  have H:=H w0 cs;rw [aUU] at H;have:=H.run (fun _=>undef) h (fun _ _=>rfl) Sat.nil (Kp.start h);rw [aUB] at this;exact this

inductive Tr where
 |done
 |fl (k:Nat) (t:Tr)
 |e1 (k:Nat) (keep:List Nat) (t:Tr)
 |e2 (k1:Nat) (keep1:List Nat) (t1:Tr) (k2:Nat) (keep2:List Nat) (t2:Tr)
 |e3 (k1:Nat) (keep1:List Nat) (t1:Tr) (k2:Nat) (keep2:List Nat) (t2:Tr) (k3:Nat) (keep3:List Nat) (t3:Tr)
section any
variable {ops:Array Oper} {md:Region.Mode} {Q:Exit->Act->World->Prop}
def aHB (P:Program) (md:Region.Mode) (ops:Array Oper) (Q:Exit->Act->World->Prop):Tr->tV->Act->World->Prop
 | .done,_,a,w=>Q .normal a w
 | .fl k t,pins,a,w=>∃o,ops[k]? = some o/\cQ o=true /\ ∃v C,YieldsIf P ops C o v a/\C w/\aHB P md ops Q t ((k,C)::pins) (a.put o.dst v) w
 | .e1 k _ t,pins,a,w=>cN ops k=false/\wpOp P ops Q k (fun a' w'=>(∀p∈pins,k∈nF md ops p.1\/p.2 w')/\aHB P md ops Q t pins a' w') a w
 | .e2 k1 _ t1 k2 _ t2,pins,a,w=>(cN ops k1=false/\wpOp P ops Q k1 (fun a' w'=>(∀p∈pins,k1∈nF md ops p.1\/p.2 w')/\aHB P md ops Q t1 pins a' w') a w) /\
   (cN ops k2=false/\wpOp P ops Q k2 (fun a' w'=>(∀p∈pins,k2∈nF md ops p.1\/p.2 w')/\aHB P md ops Q t2 pins a' w') a w)
 | .e3 k1 _ t1 k2 _ t2 k3 _ t3,pins,a,w=>(cN ops k1=false/\wpOp P ops Q k1 (fun a' w'=>(∀p∈pins,k1∈nF md ops p.1\/p.2 w')/\aHB P md ops Q t1 pins a' w') a w) /\
   (cN ops k2=false/\wpOp P ops Q k2 (fun a' w'=>(∀p∈pins,k2∈nF md ops p.1\/p.2 w')/\aHB P md ops Q t2 pins a' w') a w) /\
   (cN ops k3=false/\wpOp P ops Q k3 (fun a' w'=>(∀p∈pins,k3∈nF md ops p.1\/p.2 w')/\aHB P md ops Q t3 pins a' w') a w)
def yJ (md:Region.Mode) (ops:Array Oper) (taken:List Nat) (k:Nat) (keep:List Nat):Bool:=taken.all fun p=>tU p keep||(nF md ops p).contains k
def lA (md:Region.Mode) (ops:Array Oper):Tr->Nat->List Nat->Array Bool->Bool
 | .done,f,_,listed=>decide (f=0)&&decide (Region.ready md ops listed=[])
 | .fl k t,f,taken,listed=>match f with
  |0=>false
  |f+1=>(Region.ready md ops listed).contains k&&Region.free md ops listed k&&cN ops k && !tU k taken&&lA md ops t f (if fF ops k then taken else k::taken) (listed.setIfInBounds k true)
 | .e1 k keep t,f,taken,listed=>match f with
  |0=>false
  |f+1=>decide (Region.ready md ops listed=[k])&&yJ md ops taken k keep&&lA md ops t f taken (listed.setIfInBounds k true)
 | .e2 k1 keep1 t1 k2 keep2 t2,f,taken,listed=>match f with
  |0=>false
  |f+1=>decide (Region.ready md ops listed=[k1,k2])&&(yJ md ops taken k1 keep1&&lA md ops t1 f taken (listed.setIfInBounds k1 true))&&(yJ md ops taken k2 keep2&&lA md ops t2 f taken (listed.setIfInBounds k2 true))
 | .e3 k1 keep1 t1 k2 keep2 t2 k3 keep3 t3,f,taken,listed=>match f with
  |0=>false
  |f+1=>decide (Region.ready md ops listed=[k1,k2,k3])&&(yJ md ops taken k1 keep1&&lA md ops t1 f taken (listed.setIfInBounds k1 true))&&(yJ md ops taken k2 keep2&&lA md ops t2 f taken (listed.setIfInBounds k2 true)) &&
    (yJ md ops taken k3 keep3&&lA md ops t3 f taken (listed.setIfInBounds k3 true))
theorem sem4_C (hsel:Region.noSelect ops=true) (hQ:∀(k:Nat) (o:Oper),ops[k]? = some o -> ∀v c a w,Q (.panic c) (a.put o.dst v) w->Q (.panic c) a w):∀(t:Tr) (f:Nat) (taken:List Nat) (pins:tV) (listed:Array Bool) (a:Act) (w:World),fG md ops listed->lA md ops t f taken listed=true ->
  aHB P md ops Q t pins a w->pX P md ops Q pins f listed a w:=by
 intro t
 induction t with
 |done=>
  intro f taken pins listed a w inv hc h;simp only [lA,Bool.and_eq_true,decide_eq_true_eq] at hc;obtain ⟨rfl,hc⟩:=hc;exact ⟨hc,h⟩
 |fl k t ih=>
  intro f taken pins listed a w inv hc h
  cases f with
  |zero=>simp [lA] at hc
  |succ f=>
   simp only [lA,Bool.and_eq_true] at hc;obtain ⟨o,ho,hf,v,C,hy,hC,h⟩:=h;have hr:k∈Region.ready md ops listed:=by simpa using hc.1.1.1.1
   exact aHD ho (Region.noSelect_spec hsel) (hQ k o ho v) hc.1.1.2 f listed a w inv (Region.free_spec ho hc.1.1.1.2) hr hy hC (ih f _ _ _ _ w (inv.set hr) hc.2 h)
 |e1 k keep t ih=>
  intro f taken pins listed a w inv hc h
  cases f with
  |zero=>simp [lA] at hc
  |succ f=>
   simp only [lA,Bool.and_eq_true,decide_eq_true_eq] at hc;refine ⟨fun h0=>(by rw [hc.1.1] at h0;cases h0),fun i hi=>?_⟩;have hik:i=k:=by rw [hc.1.1] at hi;simpa using hi
   subst hik;exact wpOp_mono (fun a' w' h'=>⟨⟨fun h0=>(by rw [h.1] at h0;cases h0),fun _=>h'.1⟩,ih f _ _ _ a' w' (inv.set hi) hc.2 h'.2⟩) h.2
 |e2 k1 keep1 t1 k2 keep2 t2 ih1 ih2=>
  intro f taken pins listed a w inv hc h
  cases f with
  |zero=>simp [lA] at hc
  |succ f=>
   simp only [lA,Bool.and_eq_true,decide_eq_true_eq] at hc;refine ⟨fun h0=>(by rw [hc.1.1] at h0;cases h0),fun i hi=>?_⟩;have hik:i=k1\/i=k2:=by rw [hc.1.1] at hi;simpa using hi
   rcases hik with rfl|rfl
   ·exact wpOp_mono (fun a' w' h'=>⟨⟨fun h0=>(by rw [h.1.1] at h0;cases h0),fun _=>h'.1⟩,ih1 f _ _ _ a' w' (inv.set hi) hc.1.2.2 h'.2⟩) h.1.2
   exact wpOp_mono (fun a' w' h'=>⟨⟨fun h0=>(by rw [h.2.1] at h0;cases h0),fun _=>h'.1⟩,ih2 f _ _ _ a' w' (inv.set hi) hc.2.2 h'.2⟩) h.2.2
 |e3 k1 keep1 t1 k2 keep2 t2 k3 keep3 t3 ih1 ih2 ih3=>
  intro f taken pins listed a w inv hc h
  cases f with
  |zero=>simp [lA] at hc
  |succ f=>
   simp only [lA,Bool.and_eq_true,decide_eq_true_eq] at hc;refine ⟨fun h0=>(by rw [hc.1.1.1] at h0;cases h0),fun i hi=>?_⟩;have hik:i=k1\/i=k2\/i=k3:=by rw [hc.1.1.1] at hi;simpa using hi
   rcases hik with rfl|rfl|rfl
   ·exact wpOp_mono (fun a' w' h'=>⟨⟨fun h0=>(by rw [h.1.1] at h0;cases h0),fun _=>h'.1⟩,ih1 f _ _ _ a' w' (inv.set hi) hc.1.1.2.2 h'.2⟩) h.1.2
   ·exact wpOp_mono (fun a' w' h'=>⟨⟨fun h0=>(by rw [h.2.1.1] at h0;cases h0),fun _=>h'.1⟩,ih2 f _ _ _ a' w' (inv.set hi) hc.1.2.2 h'.2⟩) h.2.1.2
   exact wpOp_mono (fun a' w' h'=>⟨⟨fun h0=>(by rw [h.2.2.1] at h0;cases h0),fun _=>h'.1⟩,ih3 f _ _ _ a' w' (inv.set hi) hc.2.2 h'.2⟩) h.2.2.2
end any
/-! what a load has read -/
inductive cV where
 |cell (b off:Nat) (x:SV)
 |cells (b off:Nat) (xs:List SV)
 |rws (b sz:Nat) (rows:List (List Value))
 |none
def bdP (n:Nat):cV->Bool
 | .cell b _ x=>match Nat.blt b n with
  |true=>x.bd n
  |false=>false
 | .cells b _ xs=>match Nat.blt b n with
  |true=>SV.bds n xs
  |false=>false
 | .rws b _ _=>Nat.blt b n
 | .none=>true
def bFV (n:Nat):List (Nat×cV)->Bool
 | []=>true
 |(_,p)::ps=>match bdP n p with
  |true=>bFV n ps
  |false=>false
theorem aMC {n:Nat}:∀ {ps:List (Nat×cV)} {q:Nat×cV},bFV n ps=true->q∈ps->bdP n q.2=true
 | [],_,_,h=>by cases h
 |(k,p)::ps,q,h,hq=>by
  simp only [bFV] at h
  cases hp:bdP n p with
  |false=>simp [hp] at h
  |true=>
   simp only [hp] at h;rcases List.mem_cons.1 hq with rfl|hq
   ·exact hp
   exact aMC h hq
def cV.at (F:Nat->Prop) (h0:Array Obj) (E:Env) (h:Array Obj):cV->Prop
 | .cell b off x=>bL h (iI (E b)) off=some (x.g E)
 | .cells b off xs=>jY h (iI (E b)) off (SV.gs E xs)
 | .rws b _ rows=>∃a cap,E b=.slice a rows.length cap/\(rows=[] \/ ∃g o,a=some ⟨g,o,Option.none⟩/\jY h g o rows.flatten)
 | .none=>Kp F h0 h
def cV.in (H:SH):cV->Prop
 | .cell b off x=>match bX H b with
  |some (.cells _ cs)=>nth cs off=some x
  |_=>False
 | .cells b off xs=>match bX H b with
  |some (.cells _ cs)=>(cs.drop off).take xs.length=xs
  |_=>False
 | .rws b sz rows=>rowsAt H b=some (sz,rows)
 | .none=>True
theorem cV.at_of {F:Nat->Prop} {h0:Array Obj} {E:Env} {H:SH} {h:Array Obj} (S:Sat E F H h) (K:Kp F h0 h) {p:cV} (hp:p.in H):p.at F h0 E h:=by
 cases p with
 |cell b off x=>
  simp only [cV.in] at hp;split at hp
  ·rename_i hl
   obtain ⟨_,h2,_⟩:=S.cellsAt hl;rw [fW] at hp;simp only [cV.at];rw [h2.cell];simp [uR,hp]
  exact hp.elim
 |cells b off xs=>
  simp only [cV.in] at hp;split at hp
  ·rename_i cs hl
   obtain ⟨_,h2,_⟩:=S.cellsAt hl;intro j v hj;rw [h2.cell];rw [<-hp] at hj
   simpa using yK E cs off xs.length j hj
  exact hp.elim
 |rws b sz rows=>
  exact (S.rowsAt hp).2
 |none=>exact K
theorem cV.at_ag {n:Nat} {E E':Env} (A:Ag n E E') {F:Nat->Prop} {h0 h:Array Obj} {p:cV} (hb:bdP n p=true) (hp:p.at F h0 E' h):p.at F h0 E h:=by
 cases p with
 |cell b off x=>
  simp only [bdP] at hb
  cases hx:Nat.blt b n with
  |false=>simp [hx] at hb
  |true=>
   simp only [hx] at hb;simp only [cV.at] at hp ⊢;rw [A b (Nat.blt_eq.mp hx),SV.g_ag A x hb] at hp;exact hp
 |cells b off xs=>
  simp only [bdP] at hb
  cases hx:Nat.blt b n with
  |false=>simp [hx] at hb
  |true=>
   simp only [hx] at hb;simp only [cV.at] at hp ⊢;rw [A b (Nat.blt_eq.mp hx),SV.gs_ag A xs hb] at hp;exact hp
 |rws b sz rows=>
  simp only [bdP] at hb;simp only [cV.at] at hp ⊢;rw [A b (Nat.blt_eq.mp hb)] at hp;exact hp
 |none=>exact hp
def gL (H:SH) (keep:List Nat):List (Nat×cV)->Prop
 | []=>True
 |(k,p)::ps=>match tU k keep with
  |true=>p.in H/\gL H keep ps
  |false=>gL H keep ps
theorem kM {H:SH} {keep:List Nat}:∀ {ps:List (Nat×cV)},gL H keep ps -> ∀k p,(k,p)∈ps->k∈keep->p.in H
 | [],_,_,_,h,_=>by cases h
 |(j,q)::ps,hh,k,p,hm,hk=>by
  simp only [gL] at hh
  cases hj:tU j keep with
  |true=>
   simp only [hj] at hh;rcases List.mem_cons.1 hm with e|hm
   ·cases e;exact hh.1
   exact kM hh.2 k p hm hk
  |false=>
   simp only [hj] at hh;rcases List.mem_cons.1 hm with e|hm
   ·cases e;rw [fT.2 hk] at hj;cases hj
   exact kM hh k p hm hk
structure aPG (F:Nat->Prop) (h0:Array Obj) (E:Env) (taken:List Nat) (ps:List (Nat×cV)) (G:tV):Prop where
 full:∀q∈G,(∀w,q.2 w)\/(q.1∈taken /\ ∃p,(q.1,p)∈ps /\ ∀w:World,p.at F h0 E w.heap->q.2 w)
 tk:∀k p,(k,p)∈ps->k∈taken
theorem aPG.ag {n:Nat} {F:Nat->Prop} {h0:Array Obj} {E E':Env} {taken:List Nat} {ps:List (Nat×cV)} {G:tV} (R:aPG F h0 E taken ps G) (A:Ag n E E') (hb:bFV n ps=true):aPG F h0 E' taken ps G:=
 ⟨fun q hq=>(R.full q hq).imp id fun ⟨h1,p,h2,h3⟩=>⟨h1,p,h2,fun w hw=>h3 w (cV.at_ag A (aMC hb h2) hw)⟩,R.tk⟩
def aOC (D:List Nat):SFr->SFr
 | []=>[]
 |(d,v)::l=>match tU d D with
  |true=>aOC D l
  |false=>(d,v)::aOC D l
theorem aKL (E:Env) (D:List Nat):∀l:SFr,gF E (aOC D l)=aFZ D (gF E l)
 | []=>rfl
 |(d,v)::l=>by
  simp only [aOC,gF,aFZ]
  cases tU d D with
  |true=>exact aKL E D l
  |false=>simp only [gF,aKL E D l]
structure bG (s:SCx P) (ds:List cY) (all:List Oper) (st:List SI) (t:Tr) (taken:List Nat) (ps:List (Nat×cV)) (nx:Nat) (l:SFr) (H:SH):Prop where
 run:∀(E:Env) (h:Array Obj),Ag s.n0 s.E0 E->Sat E s.F H h->Kp s.F s.h0 h -> ∀(Q:Exit->Act->World->Prop) (D:List Deferred),gD E ds=D ->
  (∀l' h' a w,aD s.c D st l' h'->bB s.c.n l' a->a.defers=D->w.heap=h'->dC s.c.w0 w->Q .normal a w) ->
  (∀l' ch h' a w,Unw s.c D (.panicking ch) (aFZ (yB all) l') h'->bB s.c.n l' a->a.defers=D->w.heap=h'->dC s.c.w0 w->Q (.panic ch) a w) ->
  ∀G,aPG s.F s.h0 E taken ps G -> ∀f listed,lA .any all.toArray t f taken listed=true ->
  ∀a w,bB s.c.n (gF E l) a->a.defers=D->w.heap=h->dC s.c.w0 w->aHB P .any all.toArray Q t G a w
section
variable {s:SCx P} {ds:List cY} {all:List Oper} {st:List SI} {t:Tr} {taken:List Nat} {ps:List (Nat×cV)} {nx:Nat} {l:SFr} {H:SH}
theorem bG.done (hr:aA s ds nx st l H):bG s ds all st .done taken ps nx l H:=
 ⟨fun E h hA S K Q D hD hN hP G hG f listed hc a w ha hd hh hw=>hN _ _ a w (hD▸hr.run E h hA S K) ha hd hh hw⟩
theorem bG.fl {k:Nat} {o:Oper} {x:SV} {p:cV} (ho:all[k]? = some o) (hf:cQ o=true) (hdst:cB s.c.n o.dst=true) {taken':List Nat} (htk:taken'=if fF all.toArray k then taken else k::taken)
  (ps':List (Nat×cV)) (hps:ps'=if fF all.toArray k then ps else (k,p)::ps)
  (hin:fF all.toArray k=false->p.in H)
  (hy:∀E h,Sat E s.F H h->Kp s.F s.h0 h -> ∀a,bB s.c.n (gF E l) a->YieldsIf P all.toArray (fun w=>fF all.toArray k=true\/p.at s.F s.h0 E w.heap) o (x.g E) a)
  (hr:bG s ds all st t taken' ps' nx (aLJ l o.dst x) H):bG s ds all st (.fl k t) taken ps nx l H:=by
 refine ⟨fun E h hA S K Q D hD hN hP G hG f listed hc a w ha hd hh hw=>?_⟩
 cases f with
 |zero=>simp [lA] at hc
 |succ f=>
  simp only [lA,Bool.and_eq_true] at hc;have hnk:k∉taken:=fun hk=>by have:=hc.1.2;rw [fT.2 hk] at this;simp at this
  refine ⟨o,by simpa using ho,hf,x.g E,_,hy E h S K a ha,?_,?_⟩
  ·cases hp:fF all.toArray k with
   |true=>exact .inl rfl
   |false=>exact .inr (by rw [hh];exact cV.at_of S K (hin hp))
  rw [<-htk] at hc;refine hr.run E h hA S K Q D hD hN hP _ ?_ f _ hc.2 _ w ?_ (by cases o.dst<;>simpa [Act.put] using hd) hh hw
  ·refine ⟨fun q hq=>?_,fun j q hj=>?_⟩
   ·rcases List.mem_cons.1 hq with rfl|hq
    ·cases hp:fF all.toArray k with
     |true=>exact .inl fun w=>.inl rfl
     |false=>
      refine .inr ⟨by rw [htk,hp];simp,p,by rw [hps,hp];simp,fun w hw=>.inr hw⟩
    rcases hG.full q hq with h1|⟨h1,p',h2,h3⟩
    ·exact .inl h1
    refine .inr ⟨?_,p',?_,h3⟩
    ·rw [htk];split
     ·exact h1
     exact List.mem_cons_of_mem _ h1
    rw [hps];split
    ·exact h2
    exact List.mem_cons_of_mem _ h2
   rw [hps] at hj;rw [htk];split at hj
   ·rename_i hp;simp only [hp,if_true];exact hG.tk j q hj
   rename_i hp
   simp only [hp];rcases List.mem_cons.1 hj with e|hj
   ·cases e;simp
   exact List.mem_cons_of_mem _ (hG.tk j q hj)
  rw [eP];exact eG ha (fE hdst) _
structure aK (s:SCx P) (ds:List cY) (all:List Oper) (st:List SI) (k:Nat) (keep:List Nat) (t:Tr) (taken:List Nat) (ps:List (Nat×cV)) (nx:Nat) (l:SFr) (H:SH):Prop where
 run:∀(E:Env) (h:Array Obj),Ag s.n0 s.E0 E->Sat E s.F H h->Kp s.F s.h0 h -> ∀(Q:Exit->Act->World->Prop) (D:List Deferred),gD E ds=D ->
  (∀l' h' a w,aD s.c D st l' h'->bB s.c.n l' a->a.defers=D->w.heap=h'->dC s.c.w0 w->Q .normal a w) ->
  (∀l' ch h' a w,Unw s.c D (.panicking ch) (aFZ (yB all) l') h'->bB s.c.n l' a->a.defers=D->w.heap=h'->dC s.c.w0 w->Q (.panic ch) a w) ->
  ∀G,aPG s.F s.h0 E taken ps G->yJ .any all.toArray taken k keep=true -> ∀f listed,lA .any all.toArray t f taken listed=true ->
  ∀a w,bB s.c.n (gF E l) a->a.defers=D->w.heap=h->dC s.c.w0 w ->
   cN all.toArray k=false/\wpOp P all.toArray Q k (fun a' w'=>(∀p∈G,k∈nF .any all.toArray p.1\/p.2 w')/\aHB P .any all.toArray Q t G a' w') a w
theorem bG.e1 {k:Nat} {keep:List Nat} (h:aK s ds all st k keep t taken ps nx l H):bG s ds all st (.e1 k keep t) taken ps nx l H:=by
 refine ⟨fun E hh hA S K Q D hD hN hP G hG f listed hc a w ha hd hhh hw=>?_⟩
 cases f with
 |zero=>simp [lA] at hc
 |succ f=>
  simp only [lA,Bool.and_eq_true] at hc;exact h.run E hh hA S K Q D hD hN hP G hG hc.1.2 f _ hc.2 a w ha hd hhh hw
theorem bG.e2 {k1 k2:Nat} {keep1 keep2:List Nat} {t1 t2:Tr} (h1:aK s ds all st k1 keep1 t1 taken ps nx l H) (h2:aK s ds all st k2 keep2 t2 taken ps nx l H):bG s ds all st (.e2 k1 keep1 t1 k2 keep2 t2) taken ps nx l H:=by
 refine ⟨fun E hh hA S K Q D hD hN hP G hG f listed hc a w ha hd hhh hw=>?_⟩
 cases f with
 |zero=>simp [lA] at hc
 |succ f=>
  simp only [lA,Bool.and_eq_true] at hc;exact ⟨h1.run E hh hA S K Q D hD hN hP G hG hc.1.2.1 f _ hc.1.2.2 a w ha hd hhh hw,h2.run E hh hA S K Q D hD hN hP G hG hc.2.1 f _ hc.2.2 a w ha hd hhh hw⟩
theorem bG.e3 {k1 k2 k3:Nat} {keep1 keep2 keep3:List Nat} {t1 t2 t3:Tr} (h1:aK s ds all st k1 keep1 t1 taken ps nx l H) (h2:aK s ds all st k2 keep2 t2 taken ps nx l H) (h3:aK s ds all st k3 keep3 t3 taken ps nx l H):
  bG s ds all st (.e3 k1 keep1 t1 k2 keep2 t2 k3 keep3 t3) taken ps nx l H:=by
 refine ⟨fun E hh hA S K Q D hD hN hP G hG f listed hc a w ha hd hhh hw=>?_⟩
 cases f with
 |zero=>simp [lA] at hc
 |succ f=>
  simp only [lA,Bool.and_eq_true] at hc
  exact ⟨h1.run E hh hA S K Q D hD hN hP G hG hc.1.1.2.1 f _ hc.1.1.2.2 a w ha hd hhh hw,h2.run E hh hA S K Q D hD hN hP G hG hc.1.2.1 f _ hc.1.2.2 a w ha hd hhh hw,
   h3.run E hh hA S K Q D hD hN hP G hG hc.2.1 f _ hc.2.2 a w ha hd hhh hw⟩
theorem aK.of {k:Nat} {keep:List Nat} {o:Oper} (ho:all[k]? = some o) (hf:cQ o=false) (hdst:cB s.c.n o.dst=true)
  {V:Env->Array Obj->Value->Array Obj->Prop} {PN:Env->Array Obj->List PanicEntry->Array Obj->Prop} (hgd:bT l all.toArray o=some true)
  (hE:∀E h,Ag s.n0 s.E0 E->Sat E s.F H h->Kp s.F s.h0 h->xD P s.c.n (gF E l) h o (V E h) (PN E h))
  (hpan:∀E h,Ag s.n0 s.E0 E->Sat E s.F H h->Kp s.F s.h0 h -> ∀ch h',PN E h ch h'->Unw s.c (gD E ds) (.panicking ch) (aFZ (yB all) (gF E l)) h')
  (hr:∀E h,Ag s.n0 s.E0 E->Sat E s.F H h->Kp s.F s.h0 h -> ∀v h',V E h v h' -> ∃(E':Env) (nx':Nat) (l':SFr) (H':SH),Ag nx E E'/\s.n0<=nx/\bFV nx ps=true/\gD E' ds=gD E ds/\gF E' l'=upd (gF E l) o.dst v/\Sat E' s.F H' h'/\Kp s.F s.h0 h'/\gL H' keep ps/\bG s ds all st t taken ps nx' l' H'):
  aK s ds all st k keep t taken ps nx l H:=by
 refine ⟨fun E h hA S K Q D hD hN hP G hG hk f listed hc a w ha hd hh hw=>?_⟩;have hfa:cN all.toArray k=false:=by
  have ho':all.toArray[k]? = some o:=by simpa using ho
  unfold cN;rw [ho'];exact hf
 refine ⟨hfa,?_⟩;have hwn:=bJ ha (bK hgd);have ho':all.toArray[k]? = some o:=by simpa using ho
 unfold wpOp;simp only [ho',hwn,if_true];refine .inl (hE E h hA S K a w ha hh _ _ (fun v w' hlk hV=>?_) fun ch w' hlk hPN=>hP (gF E l) ch w'.heap a w' (hD▸hpan E h hA S K ch _ hPN) ha hd rfl (hw.trans hlk));obtain ⟨E',nx',l',H',hag,hn,hbp,hgD,hgF,S',K',hpi,hrr⟩:=hr E h hA S K v _ hV;have hG':=hG.ag hag hbp;refine ⟨fun q hq=>?_,hrr.run E' w'.heap (hA.trans (hag.mono hn)) S' K' Q D (hgD.trans hD) hN hP G hG' f _ hc (a.put o.dst v) w' (by rw [hgF];exact eG ha (fE hdst) v) (by cases o.dst<;>simpa [Act.put] using hd) rfl (hw.trans hlk)⟩;rcases hG'.full q hq with h1|⟨h1,p,h2,h3⟩
 ·exact .inr (h1 w')
 have:=List.all_eq_true.1 hk q.1 h1;simp only [Bool.or_eq_true,fT] at this;rcases this with h4|h4
 ·exact .inr (h3 w' (cV.at_of S' K' (kM hpi q.1 p h2 h4)))
 exact .inl (by simpa using h4)
end

inductive LdR where
 |no
 |got (x:SV) (p:cV)
 |gota (b off:Nat) (cs:List SV)
 |rowv (b sz:Nat) (rows:List (List Value)) (i:Int) (off:Nat)
 |rowa (b sz:Nat) (rows:List (List Value)) (i:Int) (off m:Nat)
 |old (b off:Nat)
 |olda (b off m:Nat)
 |bad
def ldR (T:Tab P) (l:SFr) (H:SH) (op:Op):LdR:=
 match op with
 | .load t x=>match evS l x with
  |some (.ptr b off)=>match bX H b with
   |some (.cells _ cs)=>match eY T t with
    |true=>match nth cs off with
     |some v=>.got v (.cell b off v)
     |none=>.bad
    |false=>match uY T t with
     |true=>match cT T.inf t with
      |some i=>match Nat.ble (off+i.size) cs.length with
       |true=>.gota b off ((cs.drop off).take i.size)
       |false=>.bad
      |none=>.bad
     |false=>.bad
   |_=>.bad
  |some (.row b i off sz)=>match rowsAt H b with
   |some (sz',rows)=>match Nat.beq sz sz' with
    |true=>match eY T t with
     |true=>.rowv b sz rows i off
     |false=>match uY T t with
      |true=>match cT T.inf t with
       |some j=>.rowa b sz rows i off j.size
       |none=>.bad
      |false=>.bad
    |false=>.bad
   |none=>.bad
  |some (.v (.pointer (some ⟨b,off,none⟩)))=>match eY T t with
   |true=>.old b off
   |false=>match uY T t with
    |true=>match cT T.inf t with
     |some j=>.olda b off j.size
     |none=>.bad
    |false=>.bad
  |_=>.bad
 |_=>.no
def goR (T:Tab P) (n n0:Nat) (F:Nat->Prop) (h0:Array Obj) (ds:List cY) (all:List Oper) (st:List SI) (ops:Array Oper)
  (stop:Nat->List Nat->Tr->List Nat->List (Nat×cV)->Nat->SFr->SH->Prop) (K:Nat->SFr->SH->Prop):Tr->List Nat->List (Nat×cV)->Nat->SFr->SH->Prop
 | .done,_,_,nx,l,H=>K nx l H
 | .fl k t,taken,ps,nx,l,H=>match nth all k with
  |none=>False
  |some o=>match cQ o with
   |false=>False
   |true=>match o.dst with
    |none=>False
    |some d=>match Nat.blt d n with
     |false=>False
     |true=>match bT l ops o with
      |none=>False
      |some false=>match dH o with
       |true=>goR T n n0 F h0 ds all st ops stop K t taken ps nx ((d,.v undef)::l) H
       |false=>goR T n n0 F h0 ds all st ops stop K t (k::taken) ((k,.none)::ps) nx ((d,.v undef)::l) H
      |some true=>match ldR T l H o.op with
       | .bad=>False
       | .got x p=>goR T n n0 F h0 ds all st ops stop K t (k::taken) ((k,p)::ps) nx ((d,x)::l) H
       | .gota b off cs=>nC cs fun cs=>goR T n n0 F h0 ds all st ops stop K t (k::taken) ((k,.cells b off cs)::ps) nx ((d,.agg cs)::l) H
       | .rowv b sz rows i off=>∃row,rows[i.toNat]? = some row/\(match nth row off with
        |some x=>goR T n n0 F h0 ds all st ops stop K t (k::taken) ((k,.rws b sz rows)::ps) nx ((d,.v x)::l) H
        |none=>False)
       | .rowa b sz rows i off m=>∃row,rows[i.toNat]? = some row/\off+m<=row.length/\nC (toV ((row.drop off).take m)) fun cs=>goR T n n0 F h0 ds all st ops stop K t (k::taken) ((k,.rws b sz rows)::ps) nx ((d,.agg cs)::l) H
       | .old b off=>∃v,OldC F h0 b off v/\goR T n n0 F h0 ds all st ops stop K t (k::taken) ((k,.none)::ps) nx ((d,.v v)::l) H
       | .olda b off m=>∃vs,(vs.length=m/\aMF F h0 b off vs)/\nC (toV vs) fun cs=>goR T n n0 F h0 ds all st ops stop K t (k::taken) ((k,.none)::ps) nx ((d,.agg cs)::l) H
       | .no=>match dH o with
        |true=>match evO T l H nx o.op with
         | .val x=>goR T n n0 F h0 ds all st ops stop K t taken ps nx ((d,x)::l) H
         | .vala cs=>nC cs fun cs=>goR T n n0 F h0 ds all st ops stop K t taken ps nx ((d,.agg cs)::l) H
         | .ob p x=>p/\goR T n n0 F h0 ds all st ops stop K t taken ps nx ((d,x)::l) H
         | .tst p i=>match kO all all st d with
          |true=>(p->goR T n n0 F h0 ds all st ops stop K t taken ps nx ((d,.v (.bool true))::l) H)/\(¬p->goR T n n0 F h0 ds all st ops stop K t taken ps nx ((d,.v (.bool false))::l) H)
          |false=>goR T n n0 F h0 ds all st ops stop K t taken ps nx ((d,.v (.bool (@decide p i)))::l) H
         | .ntst p i=>match kO all all st d with
          |true=>(p->goR T n n0 F h0 ds all st ops stop K t taken ps nx ((d,.v (.bool false))::l) H)/\(¬p->goR T n n0 F h0 ds all st ops stop K t taken ps nx ((d,.v (.bool true))::l) H)
          |false=>goR T n n0 F h0 ds all st ops stop K t taken ps nx ((d,.v (.bool (!@decide p i)))::l) H
         | .rem x y=>∃r,aPM x y r/\goR T n n0 F h0 ds all st ops stop K t taken ps nx ((d,.v (.int .i64 r))::l) H
         | .sub p b=>match gQ n0 nx l H ds with
          |false=>False
          |true=>match bFV nx ps with
           |false=>False
           |true=>p/\goR T n n0 F h0 ds all st ops stop K t taken ps (nx+1) ((d,.buf nx)::l) ((nx,b)::H)
         |_=>False
        |false=>match evO T l H nx o.op with
         | .vala cs=>nC cs fun cs=>goR T n n0 F h0 ds all st ops stop K t (k::taken) ((k,.none)::ps) nx ((d,.agg cs)::l) H
         |_=>False
 | .e1 k keep t,taken,ps,nx,l,H=>goE k keep t (goR T n n0 F h0 ds all st ops stop K t) taken ps nx l H
 | .e2 k1 keep1 t1 k2 keep2 t2,taken,ps,nx,l,H=>goE k1 keep1 t1 (goR T n n0 F h0 ds all st ops stop K t1) taken ps nx l H/\goE k2 keep2 t2 (goR T n n0 F h0 ds all st ops stop K t2) taken ps nx l H
 | .e3 k1 keep1 t1 k2 keep2 t2 k3 keep3 t3,taken,ps,nx,l,H=>goE k1 keep1 t1 (goR T n n0 F h0 ds all st ops stop K t1) taken ps nx l H/\goE k2 keep2 t2 (goR T n n0 F h0 ds all st ops stop K t2) taken ps nx l H /\
   goE k3 keep3 t3 (goR T n n0 F h0 ds all st ops stop K t3) taken ps nx l H
where
 goE (k:Nat) (keep:List Nat) (t:Tr) (next:List Nat->List (Nat×cV)->Nat->SFr->SH->Prop) (taken:List Nat) (ps:List (Nat×cV)) (nx:Nat) (l:SFr) (H:SH):Prop:=
  match nth all k with
  |none=>False
  |some o=>match cQ o with
   |true=>False
   |false=>match cB n o.dst with
    |false=>False
    |true=>match bT l ops o with
     |none=>False
     |some false=>gL H keep ps/\fJ l o.dst (.v undef) fun l=>next taken ps nx l H
     |some true=>match evO T l H nx o.op with
      | .new x b=>match gQ n0 nx l H ds with
       |false=>False
       |true=>match bdB nx b with
        |false=>False
        |true=>match bFV nx ps with
         |false=>False
         |true=>uV b fun b=>gL ((nx,b)::H) keep ps/\fJ l o.dst x fun l=>next taken ps (nx+1) l ((nx,b)::H)
      | .put b y=>uV y fun y=>yS H b y fun H=>gL H keep ps/\fJ l o.dst (.v undef) fun l=>next taken ps nx l H
      | .app p r b=>match gQ n0 nx l H ds with
       |false=>False
       |true=>match bFV nx ps with
        |false=>False
        |true=>p/\aUY H r fun H=>gL ((nx,b)::H) keep ps/\fJ l o.dst (.buf nx) fun l=>next taken ps (nx+1) l ((nx,b)::H)
      |_=>stop k keep t taken ps nx l H
section
variable {s:SCx P} {ds:List cY} {all:List Oper} {st:List SI}
theorem ldR_no {T:Tab P} {l:SFr} {H:SH} {o:Oper} (h:ldR T l H o.op=.no) (hf:cQ o=true):jZ o=true:=by
 unfold ldR at h;unfold jZ;split
 ·rename_i hop
  rw [hop] at h;simp only at h;split at h
  ·split at h
   ·split at h
    ·split at h<;>cases h
    split at h
    ·split at h
     ·split at h<;>cases h
     cases h
    cases h
   cases h
  ·split at h
   ·split at h
    ·split at h
     ·cases h
     split at h
     ·split at h<;>cases h
     cases h
    cases h
   cases h
  ·split at h
   ·cases h
   split at h
   ·split at h<;>cases h
   cases h
  cases h
 exact hf
theorem qT {T:Tab P} {l:SFr} {H:SH} {o:Oper} (h:ldR T l H o.op ≠ .no):∃t x,o.op=.load t x:=by
 unfold ldR at h;split at h
 ·rename_i t x hop;exact ⟨t,x,hop⟩
 exact absurd rfl h
theorem aGP (T:Tab P) {L:Fr} {o:Oper} {t:TypeId} {x:Operand} {n b off:Nat} {v:Value} {a:Act} {w:World} (hop:o.op=.load t x) (ha:bB n L a) (hx:ev L x=some (.pointer (some ⟨b,off,none⟩))) (ht:eY T t=true) (hc:bL w.heap b off=some v):
  (execOp a.eval o).run P w=.ok (.value v) w:=by
 have hcell:=iQ hc
 simp [execOp,hop,ha.ev hx,Instr.loadAt,Instr.sureAddr,loadVar,lN T ht,Go.load,Sem.run,hcell]
theorem aBA (T:Tab P) {L:Fr} {o:Oper} {t:TypeId} {x:Operand} {n b off:Nat} {vs:List Value} {i:Inf} {a:Act} {w:World} (hop:o.op=.load t x) (ha:bB n L a) (hx:ev L x=some (.pointer (some ⟨b,off,none⟩))) (ht:uY T t=true) (hi:cT T.inf t=some i) (hl:vs.length=i.size) (hc:jY w.heap b off vs):
  (execOp a.eval o).run P w=.ok (.value (.agg vs.toArray)) w:=by
 have hl':=run_loadCells_list (P:=P) w ⟨b,off,none⟩ vs (fun j v hv=>by rw [fS];exact iQ (hc j v hv));rw [hl] at hl'
 simp [execOp,hop,ha.ev hx,Instr.loadAt,Instr.sureAddr,loadVar,rH T ht,kK T hi,hl']
def LdR.ok (s:SCx P) (l:SFr) (H:SH) (o:Oper):LdR->Prop
 | .no=>True
 | .bad=>True
 | .got x p=>p.in H /\ ∀E h,Sat E s.F H h -> ∀a w,bB s.c.n (gF E l) a->p.at s.F s.h0 E w.heap->(execOp a.eval o).run P w=.ok (.value (x.g E)) w
 | .gota b off cs=>(cV.cells b off cs).in H /\ ∀E h,Sat E s.F H h -> ∀a w,bB s.c.n (gF E l) a->(cV.cells b off cs).at s.F s.h0 E w.heap->(execOp a.eval o).run P w=.ok (.value ((SV.agg cs).g E)) w
 | .rowv b sz rows i off=>(cV.rws b sz rows).in H /\ ∀row,rows[i.toNat]? = some row -> ∀x,nth row off=some x -> ∀E h,Sat E s.F H h -> ∀a w,bB s.c.n (gF E l) a->(cV.rws b sz rows).at s.F s.h0 E w.heap->(execOp a.eval o).run P w=.ok (.value x) w
 | .rowa b sz rows i off m=>(cV.rws b sz rows).in H /\ ∀row,rows[i.toNat]? = some row->off+m<=row.length -> ∀E h,Sat E s.F H h -> ∀a w,bB s.c.n (gF E l) a->(cV.rws b sz rows).at s.F s.h0 E w.heap->(execOp a.eval o).run P w=.ok (.value ((SV.agg (toV ((row.drop off).take m))).g E)) w
 | .old b off=>∀v,OldC s.F s.h0 b off v -> ∀E a w,bB s.c.n (gF E l) a->Kp s.F s.h0 w.heap->(execOp a.eval o).run P w=.ok (.value v) w
 | .olda b off m=>∀vs,vs.length=m->aMF s.F s.h0 b off vs -> ∀E a w,bB s.c.n (gF E l) a->Kp s.F s.h0 w.heap->(execOp a.eval o).run P w=.ok (.value ((SV.agg (toV vs)).g E)) w
theorem ldR_ok (T:Tab P) {l:SFr} {H:SH} {o:Oper}:(ldR T l H o.op).ok s l H o:=by
 unfold ldR;split
 ·rename_i t x hop
  split
  ·rename_i b off hx
   split
   ·rename_i t' cs hl
    split
    ·rename_i hs
     split
     ·rename_i v hv
      refine ⟨by simp only [cV.in,hl];exact hv,fun E h S a w ha hc=>aGP T hop ha (bN hx) hs hc⟩
     trivial
    split
    ·rename_i hag
     split
     ·rename_i i hi
      split
      ·rename_i hle
       have hle:=Nat.le_of_ble_eq_true hle;have hlen:((cs.drop off).take i.size).length=i.size:=by simp;omega
       refine ⟨by simp only [cV.in,hl,hlen],fun E h S a w ha hc=>?_⟩;have:=aBA T hop ha (bN hx) hag hi (by rw [fM];exact hlen) hc;exact this
      trivial
     trivial
    trivial
   trivial
  ·rename_i b i off sz hx
   split
   ·rename_i sz' rows hr
    split
    ·rename_i hb
     have:=Nat.eq_of_beq_eq_true hb;subst this
     have adr:∀(E:Env) (row:List Value),rows[i.toNat]? = some row -> ∀(a:Option Addr) (cap:Nat),E b=.slice a rows.length cap -> ∀h,(rows=[] \/ ∃g o,a=some ⟨g,o,none⟩/\jY h g o rows.flatten) ->
       ∃g oo,ev (gF E l) x=some (.pointer (some ⟨g,oo+i.toNat*sz+off,none⟩))/\jY h g oo rows.flatten:=by
      intro E row hrow a cap hE h hc;rcases hc with rfl|⟨g,oo,rfl,h4⟩
      ·simp at hrow
      have hx':=bN (E:=E) hx;simp only [SV.g,hE,iI,ownB,aGG,Option.getD_some] at hx';exact ⟨g,oo,hx',h4⟩
     split
     ·rename_i hs
      refine ⟨hr,fun row hrow v hv E h S a w ha hc=>?_⟩;obtain ⟨a',cap,hE,hc⟩:=hc;obtain ⟨g,oo,hx',h4⟩:=adr E row hrow a' cap hE _ hc;rw [fW] at hv;refine aGP T hop ha hx' hs ?_;rw [Nat.add_assoc];exact h4 _ _ (vK (S.rowsAt hr).1 hrow hv)
     split
     ·rename_i hag
      split
      ·rename_i j hi
       refine ⟨hr,fun row hrow hle E h S a w ha hc=>?_⟩;obtain ⟨a',cap,hE,hc⟩:=hc;obtain ⟨g,oo,hx',h4⟩:=adr E row hrow a' cap hE _ hc;have:=aBA (w:=w) T (vs:=(row.drop off).take j.size) hop ha hx' hag hi (by simp;omega) (fun q v hq=>?_)
       ·simp only [SV.g,nL];exact this
       have hq':row[off+q]? = some v:=by
        rw [List.getElem?_take] at hq;split at hq
        ·simpa using hq
        cases hq
       have:=h4 _ _ (vK (S.rowsAt hr).1 hrow hq');rw [show oo+i.toNat*sz+off+q=oo+(i.toNat*sz+(off+q)) by omega];exact this
      trivial
     trivial
    trivial
   trivial
  ·rename_i b off hx
   split
   ·rename_i hs
    intro v hv E a w ha K;refine aGP T hop ha (bN hx) hs ?_;have:=hv.2;unfold bL at this ⊢;rw [K.same b hv.1];exact this
   split
   ·rename_i hag
    split
    ·rename_i j hi
     intro vs hlen hv E a w ha K;have:=aBA (w:=w) T (vs:=vs) hop ha (bN hx) hag hi hlen (fun q v hq=>?_)
     ·simp only [SV.g,nL];exact this
     obtain ⟨h1,h2⟩:=hv q v hq;unfold bL at h2 ⊢;rw [K.same b h1];exact h2
    trivial
   trivial
  trivial
 trivial
end

section
variable {s:SCx P} {ds:List cY} {all:List Oper} {st:List SI}
theorem wX {all:List Oper} {k:Nat} {o:Oper} (ho:all[k]? = some o):fF all.toArray k=dH o:=by
 have:all.toArray[k]? = some o:=by simpa using ho
 unfold fF;rw [this]
theorem bG.flP {t:Tr} {taken taken':List Nat} {ps ps':List (Nat×cV)} {nx:Nat} {l:SFr} {H:SH} {k:Nat} {o:Oper} {x:SV} {H':SH} {d:Nat} (ho:all[k]? = some o) (hf:cQ o=true) (hd:o.dst=some d) (hdst:cB s.c.n o.dst=true) (hgd:bT l all.toArray o=some true)
  (hk:cJ P s.c.n s.F s.h0 l H o x H') (hpl:jZ o=true) (htk:taken'=if dH o then taken else k::taken) (hps:ps'=if dH o then ps else (k,.none)::ps)
  (hr:bG s ds all st t taken' ps' nx ((d,x)::l) H):bG s ds all st (.fl k t) taken ps nx l H:=by
 have hp:=wX ho;refine bG.fl (o:=o) (x:=x) (p:=.none) ho hf hdst (taken':=taken') (by rw [hp];exact htk) ps' (by rw [hp];exact hps) (fun _=>trivial) (fun E h S K a ha=>.inl ⟨?_,fun w _=>(hk.2 hpl).2 E h S K a w ha⟩) (by rw [hd];exact hr);have:=bJ ha (bK (E:=E) hgd);exact this
theorem bG.flS {t:Tr} {taken taken':List Nat} {ps ps':List (Nat×cV)} {nx:Nat} {l:SFr} {H:SH} {k:Nat} {o:Oper} {d:Nat} (ho:all[k]? = some o) (hf:cQ o=true) (hd:o.dst=some d) (hdst:cB s.c.n o.dst=true) (hgd:bT l all.toArray o=some false)
  (htk:taken'=if dH o then taken else k::taken) (hps:ps'=if dH o then ps else (k,.none)::ps)
  (hr:bG s ds all st t taken' ps' nx ((d,.v undef)::l) H):bG s ds all st (.fl k t) taken ps nx l H:=by
 have hp:=wX ho;refine bG.fl (o:=o) (x:=.v undef) (p:=.none) ho hf hdst (taken':=taken') (by rw [hp];exact htk) ps' (by rw [hp];exact hps) (fun _=>trivial) (fun E h S K a ha=>.inr ⟨?_,rfl⟩) (by rw [hd];exact hr);have:=bJ ha (bK (E:=E) hgd);exact this
theorem bG.flN {t:Tr} {taken:List Nat} {ps:List (Nat×cV)} {nx:Nat} {l:SFr} {H:SH} {b:Blk} {k:Nat} {o:Oper} {d:Nat} (ho:all[k]? = some o) (hf:cQ o=true) (hpu:dH o=true) (hd:o.dst=some d) (hdst:cB s.c.n o.dst=true) (hgd:bT l all.toArray o=some true)
  (hn:s.n0<=nx) (hb:bdF nx l=true) (hds:bdD nx ds=true) (hbp:bFV nx ps=true)
  (hk:∀E h,Sat E s.F H h->Kp s.F s.h0 h -> ∃v,(∀a w,bB s.c.n (gF E l) a->(execOp a.eval o).run P w=.ok (.value v) w)/\Sat (push E nx v) s.F ((nx,b)::H) h)
  (hr:bG s ds all st t taken ps (nx+1) ((d,.buf nx)::l) ((nx,b)::H)):bG s ds all st (.fl k t) taken ps nx l H:=by
 refine ⟨fun E h hA S K Q D hD hN hP G hG f listed hc a w ha hdf hh hw=>?_⟩;have hp:fF all.toArray k=true:=by rw [wX ho];exact hpu
 cases f with
 |zero=>simp [lA] at hc
 |succ f=>
  simp only [lA,Bool.and_eq_true] at hc;obtain ⟨v,h1,h2⟩:=hk E h S K;have A:=gA E nx v;have hY:YieldsIf P all.toArray (fun w=>fF all.toArray k=true\/True) o v a:=.inl ⟨bJ ha (bK (E:=E) hgd),fun w _=>h1 a w ha⟩;refine ⟨o,by simpa using ho,hf,v,_,hY,.inl hp,?_⟩;rw [hp] at hc;simp only [if_true] at hc;have hG':=hG.ag A hbp;have hgf:gF (push E nx v) l=gF E l:=iX A l hb;refine hr.run (push E nx v) h (hA.trans (A.mono hn)) h2 K Q D ?_ hN hP _ ?_ f _ hc.2 _ w ?_ (by cases o.dst<;>simpa [Act.put] using hdf) hh hw
  ·rw [jA A ds hds];exact hD
  ·exact ⟨fun q hq=>(List.mem_cons.1 hq).elim (fun e=>.inl fun w=>by rw [e];exact .inl hp) (hG'.full q),hG'.tk⟩
  have:=eG ha (fE hdst) v;rw [hd] at this ⊢;simp only [gF,SV.g,gW,hgf];exact this
theorem bG.flL {t:Tr} {taken:List Nat} {ps:List (Nat×cV)} {nx:Nat} {l:SFr} {H:SH} {k:Nat} {o:Oper} {x:SV} {p:cV} {d:Nat} (ho:all[k]? = some o) (hf:cQ o=true) (hd:o.dst=some d) (hdst:cB s.c.n o.dst=true) (hgd:bT l all.toArray o=some true)
  (hop:∃t x,o.op=.load t x) (hin:p.in H) (hk:∀E h,Sat E s.F H h -> ∀a w,bB s.c.n (gF E l) a->p.at s.F s.h0 E w.heap->(execOp a.eval o).run P w=.ok (.value (x.g E)) w)
  (hr:bG s ds all st t (k::taken) ((k,p)::ps) nx ((d,x)::l) H):bG s ds all st (.fl k t) taken ps nx l H:=by
 have hp:fF all.toArray k=false:=by
  obtain ⟨t,x,e⟩:=hop;rw [wX ho];simp [dH,e]
 refine bG.fl (o:=o) (x:=x) (p:=p) ho hf hdst (taken':=k::taken) (by rw [hp];rfl) ((k,p)::ps) (by rw [hp];rfl) (fun _=>hin) (fun E h S K a ha=>.inl ⟨?_,fun w hw=>?_⟩) (by rw [hd];exact hr)
 ·have:=bJ ha (bK (E:=E) hgd);exact this
 rcases hw with hw|hw
 ·rw [hp] at hw;cases hw
 exact hk E h S a w ha hw
theorem aK.skip {t:Tr} {taken:List Nat} {ps:List (Nat×cV)} {nx:Nat} {l:SFr} {H:SH} {k:Nat} {keep:List Nat} {o:Oper} (ho:all[k]? = some o) (hf:cQ o=false) (hdst:cB s.c.n o.dst=true) (hgd:bT l all.toArray o=some false) (hpi:gL H keep ps)
  (hr:bG s ds all st t taken ps nx (aLJ l o.dst (.v undef)) H):aK s ds all st k keep t taken ps nx l H:=by
 refine ⟨fun E h hA S K Q D hD hN hP G hG hk f listed hc a w ha hd hh hw=>?_⟩;have ho':all.toArray[k]? = some o:=by simpa using ho
 have hfa:cN all.toArray k=false:=by unfold cN;rw [ho'];exact hf
 refine ⟨hfa,?_⟩;have hwn:=bJ ha (bK (E:=E) hgd);unfold wpOp;simp only [ho',hwn,Bool.false_eq_true,if_false];refine ⟨fun q hq=>?_,hr.run E h hA S K Q D hD hN hP G hG f _ hc _ w (by rw [eP];exact eG ha (fE hdst) _) (by cases o.dst<;>simpa [Act.put] using hd) hh hw⟩;rcases hG.full q hq with h1|⟨h1,p,h2,h3⟩
 ·exact .inr (h1 w)
 have:=List.all_eq_true.1 hk q.1 h1;simp only [Bool.or_eq_true,fT] at this;rcases this with h4|h4
 ·exact .inr (h3 w (by rw [hh];exact cV.at_of S K (kM hpi q.1 p h2 h4)))
 exact .inl (by simpa using h4)
theorem aK.ofS {t:Tr} {taken:List Nat} {ps:List (Nat×cV)} {nx nx':Nat} {l:SFr} {H H':SH} {k:Nat} {keep:List Nat} {o:Oper} {x:SV} (ho:all[k]? = some o) (hf:cQ o=false) (hdst:cB s.c.n o.dst=true) (hgd:bT l all.toArray o=some true)
  (hE:aEU P s.c.n s.F s.h0 nx l H o x H') (hn:s.n0<=nx) (hb:bdF nx l=true) (hd:bdD nx ds=true) (hbp:bFV nx ps=true) (hpi:gL H' keep ps)
  (hr:bG s ds all st t taken ps nx' (aLJ l o.dst x) H'):aK s ds all st k keep t taken ps nx l H:=
 aK.of ho hf hdst (V:=fun E h v h'=>∃E',Ag nx E E'/\v=x.g E'/\Sat E' s.F H' h'/\Kp s.F s.h0 h') (PN:=fun _ _ _ _=>False) hgd (fun E h _ S K=>xD.of_eff (hE E h S K)) (fun _ _ _ _ _ _ _ hf=>hf.elim)
  (fun E h hA S K v h' ⟨E',hag,hv,S',K'⟩=>⟨E',nx',_,H',hag,hn,hbp,jA hag ds hd,by rw [eP,iX hag l hb,hv],S',K',hpi,hr⟩)
theorem aK.ofK {t:Tr} {taken:List Nat} {ps:List (Nat×cV)} {nx:Nat} {l:SFr} {H H':SH} {k:Nat} {keep:List Nat} {o:Oper} {x:SV} (ho:all[k]? = some o) (hf:cQ o=false) (hdst:cB s.c.n o.dst=true) (hgd:bT l all.toArray o=some true)
  (hE:cJ P s.c.n s.F s.h0 l H o x H') (hpi:gL H' keep ps)
  (hr:bG s ds all st t taken ps nx (aLJ l o.dst x) H'):aK s ds all st k keep t taken ps nx l H:=by
 refine ⟨fun E h hA S K Q D hD hN hP G hG hk f listed hc a w ha hd hh hw=>?_⟩;have ho':all.toArray[k]? = some o:=by simpa using ho
 have hfa:cN all.toArray k=false:=by unfold cN;rw [ho'];exact hf
 refine ⟨hfa,?_⟩;have hwn:=bJ ha (bK (E:=E) hgd);unfold wpOp;simp only [ho',hwn,if_true];refine .inl (hE.1 E h S K a w ha hh _ _ fun v w' hlk ⟨hv,S',K'⟩=>?_);refine ⟨fun q hq=>?_,hr.run E w'.heap hA S' K' Q D hD hN hP G hG f _ hc _ w' (by rw [eP,<-hv];exact eG ha (fE hdst) _) (by cases o.dst<;>simpa [Act.put] using hd) rfl (hw.trans hlk)⟩;rcases hG.full q hq with h1|⟨h1,p,h2,h3⟩
 ·exact .inr (h1 w')
 have:=List.all_eq_true.1 hk q.1 h1;simp only [Bool.or_eq_true,fT] at this;rcases this with h4|h4
 ·exact .inr (h3 w' (cV.at_of S' K' (kM hpi q.1 p h2 h4)))
 exact .inl (by simpa using h4)
theorem goR_run (T:Tab P):∀(t:Tr) (taken:List Nat) (ps:List (Nat×cV)) (nx:Nat) (l:SFr) (H:SH),
  goR T s.c.n s.n0 s.F s.h0 ds all st all.toArray (fun k keep t taken ps nx l H=>aK s ds all st k keep t taken ps nx l H) (fun nx l H=>aA s ds nx st l H) t taken ps nx l H->bG s ds all st t taken ps nx l H:=by
 intro t
 have key:∀(k:Nat) (keep:List Nat) (t:Tr),(∀(taken:List Nat) (ps:List (Nat×cV)) (nx:Nat) (l:SFr) (H:SH),
   goR T s.c.n s.n0 s.F s.h0 ds all st all.toArray (fun k keep t taken ps nx l H=>aK s ds all st k keep t taken ps nx l H) (fun nx l H=>aA s ds nx st l H) t taken ps nx l H->bG s ds all st t taken ps nx l H) ->
   ∀(taken:List Nat) (ps:List (Nat×cV)) (nx:Nat) (l:SFr) (H:SH),goR.goE T s.c.n s.n0 ds all all.toArray (fun k keep t taken ps nx l H=>aK s ds all st k keep t taken ps nx l H) k keep t
    (goR T s.c.n s.n0 s.F s.h0 ds all st all.toArray (fun k keep t taken ps nx l H=>aK s ds all st k keep t taken ps nx l H) (fun nx l H=>aA s ds nx st l H) t) taken ps nx l H->aK s ds all st k keep t taken ps nx l H:=by
  intro k keep t ih taken ps nx l H hg;unfold goR.goE at hg;split at hg
  ·exact hg.elim
  rename_i o hn
  rw [fW] at hn;split at hg
  ·exact hg.elim
  rename_i hf
  split at hg
  ·exact hg.elim
  rename_i hdst
  split at hg
  ·exact hg.elim
  ·rename_i hgd
   rw [bD] at hg;exact aK.skip hn hf hdst hgd hg.1 (ih _ _ _ _ _ hg.2)
  rename_i hgd
  have hk:=aJW (P:=P) (n:=s.c.n) (F:=s.F) (h0:=s.h0) (nx:=nx) (l:=l) (H:=H) (o:=o) T o.op rfl;split at hg
  ·rename_i hv;rw [hv] at hk
   split at hg
   ·exact hg.elim
   rename_i hfr
   obtain ⟨f1,f2,f3,f4⟩:=dW hfr;split at hg
   ·exact hg.elim
   rename_i hbb
   split at hg
   ·exact hg.elim
   rename_i hbp
   rw [oA,bD] at hg;exact aK.ofS hn hf hdst hgd (hk f3 hbb) f1 f2 f4 hbp hg.1 (ih _ _ _ _ _ hg.2)
  ·rename_i hv;rw [hv] at hk
   rw [oA,jN,bD] at hg;exact aK.ofK hn hf hdst hgd hk hg.1 (ih _ _ _ _ _ hg.2)
  ·rename_i hv;rw [hv] at hk
   split at hg
   ·exact hg.elim
   rename_i hfr
   obtain ⟨f1,f2,f3,f4⟩:=dW hfr;split at hg
   ·exact hg.elim
   rename_i hbp
   rw [aNC,bD] at hg;exact aK.ofS hn hf hdst hgd (hk hg.1 f3) f1 f2 f4 hbp hg.2.1 (ih _ _ _ _ _ hg.2.2)
  exact hg
 induction t with
 |done=>intro taken ps nx l H hg;exact bG.done hg
 |e1 k keep t ih=>intro taken ps nx l H hg;exact bG.e1 (key k keep t ih _ _ _ _ _ hg)
 |e2 k1 keep1 t1 k2 keep2 t2 ih1 ih2=>intro taken ps nx l H hg;exact bG.e2 (key k1 keep1 t1 ih1 _ _ _ _ _ hg.1) (key k2 keep2 t2 ih2 _ _ _ _ _ hg.2)
 |e3 k1 keep1 t1 k2 keep2 t2 k3 keep3 t3 ih1 ih2 ih3=>intro taken ps nx l H hg;exact bG.e3 (key k1 keep1 t1 ih1 _ _ _ _ _ hg.1) (key k2 keep2 t2 ih2 _ _ _ _ _ hg.2.1) (key k3 keep3 t3 ih3 _ _ _ _ _ hg.2.2)
 |fl k t ih=>
  intro taken ps nx l H hg;unfold goR at hg;split at hg
  ·exact hg.elim
  rename_i o hn
  rw [fW] at hn;split at hg
  ·exact hg.elim
  rename_i hf
  split at hg
  ·exact hg.elim
  rename_i d hd
  split at hg
  ·exact hg.elim
  rename_i hlt
  have hdst:cB s.c.n o.dst=true:=by rw [hd];exact hlt
  split at hg
  ·exact hg.elim
  ·rename_i hgd
   split at hg
   ·rename_i hp;exact bG.flS hn hf hd hdst hgd (by rw [hp];rfl) (by rw [hp];rfl) (ih _ _ _ _ _ hg)
   rename_i hp;exact bG.flS hn hf hd hdst hgd (by rw [hp];rfl) (by rw [hp];rfl) (ih _ _ _ _ _ hg)
  rename_i hgd
  have hL:=ldR_ok (P:=P) (s:=s) T (l:=l) (H:=H) (o:=o);split at hg
  ·exact hg.elim
  ·rename_i hv;rw [hv] at hL
   exact bG.flL hn hf hd hdst hgd (qT (by rw [hv];simp)) hL.1 hL.2 (ih _ _ _ _ _ hg)
  ·rename_i hv;rw [hv] at hL
   rw [iK] at hg;exact bG.flL hn hf hd hdst hgd (qT (by rw [hv];simp)) hL.1 hL.2 (ih _ _ _ _ _ hg)
  ·rename_i hv;rw [hv] at hL
   obtain ⟨row,hrow,hg⟩:=hg;split at hg
   ·rename_i x hx
    exact bG.flL (x:=.v x) hn hf hd hdst hgd (qT (by rw [hv];simp)) hL.1 (hL.2 row hrow x hx) (ih _ _ _ _ _ hg)
   exact hg.elim
  ·rename_i hv;rw [hv] at hL
   obtain ⟨row,hrow,hle,hg⟩:=hg;rw [iK] at hg;exact bG.flL hn hf hd hdst hgd (qT (by rw [hv];simp)) hL.1 (hL.2 row hrow hle) (ih _ _ _ _ _ hg)
  ·rename_i hv;rw [hv] at hL
   obtain ⟨v,hc,hg⟩:=hg;exact bG.flL (x:=.v v) hn hf hd hdst hgd (qT (by rw [hv];simp)) (p:=.none) trivial (fun E h _ a w ha K=>hL v hc E a w ha K) (ih _ _ _ _ _ hg)
  ·rename_i hv;rw [hv] at hL
   obtain ⟨vs,⟨hl,hc⟩,hg⟩:=hg;rw [iK] at hg;exact bG.flL hn hf hd hdst hgd (qT (by rw [hv];simp)) (p:=.none) trivial (fun E h _ a w ha K=>hL vs hl hc E a w ha K) (ih _ _ _ _ _ hg)
  rename_i hv
  have hpl:=ldR_no hv hf;have hk:=aJW (P:=P) (n:=s.c.n) (F:=s.F) (h0:=s.h0) (nx:=nx) (l:=l) (H:=H) (o:=o) T o.op rfl;split at hg
  ·rename_i hp
   have e1:∀ {α:Type} (a b:α),a=if dH o=true then a else b:=fun a b=>by rw [if_pos hp]
   split at hg
   ·rename_i hv;rw [hv] at hk
    exact bG.flP hn hf hd hdst hgd hk hpl (e1 _ _) (e1 _ _) (ih _ _ _ _ _ hg)
   ·rename_i hv;rw [hv] at hk
    rw [iK] at hg;exact bG.flP hn hf hd hdst hgd hk hpl (e1 _ _) (e1 _ _) (ih _ _ _ _ _ hg)
   ·rename_i hv;rw [hv] at hk
    exact bG.flP hn hf hd hdst hgd (hk hg.1) hpl (e1 _ _) (e1 _ _) (ih _ _ _ _ _ hg.2)
   ·rename_i p i hv;rw [hv] at hk
    simp only [PuS.ok] at hk;split at hg
    ·by_cases hp:p
     ·simp only [hp,decide_true] at hk;exact bG.flP hn hf hd hdst hgd hk hpl (e1 _ _) (e1 _ _) (ih _ _ _ _ _ (hg.1 hp))
     simp only [hp,decide_false] at hk;exact bG.flP hn hf hd hdst hgd hk hpl (e1 _ _) (e1 _ _) (ih _ _ _ _ _ (hg.2 hp))
    exact bG.flP hn hf hd hdst hgd hk hpl (e1 _ _) (e1 _ _) (ih _ _ _ _ _ hg)
   ·rename_i p i hv;rw [hv] at hk
    simp only [PuS.ok] at hk;split at hg
    ·by_cases hp:p
     ·simp only [hp,decide_true,Bool.not_true] at hk;exact bG.flP hn hf hd hdst hgd hk hpl (e1 _ _) (e1 _ _) (ih _ _ _ _ _ (hg.1 hp))
     simp only [hp,decide_false,Bool.not_false] at hk;exact bG.flP hn hf hd hdst hgd hk hpl (e1 _ _) (e1 _ _) (ih _ _ _ _ _ (hg.2 hp))
    exact bG.flP hn hf hd hdst hgd hk hpl (e1 _ _) (e1 _ _) (ih _ _ _ _ _ hg)
   ·rename_i hv;rw [hv] at hk
    obtain ⟨r,hr,hg⟩:=hg;exact bG.flP hn hf hd hdst hgd (hk r hr) hpl (e1 _ _) (e1 _ _) (ih _ _ _ _ _ hg)
   ·rename_i hv;rw [hv] at hk
    split at hg
    ·exact hg.elim
    rename_i hfr
    obtain ⟨f1,f2,f3,f4⟩:=dW hfr;split at hg
    ·exact hg.elim
    rename_i hbp
    exact bG.flN hn hf hp hd hdst hgd f1 f2 f4 hbp (hk hg.1 f3) (ih _ _ _ _ _ hg.2)
   exact hg.elim
  rename_i hp
  split at hg
  ·rename_i hv;rw [hv] at hk
   rw [iK] at hg;exact bG.flP hn hf hd hdst hgd hk hpl (by rw [hp];rfl) (by rw [hp];rfl) (ih _ _ _ _ _ hg)
  exact hg.elim
theorem aA.held {nx:Nat} {l:SFr} {H:SH} {k:List SI} {id:Nat} {ops:List Oper} (T:Tab P) (t:Tr)
  (hB:(Region.noSelect ops.toArray&&lA .any ops.toArray t ops.toArray.size [] (Array.replicate ops.toArray.size false))=true)
  (hr:bG s ds ops k t [] [] nx l H) (hnd:tG ops=true:=by rfl):aA s ds nx (.code (.region id ops.toArray true)::k) l H:=by
 refine ⟨fun E h hA S K=>?_⟩;unfold aD;intro hwf a w ha hd hh hw;simp only [Bool.and_eq_true] at hB;obtain ⟨hsel,hc4⟩:=hB
 obtain ⟨Q,hQdef⟩:∃Q:Exit->Act->World->Prop,Q=fun e a' w'=>match e with
  | .normal=>s.c.Z (lone (s.c.fr a' (its k)) s.c.cs w')
  | .panic ch=>∀a2,aAM (yB ops) a' a2 -> ∀todo,s.c.Z (lone {s.c.fr a2 todo with mode:=.panicking ch} s.c.cs w')
  |_=>False:=⟨_,rfl⟩
 have hN:∀a' w',Q .normal a' w'=s.c.Z (lone (s.c.fr a' (its k)) s.c.cs w'):=fun a' w'=>by rw [hQdef]
 have hP:∀ch a' w',Q (.panic ch) a' w' = ∀a2,aAM (yB ops) a' a2 -> ∀todo,s.c.Z (lone {s.c.fr a2 todo with mode:=.panicking ch} s.c.cs w'):=fun ch a' w'=>by rw [hQdef]
 have hO:∀a' w',¬Q .outgrown a' w':=fun a' w' h=>by rw [hQdef] at h;exact h
 refine aKP (K:=its k) (Q:=Q) T.mixed ⟨fun a' w' hq=>by rw [hN] at hq;exact hq,fun ch a' w' hq todo=>by rw [hP] at hq;exact hq a' (aAM.refl _ _) todo,hO⟩ (.inr fun i o ho=>sM hnd i o (by simpa using ho)) ?_
 have H3:=hr.run E h hA S K Q (gD E ds) rfl
  (fun l2 h2 a2 w2 hK2 ha2 hd2 hh2 hw2=>by
   rw [hN];unfold aD at hK2;exact hK2 (bQ hwf) a2 w2 ha2 hd2 hh2 hw2)
  (fun l2 ch h2 a2 w2 hU ha2 hd2 hh2 hw2=>by
   rw [hP];intro a3 hal todo;exact hU a3 w2 todo (ha2.alike hal) (by rw [hal.2.1];exact hd2) hh2 hw2) [] ⟨fun _ h=>(by cases h),fun _ _ h=>(by cases h)⟩ _ _ hc4 a {w with drawn:=w.drawn+1} ha hd hh (hw.trans ⟨rfl,rfl,rfl⟩)
 have H4:=sem4_C hsel (fun i o ho v ch a' w' hq=>by
  rw [hP] at hq ⊢;exact fun a2 hal=>hq a2 (hal.put (fun d hd=>aML (by simpa using ho) hd) v)) t _ _ [] (Array.replicate ops.toArray.size false) a _ (fun j oj _ hl=>(by rw [getD_replicate_false] at hl;cases hl)) hc4 H3
 exact yL _ _ _ _ H4
/-! calls in a region -/
variable {t:Tr} {taken:List Nat} {ps:List (Nat×cV)} {nx k:Nat} {keep:List Nat} {l:SFr} {H:SH} {o:Oper} {cl:Call} {x:Operand} {g:FuncId} {first captured vs:List SV}
theorem pT (hop:o.op=.call cl) (hcal:cl.callee=.value x):cQ o=false:=by simp [cQ,dH,hop,hcal]
theorem aK.callO {ch:List PanicEntry} {r:Option Value}
  (H1:∀E h,Ag s.n0 s.E0 E->Sat E s.F H h->Kp s.F s.h0 h->FnO P ch g (SV.gs E (first++(vs++captured))).toArray h r)
  (hpi:gL H keep ps) (hp:r=none->aB s ds (.panicking ch) nx (aOC (yB all) l) H)
  (hr:∀X,r=some X->fJ l o.dst (.v X) fun l=>bG s ds all st t taken ps nx l H)
  (ho:all[k]? = some o:=by rfl) (hop:o.op=.call cl:=by rfl) (hcal:cl.callee=.value x:=by rfl) (hx:eM l x=some (g,first,captured):=by rfl) (hargs:gK l cl.args.toList=some vs:=by rfl)
  (hgd:bT l all.toArray o=some true:=by rfl) (hdn:cB s.c.n o.dst=true:=by rfl):aK s ds all st k keep t taken ps nx l H:=by
 refine ⟨fun E h hA S K Q D hD hN hP G hG hk f listed hc a w ha hd hh hw=>?_⟩;have hf:=pT hop hcal;have ho':all.toArray[k]? = some o:=by simpa using ho
 have hfa:cN all.toArray k=false:=by unfold cN;rw [ho'];exact hf
 refine ⟨hfa,?_⟩;have hwn:=bJ ha (bK (E:=E) hgd);unfold wpOp;simp only [ho',hwn,if_true];have hE:=xD.callO (n:=s.c.n) (l:=gF E l) (h:=h) (o:=o) (first:=(SV.gs E first).toArray) (captured:=(SV.gs E captured).toArray) (vs:=SV.gs E vs) (by rw [zF];exact H1 E h hA S K) hop hcal (kL hx) (kH hargs);refine .inl (hE a w ha hh _ _ (fun v w' hlk ⟨hv,hkk⟩=>?_) fun ch' w' hlk ⟨hrn,hch,hkk⟩=>?_)
 ·obtain ⟨S',K'⟩:=S.keeps K hkk;have hr:=hr v hv;rw [bD] at hr;refine ⟨fun q hq=>?_,hr.run E w'.heap hA S' K' Q D hD hN hP G hG f _ hc _ w' (by rw [eP];exact eG ha (fE hdn) _) (by cases o.dst<;>simpa [Act.put] using hd) rfl (hw.trans hlk)⟩;rcases hG.full q hq with h1|⟨h1,p,h2,h3⟩
  ·exact .inr (h1 w')
  have:=List.all_eq_true.1 hk q.1 h1;simp only [Bool.or_eq_true,fT] at this;rcases this with h4|h4
  ·exact .inr (h3 w' (cV.at_of S' K' (kM hpi q.1 p h2 h4)))
  exact .inl (by simpa using h4)
 subst hch;obtain ⟨S',K'⟩:=S.keeps K hkk;have:=(hp hrn).run E w'.heap hA S' K';rw [aKL,hD] at this;exact hP _ _ _ a w' this ha hd rfl (hw.trans hlk)
theorem FnO.of_V {P:Program} {ch:List PanicEntry} {f:FuncId} {args:Array Value} {h:Array Obj} {X:Value} (H:FnV P f args h fun r h'=>r=X/\aH h.size h h'):FnO P ch f args h (some X):=
 Fn.mono H fun e h' ⟨v,he,hv,hk⟩=>⟨by rw [he,hv],hk⟩
theorem aK.callV {X:Value}
  (H1:∀E h,Ag s.n0 s.E0 E->Sat E s.F H h->Kp s.F s.h0 h->FnV P g (SV.gs E (first++(vs++captured))).toArray h fun r h'=>r=X/\aH h.size h h')
  (hpi:gL H keep ps)
  (hr:fJ l o.dst (.v X) fun l=>bG s ds all st t taken ps nx l H)
  (ho:all[k]? = some o:=by rfl) (hop:o.op=.call cl:=by rfl) (hcal:cl.callee=.value x:=by rfl) (hx:eM l x=some (g,first,captured):=by rfl) (hargs:gK l cl.args.toList=some vs:=by rfl)
  (hgd:bT l all.toArray o=some true:=by rfl) (hdn:cB s.c.n o.dst=true:=by rfl):aK s ds all st k keep t taken ps nx l H:=
 aK.callO (ch:=[]) (fun E h hA S K=>FnO.of_V (H1 E h hA S K)) hpi (fun e=>by cases e) (fun X' e=>by cases e;exact hr) ho hop hcal hx hargs hgd hdn
theorem aK.callS {ch:List PanicEntry} {X:Value}
  (H1:∀E h,Ag s.n0 s.E0 E->Sat E s.F H h->Kp s.F s.h0 h->FnO P ch g (SV.gs E (first++(vs++captured))).toArray h (some X))
  (hpi:gL H keep ps)
  (hr:fJ l o.dst (.v X) fun l=>bG s ds all st t taken ps nx l H)
  (ho:all[k]? = some o:=by rfl) (hop:o.op=.call cl:=by rfl) (hcal:cl.callee=.value x:=by rfl) (hx:eM l x=some (g,first,captured):=by rfl) (hargs:gK l cl.args.toList=some vs:=by rfl)
  (hgd:bT l all.toArray o=some true:=by rfl) (hdn:cB s.c.n o.dst=true:=by rfl):aK s ds all st k keep t taken ps nx l H:=
 aK.callO H1 hpi (fun e=>by cases e) (fun X' e=>by cases e;exact hr) ho hop hcal hx hargs hgd hdn
theorem aK.callF {ch:List PanicEntry}
  (H1:∀E h,Ag s.n0 s.E0 E->Sat E s.F H h->Kp s.F s.h0 h->FnO P ch g (SV.gs E (first++(vs++captured))).toArray h none)
  (hpi:gL H keep ps) (hp:aB s ds (.panicking ch) nx (aOC (yB all) l) H)
  (ho:all[k]? = some o:=by rfl) (hop:o.op=.call cl:=by rfl) (hcal:cl.callee=.value x:=by rfl) (hx:eM l x=some (g,first,captured):=by rfl) (hargs:gK l cl.args.toList=some vs:=by rfl)
  (hgd:bT l all.toArray o=some true:=by rfl) (hdn:cB s.c.n o.dst=true:=by rfl):aK s ds all st k keep t taken ps nx l H:=
 aK.callO H1 hpi (fun _=>hp) (fun X' e=>by cases e) ho hop hcal hx hargs hgd hdn
end

def Ro (h:Array Obj) (v:Value) (sz:Nat) (rows:List (List Value)):Prop:=
 mH sz rows/\(rows.length<=9223372036854775807/\aUS v) /\ ∃a cap,v=.slice a rows.length cap/\(rows=[] \/ ∃g o,a=some ⟨g,o,none⟩/\g<h.size/\jY h g o rows.flatten)
theorem Ro.len {h:Array Obj} {v:Value} {sz:Nat} {rows:List (List Value)} (H:Ro h v sz rows):rows.length<=9223372036854775807:=H.2.1.1
theorem Ro.nil {h:Array Obj} {sz:Nat}:Ro h (.slice none 0 0) sz []:=⟨fun _ h=>(by cases h),⟨by simp,Nat.le_refl 0⟩,none,0,rfl,.inl rfl⟩
theorem Ro.blk {E:Env} {h:Array Obj} {v:Value} {sz:Nat} {rows:List (List Value)} (H:Ro h v sz rows):(Blk.ro sz rows).ok E (fun k=>k<h.size) h v:=by
 obtain ⟨h1,h0,a,cap,h2,h3⟩:=H;exact ⟨h1,h0,a,cap,h2,h3.imp id fun ⟨g,o,e1,e2,e3⟩=>⟨g,o,e1,e2,e3⟩⟩
theorem Sat.ro {E:Env} {F:Nat->Prop} {H:SH} {h:Array Obj} (S:Sat E F H h) {b sz:Nat} {rows:List (List Value)} (hl:Fw.rowsAt H b=some (sz,rows)) (hz:0<sz:=by decide):Ro h (E b) sz rows:=by
 obtain ⟨h1,a,cap,h2,h3⟩:=S.rowsAt hl;refine ⟨h1,⟨S.rowsLen hl,S.rowsCap hl⟩,a,cap,h2,?_⟩;rcases h3 with h3|⟨g,o,e1,e2⟩
 ·exact .inl h3
 cases rows with
 |nil=>exact .inl rfl
 |cons r rs=>
  have hr:=(h1 r (List.mem_cons_self ..)).1;have hv:(r::rs).flatten[0]? = some (r[0]'(by omega)):=by
   rw [List.flatten_cons,List.getElem?_append_left (by omega)];exact List.getElem?_eq_getElem _
  have:=e2 0 _ hv;refine .inr ⟨g,o,e1,?_,e2⟩;unfold bL at this;split at this
  ·rename_i hc;exact (Array.getElem?_eq_some_iff.1 hc).1
  cases this
def argG:Nat->List SV->SFr
 |_,[]=>[]
 |i,v::vs=>(i,v)::argG (i+1) vs
theorem aDM (E:Env):∀(i:Nat) (vs:List SV),gF E (argG i vs)=xP i (SV.gs E vs)
 |_,[]=>rfl
 |i,v::vs=>by simp only [argG,gF,SV.gs,xP,aDM E (i+1) vs]
def bFQ:Nat->List SV->(SFr->Prop)->Prop
 |_,[],K=>K []
 |i,v::vs,K=>bFQ (i+1) vs fun l=>K ((i,v)::l)
theorem aAC:∀(i:Nat) (vs:List SV) (K:SFr->Prop),bFQ i vs K=K (argG i vs)
 |_,[],_=>rfl
 |i,v::vs,K=>by simp only [bFQ,argG,aAC (i+1) vs]
theorem Fn.ofG {f:FuncId} {fn:Func} {code:Code} (E0:Env) (n0:Nat) (args:List SV) (W:SH) (F:Nat→Prop) (hf:P.funcs[f]? = some fn) (hname:(fn.name == "runtime.NumGoroutine")=false) (hb:fn.body=some code) {n:Nat} (hnt:fn.ntmps=n)
  (hargs:Nat.ble args.length n=true) {h:Array Obj} {R:Ending->Array Obj->Prop} (hF:∀k,F k->k<h.size) (S:Sat E0 F W h)
  (H:∀w0 cs,bFQ 0 args fun l=>aA ⟨cW P f n w0 cs R,F,h,E0,n0⟩ [] n0 [.code code] l W):Fn P f (SV.gs E0 args).toArray h R:=
 Fn.of hf hname hb hnt (by rw [fM];exact hargs) fun w0 cs=>by
  have H:=H w0 cs;rw [aAC] at H;have:=H.run E0 h (fun _ _=>rfl) S ⟨Nat.le_refl _,fun _ _=>rfl,hF⟩;rw [aDM] at this;exact this
def mJ:List Value->Env
 | [],_=>undef
 |v::_,0=>v
 |_::vs,n+1=>mJ vs n
def roH:Nat->List (Nat×List (List Value))->SH
 |_,[]=>[]
 |i,(sz,rows)::l=>(i,.ro sz rows)::roH (i+1) l
def Ros (h:Array Obj):List Value->List (Nat×List (List Value))->Prop
 | [],[]=>True
 |v::vs,(sz,rows)::l=>Ro h v sz rows/\Ros h vs l
 |_,_=>False
theorem aTF {h:Array Obj}:∀ {vs:List Value} {l:List (Nat×List (List Value))} (i:Nat) (E:Env),(∀j v,vs[j]? = some v->E (i+j)=v)->Ros h vs l -> ∀p∈roH i l,p.2.ok E (fun k=>k<h.size) h (E p.1)/\wr p.2=false
 | [],[],_,_,_,_,p,hp=>by cases hp
 |v::vs,(sz,rows)::l,i,E,hE,hR,p,hp=>by
  rcases List.mem_cons.1 hp with rfl|hp
  ·refine ⟨?_,rfl⟩;have:=hE 0 v rfl;simp only [Nat.add_zero] at this;show (Blk.ro sz rows).ok E _ h (E i);rw [this];exact hR.1.blk
  exact aTF (i+1) E (fun j u hu=>by have:=hE (j+1) u (by simpa using hu);rw [show i+1+j=i+(j+1) by omega];exact this) hR.2 p hp
theorem aNO:∀(vs:List Value) (j:Nat) (v:Value),vs[j]? = some v->mJ vs j=v
 | [],j,v,h=>by simp at h
 |u::vs,0,v,h=>by simp at h;exact h
 |u::vs,j+1,v,h=>aNO vs j v (by simpa using h)
theorem Sat.ros {h:Array Obj} {vs:List Value} {l:List (Nat×List (List Value))} (H:Ros h vs l):Sat (mJ vs) (fun k=>k<h.size) (roH 0 l) h:=by
 have hm:=aTF (vs:=vs) 0 (mJ vs) (fun j v hv=>by rw [Nat.zero_add];exact aNO vs j v hv) H;refine ⟨fun p hp=>(hm p hp).1,?_⟩;have:∀L:SH,(∀p∈L,wr p.2=false)->L.Pairwise (nM (mJ vs)):=by
  intro L
  induction L with
  |nil=>intro _;exact List.Pairwise.nil
  |cons q L ih=>
   intro hL;exact List.pairwise_cons.2 ⟨fun r _ hw=>(by rw [hL q (List.mem_cons_self ..)] at hw;cases hw),ih fun p hp=>hL p (List.mem_cons_of_mem _ hp)⟩
 exact this _ fun p hp=>(hm p hp).2
theorem aA.lenB {s:SCx P} {ds:List cY} {nx:Nat} {st:List SI} {l:SFr} {H:SH} (b:Nat) {sz:Nat} {rows:List (List Value)} (hr:rows.length<=9223372036854775807->aA s ds nx st l H) (hl:rowsAt H b=some (sz,rows):=by rfl):aA s ds nx st l H:=
 ⟨fun E h hA S K=>(hr (S.rowsLen hl)).run E h hA S K⟩
/-! other names, from a list -/
def bGH (n0:Nat):List (Nat×Nat)->Bool
 | []=>true
 |(x,_)::m=>match Nat.ble n0 x with
  |true=>bGH n0 m
  |false=>false
theorem bGB {n0:Nat}:∀ {m:List (Nat×Nat)},bGH n0 m=true -> ∀b,b<n0->rn m b=b
 | [],_,_,_=>rfl
 |(x,y)::m,h,b,hb=>by
  simp only [bGH] at h
  cases hx:Nat.ble n0 x with
  |false=>simp [hx] at h
  |true=>
   simp only [hx] at h;have h1:=Nat.le_of_ble_eq_true hx;simp only [rn];have:Nat.beq x b=false:=by cases hb':Nat.beq x b with|false=>rfl|true=>have:=Nat.eq_of_beq_eq_true hb';omega
   simp only [this];exact bGB h b hb
section
variable {s:SCx P} {ds:List cY} {nx nx':Nat} {l l':SFr} {H H':SH} {st:List SI} {u:FrameMode}
theorem aA.subR (m:List (Nat×Nat)) (hr:aA s ds nx' st l' H') (hl:bGJ (rn m) l l') (hH:nE (rn m) H H') (hm:bGH s.n0 m=true:=by rfl) (hn:dV (rn m) H' []=true:=by rfl) (hd:bGM (rn m) ds=ds:=by rfl):aA s ds nx st l H:=
 aA.sub (rn m) hr (bGB hm) hn hd hl hH
end

inductive eR where
 |ret (v:SV) (n:Nat) (H:SH)
 |pan (ch:List PanicEntry) (n:Nat) (H:SH)
def eR.heap:eR->SH
 | .ret _ _ H=>H
 | .pan _ _ H=>H
def eR.ok (E:Env):eR->Ending->Prop
 | .ret v _ _,e=>e=.returned (v.g E)
 | .pan ch _ _,e=>e=.panicked ch
def aT {X:Type} (k:Nat) (E:Env) (F:Nat->Prop) (h:Array Obj) (J:X->Prop) (out:X->eR) (e:Ending) (h':Array Obj):Prop:=
 ∃x E',J x/\Ag k E E'/\Sat E' F (out x).heap h'/\Kp F h h'/\(out x).ok E' e
structure FnS (P:Program) (g:FuncId) (k:Nat) (args:List SV) (W:SH) {X:Type} (J:X->Prop) (out:X->eR):Prop where
 call:∀(E:Env) (F:Nat->Prop) (h:Array Obj),(∀i,F i->i<h.size)->Sat E F W h->Fn P g (SV.gs E args).toArray h (aT k E F h J out)
theorem FnS.of {f:FuncId} {fn:Func} {code:Code} {k:Nat} {args:List SV} {W:SH} {X:Type} {J:X→Prop} {out:X→eR} (hf:P.funcs[f]? = some fn) (hname:(fn.name == "runtime.NumGoroutine")=false) (hb:fn.body=some code) {n:Nat} (hnt:fn.ntmps=n)
  (hargs:Nat.ble args.length n=true)
  (H:∀E0 F h w0 cs,bFQ 0 args fun l=>aA ⟨cW P f n w0 cs (aT k E0 F h J out),F,h,E0,k⟩ [] k [.code code] l W):FnS P f k args W J out:=
 ⟨fun E F h hF S=>Fn.ofG E k args W F hf hname hb hnt hargs hF S fun w0 cs=>H E F h w0 cs⟩
theorem aT.mk {X:Type} {k:Nat} {E0:Env} {F:Nat->Prop} {h0:Array Obj} {J:X->Prop} {out:X->eR} (x:X) (hJ:J x) (m:List (Nat×Nat)) {H:SH}
  (hH:nE (rn m) H (out x).heap) (hm:bGH k m=true) (hn:dV (rn m) (out x).heap []=true) {e:Env->Ending} (he:∀E,(out x).ok (fun b=>E (rn m b)) (e E)):
  ∀E h,Ag k E0 E->Sat E F H h->Kp F h0 h->aT k E0 F h0 J out (e E) h:=fun E h hA S K=>
 ⟨x,fun b=>E (rn m b),hJ,fun b hb=>by show E (rn m b)=_;rw [bGB hm b hb];exact hA b hb,S.ren hH hn,K,he E⟩
theorem bH {m:List (Nat×Nat)} {o:eR} {w:SV} {v:SV} {n:Nat} {H:SH} (ho:o=.ret v n H) (hv:w=v.ren (rn m)) (E:Env):o.ok (fun b=>E (rn m b)) (.returned (w.g E)):=by
 subst ho hv;show Ending.returned _=.returned _;rw [SV.g_ren]
theorem aQ {m:List (Nat×Nat)} {o:eR} {ch:List PanicEntry} {n:Nat} {H:SH} (ho:o=.pan ch n H) (E:Env):o.ok (fun b=>E (rn m b)) (.panicked ch):=by
 subst ho;rfl
/-! the call -/
def bY:List Nat->Nat->Nat
 | [],_=>0
 |x::_,0=>x
 |_::xs,n+1=>bY xs n
def bdN (n:Nat):List Nat->Bool
 | []=>true
 |x::xs=>match Nat.blt x n with
  |true=>bdN n xs
  |false=>false
theorem aUK {n:Nat}:∀ {l:List Nat} {i:Nat},bdN n l=true->i<l.length->bY l i<n
 | [],_,_,h=>by simp at h
 |x::xs,i,hb,h=>by
  simp only [bdN] at hb
  cases hx:Nat.blt x n with
  |false=>simp [hx] at hb
  |true=>
   simp only [hx] at hb
   match i,h with
   |0,_=>exact Nat.blt_eq.mp hx
   |i+1,h=>exact aUK (l:=xs) hb (by simpa using h)
def nmC (ren:List Nat) (k nx i:Nat):Nat:=match Nat.blt i k with
 |true=>bY ren i
 |false=>nx+(i - k)
def fZ (f:Nat->Nat):SH->List Nat
 | []=>[]
 |(b,x)::W=>match wr x with
  |true=>f b::fZ f W
  |false=>fZ f W
def dN (ns:List Nat):SH->SH
 | []=>[]
 |(b,x)::H=>match aHJ b ns with
  |true=>dN ns H
  |false=>(b,x)::dN ns H
def lX (f:Nat->Nat) (R:SH):SH->SH
 | []=>R
 |(b,x)::H=>match wr x with
  |true=>(f b,aLX f x)::lX f R H
  |false=>lX f R H
theorem dX (ns:List Nat):∀H:SH,(dN ns H).Sublist H
 | []=>List.Sublist.refl _
 |(b,x)::H=>by
  simp only [dN]
  cases aHJ b ns with
  |true=>exact (dX ns H).cons _
  |false=>exact (dX ns H).cons_cons _
theorem aGL {ns:List Nat}:∀ {H:SH} {p:Nat×Blk},p∈dN ns H->p.1∉ns
 | [],_,h=>by cases h
 |(b,x)::H,p,h=>by
  simp only [dN] at h
  cases hb:aHJ b ns with
  |true=>simp only [hb] at h;exact aGL h
  |false=>
   simp only [hb] at h;rcases List.mem_cons.1 h with rfl|h
   ·exact aAZ hb
   exact aGL h
theorem aGE {f:Nat->Nat}:∀ {W:SH} {p:Nat×Blk},p∈W->wr p.2=true->f p.1∈fZ f W
 | [],_,h,_=>by cases h
 |(b,x)::W,p,h,hw=>by
  simp only [fZ];rcases List.mem_cons.1 h with rfl|h
  ·simp only [hw];exact List.mem_cons_self ..
  cases wr x with
  |true=>exact List.mem_cons_of_mem _ (aGE h hw)
  |false=>exact aGE h hw
theorem rV {f:Nat->Nat} {R:SH}:∀ {H:SH} {p:Nat×Blk},p∈lX f R H->p∈R \/ ∃q∈H,wr q.2=true/\p=(f q.1,aLX f q.2)
 | [],_,h=>.inl h
 |(b,x)::H,p,h=>by
  simp only [lX] at h
  cases hw:wr x with
  |true=>
   simp only [hw] at h;rcases List.mem_cons.1 h with rfl|h
   ·exact .inr ⟨(b,x),List.mem_cons_self ..,hw,rfl⟩
   exact (rV h).imp id fun ⟨q,h1,h2,h3⟩=>⟨q,List.mem_cons_of_mem _ h1,h2,h3⟩
  |false=>
   simp only [hw] at h;exact (rV h).imp id fun ⟨q,h1,h2,h3⟩=>⟨q,List.mem_cons_of_mem _ h1,h2,h3⟩
theorem aNU {E:Env} {f:Nat->Nat} {R:SH} (hR:R.Pairwise (nM E)):∀ {H:SH},H.Pairwise (nM (fun b=>E (f b)))->(∀p∈H,wr p.2=true -> ∀q∈R,nM E (f p.1,aLX f p.2) q)->(lX f R H).Pairwise (nM E)
 | [],_,_=>hR
 |(b,x)::H,hp,hx=>by
  obtain ⟨h1,h2⟩:=List.pairwise_cons.1 hp;have ih:=aNU hR h2 fun p hp=>hx p (List.mem_cons_of_mem _ hp);simp only [lX]
  cases hw:wr x with
  |false=>exact ih
  |true=>
   refine List.pairwise_cons.2 ⟨fun q hq=>?_,ih⟩;rcases rV hq with hq|⟨r,hr,hwr,rfl⟩
   ·exact hx (b,x) (List.mem_cons_self ..) hw q hq
   intro hp1 hp2 g e1 e2;exact h1 r hr hw hwr g e1 e2
def iR (F:Nat->Prop) (E:Env) (R:SH):Nat->Prop:=fun g=>F g \/ ∃q∈R,wr q.2=true/\ownB (E q.1)=some g
theorem iS.mono {F F':Nat->Prop} {h:Array Obj} {a:Option Addr} {rows:List (List Value)} (H:iS F h a rows) (hF:∀g,F g->F' g):iS F' h a rows:=
 H.imp id fun ⟨g,o,h1,h2,h3⟩=>⟨g,o,h1,hF g h2,h3⟩
theorem Sat.hand {E:Env} {F:Nat->Prop} {H W:SH} {h:Array Obj} (f:Nat->Nat) (S:Sat E F H h) (hH:nE f H W) (hn:dV f W []=true):
  Sat (fun b=>E (f b)) (iR F E (dN (fZ f W) H)) W h:=by
 have S1:=S.ren hH hn;refine ⟨fun p hp=>?_,S1.apart⟩;have h1:=S1.ok p hp;have hpH:=nE.mem hH p hp;have hno:wr p.2=true -> ∀g,ownB (E (f p.1))=some g -> ¬F g -> ¬iR F E (dN (fZ f W) H) g:=by
  intro hw g hg hF hk;rcases hk with hk|⟨q,hq,hwq,hgq⟩
  ·exact hF hk
  have hne:f p.1≠q.1:=fun e=>aGL hq (by rw [<-e];exact aGE hp hw);exact rJ S.apart hpH ((dX _ _).subset hq) hne (by rw [aSH];exact hw) hwq g hg hgq
 obtain ⟨b,x⟩:=p
 cases x with
 |cells t cs=>
  obtain ⟨g,e1,e2,e3⟩:=h1;exact ⟨g,e1,e2,hno rfl g (by show ownB (E (f b))=_;rw [show E (f b)=_ from e1];rfl) e3⟩
 |own e sz rows=>
  obtain ⟨e1,e2,e3⟩:=h1;exact ⟨e1,e2,fun g hg=>hno rfl g hg (e3 g hg)⟩
 |ro sz rows=>
  obtain ⟨e1,e0,a,cap,e2,e3⟩:=h1;exact ⟨e1,e0,a,cap,e2,e3.mono fun g hg=>.inl hg⟩
 |map d es|raw d es=>
  obtain ⟨g,e1,e2,e3⟩:=h1;exact ⟨g,e1,e2,hno rfl g (by show ownB (E (f b))=_;rw [show E (f b)=_ from e1];rfl) e3⟩
theorem Sat.takeBack {k nx:Nat} {E E':Env} {F:Nat->Prop} {H W H':SH} {h h' h0:Array Obj} {ren:List Nat} (S:Sat E F H h) (K:Kp F h0 h) (hlen:ren.length=k) (hren:bdN nx ren=true) (hbd:bdH nx H=true)
  (A:Ag k (fun b=>E (bY ren b)) E') (S':Sat E' (iR F E (dN (fZ (bY ren) W) H)) H' h') (K':Kp (iR F E (dN (fZ (bY ren) W) H)) h h'):
  ∃E'':Env,Ag nx E E''/\(∀x:SV,(x.ren (nmC ren k nx)).g E''=x.g E')/\Sat E'' F (lX (nmC ren k nx) (dN (fZ (bY ren) W) H) H') h'/\Kp F h0 h':=by
 refine ⟨fun b=>if b<nx then E b else E' (k+(b - nx)),fun b hb=>by simp [hb],?_⟩;have hc:(fun i=>(fun b=>if b<nx then E b else E' (k+(b - nx))) (nmC ren k nx i))=E':=by
  funext i
  unfold nmC
  cases hi:Nat.blt i k with
  |true=>
   have hi':i<k:=Nat.blt_eq.mp hi;have:=aUK hren (by rw [hlen];exact hi');simp only [this,if_true];exact (A i hi').symm
  |false=>
   have hi':¬i<k:=fun hc=>by have:=Nat.blt_eq.mpr hc;rw [hi] at this;cases this
   have:¬nx+(i - k)<nx:=by omega
   simp only [this,if_false];rw [show k+(nx+(i - k) - nx)=i by omega]
 have Ag1:Ag nx E (fun b=>if b<nx then E b else E' (k+(b - nx))):=fun b hb=>by simp [hb]
 generalize (fun b=>if b<nx then E b else E' (k+(b - nx)))=E'' at hc Ag1
 refine ⟨fun x=>by rw [SV.g_ren,hc],⟨fun p hp=>?_,?_⟩,K.trans ⟨K'.size,fun i hi=>K'.same i (.inl hi),fun i hi=>K'.lt i (.inl hi)⟩⟩
 ·rcases rV hp with hp|⟨q,hq,hw,rfl⟩
  ·have hpH:=(dX (fZ (bY ren) W) H).subset hp;have h1:=S.ok p hpH;have h2:p.2.ok E F h' (E p.1):=Blk.keep h1 (fun hw g hg=>K'.same g (.inr ⟨p,hp,hw,hg⟩)) fun i hi=>K'.same i (.inl hi);obtain ⟨b1,b2⟩:=jO hbd hpH;rw [Ag1 p.1 b1];exact Blk.ok_ag Ag1 b2 h2
  have h1:=S'.ok q hq;show (aLX (nmC ren k nx) q.2).ok E'' F h' (E'' (nmC ren k nx q.1));rw [aZD,hc,show E'' (nmC ren k nx q.1)=E' q.1 from congrFun hc q.1];obtain ⟨b,x⟩:=q
  cases x with
  |cells t cs=>
   obtain ⟨g,e1,e2,e3⟩:=h1;exact ⟨g,e1,e2,fun hF=>e3 (.inl hF)⟩
  |own e sz rows=>
   obtain ⟨e1,e2,e3⟩:=h1;exact ⟨e1,e2,fun g hg hF=>e3 g hg (.inl hF)⟩
  |ro=>cases hw
  |map d es|raw d es=>
   obtain ⟨g,e1,e2,e3⟩:=h1;exact ⟨g,e1,e2,fun hF=>e3 (.inl hF)⟩
 refine aNU ?_ (by rw [hc];exact S'.apart) fun p hp hw q hq=>?_
 ·exact List.Pairwise.imp_of_mem (fun {a b} ha hb hA=>by
   intro hw1 hw2 g e1 e2;have ha':=(dX (fZ (bY ren) W) H).subset ha;have hb':=(dX (fZ (bY ren) W) H).subset hb;rw [Ag1 _ (jO hbd ha').1] at e1;rw [Ag1 _ (jO hbd hb').1] at e2;exact hA hw1 hw2 g e1 e2) (S.apart.sublist (dX _ _))
 intro _ hwq g e1 e2;have hqH:=(dX (fZ (bY ren) W) H).subset hq;rw [Ag1 _ (jO hbd hqH).1] at e2;have e1:ownB (E' p.1)=some g:=by rw [<-congrFun hc p.1];exact e1
 exact (Blk.lt (S'.ok p hp) hw e1).2 (.inr ⟨q,hq,hwq,e2⟩)
section
variable {s:SCx P} {ds:List cY} {nx:Nat} {kk:List SI} {l:SFr} {H:SH}
variable {all:Array Oper} {rest:List Oper} {o:Oper} {cl:Call} {x:Operand} {g:FuncId} {first captured vs:List SV}
def yQ (s:SCx P) (ds:List cY) (k nx:Nat) (ren:List Nat) (R:SH) (dst:Option Nat) (l:SFr) (st:List SI):eR->Prop
 | .ret v n H'=>fJ l dst (v.ren (nmC ren k nx)) fun l=>aA s ds (nx+(n - k)) st l (lX (nmC ren k nx) R H')
 | .pan ch n H'=>aB s ds (.panicking ch) (nx+(n - k)) l (lX (nmC ren k nx) R H')
theorem aA.callN {k:Nat} {args:List SV} {W:SH} {X:Type} {J:X->Prop} {out:X->eR} (C:FnS P g k args W J out) (ren:List Nat)
  (hr:∀y,J y->yQ s ds k nx ren (dN (fZ (bY ren) W) H) o.dst l (.ops all rest::kk) (out y))
  (hH:nE (bY ren) H W) (ha:SV.rens (bY ren) args=first++(vs++captured))
  (hlen:ren.length=k:=by rfl) (hren:bdN nx ren=true:=by rfl) (hfr:gQ s.n0 nx l H ds=true:=by rfl) (hn:dV (bY ren) W []=true:=by rfl)
  (hop:o.op=.call cl:=by rfl) (hcal:cl.callee=.value x:=by rfl) (hx:eM l x=some (g,first,captured):=by rfl) (hargs:gK l cl.args.toList=some vs:=by rfl)
  (hgd:bT l all o=some true:=by rfl) (hdn:cB s.c.n o.dst=true:=by rfl):aA s ds nx (.ops all (o::rest)::kk) l H:=by
 obtain ⟨f1,f2,f3,f4⟩:=dW hfr;refine aA.callE (R:=fun E h=>aT k (fun b=>E (bY ren b)) (iR s.F E (dN (fZ (bY ren) W) H)) h J out) ?_ ?_ ?_ ?_ hop hcal hx hargs hgd hdn
 ·intro E h hA S K;have:=C.call (fun b=>E (bY ren b)) (iR s.F E (dN (fZ (bY ren) W) H)) h (fun i hi=>?_) (S.hand (bY ren) hH hn)
  ·rw [<-ha,SV.gs_ren];exact this
  rcases hi with hi|⟨q,hq,hw,hg⟩
  ·have:=K.lt i hi;have:=K.size;omega
  exact (Blk.lt (S.ok q ((dX _ _).subset hq)) hw hg).1
 ·rintro E h h' ⟨y,E',_,_,_,_,he⟩;cases ho:out y<;>rw [ho] at he<;>cases he
 ·rintro E h hA S K ch h' ⟨y,E',hJ,hA',S',K',he⟩;have hr:=hr y hJ
  cases ho:out y with
  |ret v n H'=>rw [ho] at he;cases he
  |pan ch' n H'=>
   rw [ho] at he hr S';cases he;obtain ⟨E'',a1,_,a3,a4⟩:=S.takeBack K hlen hren f3 hA' S' K';have:=hr.run E'' h' (hA.trans (a1.mono f1)) a3 a4;rw [jA a1 ds f4,iX a1 l f2] at this;exact this
 rintro E h hA S K v h' ⟨y,E',hJ,hA',S',K',he⟩;have hr:=hr y hJ
 cases ho:out y with
 |pan ch n H'=>rw [ho] at he;cases he
 |ret v' n H'=>
  rw [ho] at he hr S';cases he;obtain ⟨E'',a1,a2,a3,a4⟩:=S.takeBack K hlen hren f3 hA' S' K';simp only [yQ,bD] at hr;have:=hr.run E'' h' (hA.trans (a1.mono f1)) a3 a4;rw [jA a1 ds f4,eP,iX a1 l f2,a2] at this;exact this
end
theorem aNY {T:Tab P} {l:SFr} {H:SH} {nx:Nat} {t t':TypeId} {x:Operand} {b off:Nat} {cs:List SV} {v:SV} (hn:nth cs off=some v) (hx:evS l x=some (.ptr b off)) (hb:bX H b=some (.cells t' cs)) (hs:eY T t=true):
  evO T l H nx (.load t x)=.val v:=by
 simp only [evO,hx,hb,hs,hn]
theorem xD.callE {n:Nat} {l:Fr} {h:Array Obj} {o:Oper} {cl:Call} {x:Operand} {g:FuncId} {first captured:Array Value} {vs:List Value} {R:Ending->Array Obj->Prop}
  (H:Fn P g (first++vs.toArray++captured) h R) (hno:∀h',¬R .outgrown h')
  (hop:o.op=.call cl:=by rfl) (hcal:cl.callee=.value x:=by rfl)
  (hx:ev l x=some (.func (.func g) first captured):=by rfl) (hargs:kI l cl.args.toList=some vs:=by rfl):
  xD P n l h o (fun v h'=>R (.returned v) h') (fun ch' h'=>R (.panicked ch') h'):=by
 intro a w ha hh next Q hn hp
 unfold Oper.wp;rw [pI hop hcal ha hx hargs H.enters w,Oper.upon_enter];refine (H.calls w hh).mono fun e w' ⟨hlk,he⟩=>?_
 cases e with
 |returned v=>exact hn v w' hlk he
 |panicked ch=>exact hp ch w' hlk he
 |outgrown=>exact absurd he (hno _)
section
variable {s:SCx P} {ds:List cY} {all:List Oper} {st:List SI} {t:Tr} {taken:List Nat} {ps:List (Nat×cV)} {nx kk:Nat} {keep:List Nat} {l:SFr} {H:SH} {o:Oper} {cl:Call} {x:Operand} {g:FuncId} {first captured vs:List SV}
def wH (s:SCx P) (ds:List cY) (all:List Oper) (st:List SI) (t:Tr) (taken:List Nat) (ps:List (Nat×cV)) (keep:List Nat) (k nx:Nat) (ren:List Nat) (R:SH) (dst:Option Nat) (l:SFr):eR->Prop
 | .ret v n H'=>gL (lX (nmC ren k nx) R H') keep ps/\fJ l dst (v.ren (nmC ren k nx)) fun l=>bG s ds all st t taken ps (nx+(n - k)) l (lX (nmC ren k nx) R H')
 | .pan ch n H'=>aB s ds (.panicking ch) (nx+(n - k)) (aOC (yB all) l) (lX (nmC ren k nx) R H')
theorem aK.callN {k:Nat} {args:List SV} {W:SH} {X:Type} {J:X->Prop} {out:X->eR} (C:FnS P g k args W J out) (ren:List Nat)
  (hr:∀y,J y->wH s ds all st t taken ps keep k nx ren (dN (fZ (bY ren) W) H) o.dst l (out y))
  (hH:nE (bY ren) H W) (ha:SV.rens (bY ren) args=first++(vs++captured))
  (hlen:ren.length=k:=by rfl) (hren:bdN nx ren=true:=by rfl) (hfr:gQ s.n0 nx l H ds=true:=by rfl) (hn:dV (bY ren) W []=true:=by rfl) (hps:bFV nx ps=true:=by rfl)
  (ho:all[kk]? = some o:=by rfl) (hop:o.op=.call cl:=by rfl) (hcal:cl.callee=.value x:=by rfl) (hx:eM l x=some (g,first,captured):=by rfl) (hargs:gK l cl.args.toList=some vs:=by rfl)
  (hgd:bT l all.toArray o=some true:=by rfl) (hdn:cB s.c.n o.dst=true:=by rfl):aK s ds all st kk keep t taken ps nx l H:=by
 obtain ⟨f1,f2,f3,f4⟩:=dW hfr
 refine aK.of ho (pT hop hcal) hdn hgd (V:=fun E h v h'=>aT k (fun b=>E (bY ren b)) (iR s.F E (dN (fZ (bY ren) W) H)) h J out (.returned v) h')
  (PN:=fun E h ch h'=>aT k (fun b=>E (bY ren b)) (iR s.F E (dN (fZ (bY ren) W) H)) h J out (.panicked ch) h') ?_ ?_ ?_
 ·intro E h hA S K;have:=C.call (fun b=>E (bY ren b)) (iR s.F E (dN (fZ (bY ren) W) H)) h (fun i hi=>by
   rcases hi with hi|⟨q,hq,hw,hg⟩
   ·have:=K.lt i hi;have:=K.size;omega
   exact (Blk.lt (S.ok q ((dX _ _).subset hq)) hw hg).1) (S.hand (bY ren) hH hn)
  rw [<-SV.gs_ren,ha] at this;refine xD.callE (first:=(SV.gs E first).toArray) (captured:=(SV.gs E captured).toArray) (vs:=SV.gs E vs) (by rw [zF];exact this) ?_ hop hcal (kL hx) (kH hargs);rintro h' ⟨y,E',_,_,_,_,he⟩;cases ho:out y<;>rw [ho] at he<;>cases he
 ·rintro E h hA S K ch h' ⟨y,E',hJ,hA',S',K',he⟩;have hr:=hr y hJ
  cases ho:out y with
  |ret v n H'=>rw [ho] at he;cases he
  |pan ch' n H'=>
   rw [ho] at he hr S';cases he;obtain ⟨E'',a1,_,a3,a4⟩:=S.takeBack K hlen hren f3 hA' S' K';have:=hr.run E'' h' (hA.trans (a1.mono f1)) a3 a4;rw [jA a1 ds f4,aKL,iX a1 l f2] at this;exact this
 rintro E h hA S K v h' ⟨y,E',hJ,hA',S',K',he⟩;have hr:=hr y hJ
 cases ho:out y with
 |pan ch n H'=>rw [ho] at he;cases he
 |ret v' n H'=>
  rw [ho] at he hr S';cases he;obtain ⟨E'',a1,a2,a3,a4⟩:=S.takeBack K hlen hren f3 hA' S' K';simp only [wH,bD] at hr;exact ⟨E'',_,_,_,a1,f1,hps,jA a1 ds f4,by rw [eP,iX a1 l f2,a2],a3,a4,hr.1,hr.2⟩
end

structure OutD where
 u:FrameMode
 n:Nat
 H:SH
def zJ {X:Type} (k:Nat) (E:Env) (F:Nat->Prop) (h:Array Obj) (J:X->Prop) (out:X->OutD) (e:Ending) (u':FrameMode) (h':Array Obj):Prop:=
 ∃x E',J x/\Ag k E E'/\Sat E' F (out x).H h'/\Kp F h h'/\(∃v,e=.returned v)/\u'=(out x).u
structure mW (P:Program) (g:FuncId) (k:Nat) (args:List SV) (W:SH) (u:FrameMode) {X:Type} (J:X->Prop) (out:X->OutD):Prop where
 call:∀(E:Env) (F:Nat->Prop) (h:Array Obj),(∀i,F i->i<h.size)->Sat E F W h->FnD P g (SV.gs E args).toArray u h (zJ k E F h J out)
theorem mW.of {f:FuncId} {fn:Func} {code:Code} {k:Nat} {args:List SV} {W:SH} {u:FrameMode} {X:Type} {J:X→Prop} {out:X→OutD} (hf:P.funcs[f]? = some fn) (hname:(fn.name == "runtime.NumGoroutine")=false) (hb:fn.body=some code) {n:Nat} (hnt:fn.ntmps=n)
  (hargs:Nat.ble args.length n=true)
  (H:∀E0 F h w0 c0 cs,bFQ 0 args fun l=>aA ⟨dD P f n w0 c0 cs u (zJ k E0 F h J out),F,h,E0,k⟩ [] k [.code code] l W):mW P f k args W u J out:=
 ⟨fun E F h hF S=>FnD.of hf hname hb hnt (by rw [fM];exact hargs) fun w0 c0 cs=>by
  have H:=H E F h w0 c0 cs;rw [aAC] at H;have:=H.run E h (fun _ _=>rfl) S ⟨Nat.le_refl _,fun _ _=>rfl,hF⟩;rw [aDM] at this;exact this⟩
section
variable {s:SCx P} {ds:List cY} {nx:Nat} {l:SFr} {H:SH} {d:cY} {u:FrameMode}
theorem aB.deferN {k:Nat} {args:List SV} {W:SH} {X:Type} {J:X->Prop} {out:X->OutD} (C:mW P d.g k args W u J out) (ren:List Nat)
  (hr:∀y,J y->aB s ds (settle (out y).u) (nx+((out y).n - k)) l (lX (nmC ren k nx) (dN (fZ (bY ren) W) H) (out y).H))
  (hH:nE (bY ren) H W) (ha:SV.rens (bY ren) args=d.args++d.captured) (hu:u ≠ .run)
  (hlen:ren.length=k:=by rfl) (hren:bdN nx ren=true:=by rfl) (hfr:gQ s.n0 nx l H ds=true:=by rfl) (hn:dV (bY ren) W []=true:=by rfl) (hcol:d.col=none:=by rfl):aB s (d::ds) u nx l H:=.mk fun E h hA S K=>by
 obtain ⟨dg,dc,da,col⟩:=d;cases (show col=none from hcol);obtain ⟨f1,f2,f3,f4⟩:=dW hfr;have C1:=C.call (fun b=>E (bY ren b)) (iR s.F E (dN (fZ (bY ren) W) H)) h (fun i hi=>by
  rcases hi with hi|⟨q,hq,hw,hg⟩
  ·have:=K.lt i hi;have:=K.size;omega
  exact (Blk.lt (S.ok q ((dX _ _).subset hq)) hw hg).1) (S.hand (bY ren) hH hn)
 rw [<-SV.gs_ren,ha,sV] at C1;refine Unw.defer (args:=(SV.gs E da).toArray) (captured:=(SV.gs E dc).toArray) (R:=zJ k (fun b=>E (bY ren b)) (iR s.F E (dN (fZ (bY ren) W) H)) h J out) (by rw [show (SV.gs E da).toArray++(SV.gs E dc).toArray=(SV.gs E da++SV.gs E dc).toArray by apply Array.ext';simp];exact C1) hu ?_ ?_ ?_
 ·rintro u' h' ⟨_,_,_,_,_,_,⟨v,e⟩,_⟩;cases e
 ·rintro v u' h' ⟨y,E',hJ,hA',S',K',_,rfl⟩;obtain ⟨E'',a1,_,a3,a4⟩:=S.takeBack K hlen hren f3 hA' S' K';have:=(hr y hJ).run E'' h' (hA.trans (a1.mono f1)) a3 a4;rw [jA a1 ds f4,iX a1 l f2] at this;exact this
 rintro ch u' h' ⟨_,_,_,_,_,_,⟨v,e⟩,_⟩;cases e
end
section
variable {f n nx:Nat} {w0:World} {c0:Frame} {cs:List Frame} {R:Ending->FrameMode->Array Obj->Prop} {F:Nat->Prop} {h0:Array Obj} {E0:Env} {n0:Nat} {k:List SI} {l:SFr} {H:SH} {ds:List cY} {u:FrameMode}
theorem aB.retD (T:Tab P) {fn:Func} (hf:P.funcs[f]? = some fn) (hx:fn.results.toList=[])
  (hR:∀E h,Ag n0 E0 E->Sat E F H h->Kp F h0 h->R (.returned (tup [])) u h):aB ⟨dD P f n w0 c0 cs u R,F,h0,E0,n0⟩ [] .returning nx l H:=.mk fun E h hA S K=>
 Unw.retD T hf (vs:=[]) (by rw [hx];trivial) (hR E h hA S K)
theorem zJ.mk {X:Type} {J:X->Prop} {out:X->OutD} (x:X) (hJ:J x) (m:List (Nat×Nat)) (hH:nE (rn m) H (out x).H) (hm:bGH n0 m=true) (hn:dV (rn m) (out x).H []=true) (hu:u=(out x).u):
  ∀E h,Ag n0 E0 E->Sat E F H h->Kp F h0 h->zJ n0 E0 F h0 J out (.returned (tup [])) u h:=fun E h hA S K=>
 ⟨x,fun b=>E (rn m b),hJ,fun b hb=>by show E (rn m b)=_;rw [bGB hm b hb];exact hA b hb,S.ren hH hn,K,⟨_,rfl⟩,hu⟩
theorem aA.recoverP {all:Array Oper} {rest:List Oper} {o:Oper} {cl:Call} {v:Value} {older:List PanicEntry}
  (hr:fJ l o.dst (.v v) fun l=>aA ⟨dD P f n w0 c0 cs (.panicking ({v,recovered:=true}::older)) R,F,h0,E0,n0⟩ ds nx (.ops all rest::k) l H)
  (hop:o.op=.call cl:=by rfl) (hcal:cl.callee=.builtin .recover:=by rfl) (hgd:bT l all o=some true:=by rfl) (hdn:cB n o.dst=true:=by rfl):
  aA ⟨dD P f n w0 c0 cs (.panicking ({v,recovered:=false}::older)) R,F,h0,E0,n0⟩ ds nx (.ops all (o::rest)::k) l H:=.mk fun E h hA S K=>by
 rw [bD] at hr;have:=hr.run E h hA S K;rw [eP] at this;exact aD.recoverP this hop hcal (bK hgd) hdn
theorem aA.recoverN {all:Array Oper} {rest:List Oper} {o:Oper} {cl:Call}
  (hr:fJ l o.dst (.v .nilIface) fun l=>aA ⟨dD P f n w0 c0 cs .returning R,F,h0,E0,n0⟩ ds nx (.ops all rest::k) l H)
  (hop:o.op=.call cl:=by rfl) (hcal:cl.callee=.builtin .recover:=by rfl) (hgd:bT l all o=some true:=by rfl) (hdn:cB n o.dst=true:=by rfl):
  aA ⟨dD P f n w0 c0 cs .returning R,F,h0,E0,n0⟩ ds nx (.ops all (o::rest)::k) l H:=.mk fun E h hA S K=>by
 rw [bD] at hr;have:=hr.run E h hA S K;rw [eP] at this;exact aD.recoverN this hop hcal (bK hgd) hdn
end
/-! a loop, round by round -/
section
variable {s:SCx P} {ds:List cY} {nx:Nat} {k:List SI} {l:SFr} {H:SH} {x:Code}
theorem aA.loopU (hr:aA s ds nx (.code x::.inLoop x::k) l H):aA s ds nx (.code (.loop x)::k) l H:=aA.lift1 (fun _ _=>aD.loop1) hr
theorem aA.againU (hr:aA s ds nx (.code x::.inLoop x::k) l H):aA s ds nx (.inLoop x::k) l H:=aA.lift1 (fun _ _=>aD.inLoop) hr
end
/-! an array's value at an index -/
theorem aRN {t e n:Nat} {k k':IntKind} {m:Int} {cs:Array Value} {v:Value} (h1:P.underlying t=some (.array n e)) (h2:(P.info? e).map (·.size)=some 1) (h3:P.underlying e=some (.int k')) (hm:0<=m/\m<n) (hv:cs[m.toNat]? = some v) (w:World):
  (Instr.index t (.agg cs) (.int k m)).run P w=.ok v w:=by
 simp [Instr.index,asIntOf,run_underlying h1,hm,eQ h2,part,isAgg,run_underlying h3,hv]
section
variable {s:SCx P} {ds:List cY} {nx:Nat} {st:List SI} {l:SFr} {H:SH} {all:Array Oper} {rest:List Oper} {o:Oper} {x i:Operand}
theorem aA.indexV (T:Tab P) {t e n:Nat} {k k':IntKind} {m:Int} {cs:List SV} {z:SV} (hr:fJ l o.dst z fun l=>aA s ds nx (.ops all rest::st) l H) (hm:0<=m/\m<n)
  (ho:o.op=.index t x i:=by rfl) (hx:evS l x=some (.agg cs):=by rfl) (hi:evS l i=some (.v (.int k m)):=by rfl) (hu:bC T.und t=some (.array n e 1):=by rfl) (he:bC T.und e=some (.int k'):=by rfl) (hz:nth cs m.toNat=some z:=by rfl)
  (hgd:bT l all o=some true:=by rfl) (hdn:cB s.c.n o.dst=true:=by rfl):aA s ds nx (.ops all (o::rest)::st) l H:=by
 rw [bD] at hr;refine aA.effK (cJ.of_plain fun E h S K a w ha=>?_) (fun E=>bK hgd) hdn (by unfold dY;rw [ho]) hr;obtain ⟨h1,h2⟩:=T.okU.look hu;have h3:=T.okU.look he;have e1:=ha.ev (bN (E:=E) hx);have e2:=ha.ev (bN (E:=E) hi);simp only [SV.g] at e1 e2;rw [fW] at hz
 simp [execOp,ho,e1,e2,aRN h1 h2 h3 hm (show (SV.gs E cs).toArray[m.toNat]? = some (z.g E) by simp [uR,hz]) w]
end
/-! any effect whose value names nothing and that keeps the heap -/
section
variable {s:SCx P} {ds:List cY} {nx:Nat} {st:List SI} {l:SFr} {H:SH} {all:Array Oper} {rest:List Oper} {o:Oper}
theorem aA.effV {X:Value} (H1:∀E h,Eff P s.c.n (gF E l) h o (fun v h'=>v=X/\h'=h)) (hr:fJ l o.dst (.v X) fun l=>aA s ds nx (.ops all rest::st) l H)
  (hgd:bT l all o=some true:=by rfl) (hdn:cB s.c.n o.dst=true:=by rfl) (hnd:dY o=true:=by rfl):aA s ds nx (.ops all (o::rest)::st) l H:=by
 rw [bD] at hr;exact aA.effL (x:=.v X) (H':=H) (fun E h S K=>Eff.toS S K (H1 E h)) (fun E=>bK hgd) hdn hnd hr
theorem pG {n:Nat} {l:Fr} {h:Array Obj} {o:Oper} {t yt:TypeId} {x:Operand} {ms:Array (String×TypeId)} (ht:P.underlying t=some (.interface ms))
  (hop:o.op=.binOp .neq t x (.const .nilIface) yt:=by rfl) (hx:ev l x=some .nilIface:=by rfl):Eff P n l h o (fun v' h'=>v'=.bool false/\h'=h):=by
 refine Eff.of_val1 fun a w ha hh=>⟨w,?_,dC.refl w,hh⟩;have e1:(Op.equalIn 10000 t .nilIface .nilIface).run P w=.ok true w:=by
  obtain ⟨m,hm⟩:∃m,10000=m+1:=⟨9999,rfl⟩;rw [hm]
  simp [Op.equalIn,run_underlying ht]
 have hc:a.eval (.const .nilIface)=.nilIface:=rfl
 simp [execOp,hop,ha.ev hx,hc,eqGuard,binOp,Op.equal,Op.maxDepth,e1]
end
end Go.Fw
