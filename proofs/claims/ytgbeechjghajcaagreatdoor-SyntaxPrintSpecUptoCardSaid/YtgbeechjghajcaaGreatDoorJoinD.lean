/- Texts of this seat, joined: Package syntax: the reference's parser, as it computes; that it parses as SynP says; plain. Package syntax: the reference' -/
import Derived.Test.YtgbeechjghajcaaGreatDoorJoinC
set_option linter.unusedVariables false
set_option linter.unusedSimpArgs false
namespace Go.SynM
open Go Go.Fw Go.RatM Go.SrcM
open Go.Proofs.YtgbeechjghajcaaGreatDoor (Tok)
structure St where
 n:Nat
 e:Int
 pl:Int
abbrev M (α:Type):=St→α×St
section
variable (L:List Tok) (en:Int)
def mE (c:Int):M Unit:=fun s=>((),if s.e=0 then (match L[s.n]? with
 |some t=>⟨s.n,c,t.pos⟩
 |none=>⟨s.n,100,en⟩) else s)
def cL (k:Int) (t:ByteArray) (s:St):Bool:=decide (s.e=0)&&match L[s.n]? with
 |some x=>decide (x.kind=k∧x.text=t)
 |none=>false
def oZ (k:Int) (t:ByteArray):M Unit:=fun s=>if cL L k t s then ((),{s with n:=s.n+1}) else mE L en 100 s
def eV:M ByteArray:=fun s=>match (if s.e=0 then L[s.n]? else none) with
 |some x=>if x.kind=1 then (x.text,{s with n:=s.n+1}) else (e0,(mE L en 100 s).2)
 |none=>(e0,(mE L en 100 s).2)
def sJ:M Int:=fun s=>match (if s.e=0 then L[s.n]? else none) with
 |some x=>if x.kind=2∧0≤x.n∧x.n≤1048576 then (x.n,{s with n:=s.n+1}) else (0,(mE L en 100 s).2)
 |none=>(0,(mE L en 100 s).2)
def bX (many most:Nat):M Unit:=fun s=>if most≤many then mE L en 2 s else ((),s)
end
def sb {α β:Type} (m:M α) (f:α→M β):M β:=fun s=>f (m s).1 (m s).2
def rt {α:Type} (a:α):M α:=fun s=>(a,s)
section
variable (L:List Tok) (en:Int)
abbrev rwd (t:List UInt8):M Unit:=oZ L en 1 (B t)
abbrev rsg (c:UInt8):M Unit:=oZ L en 3 (B [c])
def pT:M (Int×Int):=sb (sJ L en) fun n=>sb (rsg L en 47) fun _=>sb (sJ L en) fun d=>rt (n,d)
def pE {α:Type} (k:Int) (t:ByteArray) (a:α) (m:M α):M α:=fun s=>if cL L k t s then m s else (a,s)
def dZ {α:Type} (k:Int) (t:ByteArray) (most:Nat) (m:M α):Nat→List α→M (List α)
 |0,l=>rt l
 |f+1,l=>fun s=>if cL L k t s then sb (sb (bX L en l.length most) fun _=>m) (fun x=>dZ k t most m f (l++[x])) s else (l,s)
def aED:M Un:=sb (rwd L en gE) fun _=>sb (eV L en) fun nm=>sb (pE L 3 (B [61]) (0,0,e0) (sb (rsg L en 61) fun _=>sb (pT L en) fun q=>sb (eV L en) fun o=>rt (q.1,q.2,o))) fun x=>sb (rsg L en 59) fun _=>rt ⟨nm,x.2.2,x.1,x.2.1,0,zr⟩
def aFT:M It:=sb (rwd L en iI) fun _=>sb (eV L en) fun nm=>sb (rwd L en wIn) fun _=>sb (eV L en) fun u=>sb (rwd L en rV) fun _=>sb (pT L en) fun q=>sb (pE L 1 (B gW) 0 (sb (rwd L en gW) fun _=>sJ L en)) fun s=>sb (rsg L en 59) fun _=>rt ⟨nm,u,q.1,q.2,s,0⟩
def aEP:M ByteArray:=sb (rwd L en fD) fun _=>sb (eV L en) fun nm=>sb (rsg L en 59) fun _=>rt nm
def aIP:M Mc:=sb (rwd L en cE) fun _=>sb (eV L en) fun nm=>sb (rwd L en wAt) fun _=>sb (eV L en) fun p=>sb (rwd L en oA) fun _=>sb (sJ L en) fun c=>sb (rsg L en 59) fun _=>rt ⟨nm,p,c,0⟩
def rchs:M (List ByteArray):=sb (eV L en) fun c=>dZ L en 3 (B [44]) 4 (sb (rsg L en 44) fun _=>eV L en) (L.length+1) [c]
def aFO:M OpV:=sb (rwd L en dA) fun _=>sb (eV L en) fun nm=>sb (rsg L en 123) fun _=>sb (rchs L en) fun l=>sb (rsg L en 125) fun _=>sb (rsg L en 59) fun _=>rt ⟨nm,hd0,l⟩
def wX:M Cd:=sb (eV L en) fun o=>sb (rsg L en 61) fun _=>sb (eV L en) fun c=>rt ⟨o,c,0,0⟩
def uT:M (List Cd):=sb (wX L en) fun c=>dZ L en 3 (B [44]) 6 (sb (rsg L en 44) fun _=>wX L en) (L.length+1) [c]
def aFZ:M FbV:=sb (rwd L en dK) fun _=>sb (uT L en) fun l=>sb (rsg L en 59) fun _=>rt ⟨hd0,l⟩
def lT:M Am:=sb (pT L en) fun q=>sb (eV L en) fun u=>sb (eV L en) fun i=>sb (rsg L en 59) fun _=>rt ⟨q.1,q.2,u,i,false,0,0⟩
def wN:M Am:=sb (rwd L en wIn) fun _=>sb (pE L 1 (B kP) false (sb (rwd L en kP) fun _=>rt true)) fun b=>sb (lT L en) fun a=>rt {a with back:=b}
def aAN:M Rn:=sb (rwd L en oD) fun _=>sb (eV L en) fun m=>sb (sJ L en) fun n=>sb (rsg L en 59) fun _=>rt ⟨m,n,0⟩
def aOP:M RcV:=sb (rwd L en iD) fun _=>sb (eV L en) fun it=>sb (rwd L en wAt) fun _=>sb (eV L en) fun pl=>sb (rwd L en qO) fun _=>sb (sJ L en) fun fr=>sb (rwd L en wTo) fun _=>sb (sJ L en) fun to=>
 sb (pE L 1 (B wIf) [] (sb (rwd L en wIf) fun _=>uT L en)) fun cs=>sb (rsg L en 123) fun _=>sb (dZ L en 1 (B wIn) 8 (wN L en) (L.length+1) []) fun ins=>sb (dZ L en 1 (B lB) 8 (sb (rwd L en lB) fun _=>lT L en) (L.length+1) []) fun outs=>
 sb (rwd L en gQ) fun _=>sb (pT L en) fun rw=>sb (rsg L en 59) fun _=>sb (rwd L en jQ) fun _=>sb (pT L en) fun y=>sb (rwd L en gN) fun _=>sb (pT L en) fun t=>
 sb (rsg L en 59) fun _=>sb (rwd L en nY) fun _=>sb (sJ L en) fun ld=>sb (rsg L en 59) fun _=>sb (dZ L en 1 (B oD) 8 (aAN L en) (L.length+1) []) fun runs=>sb (rsg L en 125) fun _=>
 rt ⟨it,pl,fr,to,hd0,cs,hd0,ins,hd0,outs,rw.1,rw.2,y.1,y.2,t.1,t.2,ld,hd0,runs,0,0⟩
def aCX:M Sw:=sb (rwd L en iC) fun _=>sb (eV L en) fun a=>sb (rwd L en aAU) fun _=>sb (eV L en) fun b=>sb (rsg L en 59) fun _=>rt ⟨a,b,0,0⟩
def rbr {α:Type} (w:List UInt8) (n most:Nat) (m q:M α):M α:=fun s=>if cL L 1 (B w) s then sb (bX L en n most) (fun _=>m) s else q s
def uV (s:aJ):M aJ:=
 rbr L en gE s.units.length 32 (sb (aED L en) fun x=>rt {s with units:=s.units++[x]}) <|
 rbr L en iI s.items.length 32 (sb (aFT L en) fun x=>rt {s with items:=s.items++[x]}) <|
 rbr L en fD s.plants.length 8 (sb (aEP L en) fun x=>rt {s with plants:=s.plants++[x]}) <|
 rbr L en cE s.machines.length 16 (sb (aIP L en) fun x=>rt {s with machines:=s.machines++[x]}) <|
 rbr L en dA s.options.length 6 (sb (aFO L en) fun x=>rt {s with options:=s.options++[x]}) <|
 rbr L en dK s.forbids.length 16 (sb (aFZ L en) fun x=>rt {s with forbids:=s.forbids++[x]}) <|
 rbr L en iD s.recipes.length 64 (sb (aOP L en) fun x=>rt {s with recipes:=s.recipes++[x]}) <|
 rbr L en iC s.swaps.length 32 (sb (aCX L en) fun x=>rt {s with swaps:=s.swaps++[x]}) <|
 sb (aCX L en) fun x=>rt {s with swaps:=s.swaps++[x]}
def qA:Nat→aJ→M aJ
 |0,s=>rt s
 |f+1,s=>fun t=>if t.e=0∧t.n<L.length then sb (uV L en s) (qA f) t else (s,t)
end
/-! the two agree -/
section
variable {L:List Tok} {en:Int} {α β:Type}
structure At (L:List Tok) (s:St) (r:List Tok):Prop where
 e:s.e=0
 r:L.drop s.n=r
def kQ (m:M α):Prop:=∀s,s.e≠0→(m s).2=s
structure Bad (en:Int) (s:St) (r:List Tok) (e:Nat):Prop where
 e:s.e=(match r with | []=>100|_=>(e:Int))
 pl:s.pl=(match r with | []=>en|t::_=>t.pos)
 nz:s.e≠0
def Sim (L:List Tok) (en:Int) (m:M α) (p:P α):Prop:=∀s r,At L s r→match p r with
 | .ok a r'=>(m s).1=a∧At L (m s).2 r'
 | .bad r' e=>Bad en (m s).2 r' e
theorem bF {m:M α} {f:α→M β} (hm:kQ m) (hf:∀a,kQ (f a)):kQ (sb m f):=fun s h=>by
 show (f (m s).1 (m s).2).2=s
 rw [hm s h]
 exact hf _ s h
theorem dF {a:α}:kQ (rt a):=fun _ _=>rfl
theorem fP {m:M α} {p:P α} {f:α→M β} {q:α→P β} (h1:Sim L en m p) (h2:∀a,Sim L en (f a) (q a)) (h3:∀a,kQ (f a)):Sim L en (sb m f) (bnd p q):=fun s r hA=>by
 have:=h1 s r hA
 unfold bnd
 cases hp:p r with
 |ok a r'=>
  rw [hp] at this
  have h4:=h2 a (m s).2 r' this.2
  show match q a r' with
   | .ok b r''=>(f (m s).1 (m s).2).1=b∧At L (f (m s).1 (m s).2).2 r''
   | .bad r'' e=>Bad en (f (m s).1 (m s).2).2 r'' e
  rw [this.1]
  exact h4
 |bad r' e=>
  rw [hp] at this
  show Bad en (f (m s).1 (m s).2).2 r' e
  rw [h3 _ _ this.nz]
  exact this
theorem uZ {a:α}:Sim L en (rt a) (pur a):=fun s r hA=>⟨rfl,hA⟩
theorem aKZ {s:St} {r:List Tok} (h:At L s r):L[s.n]? = r.head? :=by
 rw [←h.r,List.head?_drop]
theorem aDP {s:St} {x:Tok} {r:List Tok} (h:At L s (x::r)):At L {s with n:=s.n+1} r:=⟨h.e,by
 have:=h.r
 show L.drop (s.n+1)=r
 rw [←List.tail_drop,this];rfl⟩
theorem vW {s:St} {r:List Tok} (h:At L s r) {e:Nat} (he:(e:Int)≠0):Bad en (mE L en e s).2 r e:=by
 unfold mE
 simp only [h.e,if_true,aKZ h]
 cases r with
 |nil=>exact ⟨rfl,rfl,by show (100:Int)≠0;decide⟩
 |cons x r=>exact ⟨rfl,rfl,he⟩
theorem xO {s:St} {r:List Tok} (h:At L s r) (k:Int) (t:ByteArray):cL L k t s=isT k t r:=by
 unfold cL
 rw [aKZ h,h.e]
 cases r<;>rfl
theorem aJP {s:St} (h:s.e≠0) (k:Int) (t:ByteArray):cL L k t s=false:=by
 unfold cL
 rw [decide_eq_false h];rfl
theorem aCI {c:Int}:kQ (mE L en c):=fun s h=>by unfold mE;simp only [if_neg h]
theorem cA {k:Int} {t:ByteArray}:kQ (oZ L en k t):=fun s h=>by
 unfold oZ
 rw [aJP h]
 exact aCI s h
theorem gZ:kQ (eV L en):=fun s h=>by
 unfold eV
 rw [if_neg h]
 exact aCI s h
theorem vN:kQ (sJ L en):=fun s h=>by
 unfold sJ
 rw [if_neg h]
 exact aCI s h
theorem nH {k:Int} {t:ByteArray} {a:α} {m:M α}:kQ (pE L k t a m):=fun s h=>by
 unfold pE
 rw [aJP h];rfl
theorem qK {k:Int} {t:ByteArray} {most:Nat} {m:M α}:∀(f:Nat) (l:List α),kQ (dZ L en k t most m f l)
 |0,_=>dF
 |f+1,l=>fun s h=>by
  simp only [dZ]
  rw [aJP h];rfl
theorem tT {k:Int} {t:ByteArray}:Sim L en (oZ L en k t) (skip k t):=fun s r hA=>by
 unfold oZ skip
 rw [xO hA]
 cases hi:isT k t r with
 |true=>
  obtain ⟨x,r,rfl⟩:=iQ hi
  exact ⟨rfl,aDP hA⟩
 |false=>exact vW hA (by decide)
theorem qY:Sim L en (eV L en) dP:=fun s r hA=>by
 unfold eV
 rw [if_pos hA.e,aKZ hA]
 cases r with
 |nil=>exact vW hA (by decide)
 |cons x r=>
  simp only [List.head?_cons,dP]
  by_cases hk:x.kind=1
  ·rw [if_pos hk,if_pos hk];exact ⟨rfl,aDP hA⟩
  rw [if_neg hk,if_neg hk];exact vW hA (by decide)
theorem aDN (hL:∀t∈L,t.kind=2→0≤t.n):Sim L en (sJ L en) oC:=fun s r hA=>by
 unfold sJ
 rw [if_pos hA.e,aKZ hA]
 cases r with
 |nil=>exact vW hA (by decide)
 |cons x r=>
  have hx:x∈L:=List.mem_of_mem_drop (by rw [hA.r];exact List.mem_cons_self ..)
  simp only [List.head?_cons,oC]
  by_cases hk:x.kind=2∧x.n≤1048576
  ·rw [if_pos hk,if_pos ⟨hk.1,hL x hx hk.1,hk.2⟩];exact ⟨rfl,aDP hA⟩
  rw [if_neg hk,if_neg fun h=>hk ⟨h.1,h.2.2⟩];exact vW hA (by decide)
def sD (L:List Tok) (en:Int) (k:Int) (t:ByteArray) (m:M α) (p:P α):Prop:=∀s x r,At L s (x::r)→isT k t (x::r)=true→match p r with
 | .ok a r'=>(m s).1=a∧At L (m s).2 r'
 | .bad r' e=>Bad en (m s).2 r' e
theorem aOJ {k:Int} {t:ByteArray} {m:M α} {p:P α} (h:Sim L en m p):sD L en k t (sb (oZ L en k t) fun _=>m) p:=fun s x r hA hi=>by
 have:(oZ L en k t s)=((),{s with n:=s.n+1}):=by
  unfold oZ
  rw [xO hA,hi];rfl
 show match p r with
  | .ok a r'=>(m (oZ L en k t s).2).1=a∧At L (m (oZ L en k t s).2).2 r'
  | .bad r' e=>Bad en (m (oZ L en k t s).2).2 r' e
 rw [this]
 exact h _ r (aDP hA)
theorem aVD {k:Int} {t:ByteArray} {m:M α} {p:P α} {f:α→M β} {q:α→P β} (h1:sD L en k t m p) (h2:∀a,Sim L en (f a) (q a)) (h3:∀a,kQ (f a)):sD L en k t (sb m f) (bnd p q):=fun s x r hA hi=>by
 have:=h1 s x r hA hi
 unfold bnd
 cases hp:p r with
 |ok a r'=>
  rw [hp] at this
  have h4:=h2 a (m s).2 r' this.2
  show match q a r' with
   | .ok b r''=>(f (m s).1 (m s).2).1=b∧At L (f (m s).1 (m s).2).2 r''
   | .bad r'' e=>Bad en (f (m s).1 (m s).2).2 r'' e
  rw [this.1]
  exact h4
 |bad r' e=>
  rw [hp] at this
  show Bad en (f (m s).1 (m s).2).2 r' e
  rw [h3 _ _ this.nz]
  exact this
theorem aJR {k:Int} {t:ByteArray} {a:α} {m:M α} {p:P α} (h:sD L en k t m p):Sim L en (pE L k t a m) (lD k t a p):=fun s r hA=>by
 unfold pE lD
 rw [xO hA]
 cases hi:isT k t r with
 |true=>
  obtain ⟨x,r,rfl⟩:=iQ hi
  exact h s x r hA hi
 |false=>exact ⟨rfl,hA⟩
theorem aFJ {k:Int} {t:ByteArray} {most:Nat} {m:M α} {p:P α} (h:sD L en k t m p) (hs:kQ m) (he:∀r a r',p r=.ok a r'→r'.length≤r.length):∀(f:Nat) (l:List α) (c:Nat) (s:St) (r:List Tok),l.length+c=most→At L s r→r.length<f→match eT k t p c r with
  | .ok a r'=>(dZ L en k t most m f l s).1=l++a∧At L (dZ L en k t most m f l s).2 r'
  | .bad r' e=>Bad en (dZ L en k t most m f l s).2 r' e
 |0,_,_,_,_,_,_,hf=>absurd hf (Nat.not_lt_zero _)
 |f+1,l,c,s,r,hc,hA,hf=>by
  simp only [dZ]
  rw [xO hA]
  cases c with
  |zero=>
   simp only [eT]
   cases hi:isT k t r with
   |false=>exact ⟨by simp,hA⟩
   |true=>
    simp only [if_true]
    have hb:=vW (en:=en) hA (e:=2) (by decide)
    have e1:(bX L en l.length most s).2=(mE L en ((2:Nat):Int) s).2:=by
     unfold bX
     rw [if_pos (by omega)];rfl
    show Bad en (dZ L en k t most m f _ (m (bX L en l.length most s).2).2).2 r 2
    rw [e1,hs _ hb.nz,qK f _ _ hb.nz]
    exact hb
  |succ c=>
   simp only [eT]
   cases hi:isT k t r with
   |false=>exact ⟨by simp,hA⟩
   |true=>
    simp only [if_true]
    obtain ⟨x,r,rfl⟩:=iQ hi
    have e1:bX L en l.length most s=((),s):=by
     unfold bX
     rw [if_neg (by omega)]
    have h4:=h s x r hA hi
    show match bnd p (fun x=>bnd (eT k t p c) fun l=>pur (x::l)) r with
     | .ok a r'=>(dZ L en k t most m f (l++[(m (bX L en l.length most s).2).1]) (m (bX L en l.length most s).2).2).1=l++a∧At L (dZ L en k t most m f (l++[(m (bX L en l.length most s).2).1]) (m (bX L en l.length most s).2).2).2 r'
     | .bad r' e=>Bad en (dZ L en k t most m f (l++[(m (bX L en l.length most s).2).1]) (m (bX L en l.length most s).2).2).2 r' e
    rw [e1]
    simp only [bnd]
    cases hp:p r with
    |bad r' e=>
     rw [hp] at h4
     simp only
     rw [qK f _ _ h4.nz]
     exact h4
    |ok a r'=>
     rw [hp] at h4
     have hl:=he _ _ _ hp
     simp only [List.length_cons] at hf
     have ih:=aFJ (most:=most) h hs he f (l++[(m s).1]) c (m s).2 r' (by rw [List.length_append,List.length_singleton];omega) h4.2 (by omega)
     simp only
     cases hm:eT k t p c r' with
     |bad r2 e=>rw [hm] at ih;exact ih
     |ok b r2=>
      rw [hm] at ih
      refine ⟨?_,ih.2⟩
      rw [ih.1,h4.1,List.append_assoc];rfl
theorem aSD {p:P α} (h:mB p):∀r a r',p r=.ok a r'→r'.length≤r.length:=fun r a r' e=>qE (h.suf _ _ _ e)
theorem aXE {s:St} {r:List Tok} (h:At L s r):r.length<L.length+1:=by
 have:=congrArg List.length h.r
 rw [List.length_drop] at this
 omega
theorem aSU {k:Int} {t:ByteArray} {most:Nat} {m:M α} {p:P α} (h:sD L en k t m p) (hs:kQ m) (hg:mB p):Sim L en (dZ L en k t most m (L.length+1) []) (eT k t p most):=fun s r hA=>by
 have:=aFJ (most:=most) h hs (aSD hg) (L.length+1) [] most s r (Nat.zero_add _) hA (aXE hA)
 cases hm:eT k t p most r with
 |ok a r'=>rw [hm] at this;simpa using this
 |bad r' e=>rw [hm] at this;exact this
theorem aSE {most:Nat} {m:M α} {p:P α} (h1:Sim L en m p) (hs:kQ m) (hg:mB p):Sim L en (sb m fun c=>dZ L en 3 (B [44]) (most+1) (sb (rsg L en 44) fun _=>m) (L.length+1) [c]) (sZ p (most+1)):=
 fP h1 (fun c=>fun s r hA=>by
  have:=aFJ (most:=most+1) (aOJ (k:=3) (t:=B [44]) h1) (bF cA fun _=>hs) (aSD hg) (L.length+1) [c] most s r (by simp;omega) hA (aXE hA)
  simp only [Nat.add_sub_cancel]
  unfold bnd
  cases hm:eT 3 (B [44]) p most r with
  |ok a r'=>rw [hm] at this;exact this
  |bad r' e=>rw [hm] at this;exact this) fun c=>qK _ _
end
end Go.SynM

namespace Go.SynM
open Go Go.Fw Go.RatM Go.SrcM
open Go.Proofs.YtgbeechjghajcaaGreatDoor (Tok)
section
variable {L:List Tok} {en:Int} {α β:Type}
abbrev zL (L:List Tok):Prop:=∀t∈L,t.kind=2→0≤t.n
theorem oQ:kQ (pT L en):=bF vN fun _=>bF cA fun _=>bF vN fun _=>dF
theorem aBH (hL:zL L):Sim L en (pT L en) lJ:=fP (aDN hL) (fun _=>fP tT (fun _=>fP (aDN hL) (fun _=>uZ) fun _=>dF) fun _=>bF vN fun _=>dF) fun _=>bF cA fun _=>bF vN fun _=>dF
theorem aUU (hL:zL L):sD L en 1 (B gE) (aED L en) pP:=
 aOJ (fP qY (fun _=>fP (aJR (aOJ (fP (aBH hL) (fun _=>fP qY (fun _=>uZ) fun _=>dF) fun _=>bF gZ fun _=>dF))) (fun _=>fP tT (fun _=>uZ) fun _=>dF) fun _=>bF cA fun _=>dF) fun _=>bF nH fun _=>bF cA fun _=>dF)
theorem aUH:kQ (aED L en):=bF cA fun _=>bF gZ fun _=>bF nH fun _=>bF cA fun _=>dF
theorem aUF:kQ (aFT L en):=bF cA fun _=>bF gZ fun _=>bF cA fun _=>bF gZ fun _=>bF cA fun _=>bF oQ fun _=>bF nH fun _=>bF cA fun _=>dF
theorem aUR (hL:zL L):sD L en 1 (B iI) (aFT L en) mG:=
 aOJ (fP qY (fun _=>fP tT (fun _=>fP qY (fun _=>fP tT (fun _=>fP (aBH hL) (fun _=>fP (aJR (aOJ (aDN hL))) (fun _=>fP tT (fun _=>uZ) fun _=>dF)
  fun _=>bF cA fun _=>dF) fun _=>bF nH fun _=>bF cA fun _=>dF) fun _=>bF oQ fun _=>bF nH fun _=>bF cA fun _=>dF)
  fun _=>bF cA fun _=>bF oQ fun _=>bF nH fun _=>bF cA fun _=>dF) fun _=>bF gZ fun _=>bF cA fun _=>bF oQ fun _=>bF nH fun _=>bF cA fun _=>dF)
  fun _=>bF cA fun _=>bF gZ fun _=>bF cA fun _=>bF oQ fun _=>bF nH fun _=>bF cA fun _=>dF)
theorem aPA:kQ (aEP L en):=bF cA fun _=>bF gZ fun _=>bF cA fun _=>dF
theorem aSZ:sD L en 1 (B fD) (aEP L en) oV:=aOJ (fP qY (fun _=>fP tT (fun _=>uZ) fun _=>dF) fun _=>bF cA fun _=>dF)
structure SS (L:List Tok) (en:Int) (m:M α) (p:P α):Prop where
 sim:Sim L en m p
 stay:kQ m
theorem bP {m:M α} {p:P α} {f:α→M β} {q:α→P β} (h1:SS L en m p) (h2:∀a,SS L en (f a) (q a)):SS L en (sb m f) (bnd p q):=⟨fP h1.sim (fun a=>(h2 a).sim) fun a=>(h2 a).stay,bF h1.stay fun a=>(h2 a).stay⟩
theorem yL {a:α}:SS L en (rt a) (pur a):=⟨uZ,dF⟩
theorem fZ {k:Int} {t:ByteArray}:SS L en (oZ L en k t) (skip k t):=⟨tT,cA⟩
theorem lK:SS L en (eV L en) dP:=⟨qY,gZ⟩
theorem aGI (hL:zL L):SS L en (sJ L en) oC:=⟨aDN hL,vN⟩
theorem zT (hL:zL L):SS L en (pT L en) lJ:=⟨aBH hL,oQ⟩
theorem aWZ {k:Int} {t:ByteArray} {a:α} {m:M α} {p:P α} (h:SS L en m p):SS L en (pE L k t a (sb (oZ L en k t) fun _=>m)) (lD k t a p):=⟨aJR (aOJ h.sim),nH⟩
theorem aNM {k:Int} {t:ByteArray} {m:M α} {p:P α} (h:SS L en m p):sD L en k t (sb (oZ L en k t) fun _=>m) p∧kQ (sb (oZ L en k t) fun _=>m):=⟨aOJ h.sim,bF cA fun _=>h.stay⟩
theorem ss_mach (hL:zL L):sD L en 1 (B cE) (aIP L en) pC∧kQ (aIP L en):=aNM (bP lK fun _=>bP fZ fun _=>bP lK fun _=>bP fZ fun _=>bP (aGI hL) fun _=>bP fZ fun _=>yL)
theorem ss_chs:SS L en (rchs L en) (sZ dP 4):=⟨aSE qY gZ bV.g,bF gZ fun _=>qK _ _⟩
theorem ss_optn:sD L en 1 (B dA) (aFO L en) nX∧kQ (aFO L en):=aNM (bP lK fun _=>bP fZ fun _=>bP ss_chs fun _=>bP fZ fun _=>bP fZ fun _=>yL)
theorem aJT:SS L en (wX L en) lA:=bP lK fun _=>bP fZ fun _=>bP lK fun _=>yL
theorem aOM:SS L en (uT L en) (sZ lA 6):=⟨aSE aJT.sim aJT.stay sE.g,bF aJT.stay fun _=>qK _ _⟩
theorem ss_forb:sD L en 1 (B dK) (aFZ L en) qB∧kQ (aFZ L en):=aNM (bP aOM fun _=>bP fZ fun _=>yL)
theorem aIX (hL:zL L):SS L en (lT L en) outP:=bP (zT hL) fun _=>bP lK fun _=>bP lK fun _=>bP fZ fun _=>yL
theorem ss_inp (hL:zL L):sD L en 1 (B wIn) (wN L en) inP∧kQ (wN L en):=aNM (bP (aWZ yL) fun _=>bP (aIX hL) fun _=>yL)
theorem ss_run (hL:zL L):sD L en 1 (B oD) (aAN L en) yS∧kQ (aAN L en):=aNM (bP lK fun _=>bP (aGI hL) fun _=>bP fZ fun _=>yL)
theorem aLC {k:Int} {t:ByteArray} {most:Nat} {m:M α} {p:P α} (h:sD L en k t m p∧kQ m) (hg:mB p):SS L en (dZ L en k t most m (L.length+1) []) (eT k t p most):=⟨aSU h.1 h.2 hg,qK _ _⟩
theorem ss_rec (hL:zL L):sD L en 1 (B iD) (aOP L en) fT∧kQ (aOP L en):=aNM (bP lK fun _=>bP fZ fun _=>bP lK fun _=>bP fZ fun _=>bP (aGI hL) fun _=>bP fZ fun _=>bP (aGI hL) fun _=>
 bP (aWZ aOM) fun _=>bP fZ fun _=>bP (aLC (ss_inp hL) in_g.g) fun _=>bP (aLC (aNM (aIX hL)) aAF.g) fun _=>
 bP fZ fun _=>bP (zT hL) fun _=>bP fZ fun _=>bP fZ fun _=>bP (zT hL) fun _=>bP fZ fun _=>bP (zT hL) fun _=>
 bP fZ fun _=>bP fZ fun _=>bP (aGI hL) fun _=>bP fZ fun _=>bP (aLC (ss_run hL) aFE.g) fun _=>bP fZ fun _=>yL)
theorem ss_swap:sD L en 1 (B iC) (aCX L en) qQ∧kQ (aCX L en):=aNM (bP lK fun _=>bP fZ fun _=>bP lK fun _=>bP fZ fun _=>yL)
theorem wL {w:List UInt8} {n most:Nat} {m q:M α} {p q':P α} (h:sD L en 1 (B w) m p) (hs:kQ m) (hq:∀s r,At L s r→isT 1 (B w) r=false→match q' r with
  | .ok a r'=>(q s).1=a∧At L (q s).2 r'
  | .bad r' e=>Bad en (q s).2 r' e):Sim L en (rbr L en w n most m q) (brP (B w) n most p q'):=fun s r hA=>by
 unfold rbr brP
 rw [xO hA]
 cases hi:isT 1 (B w) r with
 |false=>exact hq s r hA hi
 |true=>
  simp only [if_true]
  obtain ⟨x,r,rfl⟩:=iQ hi
  by_cases hn:most≤n
  ·rw [if_pos hn]
   have hb:=vW (en:=en) hA (e:=2) (by decide)
   have e1:(bX L en n most s).2=(mE L en ((2:Nat):Int) s).2:=by
    unfold bX
    rw [if_pos hn];rfl
   show Bad en (m (bX L en n most s).2).2 _ 2
   rw [e1,hs _ hb.nz]
   exact hb
  rw [if_neg hn]
  have e1:(bX L en n most s).2=s:=by
   unfold bX
   rw [if_neg hn]
  show match p r with
   | .ok a r'=>(m (bX L en n most s).2).1=a∧At L (m (bX L en n most s).2).2 r'
   | .bad r' e=>Bad en (m (bX L en n most s).2).2 r' e
  rw [e1]
  exact h s x r hA hi
theorem pL {k:Int} {t:ByteArray} {m:M α} {p:P α} {f:α→β} (h:sD L en k t m p∧kQ m):sD L en k t (sb m fun x=>rt (f x)) (bnd p fun x=>pur (f x))∧kQ (sb m fun x=>rt (f x)):=⟨aVD h.1 (fun _=>uZ) fun _=>dF,bF h.2 fun _=>dF⟩
theorem sim_def (hL:zL L) (s:aJ):Sim L en (uV L en s) (dX s):=by
 have u:=pL (f:=fun x=>{s with units:=s.units++[x]}) (And.intro (aUU (en:=en) hL) aUH)
 have i:=pL (f:=fun x=>{s with items:=s.items++[x]}) (And.intro (aUR (en:=en) hL) aUF)
 have p:=pL (f:=fun x=>{s with plants:=s.plants++[x]}) (And.intro (aSZ (L:=L) (en:=en)) aPA)
 have m:=pL (f:=fun x=>{s with machines:=s.machines++[x]}) (ss_mach (en:=en) hL)
 have o:=pL (f:=fun x=>{s with options:=s.options++[x]}) (ss_optn (L:=L) (en:=en))
 have f:=pL (f:=fun x=>{s with forbids:=s.forbids++[x]}) (ss_forb (L:=L) (en:=en))
 have r:=pL (f:=fun x=>{s with recipes:=s.recipes++[x]}) (ss_rec (en:=en) hL)
 have w:=pL (f:=fun x=>{s with swaps:=s.swaps++[x]}) (ss_swap (L:=L) (en:=en))
 refine wL u.1 u.2 fun _ _ hA _=>wL i.1 i.2 (fun _ _ hA _=>wL p.1 p.2 (fun _ _ hA _=>wL m.1 m.2 (fun _ _ hA _=>wL o.1 o.2 (fun _ _ hA _=>wL f.1 f.2 (fun _ _ hA _=>wL r.1 r.2 (fun _ _ hA _=>wL w.1 w.2 (fun t r hA hi=>?_) _ _ hA) _ _ hA) _ _ hA) _ _ hA) _ _ hA) _ _ hA) _ _ hA
 have hb:=vW (en:=en) hA (e:=100) (by decide)
 have e1:(oZ L en 1 (B iC) t).2=(mE L en ((100:Nat):Int) t).2:=by
  unfold oZ
  rw [xO hA,hi];rfl
 have e2:(sb (aCX L en) (fun x=>rt {s with swaps:=s.swaps++[x]}) t).2=(oZ L en 1 (B iC) t).2:=by
  have st:kQ (fun q=>(sb (sb (eV L en) fun a=>sb (rwd L en aAU) fun _=>sb (eV L en) fun b=>sb (rsg L en 59) fun _=>rt (⟨a,b,0,0⟩:Sw)) fun x=>rt {s with swaps:=s.swaps++[x]}) q):=bF (bF gZ fun _=>bF cA fun _=>bF gZ fun _=>bF cA fun _=>dF) fun _=>dF
  exact st _ (by rw [e1];exact hb.nz)
 show Bad en _ r 100
 rw [e2,e1]
 exact hb
theorem aTU:∀(n:Nat) (s:aJ),kQ (qA L en n s)
 |0,_=>dF
 |n+1,s=>fun t h=>by
  simp only [qA]
  rw [if_neg fun x=>h x.1]
theorem aEB (hL:zL L):∀(n:Nat) (s:aJ),Sim L en (qA L en n s) (pF n s)
 |0,s=>uZ
 |n+1,s=>fun t r hA=>by
  simp only [qA,pF]
  have hlen:r.length=L.length - t.n:=by rw [←hA.r,List.length_drop]
  by_cases h0:r=[]
  ·have:¬(t.e=0∧t.n<L.length):=fun h=>by rw [h0] at hlen;simp at hlen;omega
   rw [if_pos h0,if_neg this]
   exact ⟨rfl,by rw [←h0];exact hA⟩
  have:t.e=0∧t.n<L.length:=⟨hA.e,by have:=List.length_pos_iff.2 h0;omega⟩
  rw [if_neg h0,if_pos this]
  exact fP (sim_def hL s) (fun u=>aEB hL n u) (fun u=>aTU n u) t r hA
theorem sim_ok (hL:zL L) {x:aJ} {r:List Tok} (h:aAK L=.ok x r):(qA L en (L.length+1) noS ⟨0,0,0⟩).1=x∧(qA L en (L.length+1) noS ⟨0,0,0⟩).2.e=0:=by
 have:=aEB (en:=en) hL (L.length+1) noS ⟨0,0,0⟩ L ⟨rfl,List.drop_zero⟩
 rw [show pF (L.length+1) noS L=.ok x r from h] at this
 exact ⟨this.1,this.2.e⟩
theorem sim_bad (hL:zL L) {r:List Tok} {e:Nat} (h:aAK L=.bad r e):Bad en (qA L en (L.length+1) noS ⟨0,0,0⟩).2 r e:=by
 have:=aEB (en:=en) hL (L.length+1) noS ⟨0,0,0⟩ L ⟨rfl,List.drop_zero⟩
 rw [show pF (L.length+1) noS L=.bad r e from h] at this
 exact this
end
end Go.SynM

namespace Go.Proofs.YtgbeechjghajcaaGreatDoor
open Go Go.Fw Go.SynM Go.SrcM
abbrev NmP (x:ByteArray):Prop:=uJ x
theorem nm_e0:¬NmP e0:=by unfold NmP;decide
theorem aXW {t:Tok} (h:eE t):OkT NmP t where
 nm hk:=by
  rcases h with h|h|h
  ·exact h.2.1
  ·rw [h.1] at hk;cases hk
  rw [h.1] at hk;cases hk
 num hk:=by
  rcases h with h|h|h
  ·rw [h.1] at hk;cases hk
  ·exact h.2.2.1
  rw [h.1] at hk;cases hk
theorem all_okT {l:List Tok} (h:AllV l):SynM.AllV NmP l:=fun t ht=>aXW (h t ht)
theorem aWM {l:List Tok} (h:AllV l):zL l:=fun t ht=>(aXW (h t ht)).num
theorem aXN {t:Tok} (h:VT NmP (fun c=>cls c.toNat=4) t):eE t:=by
 rcases h.or with ⟨x,rfl,g⟩|⟨c,rfl,g⟩|⟨n,rfl,g⟩
 ·exact .inl ⟨rfl,g,rfl⟩
 ·exact .inr (.inr ⟨rfl,rfl,g,rfl⟩)
 exact .inr (.inl ⟨rfl,rfl,g.1,Int.le_trans g.2 (by decide)⟩)
theorem voc_ok:Voc NmP (fun c=>cls c.toNat=4):=⟨by decide,by decide⟩
theorem vocN:aBS NmP:=⟨by decide,by decide⟩
theorem aBU {s:aJ} (h:s.good NmP):AllV (jI s):=fun t ht=>aXN (aOW voc_ok h t ht)
def lX (src:ByteArray):aJ ⊕ (Int×Int):=match rY (bs src) 0 with
 | .inr q=>.inr (q,50)
 | .inl l=>match aAK (pK l) with
  | .ok x _=>.inl x
  | .bad r e=>.inr ((dI src.size e r).1,(dI src.size e r).2)
theorem aUK {s x:aJ} {r:List Tok} (hV:AllV (jI s)) (hr:aAK (jI s)=.ok x r) (hx:x.bare=s.un.bare):s.good NmP:=
 (aTS hx).1 (aTD nm_e0 (all_okT hV) hr).1

/-! one source behind another -/
end Go.Proofs.YtgbeechjghajcaaGreatDoor

namespace Go.SrcM
open Go Go.Fw Go.RatM
noncomputable def eqB {α:Type} (a b:α):Bool:=@decide (a=b) (Classical.propDecidable _)
theorem bL {α:Type} {a b:α} (h:a=b):eqB a b=true:=@decide_eq_true _ (Classical.propDecidable _) h
theorem bH {α:Type} {a b:α} (h:¬a=b):eqB a b=false:=@decide_eq_false _ (Classical.propDecidable _) h
theorem pH {α:Type} {a b:List α} (h:a=b) {k:Nat} (ha:k<a.length) (hb:k<b.length):a[k]=b[k]:=by subst h;rfl
theorem kM {α:Type} {a b:List α} (h:a.length=b.length) (H:∀j (ha:j<a.length) (hb:j<b.length),a[j]=b[j]):a=b:=List.ext_getElem h H
theorem iL {α:Type} {a b:List α} {k:Nat} (ha:k<a.length) (hb:k<b.length) (H:∀j (_:j<k) (ha:j<a.length) (hb:j<b.length),a[j]=b[j]) (h:a[k]=b[k]):∀j (_:j<k+1) (ha:j<a.length) (hb:j<b.length),a[j]=b[j]:=
 fun j hj h1 h2=>(Nat.lt_succ_iff_lt_or_eq.1 hj).elim (fun hj=>H j hj h1 h2) (fun e=>by subst e;exact h)
theorem Cd.ext_iff' {a b:Cd}:a=b↔a.opt=b.opt∧a.ch=b.ch∧a.on=b.on∧a.cn=b.cn:=by
 obtain ⟨_,_,_,_⟩:=a;obtain ⟨_,_,_,_⟩:=b;simp
theorem Am.ext_iff' {a b:Am}:a=b↔a.n=b.n∧a.d=b.d∧a.unit=b.unit∧a.item=b.item∧a.back=b.back∧a.un=b.un∧a.inn=b.inn:=by
 obtain ⟨_,_,_,_,_,_,_⟩:=a;obtain ⟨_,_,_,_,_,_,_⟩:=b;simp
theorem Rn.ext_iff' {a b:Rn}:a=b↔a.mach=b.mach∧a.slots=b.slots∧a.mn=b.mn:=by
 obtain ⟨_,_,_⟩:=a;obtain ⟨_,_,_⟩:=b;simp
theorem It.ext_iff' {a b:It}:a=b↔a.name=b.name∧a.unit=b.unit∧a.mn=b.mn∧a.md=b.md∧a.shelf=b.shelf∧a.un=b.un:=by
 obtain ⟨_,_,_,_,_,_⟩:=a;obtain ⟨_,_,_,_,_,_⟩:=b;simp
theorem Mc.ext_iff' {a b:Mc}:a=b↔a.name=b.name∧a.plant=b.plant∧a.clean=b.clean∧a.pn=b.pn:=by
 obtain ⟨_,_,_,_⟩:=a;obtain ⟨_,_,_,_⟩:=b;simp
theorem Sw.ext_iff' {a b:Sw}:a=b↔a.a=b.a∧a.b=b.b∧a.an=b.an∧a.bn=b.bn:=by
 obtain ⟨_,_,_,_⟩:=a;obtain ⟨_,_,_,_⟩:=b;simp
theorem RcV.bare_iff {a b:RcV}:a.bare=b.bare↔a.item=b.item∧a.plant=b.plant∧a.fr=b.fr∧a.to=b.to∧a.cs=b.cs∧a.inn=b.inn∧a.out=b.out∧a.rwN=b.rwN∧a.rwD=b.rwD∧a.yN=b.yN∧a.yD=b.yD∧a.tN=b.tN∧a.tD=b.tD∧a.lead=b.lead∧a.runs=b.runs∧a.inum=b.inum∧a.pnum=b.pnum:=by
 obtain ⟨_,_,_,_,_,_,_,_,_,_,_,_,_,_,_,_,_,_,_,_,_⟩:=a;obtain ⟨_,_,_,_,_,_,_,_,_,_,_,_,_,_,_,_,_,_,_,_,_⟩:=b;simp [RcV.bare]
abbrev Two (va vb:Value) (sz:Nat) (ra rb:List (List Value)) (F:Nat→Prop) (h:Array Obj):Prop:=RoF F h va sz ra∧RoF F h vb sz rb
theorem Two.tok (va vb:Value) (sz:Nat) (ra rb:List (List Value)):TOk (Two va vb sz ra rb):=
 ⟨fun _ _ _ hs H=>⟨RoF.up ⟨hs,fun _ _=>rfl⟩ H.1,RoF.up ⟨hs,fun _ _=>rfl⟩ H.2⟩,fun _ _ _ H K=>⟨RoF.up ⟨fun _ x=>x,K.same⟩ H.1,RoF.up ⟨fun _ x=>x,K.same⟩ H.2⟩⟩
abbrev TwoR (a b:RcV) (F:Nat→Prop) (h:Array Obj):Prop:=a.ok F h∧b.ok F h
theorem TwoR.tok (a b:RcV):TOk (TwoR a b):=
 ⟨fun _ _ _ hs H=>⟨H.1.up ⟨hs,fun _ _=>rfl⟩,H.2.up ⟨hs,fun _ _=>rfl⟩⟩,fun _ _ _ H K=>⟨H.1.up ⟨fun _ x=>x,K.same⟩,H.2.up ⟨fun _ x=>x,K.same⟩⟩⟩
end Go.SrcM
namespace Go.Proofs.YtgbeechjghajcaaGreatDoor
open Go Go.Fw Go.NatM Go.RatM Go.SrcM
set_option maxRecDepth 100000
set_option maxHeartbeats 99999999
theorem aHY (va vb:Value) (a b:List ByteArray):FnT Tryz.prog (Two va vb 1 (jY a) (jY b)) 27 0 [.v va,.v vb] [] (fun _:Unit=>True) (fun _=>.ret (.v (.bool (eqB a b))) 0 []):=by
 have hla:(jY a).length=a.length:=aG _ _
 have hlb:(jY b).length=b.length:=aG _ _
 obtain ⟨r,hr⟩:∃r,r=eqB a b:=⟨_,rfl⟩
 rw [←hr]
 refine FnT.of Tryz.func27 (by kernel_rfl) rfl Tryz.ntmps27 rfl fun E0 F h hT w0 cs=>?_
 have mA:=hT.1.len
 obtain ⟨aa,ca,rfl⟩:=RoF.sli hT.1 hla
 obtain ⟨ab,cb,rfl⟩:=RoF.sli hT.2 hlb
 conv=>whnf
 (try refine gS ?_);conv=>whnf
 refine ⟨fun hs=>?_,fun hs=>?_⟩<;>conv=>whnf
 rotate_left
 ·conv=>whnf
  have:r=false:=by rw [hr];exact bH (fun e=>hs (by rw [e]))
  rw [this]
  try refine aA.retU ?_
  exact aE.ret tab Tryz.func27 rfl (eN () trivial)
 conv=>whnf
 have hn:a.length=b.length:=by omega
 refine aA.nameAt (fun _ x=>x) 0 (by exact hT.1) ?_
 conv=>whnf
 (try refine gS ?_);conv=>whnf
 refine aA.nameAt (fun _ x=>x) 1 (by exact hT.2) ?_
 conv=>whnf
 (try refine gS ?_);conv=>whnf
 refine aA.subR [] (aA.loop (fun (k:Nat)=>[(5,.v (.int .i64 k)),(0,.buf 0),(1,.buf 1)]) (fun (k:Nat)=>[(0,.ro 1 (jY a)),(1,.ro 1 (jY b))]) 2 (fun (k:Nat)=>k≤a.length ∧ ∀j (_:j<k) (ha:j<a.length) (hb:j<b.length),a[j]=b[j]) (fun (k:Nat)=>a.length - k) ?round1 (0) ?J01) sH sH
 case J01=>exact (⟨Nat.zero_le _,fun j hj=>absurd hj (Nat.not_lt_zero _)⟩)
 rintro k hJ back
 conv=>whnf
 refine gS ?_;conv=>whnf
 refine ⟨fun hk=>?_,fun hk=>?_⟩<;>conv=>whnf
 ·have hk:k<a.length:=by omega
  have hk2:k<b.length:=by omega
  conv=>whnf
  refine aA.held tab (.fl 0 (.fl 1 (.fl 2 (.fl 3 (.fl 4 (.fl 5 (.fl 6 (.fl 7 (.fl 8 .done))))))))) (by kernel_rfl) ?_;conv=>whnf
  (try refine gR ?_);conv=>whnf
  repeat ((first|refine oL ?_|refine oR ?_|refine oB ?_);(try intro _);conv=>whnf)
  conv=>whnf
  refine ⟨_,aK hk,?_⟩;conv=>whnf
  try (refine oN ?_;conv=>whnf)
  conv=>whnf
  refine ⟨_,aK hk2,?_⟩;conv=>whnf
  refine ⟨fun hs=>?_,fun hs=>?_⟩<;>conv=>whnf
  ·try refine gR ?_
   conv=>whnf
   (try refine gS ?_);conv=>whnf
   repeat ((first|refine oL ?_|refine oR ?_);(try intro _);conv=>whnf)
   refine aA.subR [] (back (k+1) (by exact (⟨hk,iL hk hk2 hJ.2 (hs)⟩)) (by (try dsimp only);omega)) sH sH
  (try refine gR ?_);conv=>whnf
  (try refine gS ?_);conv=>whnf
  have:r=false:=by rw [hr];exact bH (fun e=>(fun e=>hs e) (pH e hk hk2))
  rw [this]
  try refine aA.retU ?_
  exact aE.ret tab Tryz.func27 rfl (eN () trivial)
 conv=>whnf
 have:r=true:=by rw [hr];exact bL (kM hn fun j h1 h2=>hJ.2 j (by omega) h1 h2)
 rw [this]
 try refine aA.retU ?_
 exact aE.ret tab Tryz.func27 rfl (eN () trivial)
theorem aJA (va vb:Value) (a b:List Cd):FnT Tryz.prog (Two va vb 4 (rws Cd.row a) (rws Cd.row b)) 28 0 [.v va,.v vb] [] (fun _:Unit=>True) (fun _=>.ret (.v (.bool (eqB a b))) 0 []):=by
 have hla:(rws Cd.row a).length=a.length:=aG _ _
 have hlb:(rws Cd.row b).length=b.length:=aG _ _
 obtain ⟨r,hr⟩:∃r,r=eqB a b:=⟨_,rfl⟩
 rw [←hr]
 refine FnT.of Tryz.func28 (by kernel_rfl) rfl Tryz.ntmps28 rfl fun E0 F h hT w0 cs=>?_
 have mA:=hT.1.len
 obtain ⟨aa,ca,rfl⟩:=RoF.sli hT.1 hla
 obtain ⟨ab,cb,rfl⟩:=RoF.sli hT.2 hlb
 conv=>whnf
 (try refine gS ?_);conv=>whnf
 refine ⟨fun hs=>?_,fun hs=>?_⟩<;>conv=>whnf
 rotate_left
 ·conv=>whnf
  have:r=false:=by rw [hr];exact bH (fun e=>hs (by rw [e]))
  rw [this]
  try refine aA.retU ?_
  exact aE.ret tab Tryz.func28 rfl (eN () trivial)
 conv=>whnf
 have hn:a.length=b.length:=by omega
 refine aA.nameAt (fun _ x=>x) 0 (by exact hT.1) ?_
 conv=>whnf
 (try refine gS ?_);conv=>whnf
 refine aA.nameAt (fun _ x=>x) 1 (by exact hT.2) ?_
 conv=>whnf
 (try refine gS ?_);conv=>whnf
 refine aA.subR [] (aA.loop (fun (k:Nat)=>[(5,.v (.int .i64 k)),(0,.buf 0),(1,.buf 1)]) (fun (k:Nat)=>[(0,.ro 4 (rws Cd.row a)),(1,.ro 4 (rws Cd.row b))]) 2 (fun (k:Nat)=>k≤a.length ∧ ∀j (_:j<k) (ha:j<a.length) (hb:j<b.length),a[j]=b[j]) (fun (k:Nat)=>a.length - k) ?round3 (0) ?J03) sH sH
 case J03=>exact (⟨Nat.zero_le _,fun j hj=>absurd hj (Nat.not_lt_zero _)⟩)
 rintro k hJ back
 conv=>whnf
 refine gS ?_;conv=>whnf
 refine ⟨fun hk=>?_,fun hk=>?_⟩<;>conv=>whnf
 ·have hk:k<a.length:=by omega
  have hk2:k<b.length:=by omega
  conv=>whnf
  refine aA.held tab (.fl 0 (.fl 1 (.fl 2 (.fl 3 (.fl 4 (.fl 5 (.fl 6 (.fl 7 (.fl 8 .done))))))))) (by kernel_rfl) ?_;conv=>whnf
  (try refine gR ?_);conv=>whnf
  repeat ((first|refine oL ?_|refine oR ?_|refine oB ?_);(try intro _);conv=>whnf)
  conv=>whnf
  refine ⟨_,aK hk,?_⟩;conv=>whnf
  try (refine oN ?_;conv=>whnf)
  conv=>whnf
  repeat ((first|refine oL ?_|refine oR ?_|refine oB ?_);(try intro _);conv=>whnf)
  conv=>whnf
  refine ⟨_,aK hk2,?_⟩;conv=>whnf
  try (refine oN ?_;conv=>whnf)
  conv=>whnf
  refine ⟨fun hs=>?_,fun hs=>?_⟩<;>conv=>whnf
  ·try refine gR ?_
   conv=>whnf
   (try refine gS ?_);conv=>whnf
   repeat ((first|refine oL ?_|refine oR ?_);(try intro _);conv=>whnf)
   refine aA.subR [] (back (k+1) (by exact (⟨hk,iL hk hk2 hJ.2 (Cd.ext_iff'.2 hs)⟩)) (by (try dsimp only);omega)) sH sH
  (try refine gR ?_);conv=>whnf
  (try refine gS ?_);conv=>whnf
  have:r=false:=by rw [hr];exact bH (fun e=>(fun e=>hs (Cd.ext_iff'.1 e)) (pH e hk hk2))
  rw [this]
  try refine aA.retU ?_
  exact aE.ret tab Tryz.func28 rfl (eN () trivial)
 conv=>whnf
 have:r=true:=by rw [hr];exact bL (kM hn fun j h1 h2=>hJ.2 j (by omega) h1 h2)
 rw [this]
 try refine aA.retU ?_
 exact aE.ret tab Tryz.func28 rfl (eN () trivial)
theorem aRH (va vb:Value) (a b:List Am):FnT Tryz.prog (Two va vb 7 (rws Am.row a) (rws Am.row b)) 90 0 [.v va,.v vb] [] (fun _:Unit=>True) (fun _=>.ret (.v (.bool (eqB a b))) 0 []):=by
 have hla:(rws Am.row a).length=a.length:=aG _ _
 have hlb:(rws Am.row b).length=b.length:=aG _ _
 obtain ⟨r,hr⟩:∃r,r=eqB a b:=⟨_,rfl⟩
 rw [←hr]
 refine FnT.of Tryz.func90 (by kernel_rfl) rfl Tryz.ntmps90 rfl fun E0 F h hT w0 cs=>?_
 have mA:=hT.1.len
 obtain ⟨aa,ca,rfl⟩:=RoF.sli hT.1 hla
 obtain ⟨ab,cb,rfl⟩:=RoF.sli hT.2 hlb
 conv=>whnf
 (try refine gS ?_);conv=>whnf
 refine ⟨fun hs=>?_,fun hs=>?_⟩<;>conv=>whnf
 rotate_left
 ·conv=>whnf
  have:r=false:=by rw [hr];exact bH (fun e=>hs (by rw [e]))
  rw [this]
  try refine aA.retU ?_
  exact aE.ret tab Tryz.func90 rfl (eN () trivial)
 conv=>whnf
 have hn:a.length=b.length:=by omega
 refine aA.nameAt (fun _ x=>x) 0 (by exact hT.1) ?_
 conv=>whnf
 (try refine gS ?_);conv=>whnf
 refine aA.nameAt (fun _ x=>x) 1 (by exact hT.2) ?_
 conv=>whnf
 (try refine gS ?_);conv=>whnf
 refine aA.subR [] (aA.loop (fun (k:Nat)=>[(5,.v (.int .i64 k)),(0,.buf 0),(1,.buf 1)]) (fun (k:Nat)=>[(0,.ro 7 (rws Am.row a)),(1,.ro 7 (rws Am.row b))]) 2 (fun (k:Nat)=>k≤a.length ∧ ∀j (_:j<k) (ha:j<a.length) (hb:j<b.length),a[j]=b[j]) (fun (k:Nat)=>a.length - k) ?round5 (0) ?J05) sH sH
 case J05=>exact (⟨Nat.zero_le _,fun j hj=>absurd hj (Nat.not_lt_zero _)⟩)
 rintro k hJ back
 conv=>whnf
 refine gS ?_;conv=>whnf
 refine ⟨fun hk=>?_,fun hk=>?_⟩<;>conv=>whnf
 ·have hk:k<a.length:=by omega
  have hk2:k<b.length:=by omega
  conv=>whnf
  refine aA.held tab (.fl 0 (.fl 1 (.fl 2 (.fl 3 (.fl 4 (.fl 5 (.fl 6 (.fl 7 (.fl 8 .done))))))))) (by kernel_rfl) ?_;conv=>whnf
  (try refine gR ?_);conv=>whnf
  repeat ((first|refine oL ?_|refine oR ?_|refine oB ?_);(try intro _);conv=>whnf)
  conv=>whnf
  refine ⟨_,aK hk,?_⟩;conv=>whnf
  try (refine oN ?_;conv=>whnf)
  conv=>whnf
  repeat ((first|refine oL ?_|refine oR ?_|refine oB ?_);(try intro _);conv=>whnf)
  conv=>whnf
  refine ⟨_,aK hk2,?_⟩;conv=>whnf
  try (refine oN ?_;conv=>whnf)
  conv=>whnf
  refine ⟨fun hs=>?_,fun hs=>?_⟩<;>conv=>whnf
  ·try refine gR ?_
   conv=>whnf
   (try refine gS ?_);conv=>whnf
   repeat ((first|refine oL ?_|refine oR ?_);(try intro _);conv=>whnf)
   refine aA.subR [] (back (k+1) (by exact (⟨hk,iL hk hk2 hJ.2 (Am.ext_iff'.2 hs)⟩)) (by (try dsimp only);omega)) sH sH
  (try refine gR ?_);conv=>whnf
  (try refine gS ?_);conv=>whnf
  have:r=false:=by rw [hr];exact bH (fun e=>(fun e=>hs (Am.ext_iff'.1 e)) (pH e hk hk2))
  rw [this]
  try refine aA.retU ?_
  exact aE.ret tab Tryz.func90 rfl (eN () trivial)
 conv=>whnf
 have:r=true:=by rw [hr];exact bL (kM hn fun j h1 h2=>hJ.2 j (by omega) h1 h2)
 rw [this]
 try refine aA.retU ?_
 exact aE.ret tab Tryz.func90 rfl (eN () trivial)
end Go.Proofs.YtgbeechjghajcaaGreatDoor

namespace Go.Proofs.YtgbeechjghajcaaGreatDoor
open Go Go.Fw Go.NatM Go.RatM Go.SrcM
set_option maxRecDepth 100000
set_option maxHeartbeats 99999999
theorem sRc_fn (a b:RcV):FnT Tryz.prog (TwoR a b) 29 0 [.agg (toV a.row),.agg (toV b.row)] [] (fun _:Unit=>True) (fun _=>.ret (.v (.bool (eqB a.bare b.bare))) 0 []):=by
 have hla:(rws Rn.row a.runs).length=a.runs.length:=aG _ _
 have hlb:(rws Rn.row b.runs).length=b.runs.length:=aG _ _
 obtain ⟨r,hr⟩:∃r,r=eqB a.bare b.bare:=⟨_,rfl⟩
 rw [←hr]
 have no:¬a.bare=b.bare→r=false:=fun h=>by rw [hr];exact bH h
 refine FnT.of Tryz.func29 (by kernel_rfl) rfl Tryz.ntmps29 rfl fun E0 F h hT w0 cs=>?_
 conv=>whnf
 refine gS ?_;conv=>whnf
 have mA:=hT.1.rn.len
 refine ⟨fun hs=>?_,fun hs=>?_⟩<;>conv=>whnf
 rotate_left
 ·conv=>whnf
  rw [no fun e=>hs (by rw [(RcV.bare_iff.1 e).2.2.2.2.2.2.2.2.2.2.2.2.2.2.1])]
  try refine aA.retU ?_
  exact aE.ret tab Tryz.func29 rfl (eN () trivial)
 conv=>whnf
 have hn:a.runs.length=b.runs.length:=by omega
 refine aA.callT (Two.tok _ _ _ _ _) (⟨hT.1.c,hT.2.c⟩) (aJA (a.hc.v a.cs.length) (b.hc.v b.cs.length) a.cs b.cs) [] sH ?CNa1 ?_
 case CNa1=>rfl
 rintro _ _
 by_cases n2:a.cs=b.cs
 rotate_left
 ·rw [bH n2]
  conv=>whnf
  (try refine gS ?_);conv=>whnf
  rw [no fun e=>n2 ((RcV.bare_iff.1 e).2.2.2.2.1)]
  try refine aA.retU ?_
  exact aE.ret tab Tryz.func29 rfl (eN () trivial)
 rw [bL n2]
 conv=>whnf
 (try refine gS ?_);conv=>whnf
 refine aA.callT (Two.tok _ _ _ _ _) (⟨hT.1.i,hT.2.i⟩) (aRH (a.hi.v a.inn.length) (b.hi.v b.inn.length) a.inn b.inn) [] sH ?CNa2 ?_
 case CNa2=>rfl
 rintro _ _
 by_cases n3:a.inn=b.inn
 rotate_left
 ·rw [bH n3]
  conv=>whnf
  (try refine gS ?_);conv=>whnf
  rw [no fun e=>n3 ((RcV.bare_iff.1 e).2.2.2.2.2.1)]
  try refine aA.retU ?_
  exact aE.ret tab Tryz.func29 rfl (eN () trivial)
 rw [bL n3]
 conv=>whnf
 (try refine gS ?_);conv=>whnf
 refine aA.callT (Two.tok _ _ _ _ _) (⟨hT.1.o,hT.2.o⟩) (aRH (a.ho.v a.out.length) (b.ho.v b.out.length) a.out b.out) [] sH ?CNa3 ?_
 case CNa3=>rfl
 rintro _ _
 by_cases n4:a.out=b.out
 rotate_left
 ·rw [bH n4]
  conv=>whnf
  (try refine gS ?_);conv=>whnf
  rw [no fun e=>n4 ((RcV.bare_iff.1 e).2.2.2.2.2.2.1)]
  try refine aA.retU ?_
  exact aE.ret tab Tryz.func29 rfl (eN () trivial)
 rw [bL n4]
 conv=>whnf
 (try refine gS ?_);conv=>whnf
 refine aA.nameCell (fun _ x=>x) 0 14 (by exact hT.1.rn) ?_
 conv=>whnf
 (try refine gS ?_);conv=>whnf
 refine aA.nameCell (fun _ x=>x) 1 14 (by exact hT.2.rn) ?_
 conv=>whnf
 (try refine gS ?_);conv=>whnf
 refine aA.subR [] (aA.loop (fun (k:Nat)=>[(5,.v (.int .i64 k)),(2,.ptr 0 0),(3,.ptr 1 0)]) (fun (k:Nat)=>[(0,.cells 61 [.v (.string a.item),.v (.string a.plant),.v (.int .i64 a.fr),.v (.int .i64 a.to),.v (a.hc.v a.cs.length),.v (a.hi.v a.inn.length),.v (a.ho.v a.out.length),.v (.int .i64 a.rwN),.v (.int .i64 a.rwD),.v (.int .i64 a.yN),.v (.int .i64 a.yD),.v (.int .i64 a.tN),.v (.int .i64 a.tD),.v (.int .i64 a.lead),.buf 2,.v (.int .i64 a.inum),.v (.int .i64 a.pnum)]),(1,.cells 61 [.v (.string b.item),.v (.string b.plant),.v (.int .i64 b.fr),.v (.int .i64 b.to),.v (b.hc.v b.cs.length),.v (b.hi.v b.inn.length),.v (b.ho.v b.out.length),.v (.int .i64 b.rwN),.v (.int .i64 b.rwD),.v (.int .i64 b.yN),.v (.int .i64 b.yD),.v (.int .i64 b.tN),.v (.int .i64 b.tD),.v (.int .i64 b.lead),.buf 3,.v (.int .i64 b.inum),.v (.int .i64 b.pnum)]),(2,.ro 3 (rws Rn.row a.runs)),(3,.ro 3 (rws Rn.row b.runs))]) 4 (fun (k:Nat)=>k≤a.runs.length ∧ ∀j (_:j<k) (ha:j<a.runs.length) (hb:j<b.runs.length),a.runs[j]=b.runs[j]) (fun (k:Nat)=>a.runs.length - k) ?round4 (0) ?J04) sH sH
 case J04=>exact (⟨Nat.zero_le _,fun j hj=>absurd hj (Nat.not_lt_zero _)⟩)
 rintro k hJ back
 conv=>whnf
 refine gS ?_;conv=>whnf
 refine ⟨fun hk=>?_,fun hk=>?_⟩<;>conv=>whnf
 ·have hk:k<a.runs.length:=by omega
  have hk2:k<b.runs.length:=by omega
  conv=>whnf
  refine aA.held tab (.fl 0 (.fl 1 (.fl 2 (.fl 3 (.fl 4 (.fl 5 (.fl 6 (.fl 7 (.fl 8 (.fl 9 (.fl 10 .done))))))))))) (by kernel_rfl) ?_;conv=>whnf
  (try refine gR ?_);conv=>whnf
  repeat ((first|refine oL ?_|refine oR ?_|refine oB ?_);(try intro _);conv=>whnf)
  conv=>whnf
  refine ⟨_,aK hk,?_⟩;conv=>whnf
  try (refine oN ?_;conv=>whnf)
  conv=>whnf
  repeat ((first|refine oL ?_|refine oR ?_|refine oB ?_);(try intro _);conv=>whnf)
  conv=>whnf
  refine ⟨_,aK hk2,?_⟩;conv=>whnf
  try (refine oN ?_;conv=>whnf)
  conv=>whnf
  refine ⟨fun hs=>?_,fun hs=>?_⟩<;>conv=>whnf
  ·try refine gR ?_
   conv=>whnf
   (try refine gS ?_);conv=>whnf
   repeat ((first|refine oL ?_|refine oR ?_);(try intro _);conv=>whnf)
   refine aA.subR [] (back (k+1) (by exact (⟨hk,iL hk hk2 hJ.2 (Rn.ext_iff'.2 hs)⟩)) (by (try dsimp only);omega)) sH sH
  (try refine gR ?_);conv=>whnf
  (try refine gS ?_);conv=>whnf
  rw [no fun e=>hs (Rn.ext_iff'.1 (pH (RcV.bare_iff.1 e).2.2.2.2.2.2.2.2.2.2.2.2.2.2.1 hk hk2))]
  try refine aA.retU ?_
  exact aE.ret tab Tryz.func29 rfl (eN () trivial)
 have hruns:a.runs=b.runs:=kM hn fun j h1 h2=>hJ.2 j (by omega) h1 h2
 clear back
 conv=>whnf
 refine ⟨fun mitem=>?_,fun mitem=>?_⟩<;>conv=>whnf
 rotate_left
 ·conv=>whnf
  (try refine gS ?_);conv=>whnf
  rw [no fun e=>mitem ((RcV.bare_iff.1 e).1)]
  try refine aA.retU ?_
  exact aE.ret tab Tryz.func29 rfl (eN () trivial)
 conv=>whnf
 refine ⟨fun mplant=>?_,fun mplant=>?_⟩<;>conv=>whnf
 rotate_left
 ·conv=>whnf
  (try refine gS ?_);conv=>whnf
  rw [no fun e=>mplant ((RcV.bare_iff.1 e).2.1)]
  try refine aA.retU ?_
  exact aE.ret tab Tryz.func29 rfl (eN () trivial)
 conv=>whnf
 refine ⟨fun mfr=>?_,fun mfr=>?_⟩<;>conv=>whnf
 rotate_left
 ·conv=>whnf
  (try refine gS ?_);conv=>whnf
  rw [no fun e=>mfr ((RcV.bare_iff.1 e).2.2.1)]
  try refine aA.retU ?_
  exact aE.ret tab Tryz.func29 rfl (eN () trivial)
 conv=>whnf
 refine ⟨fun mto=>?_,fun mto=>?_⟩<;>conv=>whnf
 rotate_left
 ·conv=>whnf
  (try refine gS ?_);conv=>whnf
  rw [no fun e=>mto ((RcV.bare_iff.1 e).2.2.2.1)]
  try refine aA.retU ?_
  exact aE.ret tab Tryz.func29 rfl (eN () trivial)
 conv=>whnf
 refine ⟨fun mrwN=>?_,fun mrwN=>?_⟩<;>conv=>whnf
 rotate_left
 ·conv=>whnf
  (try refine gS ?_);conv=>whnf
  rw [no fun e=>mrwN ((RcV.bare_iff.1 e).2.2.2.2.2.2.2.1)]
  try refine aA.retU ?_
  exact aE.ret tab Tryz.func29 rfl (eN () trivial)
 conv=>whnf
 refine ⟨fun mrwD=>?_,fun mrwD=>?_⟩<;>conv=>whnf
 rotate_left
 ·conv=>whnf
  (try refine gS ?_);conv=>whnf
  rw [no fun e=>mrwD ((RcV.bare_iff.1 e).2.2.2.2.2.2.2.2.1)]
  try refine aA.retU ?_
  exact aE.ret tab Tryz.func29 rfl (eN () trivial)
 conv=>whnf
 refine ⟨fun myN=>?_,fun myN=>?_⟩<;>conv=>whnf
 rotate_left
 ·conv=>whnf
  (try refine gS ?_);conv=>whnf
  rw [no fun e=>myN ((RcV.bare_iff.1 e).2.2.2.2.2.2.2.2.2.1)]
  try refine aA.retU ?_
  exact aE.ret tab Tryz.func29 rfl (eN () trivial)
 conv=>whnf
 refine ⟨fun myD=>?_,fun myD=>?_⟩<;>conv=>whnf
 rotate_left
 ·conv=>whnf
  (try refine gS ?_);conv=>whnf
  rw [no fun e=>myD ((RcV.bare_iff.1 e).2.2.2.2.2.2.2.2.2.2.1)]
  try refine aA.retU ?_
  exact aE.ret tab Tryz.func29 rfl (eN () trivial)
 conv=>whnf
 refine ⟨fun mtN=>?_,fun mtN=>?_⟩<;>conv=>whnf
 rotate_left
 ·conv=>whnf
  (try refine gS ?_);conv=>whnf
  rw [no fun e=>mtN ((RcV.bare_iff.1 e).2.2.2.2.2.2.2.2.2.2.2.1)]
  try refine aA.retU ?_
  exact aE.ret tab Tryz.func29 rfl (eN () trivial)
 conv=>whnf
 refine ⟨fun mtD=>?_,fun mtD=>?_⟩<;>conv=>whnf
 rotate_left
 ·conv=>whnf
  (try refine gS ?_);conv=>whnf
  rw [no fun e=>mtD ((RcV.bare_iff.1 e).2.2.2.2.2.2.2.2.2.2.2.2.1)]
  try refine aA.retU ?_
  exact aE.ret tab Tryz.func29 rfl (eN () trivial)
 conv=>whnf
 refine ⟨fun mlead=>?_,fun mlead=>?_⟩<;>conv=>whnf
 rotate_left
 ·conv=>whnf
  (try refine gS ?_);conv=>whnf
  rw [no fun e=>mlead ((RcV.bare_iff.1 e).2.2.2.2.2.2.2.2.2.2.2.2.2.1)]
  try refine aA.retU ?_
  exact aE.ret tab Tryz.func29 rfl (eN () trivial)
 conv=>whnf
 refine ⟨fun minum=>?_,fun minum=>?_⟩<;>conv=>whnf
 rotate_left
 ·conv=>whnf
  (try refine gS ?_);conv=>whnf
  rw [no fun e=>minum ((RcV.bare_iff.1 e).2.2.2.2.2.2.2.2.2.2.2.2.2.2.2.1)]
  try refine aA.retU ?_
  exact aE.ret tab Tryz.func29 rfl (eN () trivial)
 conv=>whnf
 (try refine gS ?_);conv=>whnf
 have:r=decide (a.pnum=b.pnum):=by
  by_cases mp:a.pnum=b.pnum
  ·rw [decide_eq_true mp,hr]
   exact bL (RcV.bare_iff.2 ⟨mitem,mplant,mfr,mto,n2,n3,n4,mrwN,mrwD,myN,myD,mtN,mtD,mlead,hruns,minum,mp⟩)
  rw [decide_eq_false mp]
  exact no fun e=>mp (RcV.bare_iff.1 e).2.2.2.2.2.2.2.2.2.2.2.2.2.2.2.2
 rw [this]
 try refine aA.retU ?_
 exact aE.ret tab Tryz.func29 rfl (eN () trivial)
end Go.Proofs.YtgbeechjghajcaaGreatDoor

namespace Go.SrcM
open Go Go.Fw Go.RatM
theorem aJ.bare_mk {a b:aJ} (h1:a.units=b.units) (h2:a.items=b.items) (h3:a.plants=b.plants) (h4:a.machines=b.machines) (h5:a.options.map OpV.bare=b.options.map OpV.bare) (h6:a.forbids.map FbV.bare=b.forbids.map FbV.bare) (h7:a.recipes.map RcV.bare=b.recipes.map RcV.bare) (h8:a.swaps=b.swaps):a.bare=b.bare:=by
 unfold aJ.bare
 rw [h1,h2,h3,h4,h5,h6,h7,h8]
theorem aJ.of_bare {a b:aJ} (h:a.bare=b.bare):a.units=b.units∧a.items=b.items∧a.plants=b.plants∧a.machines=b.machines∧a.options.map OpV.bare=b.options.map OpV.bare∧a.forbids.map FbV.bare=b.forbids.map FbV.bare∧a.recipes.map RcV.bare=b.recipes.map RcV.bare∧a.swaps=b.swaps:=
 ⟨(congrArg aJ.units h :),(congrArg aJ.items h :),(congrArg aJ.plants h :),(congrArg aJ.machines h :),(congrArg aJ.options h :),(congrArg aJ.forbids h :),(congrArg aJ.recipes h :),(congrArg aJ.swaps h :)⟩
theorem xI {α β:Type} {f:α→β} {a b:List α} (h:a.map f=b.map f):a.length=b.length:=by
 have:=congrArg List.length h
 rwa [List.length_map,List.length_map] at this
theorem yZ {α β:Type} {f:α→β} {a b:List α} (h:a.map f=b.map f) {k:Nat} (ha:k<a.length) (hb:k<b.length):f a[k]=f b[k]:=by
 have:=pH h (k:=k) (by rwa [List.length_map]) (by rwa [List.length_map])
 rwa [List.getElem_map,List.getElem_map] at this
theorem xN {α β:Type} {f:α→β} {a b:List α} (h:a.length=b.length) (H:∀j (ha:j<a.length) (hb:j<b.length),f a[j]=f b[j]):a.map f=b.map f:=
 kM (by rw [List.length_map,List.length_map,h]) fun j h1 h2=>by
  rw [List.length_map] at h1 h2
  rw [List.getElem_map,List.getElem_map]
  exact H j h1 h2
theorem xE {α β:Type} {f:α→β} {a b:List α} {k:Nat} (ha:k<a.length) (hb:k<b.length) (H:∀j (_:j<k) (ha:j<a.length) (hb:j<b.length),f a[j]=f b[j]) (h:f a[k]=f b[k]):∀j (_:j<k+1) (ha:j<a.length) (hb:j<b.length),f a[j]=f b[j]:=
 fun j hj h1 h2=>(Nat.lt_succ_iff_lt_or_eq.1 hj).elim (fun hj=>H j hj h1 h2) (fun e=>by subst e;exact h)
theorem OpV.bare_iff {a b:OpV}:a.bare=b.bare↔a.name=b.name∧a.ch=b.ch:=by
 obtain ⟨_,_,_⟩:=a;obtain ⟨_,_,_⟩:=b;simp [OpV.bare]
theorem FbV.bare_iff {a b:FbV}:a.bare=b.bare↔a.cs=b.cs:=by
 obtain ⟨_,_⟩:=a;obtain ⟨_,_⟩:=b;simp [FbV.bare]
end Go.SrcM
namespace Go.Proofs.YtgbeechjghajcaaGreatDoor
open Go Go.Fw Go.NatM Go.RatM Go.SrcM
set_option maxRecDepth 100000
set_option maxHeartbeats 99999999
section
variable {vU vI vP vM vO vF vR vS wU wI wP wM wO wF wR wS:Value}
abbrev nT (vU vI vP vM vO vF vR vS wU wI wP wM wO wF wR wS:Value) (a b:aJ) (F:Nat→Prop) (h:Array Obj):Prop:=gX F h vU vI vP vM vO vF vR vS a∧gX F h wU wI wP wM wO wF wR wS b
theorem nT.tok (vU vI vP vM vO vF vR vS wU wI wP wM wO wF wR wS:Value) (a b:aJ):TOk (nT vU vI vP vM vO vF vR vS wU wI wP wM wO wF wR wS a b):=
 ⟨fun _ _ _ hs H=>⟨H.1.up ⟨hs,fun _ _=>rfl⟩,H.2.up ⟨hs,fun _ _=>rfl⟩⟩,fun _ _ _ H K=>⟨H.1.up ⟨fun _ x=>x,K.same⟩,H.2.up ⟨fun _ x=>x,K.same⟩⟩⟩
theorem sX (a b:aJ):FnT Tryz.prog (nT vU vI vP vM vO vF vR vS wU wI wP wM wO wF wR wS a b) 13 0 [sK vU vI vP vM vO vF vR vS,sK wU wI wP wM wO wF wR wS] [] (fun _:Unit=>True) (fun _=>.ret (.v (.bool (eqB a.bare b.bare))) 0 []):=by
 have laU:(fQ a.units).length=a.units.length:=by first|exact cB _|exact aG _ _
 have laI:(rws It.row a.items).length=a.items.length:=by first|exact cB _|exact aG _ _
 have laP:(jY a.plants).length=a.plants.length:=by first|exact cB _|exact aG _ _
 have laM:(rws Mc.row a.machines).length=a.machines.length:=by first|exact cB _|exact aG _ _
 have laO:(rws OpV.row a.options).length=a.options.length:=by first|exact cB _|exact aG _ _
 have laF:(rws FbV.row a.forbids).length=a.forbids.length:=by first|exact cB _|exact aG _ _
 have laR:(rws RcV.row a.recipes).length=a.recipes.length:=by first|exact cB _|exact aG _ _
 have laS:(rws Sw.row a.swaps).length=a.swaps.length:=by first|exact cB _|exact aG _ _
 have lbU:(fQ b.units).length=b.units.length:=by first|exact cB _|exact aG _ _
 have lbI:(rws It.row b.items).length=b.items.length:=by first|exact cB _|exact aG _ _
 have lbP:(jY b.plants).length=b.plants.length:=by first|exact cB _|exact aG _ _
 have lbM:(rws Mc.row b.machines).length=b.machines.length:=by first|exact cB _|exact aG _ _
 have lbO:(rws OpV.row b.options).length=b.options.length:=by first|exact cB _|exact aG _ _
 have lbF:(rws FbV.row b.forbids).length=b.forbids.length:=by first|exact cB _|exact aG _ _
 have lbR:(rws RcV.row b.recipes).length=b.recipes.length:=by first|exact cB _|exact aG _ _
 have lbS:(rws Sw.row b.swaps).length=b.swaps.length:=by first|exact cB _|exact aG _ _
 obtain ⟨r,hr⟩:∃r,r=eqB a.bare b.bare:=⟨_,rfl⟩
 rw [←hr]
 have no:¬a.bare=b.bare→r=false:=fun h=>by rw [hr];exact bH h
 refine FnT.of Tryz.func13 (by kernel_rfl) rfl Tryz.ntmps13 rfl fun E0 F h hT w0 cs=>?_
 have mU:=hT.1.U.len
 obtain ⟨aaU,caU,rfl⟩:=RoF.sli hT.1.U laU
 have mI:=hT.1.I.len
 obtain ⟨aaI,caI,rfl⟩:=RoF.sli hT.1.I laI
 have mM:=hT.1.M.len
 obtain ⟨aaM,caM,rfl⟩:=RoF.sli hT.1.M laM
 have mO:=hT.1.O.len
 obtain ⟨aaO,caO,rfl⟩:=RoF.sli hT.1.O laO
 have mF:=hT.1.F.len
 obtain ⟨aaF,caF,rfl⟩:=RoF.sli hT.1.F laF
 have mR:=hT.1.R.len
 obtain ⟨aaR,caR,rfl⟩:=RoF.sli hT.1.R laR
 have mS:=hT.1.S.len
 obtain ⟨aaS,caS,rfl⟩:=RoF.sli hT.1.S laS
 obtain ⟨abU,cbU,rfl⟩:=RoF.sli hT.2.U lbU
 obtain ⟨abI,cbI,rfl⟩:=RoF.sli hT.2.I lbI
 obtain ⟨abM,cbM,rfl⟩:=RoF.sli hT.2.M lbM
 obtain ⟨abO,cbO,rfl⟩:=RoF.sli hT.2.O lbO
 obtain ⟨abF,cbF,rfl⟩:=RoF.sli hT.2.F lbF
 obtain ⟨abR,cbR,rfl⟩:=RoF.sli hT.2.R lbR
 obtain ⟨abS,cbS,rfl⟩:=RoF.sli hT.2.S lbS
 conv=>whnf
 (try refine gS ?_);conv=>whnf
 refine ⟨fun hs=>?_,fun hs=>?_⟩<;>conv=>whnf
 rotate_left
 ·conv=>whnf
  (try refine gS ?_);conv=>whnf
  rw [no fun e=>hs (by rw [(aJ.of_bare e).1])]
  try refine aA.retU ?_
  exact aE.ret tab Tryz.func13 rfl (eN () trivial)
 conv=>whnf
 have nU:a.units.length=b.units.length:=by omega
 refine ⟨fun hs=>?_,fun hs=>?_⟩<;>conv=>whnf
 rotate_left
 ·conv=>whnf
  (try refine gS ?_);conv=>whnf
  rw [no fun e=>hs (by rw [(aJ.of_bare e).2.1])]
  try refine aA.retU ?_
  exact aE.ret tab Tryz.func13 rfl (eN () trivial)
 conv=>whnf
 have nI:a.items.length=b.items.length:=by omega
 refine aA.callT (Two.tok _ _ _ _ _) (⟨hT.1.P,hT.2.P⟩) (aHY vP wP a.plants b.plants) [] sH ?CNa1 ?_
 case CNa1=>rfl
 rintro _ _
 by_cases eP:a.plants=b.plants
 rotate_left
 ·rw [bH eP]
  conv=>whnf
  (try refine gS ?_);conv=>whnf
  rw [no fun e=>eP (aJ.of_bare e).2.2.1]
  try refine aA.retU ?_
  exact aE.ret tab Tryz.func13 rfl (eN () trivial)
 rw [bL eP]
 conv=>whnf
 (try refine gS ?_);conv=>whnf
 refine ⟨fun hs=>?_,fun hs=>?_⟩<;>conv=>whnf
 rotate_left
 ·conv=>whnf
  (try refine gS ?_);conv=>whnf
  rw [no fun e=>hs (by rw [(aJ.of_bare e).2.2.2.1])]
  try refine aA.retU ?_
  exact aE.ret tab Tryz.func13 rfl (eN () trivial)
 conv=>whnf
 have nM:a.machines.length=b.machines.length:=by omega
 refine ⟨fun hs=>?_,fun hs=>?_⟩<;>conv=>whnf
 rotate_left
 ·conv=>whnf
  (try refine gS ?_);conv=>whnf
  rw [no fun e=>hs (by rw [xI (aJ.of_bare e).2.2.2.2.1])]
  try refine aA.retU ?_
  exact aE.ret tab Tryz.func13 rfl (eN () trivial)
 conv=>whnf
 have nO:a.options.length=b.options.length:=by omega
 refine ⟨fun hs=>?_,fun hs=>?_⟩<;>conv=>whnf
 rotate_left
 ·conv=>whnf
  (try refine gS ?_);conv=>whnf
  rw [no fun e=>hs (by rw [xI (aJ.of_bare e).2.2.2.2.2.1])]
  try refine aA.retU ?_
  exact aE.ret tab Tryz.func13 rfl (eN () trivial)
 conv=>whnf
 have nF:a.forbids.length=b.forbids.length:=by omega
 refine ⟨fun hs=>?_,fun hs=>?_⟩<;>conv=>whnf
 rotate_left
 ·conv=>whnf
  (try refine gS ?_);conv=>whnf
  rw [no fun e=>hs (by rw [xI (aJ.of_bare e).2.2.2.2.2.2.1])]
  try refine aA.retU ?_
  exact aE.ret tab Tryz.func13 rfl (eN () trivial)
 conv=>whnf
 have nR:a.recipes.length=b.recipes.length:=by omega
 refine ⟨fun hs=>?_,fun hs=>?_⟩<;>conv=>whnf
 rotate_left
 ·conv=>whnf
  (try refine gS ?_);conv=>whnf
  rw [no fun e=>hs (by rw [(aJ.of_bare e).2.2.2.2.2.2.2])]
  try refine aA.retU ?_
  exact aE.ret tab Tryz.func13 rfl (eN () trivial)
 conv=>whnf
 have nS:a.swaps.length=b.swaps.length:=by omega
 refine aA.nameCell (fun _ x=>x) 0 0 (by exact hT.1.U) ?_
 conv=>whnf
 (try refine gS ?_);conv=>whnf
 refine aA.nameCell (fun _ x=>x) 1 0 (by exact hT.2.U) ?_
 conv=>whnf
 (try refine gS ?_);conv=>whnf
 refine aA.subR [] (aA.loop (fun (k:Nat)=>[(5,.v (.int .i64 k)),(2,.ptr 0 0),(3,.ptr 1 0)]) (fun (k:Nat)=>[(0,.cells 32 [.buf 2,.v (.slice aaI a.items.length caI),.v vP,.v (.slice aaM a.machines.length caM),.v (.slice aaO a.options.length caO),.v (.slice aaF a.forbids.length caF),.v (.slice aaR a.recipes.length caR),.v (.slice aaS a.swaps.length caS)]),(1,.cells 32 [.buf 3,.v (.slice abI b.items.length cbI),.v wP,.v (.slice abM b.machines.length cbM),.v (.slice abO b.options.length cbO),.v (.slice abF b.forbids.length cbF),.v (.slice abR b.recipes.length cbR),.v (.slice abS b.swaps.length cbS)]),(2,.ro 8 (fQ a.units)),(3,.ro 8 (fQ b.units))]) 4 (fun (k:Nat)=>k≤a.units.length ∧ ∀j (_:j<k) (ha:j<a.units.length) (hb:j<b.units.length),a.units[j]=b.units[j]) (fun (k:Nat)=>a.units.length - k) ?round2 (0) ?J02) sH sH
 case J02=>exact (⟨Nat.zero_le _,fun j hj=>absurd hj (Nat.not_lt_zero _)⟩)
 rintro k hJ back
 conv=>whnf
 refine gS ?_;conv=>whnf
 refine ⟨fun hk=>?_,fun hk=>?_⟩<;>conv=>whnf
 ·have hk:k<a.units.length:=by omega
  have hk2:k<b.units.length:=by omega
  conv=>whnf
  refine aA.held tab (.fl 0 (.fl 1 (.fl 2 (.fl 3 (.fl 4 (.fl 5 (.fl 6 (.fl 7 (.fl 8 (.fl 9 (.fl 10 .done))))))))))) (by kernel_rfl) ?_;conv=>whnf
  (try refine gR ?_);conv=>whnf
  repeat ((first|(guard_target=_∧_;(fail_if_success refine oF ?_ ?_);(first|refine oL ?_|refine oR ?_|refine oB ?_)));(try intro _);conv=>whnf)
  conv=>whnf
  refine ⟨_,sY hk,?_⟩;conv=>whnf
  try (refine And.intro (by first|omega|exact Nat.le_of_ble_eq_true rfl) ?_;(try intro _);conv=>whnf)
  conv=>whnf
  repeat ((first|(guard_target=_∧_;(fail_if_success refine oF ?_ ?_);(first|refine oL ?_|refine oR ?_|refine oB ?_)));(try intro _);conv=>whnf)
  conv=>whnf
  refine ⟨_,sY hk2,?_⟩;conv=>whnf
  try (refine And.intro (by first|omega|exact Nat.le_of_ble_eq_true rfl) ?_;(try intro _);conv=>whnf)
  conv=>whnf
  refine ⟨fun hs=>?_,fun hs=>?_⟩<;>conv=>whnf
  ·try refine gR ?_
   conv=>whnf
   (try refine gS ?_);conv=>whnf
   repeat ((first|(guard_target=_∧_;(fail_if_success refine oF ?_ ?_);(first|refine oL ?_|refine oR ?_)));(try intro _);conv=>whnf)
   refine aA.subR [] (back (k+1) (by exact (⟨hk,iL hk hk2 hJ.2 (Un.ext8_iff.2 hs)⟩)) (by (try dsimp only);omega)) sH sH
  (try refine gR ?_);conv=>whnf
  (try refine gS ?_);conv=>whnf
  rw [no fun e=>hs (Un.ext8_iff.1 (pH ((aJ.of_bare e).1) hk hk2))]
  try refine aA.retU ?_
  exact aE.ret tab Tryz.func13 rfl (eN () trivial)
 have eU:=kM nU fun j h1 h2=>hJ.2 j (by omega) h1 h2
 clear back hJ
 conv=>whnf
 refine aA.nameCell (fun _ x=>x) 0 1 (by exact hT.1.I) ?_
 conv=>whnf
 (try refine gS ?_);conv=>whnf
 refine aA.nameCell (fun _ x=>x) 1 1 (by exact hT.2.I) ?_
 conv=>whnf
 (try refine gS ?_);conv=>whnf
 refine aA.subR [] (aA.loop (fun (k:Nat)=>[(6,.v (.int .i64 k)),(2,.ptr 0 0),(3,.ptr 1 0)]) (fun (k:Nat)=>[(0,.cells 32 [.buf 2,.buf 4,.v vP,.v (.slice aaM a.machines.length caM),.v (.slice aaO a.options.length caO),.v (.slice aaF a.forbids.length caF),.v (.slice aaR a.recipes.length caR),.v (.slice aaS a.swaps.length caS)]),(1,.cells 32 [.buf 3,.buf 5,.v wP,.v (.slice abM b.machines.length cbM),.v (.slice abO b.options.length cbO),.v (.slice abF b.forbids.length cbF),.v (.slice abR b.recipes.length cbR),.v (.slice abS b.swaps.length cbS)]),(4,.ro 6 (rws It.row a.items)),(5,.ro 6 (rws It.row b.items))]) 6 (fun (k:Nat)=>k≤a.items.length ∧ ∀j (_:j<k) (ha:j<a.items.length) (hb:j<b.items.length),a.items[j]=b.items[j]) (fun (k:Nat)=>a.items.length - k) ?round4 (0) ?J04) sH sH
 case J04=>exact (⟨Nat.zero_le _,fun j hj=>absurd hj (Nat.not_lt_zero _)⟩)
 rintro k hJ back
 conv=>whnf
 refine gS ?_;conv=>whnf
 refine ⟨fun hk=>?_,fun hk=>?_⟩<;>conv=>whnf
 ·have hk:k<a.items.length:=by omega
  have hk2:k<b.items.length:=by omega
  conv=>whnf
  refine aA.held tab (.fl 0 (.fl 1 (.fl 2 (.fl 3 (.fl 4 (.fl 5 (.fl 6 (.fl 7 (.fl 8 (.fl 9 (.fl 10 .done))))))))))) (by kernel_rfl) ?_;conv=>whnf
  (try refine gR ?_);conv=>whnf
  repeat ((first|(guard_target=_∧_;(fail_if_success refine oF ?_ ?_);(first|refine oL ?_|refine oR ?_|refine oB ?_)));(try intro _);conv=>whnf)
  conv=>whnf
  refine ⟨_,aK hk,?_⟩;conv=>whnf
  try (refine And.intro (by first|omega|exact Nat.le_of_ble_eq_true rfl) ?_;(try intro _);conv=>whnf)
  conv=>whnf
  repeat ((first|(guard_target=_∧_;(fail_if_success refine oF ?_ ?_);(first|refine oL ?_|refine oR ?_|refine oB ?_)));(try intro _);conv=>whnf)
  conv=>whnf
  refine ⟨_,aK hk2,?_⟩;conv=>whnf
  try (refine And.intro (by first|omega|exact Nat.le_of_ble_eq_true rfl) ?_;(try intro _);conv=>whnf)
  conv=>whnf
  refine ⟨fun hs=>?_,fun hs=>?_⟩<;>conv=>whnf
  ·try refine gR ?_
   conv=>whnf
   (try refine gS ?_);conv=>whnf
   repeat ((first|(guard_target=_∧_;(fail_if_success refine oF ?_ ?_);(first|refine oL ?_|refine oR ?_)));(try intro _);conv=>whnf)
   refine aA.subR [] (back (k+1) (by exact (⟨hk,iL hk hk2 hJ.2 (It.ext_iff'.2 hs)⟩)) (by (try dsimp only);omega)) sH sH
  (try refine gR ?_);conv=>whnf
  (try refine gS ?_);conv=>whnf
  rw [no fun e=>hs (It.ext_iff'.1 (pH ((aJ.of_bare e).2.1) hk hk2))]
  try refine aA.retU ?_
  exact aE.ret tab Tryz.func13 rfl (eN () trivial)
 have eI:=kM nI fun j h1 h2=>hJ.2 j (by omega) h1 h2
 clear back hJ
 conv=>whnf
 refine aA.nameCell (fun _ x=>x) 0 3 (by exact hT.1.M) ?_
 conv=>whnf
 (try refine gS ?_);conv=>whnf
 refine aA.nameCell (fun _ x=>x) 1 3 (by exact hT.2.M) ?_
 conv=>whnf
 (try refine gS ?_);conv=>whnf
 refine aA.subR [] (aA.loop (fun (k:Nat)=>[(7,.v (.int .i64 k)),(2,.ptr 0 0),(3,.ptr 1 0)]) (fun (k:Nat)=>[(0,.cells 32 [.buf 2,.buf 4,.v vP,.buf 6,.v (.slice aaO a.options.length caO),.v (.slice aaF a.forbids.length caF),.v (.slice aaR a.recipes.length caR),.v (.slice aaS a.swaps.length caS)]),(1,.cells 32 [.buf 3,.buf 5,.v wP,.buf 7,.v (.slice abO b.options.length cbO),.v (.slice abF b.forbids.length cbF),.v (.slice abR b.recipes.length cbR),.v (.slice abS b.swaps.length cbS)]),(6,.ro 4 (rws Mc.row a.machines)),(7,.ro 4 (rws Mc.row b.machines))]) 8 (fun (k:Nat)=>k≤a.machines.length ∧ ∀j (_:j<k) (ha:j<a.machines.length) (hb:j<b.machines.length),a.machines[j]=b.machines[j]) (fun (k:Nat)=>a.machines.length - k) ?round6 (0) ?J06) sH sH
 case J06=>exact (⟨Nat.zero_le _,fun j hj=>absurd hj (Nat.not_lt_zero _)⟩)
 rintro k hJ back
 conv=>whnf
 refine gS ?_;conv=>whnf
 refine ⟨fun hk=>?_,fun hk=>?_⟩<;>conv=>whnf
 ·have hk:k<a.machines.length:=by omega
  have hk2:k<b.machines.length:=by omega
  conv=>whnf
  refine aA.held tab (.fl 0 (.fl 1 (.fl 2 (.fl 3 (.fl 4 (.fl 5 (.fl 6 (.fl 7 (.fl 8 (.fl 9 (.fl 10 .done))))))))))) (by kernel_rfl) ?_;conv=>whnf
  (try refine gR ?_);conv=>whnf
  repeat ((first|(guard_target=_∧_;(fail_if_success refine oF ?_ ?_);(first|refine oL ?_|refine oR ?_|refine oB ?_)));(try intro _);conv=>whnf)
  conv=>whnf
  refine ⟨_,aK hk,?_⟩;conv=>whnf
  try (refine And.intro (by first|omega|exact Nat.le_of_ble_eq_true rfl) ?_;(try intro _);conv=>whnf)
  conv=>whnf
  repeat ((first|(guard_target=_∧_;(fail_if_success refine oF ?_ ?_);(first|refine oL ?_|refine oR ?_|refine oB ?_)));(try intro _);conv=>whnf)
  conv=>whnf
  refine ⟨_,aK hk2,?_⟩;conv=>whnf
  try (refine And.intro (by first|omega|exact Nat.le_of_ble_eq_true rfl) ?_;(try intro _);conv=>whnf)
  conv=>whnf
  refine ⟨fun hs=>?_,fun hs=>?_⟩<;>conv=>whnf
  ·try refine gR ?_
   conv=>whnf
   (try refine gS ?_);conv=>whnf
   repeat ((first|(guard_target=_∧_;(fail_if_success refine oF ?_ ?_);(first|refine oL ?_|refine oR ?_)));(try intro _);conv=>whnf)
   refine aA.subR [] (back (k+1) (by exact (⟨hk,iL hk hk2 hJ.2 (Mc.ext_iff'.2 hs)⟩)) (by (try dsimp only);omega)) sH sH
  (try refine gR ?_);conv=>whnf
  (try refine gS ?_);conv=>whnf
  rw [no fun e=>hs (Mc.ext_iff'.1 (pH ((aJ.of_bare e).2.2.2.1) hk hk2))]
  try refine aA.retU ?_
  exact aE.ret tab Tryz.func13 rfl (eN () trivial)
 have eM:=kM nM fun j h1 h2=>hJ.2 j (by omega) h1 h2
 clear back hJ
 conv=>whnf
 refine aA.nameCell (fun _ x=>x) 0 4 (by exact hT.1.O) ?_
 conv=>whnf
 (try refine gS ?_);conv=>whnf
 refine aA.nameCell (fun _ x=>x) 1 4 (by exact hT.2.O) ?_
 conv=>whnf
 (try refine gS ?_);conv=>whnf
 refine aA.subR [] (aA.loop (fun (k:Nat)=>[(8,.v (.int .i64 k)),(2,.ptr 0 0),(3,.ptr 1 0)]) (fun (k:Nat)=>[(0,.cells 32 [.buf 2,.buf 4,.v vP,.buf 6,.buf 8,.v (.slice aaF a.forbids.length caF),.v (.slice aaR a.recipes.length caR),.v (.slice aaS a.swaps.length caS)]),(1,.cells 32 [.buf 3,.buf 5,.v wP,.buf 7,.buf 9,.v (.slice abF b.forbids.length cbF),.v (.slice abR b.recipes.length cbR),.v (.slice abS b.swaps.length cbS)]),(8,.ro 2 (rws OpV.row a.options)),(9,.ro 2 (rws OpV.row b.options))]) 10 (fun (k:Nat)=>k≤a.options.length ∧ ∀j (_:j<k) (ha:j<a.options.length) (hb:j<b.options.length),OpV.bare a.options[j]=OpV.bare b.options[j]) (fun (k:Nat)=>a.options.length - k) ?round8 (0) ?J08) sH sH
 case J08=>exact (⟨Nat.zero_le _,fun j hj=>absurd hj (Nat.not_lt_zero _)⟩)
 rintro k hJ back
 conv=>whnf
 refine gS ?_;conv=>whnf
 refine ⟨fun hk=>?_,fun hk=>?_⟩<;>conv=>whnf
 ·have hk:k<a.options.length:=by omega
  have hk2:k<b.options.length:=by omega
  conv=>whnf
  refine aA.held tab (.fl 0 (.fl 1 (.fl 2 (.fl 3 (.fl 4 (.fl 5 (.fl 6 (.fl 7 (.fl 8 (.fl 9 (.fl 10 (.fl 11 (.fl 12 (.fl 13 (.fl 14 (.fl 15 (.fl 16 (.fl 17 (.fl 18 (.fl 19 (.fl 20 (.fl 21 (.fl 22 (.fl 23 (.fl 24 (.fl 25 (.e1 26 [] (.fl 27 (.fl 28 .done))))))))))))))))))))))))))))) (by kernel_rfl) ?_;conv=>whnf
  (try refine gR ?_);conv=>whnf
  repeat ((first|(guard_target=_∧_;(fail_if_success refine oF ?_ ?_);(first|refine oL ?_|refine oR ?_|refine oB ?_)));(try intro _);conv=>whnf)
  conv=>whnf
  refine ⟨_,aK hk,?_⟩;conv=>whnf
  try (refine And.intro (by first|omega|exact Nat.le_of_ble_eq_true rfl) ?_;(try intro _);conv=>whnf)
  conv=>whnf
  refine ⟨_,aK hk2,?_⟩;conv=>whnf
  refine ⟨fun hs=>?_,fun hs=>?_⟩<;>conv=>whnf
  rotate_left
  ·try refine gR ?_
   conv=>whnf
   repeat ((first|(guard_target=_∧_;(fail_if_success refine oF ?_ ?_);(first|refine oL ?_|refine oR ?_|refine oB ?_)));(try intro _);conv=>whnf)
   (try refine gS ?_);conv=>whnf
   rw [no fun e=>hs (OpV.bare_iff.1 (yZ (aJ.of_bare e).2.2.2.2.1 hk hk2)).1]
   try refine aA.retU ?_
   exact aE.ret tab Tryz.func13 rfl (eN () trivial)
  (try refine gR ?_);conv=>whnf
  repeat ((first|(guard_target=_∧_;(fail_if_success refine oF ?_ ?_);(first|refine oL ?_|refine oR ?_|refine oB ?_)));(try intro _);conv=>whnf)
  conv=>whnf
  refine ⟨_,aK hk,?_⟩;conv=>whnf
  try (refine And.intro (by first|omega|exact Nat.le_of_ble_eq_true rfl) ?_;(try intro _);conv=>whnf)
  conv=>whnf
  refine ⟨_,aK hk2,?_⟩;conv=>whnf
  refine aV.callT (Two.tok _ _ _ _ _) (⟨hT.1.below.o _ (List.getElem_mem hk),hT.2.below.o _ (List.getElem_mem hk2)⟩) (aHY (a.options[k].hd.v a.options[k].ch.length) (b.options[k].hd.v b.options[k].ch.length) a.options[k].ch b.options[k].ch) [] ?_ sH ?CNa9
  case CNa9=>rfl
  intro _ _
  conv=>whnf
  try refine oB ?_
  (try refine gR ?_);conv=>whnf
  (try refine gS ?_);conv=>whnf
  by_cases hc:a.options[k].ch=b.options[k].ch
  ·rw [bL hc]
   conv=>whnf
   repeat ((first|(guard_target=_∧_;(fail_if_success refine oF ?_ ?_);(first|refine oL ?_|refine oR ?_)));(try intro _);conv=>whnf)
   refine aA.subR [] (back (k+1) (by exact (⟨hk,xE hk hk2 hJ.2 (OpV.bare_iff.2 ⟨hs,hc⟩)⟩)) (by (try dsimp only);omega)) sH sH
  rw [bH hc]
  conv=>whnf
  (try refine gS ?_);conv=>whnf
  rw [no fun e=>hc (OpV.bare_iff.1 (yZ (aJ.of_bare e).2.2.2.2.1 hk hk2)).2]
  try refine aA.retU ?_
  exact aE.ret tab Tryz.func13 rfl (eN () trivial)
 have eO:=xN nO fun j h1 h2=>hJ.2 j (by omega) h1 h2
 clear back hJ
 conv=>whnf
 refine aA.nameCell (fun _ x=>x) 0 5 (by exact hT.1.F) ?_
 conv=>whnf
 (try refine gS ?_);conv=>whnf
 refine aA.nameCell (fun _ x=>x) 1 5 (by exact hT.2.F) ?_
 conv=>whnf
 (try refine gS ?_);conv=>whnf
 refine aA.subR [] (aA.loop (fun (k:Nat)=>[(9,.v (.int .i64 k)),(2,.ptr 0 0),(3,.ptr 1 0)]) (fun (k:Nat)=>[(0,.cells 32 [.buf 2,.buf 4,.v vP,.buf 6,.buf 8,.buf 10,.v (.slice aaR a.recipes.length caR),.v (.slice aaS a.swaps.length caS)]),(1,.cells 32 [.buf 3,.buf 5,.v wP,.buf 7,.buf 9,.buf 11,.v (.slice abR b.recipes.length cbR),.v (.slice abS b.swaps.length cbS)]),(10,.ro 1 (rws FbV.row a.forbids)),(11,.ro 1 (rws FbV.row b.forbids))]) 12 (fun (k:Nat)=>k≤a.forbids.length ∧ ∀j (_:j<k) (ha:j<a.forbids.length) (hb:j<b.forbids.length),FbV.bare a.forbids[j]=FbV.bare b.forbids[j]) (fun (k:Nat)=>a.forbids.length - k) ?round11 (0) ?J011) sH sH
 case J011=>exact (⟨Nat.zero_le _,fun j hj=>absurd hj (Nat.not_lt_zero _)⟩)
 rintro k hJ back
 conv=>whnf
 refine gS ?_;conv=>whnf
 refine ⟨fun hk=>?_,fun hk=>?_⟩<;>conv=>whnf
 ·have hk:k<a.forbids.length:=by omega
  have hk2:k<b.forbids.length:=by omega
  conv=>whnf
  refine aA.held tab (.fl 0 (.fl 1 (.fl 2 (.fl 3 (.fl 4 (.fl 5 (.fl 6 (.fl 7 (.fl 8 (.fl 9 (.e1 10 [] (.fl 11 .done)))))))))))) (by kernel_rfl) ?_;conv=>whnf
  (try refine gR ?_);conv=>whnf
  repeat ((first|(guard_target=_∧_;(fail_if_success refine oF ?_ ?_);(first|refine oL ?_|refine oR ?_|refine oB ?_)));(try intro _);conv=>whnf)
  conv=>whnf
  refine ⟨_,aK hk,?_⟩;conv=>whnf
  try (refine And.intro (by first|omega|exact Nat.le_of_ble_eq_true rfl) ?_;(try intro _);conv=>whnf)
  conv=>whnf
  refine ⟨_,aK hk2,?_⟩;conv=>whnf
  refine aV.callT (Two.tok _ _ _ _ _) (⟨hT.1.below.f _ (List.getElem_mem hk),hT.2.below.f _ (List.getElem_mem hk2)⟩) (aJA (a.forbids[k].hd.v a.forbids[k].cs.length) (b.forbids[k].hd.v b.forbids[k].cs.length) a.forbids[k].cs b.forbids[k].cs) [] ?_ sH ?CNa12
  case CNa12=>rfl
  intro _ _
  conv=>whnf
  try refine oB ?_
  (try refine gR ?_);conv=>whnf
  (try refine gS ?_);conv=>whnf
  by_cases hc:a.forbids[k].cs=b.forbids[k].cs
  ·rw [bL hc]
   conv=>whnf
   repeat ((first|(guard_target=_∧_;(fail_if_success refine oF ?_ ?_);(first|refine oL ?_|refine oR ?_)));(try intro _);conv=>whnf)
   refine aA.subR [] (back (k+1) (by exact (⟨hk,xE hk hk2 hJ.2 (FbV.bare_iff.2 hc)⟩)) (by (try dsimp only);omega)) sH sH
  rw [bH hc]
  conv=>whnf
  (try refine gS ?_);conv=>whnf
  rw [no fun e=>hc (FbV.bare_iff.1 (yZ (aJ.of_bare e).2.2.2.2.2.1 hk hk2))]
  try refine aA.retU ?_
  exact aE.ret tab Tryz.func13 rfl (eN () trivial)
 have eF:=xN nF fun j h1 h2=>hJ.2 j (by omega) h1 h2
 clear back hJ
 conv=>whnf
 refine aA.nameCell (fun _ x=>x) 0 6 (by exact hT.1.R) ?_
 conv=>whnf
 (try refine gS ?_);conv=>whnf
 refine aA.nameCell (fun _ x=>x) 1 6 (by exact hT.2.R) ?_
 conv=>whnf
 (try refine gS ?_);conv=>whnf
 refine aA.subR [] (aA.loop (fun (k:Nat)=>[(10,.v (.int .i64 k)),(2,.ptr 0 0),(3,.ptr 1 0)]) (fun (k:Nat)=>[(0,.cells 32 [.buf 2,.buf 4,.v vP,.buf 6,.buf 8,.buf 10,.buf 12,.v (.slice aaS a.swaps.length caS)]),(1,.cells 32 [.buf 3,.buf 5,.v wP,.buf 7,.buf 9,.buf 11,.buf 13,.v (.slice abS b.swaps.length cbS)]),(12,.ro 17 (rws RcV.row a.recipes)),(13,.ro 17 (rws RcV.row b.recipes))]) 14 (fun (k:Nat)=>k≤a.recipes.length ∧ ∀j (_:j<k) (ha:j<a.recipes.length) (hb:j<b.recipes.length),RcV.bare a.recipes[j]=RcV.bare b.recipes[j]) (fun (k:Nat)=>a.recipes.length - k) ?round14 (0) ?J014) sH sH
 case J014=>exact (⟨Nat.zero_le _,fun j hj=>absurd hj (Nat.not_lt_zero _)⟩)
 rintro k hJ back
 conv=>whnf
 refine gS ?_;conv=>whnf
 refine ⟨fun hk=>?_,fun hk=>?_⟩<;>conv=>whnf
 ·have hk:k<a.recipes.length:=by omega
  have hk2:k<b.recipes.length:=by omega
  conv=>whnf
  refine aA.held tab (.fl 0 (.fl 1 (.fl 2 (.fl 3 (.fl 4 (.fl 5 (.fl 6 (.fl 7 (.fl 8 (.fl 9 (.e1 10 [] (.fl 11 .done)))))))))))) (by kernel_rfl) ?_;conv=>whnf
  (try refine gR ?_);conv=>whnf
  repeat ((first|(guard_target=_∧_;(fail_if_success refine oF ?_ ?_);(first|refine oL ?_|refine oR ?_|refine oB ?_)));(try intro _);conv=>whnf)
  conv=>whnf
  refine ⟨_,aK hk,?_⟩;conv=>whnf
  try (refine And.intro (by first|omega|exact Nat.le_of_ble_eq_true rfl) ?_;(try intro _);conv=>whnf)
  conv=>whnf
  repeat ((first|(guard_target=_∧_;(fail_if_success refine oF ?_ ?_);(first|refine oL ?_|refine oR ?_|refine oB ?_)));(try intro _);conv=>whnf)
  conv=>whnf
  refine ⟨_,aK hk2,?_⟩;conv=>whnf
  try (refine And.intro (by first|omega|exact Nat.le_of_ble_eq_true rfl) ?_;(try intro _);conv=>whnf)
  conv=>whnf
  refine aV.callT (TwoR.tok _ _) (⟨hT.1.below.r _ (List.getElem_mem hk),hT.2.below.r _ (List.getElem_mem hk2)⟩) (sRc_fn a.recipes[k] b.recipes[k]) [] ?_ sH ?CNa15
  case CNa15=>rfl
  intro _ _
  conv=>whnf
  try refine oB ?_
  (try refine gR ?_);conv=>whnf
  (try refine gS ?_);conv=>whnf
  by_cases hc:a.recipes[k].bare=b.recipes[k].bare
  ·rw [bL hc]
   conv=>whnf
   repeat ((first|(guard_target=_∧_;(fail_if_success refine oF ?_ ?_);(first|refine oL ?_|refine oR ?_)));(try intro _);conv=>whnf)
   refine aA.subR [] (back (k+1) (by exact (⟨hk,xE hk hk2 hJ.2 hc⟩)) (by (try dsimp only);omega)) sH sH
  rw [bH hc]
  conv=>whnf
  (try refine gS ?_);conv=>whnf
  rw [no fun e=>hc (yZ (aJ.of_bare e).2.2.2.2.2.2.1 hk hk2)]
  try refine aA.retU ?_
  exact aE.ret tab Tryz.func13 rfl (eN () trivial)
 have eR:=xN nR fun j h1 h2=>hJ.2 j (by omega) h1 h2
 clear back hJ
 conv=>whnf
 refine aA.nameCell (fun _ x=>x) 0 7 (by exact hT.1.S) ?_
 conv=>whnf
 (try refine gS ?_);conv=>whnf
 refine aA.nameCell (fun _ x=>x) 1 7 (by exact hT.2.S) ?_
 conv=>whnf
 (try refine gS ?_);conv=>whnf
 refine aA.subR [] (aA.loop (fun (k:Nat)=>[(11,.v (.int .i64 k)),(2,.ptr 0 0),(3,.ptr 1 0)]) (fun (k:Nat)=>[(0,.cells 32 [.buf 2,.buf 4,.v vP,.buf 6,.buf 8,.buf 10,.buf 12,.buf 14]),(1,.cells 32 [.buf 3,.buf 5,.v wP,.buf 7,.buf 9,.buf 11,.buf 13,.buf 15]),(14,.ro 4 (rws Sw.row a.swaps)),(15,.ro 4 (rws Sw.row b.swaps))]) 16 (fun (k:Nat)=>k≤a.swaps.length ∧ ∀j (_:j<k) (ha:j<a.swaps.length) (hb:j<b.swaps.length),a.swaps[j]=b.swaps[j]) (fun (k:Nat)=>a.swaps.length - k) ?round17 (0) ?J017) sH sH
 case J017=>exact (⟨Nat.zero_le _,fun j hj=>absurd hj (Nat.not_lt_zero _)⟩)
 rintro k hJ back
 conv=>whnf
 refine gS ?_;conv=>whnf
 refine ⟨fun hk=>?_,fun hk=>?_⟩<;>conv=>whnf
 ·have hk:k<a.swaps.length:=by omega
  have hk2:k<b.swaps.length:=by omega
  conv=>whnf
  refine aA.held tab (.fl 0 (.fl 1 (.fl 2 (.fl 3 (.fl 4 (.fl 5 (.fl 6 (.fl 7 (.fl 8 (.fl 9 (.fl 10 .done))))))))))) (by kernel_rfl) ?_;conv=>whnf
  (try refine gR ?_);conv=>whnf
  repeat ((first|(guard_target=_∧_;(fail_if_success refine oF ?_ ?_);(first|refine oL ?_|refine oR ?_|refine oB ?_)));(try intro _);conv=>whnf)
  conv=>whnf
  refine ⟨_,aK hk,?_⟩;conv=>whnf
  try (refine And.intro (by first|omega|exact Nat.le_of_ble_eq_true rfl) ?_;(try intro _);conv=>whnf)
  conv=>whnf
  repeat ((first|(guard_target=_∧_;(fail_if_success refine oF ?_ ?_);(first|refine oL ?_|refine oR ?_|refine oB ?_)));(try intro _);conv=>whnf)
  conv=>whnf
  refine ⟨_,aK hk2,?_⟩;conv=>whnf
  try (refine And.intro (by first|omega|exact Nat.le_of_ble_eq_true rfl) ?_;(try intro _);conv=>whnf)
  conv=>whnf
  refine ⟨fun hs=>?_,fun hs=>?_⟩<;>conv=>whnf
  ·try refine gR ?_
   conv=>whnf
   (try refine gS ?_);conv=>whnf
   repeat ((first|(guard_target=_∧_;(fail_if_success refine oF ?_ ?_);(first|refine oL ?_|refine oR ?_)));(try intro _);conv=>whnf)
   refine aA.subR [] (back (k+1) (by exact (⟨hk,iL hk hk2 hJ.2 (Sw.ext_iff'.2 hs)⟩)) (by (try dsimp only);omega)) sH sH
  (try refine gR ?_);conv=>whnf
  (try refine gS ?_);conv=>whnf
  rw [no fun e=>hs (Sw.ext_iff'.1 (pH ((aJ.of_bare e).2.2.2.2.2.2.2) hk hk2))]
  try refine aA.retU ?_
  exact aE.ret tab Tryz.func13 rfl (eN () trivial)
 have eS:=kM nS fun j h1 h2=>hJ.2 j (by omega) h1 h2
 clear back hJ
 conv=>whnf
 have:r=true:=by rw [hr];exact bL (aJ.bare_mk eU eI eP eM eO eF eR eS)
 rw [this]
 try refine aA.retU ?_
 exact aE.ret tab Tryz.func13 rfl (eN () trivial)
end
end Go.Proofs.YtgbeechjghajcaaGreatDoor

namespace Go.SrcM
open Go Go.Fw Go.RatM
section
variable {α:Type} {f:α→Nat} {l:List α}
def oH (f:α→Nat) (l:List α) (k:Nat):Nat:=((l.take k).map f).sum
theorem aBG:oH f l 0=0:=rfl
theorem iR {k:Nat} (hk:k<l.length):oH f l (k+1)=oH f l k+f l[k]:=by
 unfold oH
 rw [dC hk,List.map_append,List.sum_append];simp
theorem aGC:oH f l l.length=(l.map f).sum:=by unfold oH;rw [List.take_length]
theorem mZ (k:Nat):oH f l k≤(l.map f).sum:=by
 have e:(l.map f).sum=((l.take k).map f).sum+((l.drop k).map f).sum:=by rw [←List.sum_append,←List.map_append,List.take_append_drop]
 unfold oH;omega
theorem aGJ {a:α} (h:a∈l):f a≤(l.map f).sum:=by
 induction l with
 |nil=>cases h
 |cons b l ih=>
  rcases List.mem_cons.1 h with rfl|h
  ·simp
  have:=ih h;simp;omega
theorem aGA:l.length≤(l.map fun a=>1+f a).sum:=by
 induction l with
 |nil=>exact Nat.zero_le _
 |cons b l ih=>simp only [List.map_cons,List.sum_cons,List.length_cons];omega
end
abbrev fwO (o:OpV):Nat:=1+o.ch.length
abbrev fwF (o:FbV):Nat:=1+o.cs.length
abbrev fwR (r:RcV):Nat:=1+(r.cs.length+r.inn.length+r.out.length+r.runs.length)
def fewN (s:aJ):Nat:=s.units.length+s.items.length+s.plants.length+s.machines.length+s.swaps.length+(s.options.map fwO).sum+(s.forbids.map fwF).sum+(s.recipes.map fwR).sum
theorem aTL {s:aJ} {n:Nat} (h:fewN s≤n) (hn:n≤1000000):Lens s:=by
 unfold fewN at h
 have h1:s.options.length≤(s.options.map fwO).sum:=aGA (f:=fun o:OpV=>o.ch.length)
 have h2:s.forbids.length≤(s.forbids.map fwF).sum:=aGA (f:=fun o:FbV=>o.cs.length)
 have h3:s.recipes.length≤(s.recipes.map fwR).sum:=aGA (f:=fun r:RcV=>r.cs.length+r.inn.length+r.out.length+r.runs.length)
 have g1:∀a∈s.options,fwO a≤(s.options.map fwO).sum:=fun a ha=>aGJ (f:=fwO) ha
 have g2:∀a∈s.forbids,fwF a≤(s.forbids.map fwF).sum:=fun a ha=>aGJ (f:=fwF) ha
 have g3:∀a∈s.recipes,fwR a≤(s.recipes.map fwR).sum:=fun a ha=>aGJ (f:=fwR) ha
 exact ⟨by omega,by omega,by omega,by omega,by omega,by omega,by omega,by omega,fun a ha=>by have:=g1 a ha;simp only [fwO] at this;omega,fun a ha=>by have:=g2 a ha;simp only [fwF] at this;omega,
  fun a ha=>by have:=g3 a ha;simp only [fwR] at this;exact ⟨by omega,by omega,by omega,by omega⟩⟩
end Go.SrcM
namespace Go.Proofs.YtgbeechjghajcaaGreatDoor
open Go Go.Fw Go.NatM Go.RatM Go.SrcM
set_option maxRecDepth 100000
set_option maxHeartbeats 99999999
section
variable {vU vI vP vM vO vF vR vS:Value}
theorem aRQ (s:aJ) (hB:fewN s≤4000000000000000000):FnT Tryz.prog (TopT vU vI vP vM vO vF vR vS s) 14 0 [sK vU vI vP vM vO vF vR vS] [] (fun _:Unit=>True) (fun _=>.ret (.v (.bool (decide (fewN s≤160)))) 0 []):=by
 obtain ⟨oS,hoS⟩:∃x,x=(s.options.map fwO).sum:=⟨_,rfl⟩
 obtain ⟨fS,hfS⟩:∃x,x=(s.forbids.map fwF).sum:=⟨_,rfl⟩
 obtain ⟨rS,hrS⟩:∃x,x=(s.recipes.map fwR).sum:=⟨_,rfl⟩
 have hE:fewN s=s.units.length+s.items.length+s.plants.length+s.machines.length+s.swaps.length+oS+fS+rS:=by rw [hoS,hfS,hrS];rfl
 obtain ⟨r,hr⟩:∃r,r=decide (fewN s≤160):=⟨_,rfl⟩
 rw [←hr]
 rw [hE] at hr hB
 have lO:=aG OpV.row s.options
 have lF:=aG FbV.row s.forbids
 have lR:=aG RcV.row s.recipes
 refine FnT.of Tryz.func14 (by kernel_rfl) rfl Tryz.ntmps14 rfl fun E0 F h hT w0 cs=>?_
 have hTb:=hT.below
 obtain ⟨aU,cU,rfl⟩:=RoF.sli hT.U (cB s.units)
 obtain ⟨aI,cI,rfl⟩:=RoF.sli hT.I (aG It.row s.items)
 obtain ⟨aP,cP,rfl⟩:=RoF.sli hT.P (pG s.plants)
 obtain ⟨aM,cM,rfl⟩:=RoF.sli hT.M (aG Mc.row s.machines)
 obtain ⟨aS,cS,rfl⟩:=RoF.sli hT.S (aG Sw.row s.swaps)
 have mO:=hT.O.len
 have mF:=hT.F.len
 have mR:=hT.R.len
 conv=>whnf
 (try refine gS ?_);conv=>whnf
 repeat ((first|refine oL ?_|refine oR ?_);(try intro _);conv=>whnf)
 refine aA.nameCell (fun _ x=>x) 0 4 (by exact hT.O) ?_
 conv=>whnf
 (try refine gS ?_);conv=>whnf
 obtain ⟨b,hb⟩:∃b:Nat,b=s.units.length+s.items.length+s.plants.length+s.machines.length+s.swaps.length:=⟨_,rfl⟩
 refine aA.subR [] (aA.loop (fun (⟨k,n⟩:Nat×Int)=>[(3,.v (.int .i64 n)),(4,.v (.int .i64 k)),(1,.ptr 0 0)]) (fun (⟨k,n⟩:Nat×Int)=>[(0,.cells 32 [.v (.slice aU s.units.length cU),.v (.slice aI s.items.length cI),.v (.slice aP s.plants.length cP),.v (.slice aM s.machines.length cM),.buf 1,.v vF,.v vR,.v (.slice aS s.swaps.length cS)]),(1,.ro 2 (rws OpV.row s.options))]) 2 (fun (⟨k,n⟩:Nat×Int)=>k≤s.options.length∧n=(b+oH fwO s.options k:Nat)) (fun (⟨k,n⟩:Nat×Int)=>s.options.length - k) ?round1 ((0,(s.units.length:Int)+s.items.length+s.plants.length+s.machines.length+s.swaps.length)) ?J01) sH sH
 case J01=>exact (⟨Nat.zero_le _,by rw [aBG];omega⟩)
 rintro ⟨k,n⟩ hJ back
 try dsimp only at hJ back
 conv=>whnf
 try dsimp only
 refine gS ?_;conv=>whnf
 refine ⟨fun hk=>?_,fun hk=>?_⟩<;>conv=>whnf
 ·have hk:k<s.options.length:=by omega
  have hs1:=iR (f:=fwO) hk
  have hs2:=mZ (f:=fwO) (l:=s.options) (k+1)
  simp only [fwO] at hs1
  conv=>whnf
  repeat ((first|refine oL ?_|refine oR ?_);(try intro _);conv=>whnf)
  refine ⟨_,aK hk,?_⟩;conv=>whnf
  try (refine oN ?_;conv=>whnf)
  repeat ((first|refine oL ?_|refine oR ?_);(try intro _);conv=>whnf)
  refine aA.subR [] (back ((k+1,n+1+s.options[k].ch.length)) (by exact (⟨hk,by dsimp only;rw [hs1];omega⟩)) (by (try dsimp only);omega)) sH sH
 have hn:=hJ.2
 have hk:k=s.options.length:=by omega
 rw [hk,aGC,←hoS] at hn
 clear back hJ
 conv=>whnf
 refine aA.nameCell (fun _ x=>x) 0 5 (by exact hT.F) ?_
 conv=>whnf
 (try refine gS ?_);conv=>whnf
 clear hk
 refine aA.subR [] (aA.loop (fun (⟨k,m⟩:Nat×Int)=>[(3,.v (.int .i64 m)),(5,.v (.int .i64 k)),(1,.ptr 0 0)]) (fun (⟨k,m⟩:Nat×Int)=>[(0,.cells 32 [.v (.slice aU s.units.length cU),.v (.slice aI s.items.length cI),.v (.slice aP s.plants.length cP),.v (.slice aM s.machines.length cM),.buf 1,.buf 2,.v vR,.v (.slice aS s.swaps.length cS)]),(2,.ro 1 (rws FbV.row s.forbids))]) 3 (fun (⟨k,m⟩:Nat×Int)=>k≤s.forbids.length∧m=(b+oS+oH fwF s.forbids k:Nat)) (fun (⟨k,m⟩:Nat×Int)=>s.forbids.length - k) ?round3 ((0,n)) ?J03) sH sH
 case J03=>exact (⟨Nat.zero_le _,by rw [aBG];omega⟩)
 rintro ⟨k,m⟩ hJ back
 try dsimp only at hJ back
 conv=>whnf
 try dsimp only
 refine gS ?_;conv=>whnf
 refine ⟨fun hk=>?_,fun hk=>?_⟩<;>conv=>whnf
 ·have hk:k<s.forbids.length:=by omega
  have hs1:=iR (f:=fwF) hk
  have hs2:=mZ (f:=fwF) (l:=s.forbids) (k+1)
  simp only [fwF] at hs1
  conv=>whnf
  repeat ((first|refine oL ?_|refine oR ?_);(try intro _);conv=>whnf)
  refine ⟨_,aK hk,?_⟩;conv=>whnf
  try (refine oN ?_;conv=>whnf)
  repeat ((first|refine oL ?_|refine oR ?_);(try intro _);conv=>whnf)
  refine aA.subR [] (back ((k+1,m+1+s.forbids[k].cs.length)) (by exact (⟨hk,by dsimp only;rw [hs1];omega⟩)) (by (try dsimp only);omega)) sH sH
 have hm:=hJ.2
 have hk:k=s.forbids.length:=by omega
 rw [hk,aGC,←hfS] at hm
 clear back hJ
 conv=>whnf
 refine aA.nameCell (fun _ x=>x) 0 6 (by exact hT.R) ?_
 conv=>whnf
 (try refine gS ?_);conv=>whnf
 clear hk
 refine aA.subR [] (aA.loop (fun (⟨k,q⟩:Nat×Int)=>[(3,.v (.int .i64 q)),(6,.v (.int .i64 k)),(1,.ptr 0 0)]) (fun (⟨k,q⟩:Nat×Int)=>[(0,.cells 32 [.v (.slice aU s.units.length cU),.v (.slice aI s.items.length cI),.v (.slice aP s.plants.length cP),.v (.slice aM s.machines.length cM),.buf 1,.buf 2,.buf 3,.v (.slice aS s.swaps.length cS)]),(3,.ro 17 (rws RcV.row s.recipes))]) 4 (fun (⟨k,q⟩:Nat×Int)=>k≤s.recipes.length∧q=(b+oS+fS+oH fwR s.recipes k:Nat)) (fun (⟨k,q⟩:Nat×Int)=>s.recipes.length - k) ?round5 ((0,m)) ?J05) sH sH
 case J05=>exact (⟨Nat.zero_le _,by rw [aBG];omega⟩)
 rintro ⟨k,q⟩ hJ back
 try dsimp only at hJ back
 conv=>whnf
 try dsimp only
 refine gS ?_;conv=>whnf
 refine ⟨fun hk=>?_,fun hk=>?_⟩<;>conv=>whnf
 ·have hk:k<s.recipes.length:=by omega
  have hs1:=iR (f:=fwR) hk
  have hs2:=mZ (f:=fwR) (l:=s.recipes) (k+1)
  simp only [fwR] at hs1
  conv=>whnf
  repeat ((first|refine oL ?_|refine oR ?_);(try intro _);conv=>whnf)
  refine ⟨_,aK hk,?_⟩;conv=>whnf
  try (refine oN ?_;conv=>whnf)
  repeat ((first|refine oL ?_|refine oR ?_);(try intro _);conv=>whnf)
  refine aA.subR [] (back ((k+1,q+1+s.recipes[k].cs.length+s.recipes[k].inn.length+s.recipes[k].out.length+s.recipes[k].runs.length)) (by exact (⟨hk,by dsimp only;rw [hs1];omega⟩)) (by (try dsimp only);omega)) sH sH
 have hq:=hJ.2
 have hk:k=s.recipes.length:=by omega
 rw [hk,aGC,←hrS] at hq
 clear back hJ
 conv=>whnf
 have:r=decide (q≤160):=by rw [hr];exact decide_eq_decide.2 ⟨fun h=>by omega,fun h=>by omega⟩
 rw [this]
 try refine aA.retU ?_
 exact aE.ret tab Tryz.func14 rfl (eN () trivial)
end
end Go.Proofs.YtgbeechjghajcaaGreatDoor

namespace Go.Proofs.YtgbeechjghajcaaGreatDoor
open Go Go.Fw Go.NatM Go.RatM Go.SrcM Go.SynM
set_option maxRecDepth 100000
set_option maxHeartbeats 99999999
def uH:Pt→List Value
 | .w l=>[.iface 157 (.string (B l))]
 | .s x=>[.iface 9 (.string x)]
 | .n i=>[.iface 3 (.int .i64 i)]
abbrev Ac:=List Tok×Bool
def acc (x:Ac) (p:Pr):Ac:=(x.1++iW NmP p.l,x.2 || !(nN NmP p.l&&p.ok))
theorem bD (x:Ac) (p q:Pr):acc (acc x p) q=acc x (p.add q):=by
 unfold acc Pr.add
 simp only [jP,List.append_assoc,Prod.mk.injEq,true_and]
 have:nN NmP (p.l++q.l)=(nN NmP p.l&&nN NmP q.l):=by simp [nN]
 rw [this]
 cases x.2<;>cases nN NmP p.l<;>cases nN NmP q.l<;>cases p.ok<;>cases q.ok<;>rfl
theorem jB (x:Ac):acc x Pr.nil=x:=by
 unfold acc Pr.nil
 simp [iW,nN]
abbrev prB (b:Bool) (n:Nat):Nat×Fw.Blk:=(0,.cells 91 [.buf n,.v (.bool b)])
def aOH (n:Nat) (y:Ac):gK:=.ret (.tup []) (n+1) [prB y.2 n,aZ y.1 n]
theorem wordT:Tryz.prog.underlying 157=some .string:=by kernel_rfl
theorem intT:Tryz.prog.underlying 3=some (.int .i64):=by kernel_rfl
theorem wordZ (w:World):(zeroValue 157).run Tryz.prog w=.ok (.string ⟨#[]⟩) w:=by kernel_rfl
theorem strZ (w:World):(zeroValue 9).run Tryz.prog w=.ok (.string ⟨#[]⟩) w:=by kernel_rfl
theorem stT2:Tryz.prog.underlying 9=some .string:=by kernel_rfl
theorem aW (x:Ac) (p:Pr):(acc x p).1.length=x.1.length+p.l.length:=by simp [acc,iW]
theorem gA {x:Ac} {p q:Pr} (h1:p.l=q.l) (h2:p.ok=q.ok):acc x p=acc x q:=by unfold acc;rw [h1,h2]
theorem sV (x:Ac) (b:Bool):(x.1,x.2 || !b)=acc x ⟨[],b⟩:=by simp [acc,iW,nN]
theorem iV (x:Ac) (c:Bool):FnS Tryz.prog 146 2 [.ptr 0 0,.v (.bool c)] [prB x.2 1,aZ x.1 1] (fun y=>y=acc x ⟨[],c⟩) (fun y=>.ret (.tup []) 2 [prB y.2 1,aZ y.1 1]):=by
 obtain ⟨x,b⟩:=x
 refine FnS.of Tryz.func146 (by kernel_rfl) rfl Tryz.ntmps146 rfl fun E0 F h w0 cs=>?_
 conv=>whnf
 refine gS ?_;conv=>whnf
 cases b
 ·cases c
  ·try refine gS ?_
   conv=>whnf
   try refine aA.finU ?_
   exact aE.ret tab Tryz.func146 rfl (aL.mk ((x,true)) (sV (x,false) false) [] sH rfl rfl (aY rfl rfl))
  (try refine gS ?_);conv=>whnf
  try refine aA.finU ?_
  exact aE.ret tab Tryz.func146 rfl (aL.mk ((x,false)) (sV (x,false) true) [] sH rfl rfl (aY rfl rfl))
 (try refine gS ?_);conv=>whnf
 try refine aA.finU ?_
 exact aE.ret tab Tryz.func146 rfl (aL.mk ((x,true)) (sV (x,true) c) [] sH rfl rfl (aY rfl rfl))
theorem bY (x:Ac) (ps:List Pt) (hl:x.1.length+ps.length≤1000000):FnS Tryz.prog 93 3 [.ptr 0 0,.buf 2] [prB x.2 1,aZ x.1 1,(2,.own 20 1 (rws uH ps))] (fun y=>y=acc x ⟨ps,true⟩) (aOH 3):=by
 have lp:=aG uH ps
 refine FnS.of Tryz.func93 (by kernel_rfl) rfl Tryz.ntmps93 rfl fun E0 F h w0 cs=>?_
 conv=>whnf
 refine gS ?_;conv=>whnf
 refine aA.subR (nx':=4) (l':=[(0,.ptr 0 0),(10,.buf 2),(11,.v (.int .i64 (rws uH ps).length)),(12,.v (.int .i64 0))]) (H':=[prB x.2 3,aZ x.1 3,(2,.own 20 1 (rws uH ps))]) [(3,1)] ?_ sH sH
 refine aA.subR [] (aA.loop (fun (⟨i,y⟩:Nat×Ac)=>[(0,.ptr 0 0),(10,.buf 2),(11,.v (.int .i64 (rws uH ps).length)),(12,.v (.int .i64 i))]) (fun (⟨i,y⟩:Nat×Ac)=>[prB y.2 3,aZ y.1 3,(2,.own 20 1 (rws uH ps))]) 4 (fun (⟨i,y⟩:Nat×Ac)=>i≤ps.length∧y=acc x ⟨ps.take i,true⟩) (fun (⟨i,y⟩:Nat×Ac)=>ps.length - i) ?round1 ((0,x)) ?J01) sH sH
 case J01=>exact (⟨Nat.zero_le _,(jB x).symm⟩)
 rintro ⟨i,y⟩ hJ back
 try dsimp only at hJ back
 conv=>whnf
 try dsimp only
 refine gS ?_;conv=>whnf
 obtain ⟨hi,hJ⟩:=hJ
 refine ⟨fun hk=>?_,fun hk=>?_⟩<;>conv=>whnf
 ·have hk:i<ps.length:=by omega
  conv=>whnf
  repeat ((first|(guard_target=_∧_;(first|refine oL ?_|refine oR ?_))|(guard_target=Exists _;refine oM ?_));(try intro _);conv=>whnf)
  refine ⟨_,aK hk,?_⟩;conv=>whnf
  have hd:ps.take (i+1)=ps.take i++[ps[i]]:=by rw [List.take_add_one,List.getElem?_eq_getElem hk];rfl
  have hy:∀p,p=ps[i]→acc x ⟨ps.take (i+1),true⟩=(y.1++[p.tok NmP],y.2 || !(p.ok NmP)):=fun p hp=>by
   subst hp
   rw [hJ,hd]
   exact (bD x ⟨ps.take i,true⟩ ⟨[ps[i]],true⟩).symm.trans (by simp [acc,iW,nN])
  have hm:y.1.length+1≤1000000:=by
   rw [hJ]
   simp only [acc,iW,List.length_append,List.length_map,List.length_take]
   omega
  cases hp:ps[i] with
  |w t=>
   have hy:=hy _ hp.symm
   conv=>whnf
   refine aA.effV (fun E h=>qS wordT (fun _ e=>by cases e)) ?_
   (try refine gS ?_);conv=>whnf
   by_cases hn:uJ (B t)
   ·refine aA.callV (fun Ez Hz Az Sz K=>zO (B t)) ?_
    conv=>whnf
    rw [decide_eq_true hn]
    (try refine gS ?_);conv=>whnf
    refine And.intro (gG (by rw [List.length_map];omega)) ?_;conv=>whnf
    repeat ((first|(guard_target=_∧_;(first|refine oL ?_|refine oR ?_))|(guard_target=Exists _;refine oM ?_));(try intro _);conv=>whnf)
    refine aA.rowsEq (5) (oX y.1 1 0 (B t) 0) ?_;conv=>whnf
    refine aA.subR [(3,5)] (back ((i+1,(y.1++[⟨1,0,B t,0⟩],y.2))) (by exact (⟨hk,(by rw [hy];show _=(y.1++[(⟨if NmP (B t) then 1 else 3,0,B t,0⟩:Tok)],y.2 || !true);rw [if_pos (show NmP (B t) from hn)];simp)⟩)) (by (try dsimp only);omega)) sH sH
   refine aA.callV (fun Ez Hz Az Sz K=>zO (B t)) ?_
   conv=>whnf
   rw [decide_eq_false hn]
   (try refine gS ?_);conv=>whnf
   refine And.intro (gG (by rw [List.length_map];omega)) ?_;conv=>whnf
   repeat ((first|(guard_target=_∧_;(first|refine oL ?_|refine oR ?_))|(guard_target=Exists _;refine oM ?_));(try intro _);conv=>whnf)
   refine aA.rowsEq (5) (oX y.1 3 0 (B t) 0) ?_;conv=>whnf
   refine aA.subR [(3,5)] (back ((i+1,(y.1++[⟨3,0,B t,0⟩],y.2))) (by exact (⟨hk,(by rw [hy];show _=(y.1++[(⟨if NmP (B t) then 1 else 3,0,B t,0⟩:Tok)],y.2 || !true);rw [if_neg (show ¬NmP (B t) from hn)];simp)⟩)) (by (try dsimp only);omega)) sH sH
  |s t=>
   have hy:=hy _ hp.symm
   conv=>whnf
   refine aA.effV (fun E h=>tR wordT (fun _ e=>by cases e) wordZ (t':=9) (by decide)) ?_
   (try refine gS ?_);conv=>whnf
   refine aA.effV (fun E h=>qS stT2 (fun _ e=>by cases e)) ?_
   (try refine gS ?_);conv=>whnf
   refine aA.callV (fun Ez Hz Az Sz K=>zO t) ?_
   conv=>whnf
   (try refine gS ?_);conv=>whnf
   refine aA.callN (iV y (decide (uJ t))) [0,3] ?_ sH ?CNa4
   case CNa4=>rfl
   rintro z hz<;>conv=>whnf
   have lz:z.1.length=y.1.length:=by rw [hz,aW];rfl
   refine aA.subR (nx':=4) (l':=[(0,.ptr 0 0),(10,.buf 2),(11,.v (.int .i64 (rws uH ps).length)),(12,.v (.int .i64 i)),(8,.v (.string t))]) (H':=[prB z.2 3,aZ z.1 3,(2,.own 20 1 (rws uH ps))]) [] ?_ sH sH
   (try refine gS ?_);conv=>whnf
   rw [←sV] at hz
   have z1:z.1=y.1:=by rw [hz]
   refine And.intro (gG (by rw [List.length_map,z1];omega)) ?_;conv=>whnf
   repeat ((first|(guard_target=_∧_;(first|refine oL ?_|refine oR ?_))|(guard_target=Exists _;refine oM ?_));(try intro _);conv=>whnf)
   refine aA.rowsEq (5) (oX z.1 1 0 t 0) ?_;conv=>whnf
   refine aA.subR [(3,5)] (back ((i+1,(z.1++[⟨1,0,t,0⟩],z.2))) (by exact (⟨hk,by rw [hy,hz];rfl⟩)) (by (try dsimp only);omega)) sH sH
  |n t=>
   have hy:=hy _ hp.symm
   conv=>whnf
   refine aA.effV (fun E h=>tR wordT (fun _ e=>by cases e) wordZ (t':=3) (by decide)) ?_
   (try refine gS ?_);conv=>whnf
   refine aA.effV (fun E h=>tR stT2 (fun _ e=>by cases e) strZ (t':=3) (by decide)) ?_
   (try refine gS ?_);conv=>whnf
   refine aA.effV (fun E h=>qS intT (fun _ e=>by cases e)) ?_
   (try refine gS ?_);conv=>whnf
   by_cases h0:0≤t
   ·refine ⟨fun _=>?_,fun h=>absurd h0 h⟩
    conv=>whnf
    (try refine gS ?_);conv=>whnf
    refine aA.callN (iV y (decide (t≤1048576))) [0,3] ?_ sH ?CNa6
    case CNa6=>rfl
    rintro z hz<;>conv=>whnf
    have lz:z.1.length=y.1.length:=by rw [hz,aW];rfl
    refine aA.subR (nx':=4) (l':=[(0,.ptr 0 0),(10,.buf 2),(11,.v (.int .i64 (rws uH ps).length)),(12,.v (.int .i64 i)),(9,.v (.int .i64 t))]) (H':=[prB z.2 3,aZ z.1 3,(2,.own 20 1 (rws uH ps))]) [] ?_ sH sH
    (try refine gS ?_);conv=>whnf
    rw [←sV] at hz
    have z1:z.1=y.1:=by rw [hz]
    refine And.intro (gG (by rw [List.length_map,z1];omega)) ?_;conv=>whnf
    repeat ((first|(guard_target=_∧_;(first|refine oL ?_|refine oR ?_))|(guard_target=Exists _;refine oM ?_));(try intro _);conv=>whnf)
    refine aA.rowsEq (5) (oX z.1 2 0 ⟨#[]⟩ t) ?_;conv=>whnf
    refine aA.subR [(3,5)] (back ((i+1,(z.1++[⟨2,0,⟨#[]⟩,t⟩],z.2))) (by exact (⟨hk,(by rw [hy,hz];simp [Pt.ok,Pt.tok,okV,tn,h0])⟩)) (by (try dsimp only);omega)) sH sH
   refine ⟨fun h=>absurd h h0,fun _=>?_⟩
   conv=>whnf
   (try refine gS ?_);conv=>whnf
   refine aA.callN (iV y (false)) [0,3] ?_ sH ?CNa8
   case CNa8=>rfl
   rintro z hz<;>conv=>whnf
   have lz:z.1.length=y.1.length:=by rw [hz,aW];rfl
   refine aA.subR (nx':=4) (l':=[(0,.ptr 0 0),(10,.buf 2),(11,.v (.int .i64 (rws uH ps).length)),(12,.v (.int .i64 i)),(9,.v (.int .i64 t))]) (H':=[prB z.2 3,aZ z.1 3,(2,.own 20 1 (rws uH ps))]) [] ?_ sH sH
   (try refine gS ?_);conv=>whnf
   rw [←sV] at hz
   have z1:z.1=y.1:=by rw [hz]
   refine And.intro (gG (by rw [List.length_map,z1];omega)) ?_;conv=>whnf
   repeat ((first|(guard_target=_∧_;(first|refine oL ?_|refine oR ?_))|(guard_target=Exists _;refine oM ?_));(try intro _);conv=>whnf)
   refine aA.rowsEq (5) (oX z.1 2 0 ⟨#[]⟩ t) ?_;conv=>whnf
   refine aA.subR [(3,5)] (back ((i+1,(z.1++[⟨2,0,⟨#[]⟩,t⟩],z.2))) (by exact (⟨hk,(by rw [hy,hz];simp [Pt.ok,Pt.tok,okV,tn,h0])⟩)) (by (try dsimp only);omega)) sH sH
 (try refine gS ?_);conv=>whnf
 try refine aA.finU ?_
 exact aE.ret tab Tryz.func93 rfl (aL.mk (y) ((by rw [hJ,List.take_of_length_le (by omega)])) [] sH rfl rfl (aY rfl rfl))

theorem aOY (x:Ac) (a:Am) (hl:x.1.length+6≤1000000):FnS Tryz.prog 147 2 [.ptr 0 0,.agg (toV a.row)] [prB x.2 1,aZ x.1 1] (fun y=>y=acc x ⟨aMN a,true⟩) (aOH 2):=by
 refine FnS.of Tryz.func147 (by kernel_rfl) rfl Tryz.ntmps147 rfl fun E0 F h w0 cs=>?_
 conv=>whnf
 refine gS ?_;conv=>whnf
 refine aA.callN (bY x [.n a.n,wS 47,.n a.d,.s a.unit,.s a.item,wS 59] (by show x.1.length+6≤_;omega)) [0,1,3] ?_ sH ?CNa1
 case CNa1=>rfl
 rintro y hy<;>conv=>whnf
 have ly:y.1.length=x.1.length+6:=by rw [hy,aW];rfl
 refine aA.subR (nx':=4) (l':=[(0,.ptr 0 0)]) (H':=[prB y.2 3,aZ y.1 3]) [(3,4)] ?_ sH sH
 (try refine gS ?_);conv=>whnf
 try refine aA.finU ?_
 exact aE.ret tab Tryz.func147 rfl (aL.mk (y) (hy) [(2,3)] sH rfl rfl (aY rfl rfl))
theorem aST (x:Ac) (u:Un) (hl:x.1.length+8≤1000000):FnS Tryz.prog 91 2 [.ptr 0 0,.agg (toV u.row)] [prB x.2 1,aZ x.1 1] (fun y=>y=acc x (nL u)) (aOH 2):=by
 refine FnS.of Tryz.func91 (by kernel_rfl) rfl Tryz.ntmps91 rfl fun E0 F h w0 cs=>?_
 conv=>whnf
 refine gS ?_;conv=>whnf
 refine aA.callN (bY x [.w gE,.s u.name] (by show x.1.length+2≤_;omega)) [0,1,3] ?_ sH ?CNa2
 case CNa2=>rfl
 rintro y hy<;>conv=>whnf
 have ly:y.1.length=x.1.length+2:=by rw [hy,aW];rfl
 refine aA.subR (nx':=4) (l':=[(0,.ptr 0 0),(3,.ptr 2 0)]) (H':=[prB y.2 3,aZ y.1 3,(2,.cells 81 (toV u.row))]) [(3,4)] ?_ sH sH
 (try refine gS ?_);conv=>whnf
 refine ⟨fun h0=>?_,fun h0=>?_⟩<;>conv=>whnf
 ·have eo:nL u=⟨[.w gE,.s u.name,wS 59],decide (u.n=0∧u.d=0)⟩:=by unfold nL;rw [if_pos h0]
  by_cases h1:u.n=0
  ·refine And.intro (fun _=>?_) (fun hn=>absurd (h1) hn)
   conv=>whnf
   (try refine gS ?_);conv=>whnf
   refine aA.callN (iV y (decide (u.d=0))) [0,3] ?_ sH ?CNa3
   case CNa3=>rfl
   rintro z hz<;>conv=>whnf
   have lz:z.1.length=y.1.length:=by rw [hz,aW];rfl
   refine aA.subR (nx':=4) (l':=[(0,.ptr 0 0)]) (H':=[prB z.2 3,aZ z.1 3]) [] ?_ sH sH
   (try refine gS ?_);conv=>whnf
   refine aA.callN (bY z [wS 59] (by show z.1.length+1≤_;omega)) [0,3,4] ?_ sH ?CNa4
   case CNa4=>rfl
   rintro w hw<;>conv=>whnf
   have lw:w.1.length=z.1.length+1:=by rw [hw,aW];rfl
   refine aA.subR (nx':=4) (l':=[(0,.ptr 0 0)]) (H':=[prB w.2 3,aZ w.1 3]) [(3,5)] ?_ sH sH
   (try refine gS ?_);conv=>whnf
   try refine aA.finU ?_
   exact aE.ret tab Tryz.func91 rfl (aL.mk (w) (by rw [eo,hw,hz,hy,bD,bD];exact gA rfl (by simp [Pr.add,h1])) [(2,3)] sH rfl rfl (aY rfl rfl))
  refine And.intro (fun hp=>absurd hp (h1)) (fun _=>?_)
  conv=>whnf
  (try refine gS ?_);conv=>whnf
  refine aA.callN (iV y (false)) [0,3] ?_ sH ?CNa5
  case CNa5=>rfl
  rintro z hz<;>conv=>whnf
  have lz:z.1.length=y.1.length:=by rw [hz,aW];rfl
  refine aA.subR (nx':=4) (l':=[(0,.ptr 0 0)]) (H':=[prB z.2 3,aZ z.1 3]) [] ?_ sH sH
  (try refine gS ?_);conv=>whnf
  refine aA.callN (bY z [wS 59] (by show z.1.length+1≤_;omega)) [0,3,4] ?_ sH ?CNa6
  case CNa6=>rfl
  rintro w hw<;>conv=>whnf
  have lw:w.1.length=z.1.length+1:=by rw [hw,aW];rfl
  refine aA.subR (nx':=4) (l':=[(0,.ptr 0 0)]) (H':=[prB w.2 3,aZ w.1 3]) [(3,5)] ?_ sH sH
  (try refine gS ?_);conv=>whnf
  try refine aA.finU ?_
  exact aE.ret tab Tryz.func91 rfl (aL.mk (w) (by rw [eo,hw,hz,hy,bD,bD];exact gA rfl (by simp [Pr.add,h1])) [(2,3)] sH rfl rfl (aY rfl rfl))
 have eo:nL u=⟨[.w gE,.s u.name,wS 61,.n u.n,wS 47,.n u.d,.s u.of_,wS 59],true⟩:=by unfold nL;rw [if_neg h0]
 (try refine gS ?_);conv=>whnf
 refine aA.callN (bY y [wS 61,.n u.n,wS 47,.n u.d,.s u.of_] (by show y.1.length+5≤_;omega)) [0,3,4] ?_ sH ?CNa7
 case CNa7=>rfl
 rintro z hz<;>conv=>whnf
 have lz:z.1.length=y.1.length+5:=by rw [hz,aW];rfl
 refine aA.subR (nx':=4) (l':=[(0,.ptr 0 0)]) (H':=[prB z.2 3,aZ z.1 3]) [(3,5)] ?_ sH sH
 (try refine gS ?_);conv=>whnf
 refine aA.callN (bY z [wS 59] (by show z.1.length+1≤_;omega)) [0,3,4] ?_ sH ?CNa8
 case CNa8=>rfl
 rintro w hw<;>conv=>whnf
 have lw:w.1.length=z.1.length+1:=by rw [hw,aW];rfl
 refine aA.subR (nx':=4) (l':=[(0,.ptr 0 0)]) (H':=[prB w.2 3,aZ w.1 3]) [(3,5)] ?_ sH sH
 (try refine gS ?_);conv=>whnf
 try refine aA.finU ?_
 exact aE.ret tab Tryz.func91 rfl (aL.mk (w) (by rw [eo,hw,hz,hy,bD,bD];exact gA rfl rfl) [(2,3)] sH rfl rfl (aY rfl rfl))
theorem aTE (x:Ac) (i:It) (hl:x.1.length+12≤1000000):FnS Tryz.prog 92 2 [.ptr 0 0,.agg (toV i.row)] [prB x.2 1,aZ x.1 1] (fun y=>y=acc x (pZ i)) (aOH 2):=by
 refine FnS.of Tryz.func92 (by kernel_rfl) rfl Tryz.ntmps92 rfl fun E0 F h w0 cs=>?_
 conv=>whnf
 refine gS ?_;conv=>whnf
 refine aA.callN (bY x [.w iI,.s i.name,.w wIn,.s i.unit,.w rV,.n i.mn,wS 47,.n i.md] (by show x.1.length+8≤_;omega)) [0,1,3] ?_ sH ?CNa9
 case CNa9=>rfl
 rintro y hy<;>conv=>whnf
 have ly:y.1.length=x.1.length+8:=by rw [hy,aW];rfl
 refine aA.subR (nx':=4) (l':=[(0,.ptr 0 0),(3,.ptr 2 0)]) (H':=[prB y.2 3,aZ y.1 3,(2,.cells 83 (toV i.row))]) [(3,4)] ?_ sH sH
 (try refine gS ?_);conv=>whnf
 refine ⟨fun h0=>?_,fun h0=>?_⟩<;>conv=>whnf
 ·try refine gS ?_
  conv=>whnf
  refine aA.callN (bY y [wS 59] (by show y.1.length+1≤_;omega)) [0,3,4] ?_ sH ?CNa10
  case CNa10=>rfl
  rintro z hz<;>conv=>whnf
  have lz:z.1.length=y.1.length+1:=by rw [hz,aW];rfl
  refine aA.subR (nx':=4) (l':=[(0,.ptr 0 0)]) (H':=[prB z.2 3,aZ z.1 3]) [(3,5)] ?_ sH sH
  (try refine gS ?_);conv=>whnf
  try refine aA.finU ?_
  exact aE.ret tab Tryz.func92 rfl (aL.mk (z) (by rw [hz,hy,bD];exact gA (by simp [Pr.add,pZ,h0]) rfl) [(2,3)] sH rfl rfl (aY rfl rfl))
 (try refine gS ?_);conv=>whnf
 refine aA.callN (bY y [.w gW,.n i.shelf] (by show y.1.length+2≤_;omega)) [0,3,4] ?_ sH ?CNa11
 case CNa11=>rfl
 rintro z hz<;>conv=>whnf
 have lz:z.1.length=y.1.length+2:=by rw [hz,aW];rfl
 refine aA.subR (nx':=4) (l':=[(0,.ptr 0 0)]) (H':=[prB z.2 3,aZ z.1 3]) [(3,5)] ?_ sH sH
 (try refine gS ?_);conv=>whnf
 refine aA.callN (bY z [wS 59] (by show z.1.length+1≤_;omega)) [0,3,4] ?_ sH ?CNa12
 case CNa12=>rfl
 rintro u hu<;>conv=>whnf
 have lu:u.1.length=z.1.length+1:=by rw [hu,aW];rfl
 refine aA.subR (nx':=4) (l':=[(0,.ptr 0 0)]) (H':=[prB u.2 3,aZ u.1 3]) [(3,5)] ?_ sH sH
 (try refine gS ?_);conv=>whnf
 try refine aA.finU ?_
 exact aE.ret tab Tryz.func92 rfl (aL.mk (u) (by rw [hu,hz,hy,bD,bD];exact gA (by simp [Pr.add,pZ,h0]) rfl) [(2,3)] sH rfl rfl (aY rfl rfl))
end Go.Proofs.YtgbeechjghajcaaGreatDoor

namespace Go.SynM
open Go Go.Fw Go.RatM Go.SrcM
theorem aJQ (l:List Cd) (c:Cd):fG (l++[c])=fG l++((if l=[] then [] else [wS 44])++[.s c.opt,wS 61,.s c.ch]):=by
 cases l with
 |nil=>rfl
 |cons d l=>simp [fG]
theorem aQG (l:List ByteArray) (c:ByteArray):qU (l++[c])=qU l++((if l=[] then [] else [wS 44])++[.s c]):=by
 cases l with
 |nil=>rfl
 |cons d l=>simp [qU]
theorem pN (l:List Cd):(fG l).length≤4*l.length:=by
 cases l with
 |nil=>simp [fG]
 |cons c l=>
  have:((l.map fun c=>[wS 44,.s c.opt,wS 61,.s c.ch]).flatten).length=4*l.length:=by
   induction l with
   |nil=>rfl
   |cons d l ih=>simp only [List.map_cons,List.flatten_cons,List.length_append,ih,List.length_cons,List.length_nil];omega
  simp only [fG,List.length_append,this,List.length_cons,List.length_nil]
  omega
theorem aHR (l:List ByteArray):(qU l).length≤2*l.length:=by
 cases l with
 |nil=>simp [qU]
 |cons c l=>
  have:((l.map fun c=>[wS 44,Pt.s c]).flatten).length=2*l.length:=by
   induction l with
   |nil=>rfl
   |cons d l ih=>simp only [List.map_cons,List.flatten_cons,List.length_append,ih,List.length_cons,List.length_nil];omega
  simp only [qU,this,List.length_cons]
  omega
end Go.SynM
namespace Go.Proofs.YtgbeechjghajcaaGreatDoor
open Go Go.Fw Go.NatM Go.RatM Go.SrcM Go.SynM
set_option maxRecDepth 100000
set_option maxHeartbeats 99999999
theorem aAL {α:Type} {l:List α} {i:Nat} (hk:i<l.length):l.take i=[]↔i=0:=by
 cases l with
 |nil=>simp at hk
 |cons a l=>cases i<;>simp
theorem aHP (v:Value) (l:List Cd) (x:Ac) (hl:x.1.length+4*l.length≤1000000):FnT Tryz.prog (fun F h=>RoF F h v 4 (rws Cd.row l)) 95 2 [.ptr 0 0,.v v] [prB x.2 1,aZ x.1 1] (fun y=>y=acc x ⟨fG l,decide (1≤l.length∧l.length≤6)⟩) (aOH 2):=by
 have ll:=aG Cd.row l
 refine FnT.of Tryz.func95 (by kernel_rfl) rfl Tryz.ntmps95 rfl fun E0 F h hT w0 cs=>?_
 obtain ⟨a,c,rfl⟩:=RoF.sli hT ll
 conv=>whnf
 refine jA tab 2 _ _ _ _ ?_;conv=>whnf
 have hl':l.length≤1000000:=by omega
 obtain ⟨b,hb⟩:∃b,b=decide (1≤l.length∧l.length≤6):=⟨_,rfl⟩
 rw [←hb]
 refine aA.joinO (fun (y:Ac)=>[(0,.ptr 0 0),(1,.v (.slice a l.length c))]) (fun (y:Ac)=>[prB y.2 3,aZ y.1 3]) 4 (fun (y:Ac)=>y=acc x ⟨[],b⟩) ?_ (fun meet=>?_)
 rotate_left
 ·try refine gS ?_
  conv=>whnf
  by_cases h1:1≤l.length
  ·refine And.intro (fun _=>?_) (fun hn=>absurd ((by omega)) hn)
   conv=>whnf
   (try refine gS ?_);conv=>whnf
   refine aA.callN (iV x (decide ((l.length:Int)≤6))) [0,1] ?_ sH ?CNa1
   case CNa1=>rfl
   rintro y hy<;>conv=>whnf
   have ly:y.1.length=x.1.length:=by rw [hy,aW];rfl
   refine aA.subR (nx':=4) (l':=[(0,.ptr 0 0),(1,.v (.slice a l.length c))]) (H':=[prB y.2 3,aZ y.1 3]) [(3,1)] ?_ sH sH
   (try refine gS ?_);conv=>whnf
   refine aA.subR [] (meet (y) (by exact (hy.trans (gA rfl (by rw [hb];exact decide_eq_decide.2 ⟨fun h=>⟨h1,by omega⟩,fun h=>by omega⟩))))) sH sH
  refine And.intro (fun hp=>absurd hp ((by omega))) (fun _=>?_)
  conv=>whnf
  (try refine gS ?_);conv=>whnf
  refine aA.callN (iV x (false)) [0,1] ?_ sH ?CNa3
  case CNa3=>rfl
  rintro y hy<;>conv=>whnf
  have ly:y.1.length=x.1.length:=by rw [hy,aW];rfl
  refine aA.subR (nx':=4) (l':=[(0,.ptr 0 0),(1,.v (.slice a l.length c))]) (H':=[prB y.2 3,aZ y.1 3]) [(3,1)] ?_ sH sH
  (try refine gS ?_);conv=>whnf
  refine aA.subR [] (meet (y) (by exact (hy.trans (gA rfl (by rw [hb];exact (decide_eq_false fun h=>h1 h.1).symm))))) sH sH
 rintro y hy
 (try refine gS ?_);conv=>whnf
 refine aA.nameAt (fun _ x=>x) 16 (by exact hT) ?_
 conv=>whnf
 (try refine gS ?_);conv=>whnf
 have ly:y.1.length=x.1.length:=by rw [hy,aW];rfl
 refine aA.subR [] (aA.loop (fun (⟨i,z⟩:Nat×Ac)=>[(0,.ptr 0 0),(16,.buf 4),(17,.v (.int .i64 l.length)),(18,.v (.int .i64 i))]) (fun (⟨i,z⟩:Nat×Ac)=>[prB z.2 3,aZ z.1 3,(4,.ro 4 (rws Cd.row l))]) 5 (fun (⟨i,z⟩:Nat×Ac)=>i≤l.length∧z=acc y ⟨fG (l.take i),true⟩) (fun (⟨i,z⟩:Nat×Ac)=>l.length - i) ?round5 ((0,y)) ?J05) sH sH
 case J05=>exact (⟨Nat.zero_le _,(jB y).symm⟩)
 rintro ⟨i,z⟩ hJ back
 try dsimp only at hJ back
 conv=>whnf
 try dsimp only
 refine gS ?_;conv=>whnf
 obtain ⟨hi,hJ⟩:=hJ
 have lz:z.1.length≤y.1.length+4*i:=by
  rw [hJ,aW]
  have:=pN (l.take i)
  rw [List.length_take] at this
  show _+(fG (l.take i)).length≤_
  omega
 refine ⟨fun hk=>?_,fun hk=>?_⟩<;>conv=>whnf
 ·have hk:i<l.length:=by omega
  conv=>whnf
  repeat ((first|(guard_target=_∧_;(first|refine oL ?_|refine oR ?_))|(guard_target=Exists _;refine oM ?_));(try intro _);conv=>whnf)
  refine ⟨_,aK hk,?_⟩;conv=>whnf
  try (refine oN ?_;conv=>whnf)
  have hn:=aJQ (l.take i) l[i]
  rw [←dC hk] at hn
  refine ⟨fun h0=>?_,fun h0=>?_⟩<;>conv=>whnf
  ·have e0:l.take i ≠ []:=fun e=>by have:=(aAL hk).1 e;omega
   rw [if_neg e0] at hn
   (try refine gS ?_);conv=>whnf
   refine aA.callN (bY z [wS 44] (by show z.1.length+1≤_;omega)) [0,3,6] ?_ sH ?CNa6
   case CNa6=>rfl
   rintro z1 hz1<;>conv=>whnf
   have lz1:z1.1.length=z.1.length+1:=by rw [hz1,aW];rfl
   refine aA.subR (nx':=6) (l':=[(0,.ptr 0 0),(5,.ptr 5 0),(16,.buf 4),(17,.v (.int .i64 l.length)),(18,.v (.int .i64 i))]) (H':=[prB z1.2 3,aZ z1.1 3,(5,.cells 52 (toV l[i].row)),(4,.ro 4 (rws Cd.row l))]) [(3,7)] ?_ sH sH
   (try refine gS ?_);conv=>whnf
   refine aA.callN (bY z1 [.s l[i].opt,wS 61,.s l[i].ch] (by show z1.1.length+3≤_;omega)) [0,3,6] ?_ sH ?CNa7
   case CNa7=>rfl
   rintro z2 hz2<;>conv=>whnf
   have lz2:z2.1.length=z1.1.length+3:=by rw [hz2,aW];rfl
   refine aA.subR (nx':=6) (l':=[(0,.ptr 0 0),(16,.buf 4),(17,.v (.int .i64 l.length)),(18,.v (.int .i64 i))]) (H':=[prB z2.2 3,aZ z2.1 3,(4,.ro 4 (rws Cd.row l))]) [(3,7)] ?_ sH sH
   (try refine gS ?_);conv=>whnf
   repeat ((first|(guard_target=_∧_;(first|refine oL ?_|refine oR ?_))|(guard_target=Exists _;refine oM ?_));(try intro _);conv=>whnf)
   refine aA.subR [] (back ((i+1,z2)) (by exact (⟨hk,by show z2=_;rw [hz2,hz1,hJ,bD,bD];exact gA (by simp [Pr.add,hn]) rfl⟩)) (by (try dsimp only);omega)) sH sH
  have e0:l.take i=[]:=(aAL hk).2 (by omega)
  rw [if_pos e0] at hn
  (try refine gS ?_);conv=>whnf
  refine aA.callN (bY z [.s l[i].opt,wS 61,.s l[i].ch] (by show z.1.length+3≤_;omega)) [0,3,6] ?_ sH ?CNa9
  case CNa9=>rfl
  rintro z2 hz2<;>conv=>whnf
  have lz2:z2.1.length=z.1.length+3:=by rw [hz2,aW];rfl
  refine aA.subR (nx':=6) (l':=[(0,.ptr 0 0),(16,.buf 4),(17,.v (.int .i64 l.length)),(18,.v (.int .i64 i))]) (H':=[prB z2.2 3,aZ z2.1 3,(4,.ro 4 (rws Cd.row l))]) [(3,7)] ?_ sH sH
  (try refine gS ?_);conv=>whnf
  repeat ((first|(guard_target=_∧_;(first|refine oL ?_|refine oR ?_))|(guard_target=Exists _;refine oM ?_));(try intro _);conv=>whnf)
  refine aA.subR [] (back ((i+1,z2)) (by exact (⟨hk,by show z2=_;rw [hz2,hJ,bD];exact gA (by simp [Pr.add,hn]) rfl⟩)) (by (try dsimp only);omega)) sH sH
 (try refine gS ?_);conv=>whnf
 try refine aA.finU ?_
 exact aE.ret tab Tryz.func95 rfl (aL.mk (z) (by rw [hJ,hy,List.take_of_length_le (by omega),bD,hb];exact gA rfl (by simp [Pr.add])) [(2,3)] sH rfl rfl (aY rfl rfl))
theorem aYI (o:OpV) (x:Ac) (hl:x.1.length+5+2*o.ch.length≤1000000):FnT Tryz.prog (fun F h=>o.ok F h) 94 2 [.ptr 0 0,.agg (toV o.row)] [prB x.2 1,aZ x.1 1] (fun y=>y=acc x (qN o)) (aOH 2):=by
 obtain ⟨nm,⟨a,c⟩,l⟩:=o
 have hl:x.1.length+5+2*l.length≤1000000:=hl
 have ll:=pG l
 refine FnT.of Tryz.func94 (by kernel_rfl) rfl Tryz.ntmps94 rfl fun E0 F h hT w0 cs=>?_
 have hT:RoF F h (.slice a l.length c) 1 (jY l):=hT
 conv=>whnf
 refine jA tab 6 _ _ _ _ ?_;conv=>whnf
 have hl':l.length≤1000000:=by omega
 obtain ⟨b,hb⟩:∃b,b=decide (1≤l.length∧l.length≤4):=⟨_,rfl⟩
 have hO:qN ⟨nm,⟨a,c⟩,l⟩=⟨[.w dA,.s nm,wS 123]++qU l++[wS 125,wS 59],b⟩:=by rw [hb];rfl
 rw [hO]
 refine aA.joinO (fun (y:Ac)=>[(0,.ptr 0 0),(3,.ptr 2 0)]) (fun (y:Ac)=>[prB y.2 3,aZ y.1 3,(2,.cells 50 [.v (.string nm),.v (.slice a l.length c)])]) 4 (fun (y:Ac)=>y=acc x ⟨[],b⟩) ?_ (fun meet=>?_)
 rotate_left
 ·try refine gS ?_
  conv=>whnf
  by_cases h1:1≤l.length
  ·refine And.intro (fun _=>?_) (fun hn=>absurd ((by show (1:Int)≤(l.length:Int);omega)) hn)
   conv=>whnf
   (try refine gS ?_);conv=>whnf
   refine aA.callN (iV x (decide ((l.length:Int)≤4))) [0,1] ?_ sH ?CNa11
   case CNa11=>rfl
   rintro y hy<;>conv=>whnf
   have ly:y.1.length=x.1.length:=by rw [hy,aW];rfl
   refine aA.subR (nx':=4) (l':=[(0,.ptr 0 0),(3,.ptr 2 0)]) (H':=[prB y.2 3,aZ y.1 3,(2,.cells 50 [.v (.string nm),.v (.slice a l.length c)])]) [(3,1)] ?_ sH sH
   (try refine gS ?_);conv=>whnf
   refine aA.subR [] (meet (y) (by exact (hy.trans (gA rfl (by rw [hb];exact decide_eq_decide.2 ⟨fun h=>⟨h1,by omega⟩,fun h=>by omega⟩))))) sH sH
  refine And.intro (fun hp=>absurd hp ((by show ¬(1:Int)≤(l.length:Int);omega))) (fun _=>?_)
  conv=>whnf
  (try refine gS ?_);conv=>whnf
  refine aA.callN (iV x (false)) [0,1] ?_ sH ?CNa13
  case CNa13=>rfl
  rintro y hy<;>conv=>whnf
  have ly:y.1.length=x.1.length:=by rw [hy,aW];rfl
  refine aA.subR (nx':=4) (l':=[(0,.ptr 0 0),(3,.ptr 2 0)]) (H':=[prB y.2 3,aZ y.1 3,(2,.cells 50 [.v (.string nm),.v (.slice a l.length c)])]) [(3,1)] ?_ sH sH
  (try refine gS ?_);conv=>whnf
  refine aA.subR [] (meet (y) (by exact (hy.trans (gA rfl (by rw [hb];exact (decide_eq_false fun h=>h1 h.1).symm))))) sH sH
 rintro x0 hx0
 have lx0:x0.1.length=x.1.length:=by rw [hx0,aW];rfl
 (try refine gS ?_);conv=>whnf
 refine aA.callN (bY x0 [.w dA,.s nm,wS 123] (by show x0.1.length+3≤_;omega)) [0,3,4] ?_ sH ?CNa15
 case CNa15=>rfl
 rintro y hy<;>conv=>whnf
 have ly:y.1.length=x0.1.length+3:=by rw [hy,aW];rfl
 refine aA.subR (nx':=4) (l':=[(0,.ptr 0 0),(3,.ptr 2 0)]) (H':=[prB y.2 3,aZ y.1 3,(2,.cells 50 [.v (.string nm),.v (.slice a l.length c)])]) [(3,5)] ?_ sH sH
 (try refine gS ?_);conv=>whnf
 refine aA.nameAt (fun _ x=>x) 27 (by exact hT) ?_
 conv=>whnf
 (try refine gS ?_);conv=>whnf
 refine aA.subR [] (aA.loop (fun (⟨i,z⟩:Nat×Ac)=>[(0,.ptr 0 0),(27,.buf 4),(28,.v (.int .i64 l.length)),(29,.v (.int .i64 i))]) (fun (⟨i,z⟩:Nat×Ac)=>[prB z.2 3,aZ z.1 3,(4,.ro 1 (jY l))]) 5 (fun (⟨i,z⟩:Nat×Ac)=>i≤l.length∧z=acc y ⟨qU (l.take i),true⟩) (fun (⟨i,z⟩:Nat×Ac)=>l.length - i) ?round16 ((0,y)) ?J016) sH sH
 case J016=>exact (⟨Nat.zero_le _,(jB y).symm⟩)
 rintro ⟨i,z⟩ hJ back
 try dsimp only at hJ back
 conv=>whnf
 try dsimp only
 refine gS ?_;conv=>whnf
 obtain ⟨hi,hJ⟩:=hJ
 have lz:z.1.length≤y.1.length+2*i:=by
  rw [hJ,aW]
  have:=aHR (l.take i)
  rw [List.length_take] at this
  show _+(qU (l.take i)).length≤_
  omega
 refine ⟨fun hk=>?_,fun hk=>?_⟩<;>conv=>whnf
 ·have hk:i<l.length:=by omega
  conv=>whnf
  repeat ((first|(guard_target=_∧_;(first|refine oL ?_|refine oR ?_))|(guard_target=Exists _;refine oM ?_));(try intro _);conv=>whnf)
  refine ⟨_,aK hk,?_⟩;conv=>whnf
  have hn:=aQG (l.take i) l[i]
  rw [←dC hk] at hn
  refine ⟨fun h0=>?_,fun h0=>?_⟩<;>conv=>whnf
  ·have e0:l.take i ≠ []:=fun e=>by have:=(aAL hk).1 e;omega
   rw [if_neg e0] at hn
   (try refine gS ?_);conv=>whnf
   refine aA.callN (bY z [wS 44] (by show z.1.length+1≤_;omega)) [0,3,5] ?_ sH ?CNa17
   case CNa17=>rfl
   rintro z1 hz1<;>conv=>whnf
   have lz1:z1.1.length=z.1.length+1:=by rw [hz1,aW];rfl
   refine aA.subR (nx':=5) (l':=[(0,.ptr 0 0),(5,.v (.string l[i])),(27,.buf 4),(28,.v (.int .i64 l.length)),(29,.v (.int .i64 i))]) (H':=[prB z1.2 3,aZ z1.1 3,(4,.ro 1 (jY l))]) [(3,6)] ?_ sH sH
   (try refine gS ?_);conv=>whnf
   refine aA.callN (bY z1 [.s l[i]] (by show z1.1.length+1≤_;omega)) [0,3,5] ?_ sH ?CNa18
   case CNa18=>rfl
   rintro z2 hz2<;>conv=>whnf
   have lz2:z2.1.length=z1.1.length+1:=by rw [hz2,aW];rfl
   refine aA.subR (nx':=5) (l':=[(0,.ptr 0 0),(27,.buf 4),(28,.v (.int .i64 l.length)),(29,.v (.int .i64 i))]) (H':=[prB z2.2 3,aZ z2.1 3,(4,.ro 1 (jY l))]) [(3,6)] ?_ sH sH
   (try refine gS ?_);conv=>whnf
   repeat ((first|(guard_target=_∧_;(first|refine oL ?_|refine oR ?_))|(guard_target=Exists _;refine oM ?_));(try intro _);conv=>whnf)
   refine aA.subR [] (back ((i+1,z2)) (by exact (⟨hk,by show z2=_;rw [hz2,hz1,hJ,bD,bD];exact gA (by simp [Pr.add,hn]) rfl⟩)) (by (try dsimp only);omega)) sH sH
  have e0:l.take i=[]:=(aAL hk).2 (by omega)
  rw [if_pos e0] at hn
  (try refine gS ?_);conv=>whnf
  refine aA.callN (bY z [.s l[i]] (by show z.1.length+1≤_;omega)) [0,3,5] ?_ sH ?CNa20
  case CNa20=>rfl
  rintro z2 hz2<;>conv=>whnf
  have lz2:z2.1.length=z.1.length+1:=by rw [hz2,aW];rfl
  refine aA.subR (nx':=5) (l':=[(0,.ptr 0 0),(27,.buf 4),(28,.v (.int .i64 l.length)),(29,.v (.int .i64 i))]) (H':=[prB z2.2 3,aZ z2.1 3,(4,.ro 1 (jY l))]) [(3,6)] ?_ sH sH
  (try refine gS ?_);conv=>whnf
  repeat ((first|(guard_target=_∧_;(first|refine oL ?_|refine oR ?_))|(guard_target=Exists _;refine oM ?_));(try intro _);conv=>whnf)
  refine aA.subR [] (back ((i+1,z2)) (by exact (⟨hk,by show z2=_;rw [hz2,hJ,bD];exact gA (by simp [Pr.add,hn]) rfl⟩)) (by (try dsimp only);omega)) sH sH
 (try refine gS ?_);conv=>whnf
 refine aA.callN (bY z [wS 125,wS 59] (by show z.1.length+2≤_;omega)) [0,3,5] ?_ sH ?CNa22
 case CNa22=>rfl
 rintro w hw<;>conv=>whnf
 have lw:w.1.length=z.1.length+2:=by rw [hw,aW];rfl
 refine aA.subR (nx':=5) (l':=[(0,.ptr 0 0)]) (H':=[prB w.2 3,aZ w.1 3]) [(3,6)] ?_ sH sH
 (try refine gS ?_);conv=>whnf
 try refine aA.finU ?_
 exact aE.ret tab Tryz.func94 rfl (aL.mk (w) (by rw [hw,hJ,hy,hx0,List.take_of_length_le (by omega),bD,bD,bD];exact gA (by simp [Pr.add]) (by simp [Pr.add])) [(2,3)] sH rfl rfl (aY rfl rfl))
end Go.Proofs.YtgbeechjghajcaaGreatDoor

namespace Go.SynM
open Go Go.Fw Go.RatM Go.SrcM
def aEF (a:Am):Pr:=⟨aDX a,true⟩
def zP (a:Am):Pr:=⟨aCV a,!a.back⟩
def aIF (a:Rn):Pr:=⟨aFS a,true⟩
def aDD (l:List Cd):Pr:=⟨if l=[] then [] else .w wIf::fG l,decide (l.length≤6)⟩
theorem kD {α:Type} {f:α→Pr} (l:List α) (x:α):Pr.all f (l++[x])=(Pr.all f l).add (f x):=by
 induction l with
 |nil=>simp [Pr.all,Pr.add,Pr.nil]
 |cons y l ih=>simp only [List.cons_append,Pr.all,ih,Pr.add,List.append_assoc,Bool.and_assoc]
theorem rK {α:Type} {f:α→Pr} {n:Nat} (h:∀x,(f x).l.length≤n) (l:List α):(Pr.all f l).l.length≤n*l.length:=by
 induction l with
 |nil=>simp [Pr.all,Pr.nil]
 |cons x l ih=>
  have:=h x
  simp only [Pr.all,Pr.add,List.length_append,List.length_cons,Nat.mul_add]
  omega
theorem aGT (a:Am):(aEF a).l.length≤8:=by
 show (aDX a).length≤8
 unfold aDX aMN
 cases a.back<;>simp
theorem aCJ (a:Am):(zP a).l.length≤7:=Nat.le_of_eq rfl
theorem aJE (a:Rn):(aIF a).l.length≤4:=Nat.le_of_eq rfl
theorem aLU {α:Type} {f:α→List Pt} (l:List α):(Pr.all (fun a=>(⟨f a,true⟩:Pr)) l)=⟨(l.map f).flatten,true⟩:=by
 induction l with
 |nil=>rfl
 |cons x l ih=>simp only [Pr.all,Pr.add,ih,List.map_cons,List.flatten_cons,Bool.and_true]
theorem all_out (l:List Am):Pr.all zP l=⟨(l.map aCV).flatten,l.all fun a=> !a.back⟩:=by
 induction l with
 |nil=>rfl
 |cons x l ih=>simp only [Pr.all,Pr.add,zP,ih,List.map_cons,List.flatten_cons,List.all_cons]
theorem aIW (r:RcV):(Pr.mk [] (decide (r.inn.length≤8∧r.out.length≤8∧r.runs.length≤8))).add ((Pr.mk [.w iD,.s r.item,.w wAt,.s r.plant,.w qO,.n r.fr,.w wTo,.n r.to] true).add ((aDD r.cs).add ((Pr.mk [wS 123] true).add ((Pr.all aEF r.inn).add ((Pr.all zP r.out).add
  ((Pr.mk [.w gQ,.n r.rwN,wS 47,.n r.rwD,wS 59] true).add ((Pr.mk [.w jQ,.n r.yN,wS 47,.n r.yD,.w gN,.n r.tN,wS 47,.n r.tD,wS 59] true).add ((Pr.mk [.w nY,.n r.lead,wS 59] true).add ((Pr.all aIF r.runs).add ⟨[wS 125],true⟩)))))))))=vB r:=by
 have e1:Pr.all aEF r.inn=⟨(r.inn.map aDX).flatten,true⟩:=aLU _
 have e2:Pr.all aIF r.runs=⟨(r.runs.map aFS).flatten,true⟩:=aLU _
 rw [e1,e2,all_out]
 unfold vB aDD
 simp only [Pr.add,List.nil_append,List.append_assoc,List.cons_append,Bool.true_and,Bool.and_true]
end Go.SynM
namespace Go.Proofs.YtgbeechjghajcaaGreatDoor
open Go Go.Fw Go.NatM Go.RatM Go.SrcM Go.SynM
set_option maxRecDepth 100000
set_option maxHeartbeats 99999999
theorem aXO (r:RcV) (x:Ac) (hl:x.1.length+28+4*r.cs.length+8*r.inn.length+7*r.out.length+4*r.runs.length≤1000000):FnT Tryz.prog (fun F h=>r.ok F h) 96 2 [.ptr 0 0,.agg (toV r.row)] [prB x.2 1,aZ x.1 1] (fun y=>y=acc x (vB r)) (aOH 2):=by
 rw [←aIW,←bD,←bD,←bD,←bD,←bD,←bD,←bD,←bD,←bD,←bD]
 obtain ⟨b,hb⟩:∃b,b=decide (r.inn.length≤8∧r.out.length≤8∧r.runs.length≤8):=⟨_,rfl⟩
 rw [←hb]
 have lc:=aG Cd.row r.cs
 have li:=aG Am.row r.inn
 have lo:=aG Am.row r.out
 have lr:=aG Rn.row r.runs
 refine FnT.of Tryz.func96 (by kernel_rfl) rfl Tryz.ntmps96 rfl fun E0 F h hT w0 cs=>?_
 conv=>whnf
 refine jA tab 6 _ _ _ _ ?_;conv=>whnf
 refine aA.joinO (fun (y:Ac)=>[(0,.ptr 0 0),(3,.ptr 2 0)]) (fun (y:Ac)=>[prB y.2 3,aZ y.1 3,(2,.cells 61 (toV r.row))]) 4 (fun (y:Ac)=>y=acc x ⟨[],b⟩) ?_ (fun meet=>?_)
 rotate_left
 ·try refine gS ?_
  conv=>whnf
  by_cases h1:r.inn.length≤8
  ·refine And.intro (fun _=>?_) (fun hn=>absurd ((by omega)) hn)
   conv=>whnf
   by_cases h2:r.out.length≤8
   ·refine And.intro (fun _=>?_) (fun hn=>absurd ((by omega)) hn)
    conv=>whnf
    (try refine gS ?_);conv=>whnf
    refine aA.callN (iV x (decide ((r.runs.length:Int)≤8))) [0,1] ?_ sH ?CNa1
    case CNa1=>rfl
    rintro y hy<;>conv=>whnf
    have ly:y.1.length=x.1.length:=by rw [hy,aW];rfl
    refine aA.subR (nx':=4) (l':=[(0,.ptr 0 0),(3,.ptr 2 0)]) (H':=[prB y.2 3,aZ y.1 3,(2,.cells 61 (toV r.row))]) [(3,1)] ?_ sH sH
    (try refine gS ?_);conv=>whnf
    refine aA.subR [] (meet (y) (by exact (hy.trans (gA rfl (by rw [hb];exact decide_eq_decide.2 ⟨fun h=>⟨h1,h2,by omega⟩,fun h=>by omega⟩))))) sH sH
   refine And.intro (fun hp=>absurd hp ((by omega))) (fun _=>?_)
   conv=>whnf
   (try refine gS ?_);conv=>whnf
   refine aA.callN (iV x (false)) [0,1] ?_ sH ?CNa3
   case CNa3=>rfl
   rintro y hy<;>conv=>whnf
   have ly:y.1.length=x.1.length:=by rw [hy,aW];rfl
   refine aA.subR (nx':=4) (l':=[(0,.ptr 0 0),(3,.ptr 2 0)]) (H':=[prB y.2 3,aZ y.1 3,(2,.cells 61 (toV r.row))]) [(3,1)] ?_ sH sH
   (try refine gS ?_);conv=>whnf
   refine aA.subR [] (meet (y) (by exact (hy.trans (gA rfl (by rw [hb];exact (decide_eq_false fun h=>h2 h.2.1).symm))))) sH sH
  refine And.intro (fun hp=>absurd hp ((by omega))) (fun _=>?_)
  conv=>whnf
  (try refine gS ?_);conv=>whnf
  refine aA.callN (iV x (false)) [0,1] ?_ sH ?CNa5
  case CNa5=>rfl
  rintro y hy<;>conv=>whnf
  have ly:y.1.length=x.1.length:=by rw [hy,aW];rfl
  refine aA.subR (nx':=4) (l':=[(0,.ptr 0 0),(3,.ptr 2 0)]) (H':=[prB y.2 3,aZ y.1 3,(2,.cells 61 (toV r.row))]) [(3,1)] ?_ sH sH
  (try refine gS ?_);conv=>whnf
  refine aA.subR [] (meet (y) (by exact (hy.trans (gA rfl (by rw [hb];exact (decide_eq_false fun h=>h1 h.1).symm))))) sH sH
 rintro x0 hx0
 have lx0:x0.1.length=x.1.length:=by rw [hx0,aW];rfl
 (try refine gS ?_);conv=>whnf
 refine aA.callN (bY x0 [.w iD,.s r.item,.w wAt,.s r.plant,.w qO,.n r.fr,.w wTo,.n r.to] (by show x0.1.length+8≤_;omega)) [0,3,4] ?_ sH ?CNa7
 case CNa7=>rfl
 rintro x1 hx1<;>conv=>whnf
 have lx1:x1.1.length=x0.1.length+8:=by rw [hx1,aW];rfl
 refine aA.subR (nx':=4) (l':=[(0,.ptr 0 0),(3,.ptr 2 0)]) (H':=[prB x1.2 3,aZ x1.1 3,(2,.cells 61 (toV r.row))]) [(3,5)] ?_ sH sH
 refine jA tab 2 _ _ _ _ ?_;conv=>whnf
 rw [←hx0,←hx1]
 refine aA.join (fun (y:Ac)=>[(0,.ptr 0 0),(3,.ptr 2 0)]) (fun (y:Ac)=>[prB y.2 3,aZ y.1 3,(2,.cells 61 (toV r.row))]) 4 (fun (y:Ac)=>y=acc x1 (aDD r.cs)) ?_ (fun meet=>?_)
 rotate_left
 ·try refine gS ?_
  conv=>whnf
  refine ⟨fun hc=>?_,fun hc=>?_⟩<;>conv=>whnf
  ·have e:r.cs ≠ []:=fun e=>by rw [e] at hc;exact absurd hc (by decide)
   have ec:aDD r.cs=⟨.w wIf::fG r.cs,decide (1≤r.cs.length∧r.cs.length≤6)⟩:=by
    unfold aDD
    rw [if_neg e]
    congr 1
    exact decide_eq_decide.2 ⟨fun h=>⟨by omega,h⟩,fun h=>h.2⟩
   (try refine gS ?_);conv=>whnf
   refine aA.callN (bY x1 [.w wIf] (by show x1.1.length+1≤_;omega)) [0,3,4] ?_ sH ?CNa8
   case CNa8=>rfl
   rintro y hy<;>conv=>whnf
   have ly:y.1.length=x1.1.length+1:=by rw [hy,aW];rfl
   refine aA.subR (nx':=4) (l':=[(0,.ptr 0 0),(3,.ptr 2 0)]) (H':=[prB y.2 3,aZ y.1 3,(2,.cells 61 (toV r.row))]) [(3,5)] ?_ sH sH
   (try refine gS ?_);conv=>whnf
   refine aA.callT (RoF.tok _ _ _) (hT.c) (aHP _ r.cs y (by omega)) [0,3] sH ?CNa9 ?_
   case CNa9=>rfl
   rintro z hz
   conv=>whnf
   refine aA.subR (nx':=5) (l':=[(0,.ptr 0 0),(3,.ptr 2 0)]) (H':=[prB z.2 4,aZ z.1 4,(2,.cells 61 (toV r.row))]) [] ?_ sH sH
   (try refine gS ?_);conv=>whnf
   refine aA.subR [(3,4)] (meet (z) (by exact (by rw [hz,hy,bD,ec];exact gA rfl rfl))) sH sH
  have e:r.cs=[]:=List.length_eq_zero_iff.1 (by omega)
  (try refine gS ?_);conv=>whnf
  refine aA.subR [] (meet (x1) (by exact (by rw [e];exact (jB x1).symm))) sH sH
 rintro x2 hx2
 have lx2:x2.1.length≤x1.1.length+1+4*r.cs.length:=by
  rw [hx2,aW]
  have:=pN r.cs
  unfold aDD
  split
  ·simp only [List.length_nil];omega
  simp only [List.length_cons];omega
 rw [←hx2]
 (try refine gS ?_);conv=>whnf
 refine aA.callN (bY x2 [wS 123] (by show x2.1.length+1≤_;omega)) [0,3,4] ?_ sH ?CNa12
 case CNa12=>rfl
 rintro x3 hx3<;>conv=>whnf
 have lx3:x3.1.length=x2.1.length+1:=by rw [hx3,aW];rfl
 refine aA.subR (nx':=4) (l':=[(0,.ptr 0 0),(3,.ptr 2 0)]) (H':=[prB x3.2 3,aZ x3.1 3,(2,.cells 61 (toV r.row))]) [(3,5)] ?_ sH sH
 (try refine gS ?_);conv=>whnf
 rw [←hx3]
 refine aA.nameAt (fun _ x=>x) 64 (by exact hT.i) ?_
 conv=>whnf
 (try refine gS ?_);conv=>whnf
 refine aA.subR [] (aA.loop (fun (⟨i,z⟩:Nat×Ac)=>[(0,.ptr 0 0),(3,.ptr 2 0),(64,.buf 4),(65,.v (.int .i64 r.inn.length)),(66,.v (.int .i64 i))]) (fun (⟨i,z⟩:Nat×Ac)=>[prB z.2 3,aZ z.1 3,(2,.cells 61 (toV r.row)),(4,.ro 7 (rws Am.row r.inn))]) 5 (fun (⟨i,z⟩:Nat×Ac)=>i≤r.inn.length∧z=acc x3 (Pr.all aEF (r.inn.take i))) (fun (⟨i,z⟩:Nat×Ac)=>r.inn.length - i) ?round13 ((0,x3)) ?J013) sH sH
 case J013=>exact (⟨Nat.zero_le _,(jB x3).symm⟩)
 rintro ⟨i,z⟩ hJ back
 try dsimp only at hJ back
 conv=>whnf
 try dsimp only
 refine gS ?_;conv=>whnf
 obtain ⟨hi,hJ⟩:=hJ
 have lz:z.1.length≤x3.1.length+8*i:=by
  rw [hJ,aW]
  have:=rK aGT (r.inn.take i)
  rw [List.length_take] at this
  omega
 refine ⟨fun hk=>?_,fun hk=>?_⟩<;>conv=>whnf
 ·have hk:i<r.inn.length:=by omega
  have hn:=kD (f:=aEF) (r.inn.take i) r.inn[i]
  rw [←dC hk] at hn
  conv=>whnf
  repeat ((first|(guard_target=_∧_;(first|refine oL ?_|refine oR ?_))|(guard_target=Exists _;refine oM ?_));(try intro _);conv=>whnf)
  refine ⟨_,aK hk,?_⟩;conv=>whnf
  try (refine oN ?_;conv=>whnf)
  (try refine gS ?_);conv=>whnf
  refine aA.callN (bY z [.w wIn] (by show z.1.length+1≤_;omega)) [0,3,6] ?_ sH ?CNa14
  case CNa14=>rfl
  rintro z1 hz1<;>conv=>whnf
  have lz1:z1.1.length=z.1.length+1:=by rw [hz1,aW];rfl
  refine aA.subR (nx':=6) (l':=[(0,.ptr 0 0),(3,.ptr 2 0),(64,.buf 4),(65,.v (.int .i64 r.inn.length)),(66,.v (.int .i64 i)),(5,.ptr 5 0)]) (H':=[prB z1.2 3,aZ z1.1 3,(2,.cells 61 (toV r.row)),(5,.cells 55 (toV r.inn[i].row)),(4,.ro 7 (rws Am.row r.inn))]) [(3,7)] ?_ sH sH
  (try refine gS ?_);conv=>whnf
  cases hbk:r.inn[i].back with
  |true=>
   (try refine gS ?_);conv=>whnf
   refine aA.callN (bY z1 [.w kP] (by show z1.1.length+1≤_;omega)) [0,3,6] ?_ sH ?CNa15
   case CNa15=>rfl
   rintro z2 hz2<;>conv=>whnf
   have lz2:z2.1.length=z1.1.length+1:=by rw [hz2,aW];rfl
   refine aA.subR (nx':=6) (l':=[(0,.ptr 0 0),(3,.ptr 2 0),(64,.buf 4),(65,.v (.int .i64 r.inn.length)),(66,.v (.int .i64 i)),(5,.ptr 5 0)]) (H':=[prB z2.2 3,aZ z2.1 3,(2,.cells 61 (toV r.row)),(5,.cells 55 (toV r.inn[i].row)),(4,.ro 7 (rws Am.row r.inn))]) [(3,7)] ?_ sH sH
   (try refine gS ?_);conv=>whnf
   refine aA.callN (aOY z2 (r.inn[i]) (by omega)) [0,3] ?_ sH ?CNa16
   case CNa16=>rfl
   rintro z3 hz3<;>conv=>whnf
   have lz3:z3.1.length=z2.1.length+6:=by rw [hz3,aW];rfl
   refine aA.subR (nx':=6) (l':=[(0,.ptr 0 0),(3,.ptr 2 0),(64,.buf 4),(65,.v (.int .i64 r.inn.length)),(66,.v (.int .i64 i))]) (H':=[prB z3.2 3,aZ z3.1 3,(2,.cells 61 (toV r.row)),(4,.ro 7 (rws Am.row r.inn))]) [(3,6)] ?_ sH sH
   (try refine gS ?_);conv=>whnf
   repeat ((first|(guard_target=_∧_;(first|refine oL ?_|refine oR ?_))|(guard_target=Exists _;refine oM ?_));(try intro _);conv=>whnf)
   refine aA.subR [] (back ((i+1,z3)) (by exact (⟨hk,by show z3=_;rw [hz3,hz2,hz1,hJ,hn,bD,bD,bD,←bD _ _ (aEF _),←bD];exact gA (by simp [Pr.add,aEF,aDX,hbk]) (by simp [Pr.add,aEF])⟩)) (by (try dsimp only);omega)) sH sH
  |false=>
   (try refine gS ?_);conv=>whnf
   refine aA.callN (aOY z1 (r.inn[i]) (by omega)) [0,3] ?_ sH ?CNa18
   case CNa18=>rfl
   rintro z3 hz3<;>conv=>whnf
   have lz3:z3.1.length=z1.1.length+6:=by rw [hz3,aW];rfl
   refine aA.subR (nx':=6) (l':=[(0,.ptr 0 0),(3,.ptr 2 0),(64,.buf 4),(65,.v (.int .i64 r.inn.length)),(66,.v (.int .i64 i))]) (H':=[prB z3.2 3,aZ z3.1 3,(2,.cells 61 (toV r.row)),(4,.ro 7 (rws Am.row r.inn))]) [(3,6)] ?_ sH sH
   (try refine gS ?_);conv=>whnf
   repeat ((first|(guard_target=_∧_;(first|refine oL ?_|refine oR ?_))|(guard_target=Exists _;refine oM ?_));(try intro _);conv=>whnf)
   refine aA.subR [] (back ((i+1,z3)) (by exact (⟨hk,by show z3=_;rw [hz3,hz1,hJ,hn,bD,bD];exact gA (by simp [Pr.add,aEF,aDX,hbk]) (by simp [Pr.add,aEF])⟩)) (by (try dsimp only);omega)) sH sH
 have hJ:z=acc x3 (Pr.all aEF r.inn):=by rw [hJ,List.take_of_length_le (by omega)]
 clear back
 obtain ⟨x4,hx4⟩:∃x4,x4=z:=⟨_,rfl⟩
 rw [←hx4] at hJ ⊢
 clear hx4 lz
 have hx4:=hJ
 clear hJ
 have lx4:x4.1.length≤x3.1.length+8*r.inn.length:=by
  rw [hx4,aW]
  have:=rK aGT r.inn
  omega
 rw [←hx4]
 refine aA.subR (nx':=4) (l':=[(0,.ptr 0 0),(3,.ptr 2 0),(85,.v (r.ho.v r.out.length)),(86,.v (.int .i64 r.out.length)),(87,.v (.int .i64 (0:Nat)))]) (H':=[prB x4.2 3,aZ x4.1 3,(2,.cells 61 (toV r.row))]) [] ?_ sH sH
 refine aA.nameAt (fun _ x=>x) 85 (by exact hT.o) ?_
 conv=>whnf
 (try refine gS ?_);conv=>whnf
 refine aA.subR [] (aA.loop (fun (⟨i,z⟩:Nat×Ac)=>[(0,.ptr 0 0),(3,.ptr 2 0),(85,.buf 4),(86,.v (.int .i64 r.out.length)),(87,.v (.int .i64 i))]) (fun (⟨i,z⟩:Nat×Ac)=>[prB z.2 3,aZ z.1 3,(2,.cells 61 (toV r.row)),(4,.ro 7 (rws Am.row r.out))]) 5 (fun (⟨i,z⟩:Nat×Ac)=>i≤r.out.length∧z=acc x4 (Pr.all zP (r.out.take i))) (fun (⟨i,z⟩:Nat×Ac)=>r.out.length - i) ?round20 ((0,x4)) ?J020) sH sH
 case J020=>exact (⟨Nat.zero_le _,(jB x4).symm⟩)
 rintro ⟨i,z⟩ hJ back
 try dsimp only at hJ back
 conv=>whnf
 try dsimp only
 refine gS ?_;conv=>whnf
 obtain ⟨hi,hJ⟩:=hJ
 have lz:z.1.length≤x4.1.length+7*i:=by
  rw [hJ,aW]
  have:=rK aCJ (r.out.take i)
  rw [List.length_take] at this
  omega
 refine ⟨fun hk=>?_,fun hk=>?_⟩<;>conv=>whnf
 ·have hk:i<r.out.length:=by omega
  have hn:=kD (f:=zP) (r.out.take i) r.out[i]
  rw [←dC hk] at hn
  conv=>whnf
  repeat ((first|(guard_target=_∧_;(first|refine oL ?_|refine oR ?_))|(guard_target=Exists _;refine oM ?_));(try intro _);conv=>whnf)
  refine ⟨_,aK hk,?_⟩;conv=>whnf
  try (refine oN ?_;conv=>whnf)
  refine aA.callN (iV z (!r.out[i].back)) [0,3] ?_ sH ?CNa21
  case CNa21=>rfl
  rintro z1 hz1<;>conv=>whnf
  have lz1:z1.1.length=z.1.length:=by rw [hz1,aW];rfl
  refine aA.subR (nx':=6) (l':=[(0,.ptr 0 0),(3,.ptr 2 0),(85,.buf 4),(86,.v (.int .i64 r.out.length)),(87,.v (.int .i64 i)),(7,.ptr 5 0)]) (H':=[prB z1.2 3,aZ z1.1 3,(2,.cells 61 (toV r.row)),(5,.cells 55 (toV r.out[i].row)),(4,.ro 7 (rws Am.row r.out))]) [] ?_ sH sH
  (try refine gS ?_);conv=>whnf
  refine aA.callN (bY z1 [.w lB] (by show z1.1.length+1≤_;omega)) [0,3,6] ?_ sH ?CNa22
  case CNa22=>rfl
  rintro z2 hz2<;>conv=>whnf
  have lz2:z2.1.length=z1.1.length+1:=by rw [hz2,aW];rfl
  refine aA.subR (nx':=6) (l':=[(0,.ptr 0 0),(3,.ptr 2 0),(85,.buf 4),(86,.v (.int .i64 r.out.length)),(87,.v (.int .i64 i)),(7,.ptr 5 0)]) (H':=[prB z2.2 3,aZ z2.1 3,(2,.cells 61 (toV r.row)),(5,.cells 55 (toV r.out[i].row)),(4,.ro 7 (rws Am.row r.out))]) [(3,7)] ?_ sH sH
  (try refine gS ?_);conv=>whnf
  refine aA.callN (aOY z2 (r.out[i]) (by omega)) [0,3] ?_ sH ?CNa23
  case CNa23=>rfl
  rintro z3 hz3<;>conv=>whnf
  have lz3:z3.1.length=z2.1.length+6:=by rw [hz3,aW];rfl
  refine aA.subR (nx':=6) (l':=[(0,.ptr 0 0),(3,.ptr 2 0),(85,.buf 4),(86,.v (.int .i64 r.out.length)),(87,.v (.int .i64 i))]) (H':=[prB z3.2 3,aZ z3.1 3,(2,.cells 61 (toV r.row)),(4,.ro 7 (rws Am.row r.out))]) [(3,6)] ?_ sH sH
  (try refine gS ?_);conv=>whnf
  repeat ((first|(guard_target=_∧_;(first|refine oL ?_|refine oR ?_))|(guard_target=Exists _;refine oM ?_));(try intro _);conv=>whnf)
  refine aA.subR [] (back ((i+1,z3)) (by exact (⟨hk,by show z3=_;rw [hz3,hz2,hz1,hJ,hn,bD,bD,bD];exact gA (by simp [Pr.add,zP,aCV]) (by simp [Pr.add,zP])⟩)) (by (try dsimp only);omega)) sH sH
 have hJ:z=acc x4 (Pr.all zP r.out):=by rw [hJ,List.take_of_length_le (by omega)]
 clear back
 obtain ⟨x5,hx5⟩:∃x5,x5=z:=⟨_,rfl⟩
 rw [←hx5] at hJ ⊢
 clear hx5 lz
 have hx5:=hJ
 clear hJ
 have lx5:x5.1.length≤x4.1.length+7*r.out.length:=by
  rw [hx5,aW]
  have:=rK aCJ r.out
  omega
 rw [←hx5]
 refine aA.callN (bY x5 [.w gQ,.n r.rwN,wS 47,.n r.rwD,wS 59] (by show x5.1.length+5≤_;omega)) [0,3,5] ?_ sH ?CNa25
 case CNa25=>rfl
 rintro x6 hx6<;>conv=>whnf
 have lx6:x6.1.length=x5.1.length+5:=by rw [hx6,aW];rfl
 refine aA.subR (nx':=4) (l':=[(0,.ptr 0 0),(3,.ptr 2 0)]) (H':=[prB x6.2 3,aZ x6.1 3,(2,.cells 61 (toV r.row))]) [(3,6)] ?_ sH sH
 (try refine gS ?_);conv=>whnf
 rw [←hx6]
 refine aA.callN (bY x6 [.w jQ,.n r.yN,wS 47,.n r.yD,.w gN,.n r.tN,wS 47,.n r.tD,wS 59] (by show x6.1.length+9≤_;omega)) [0,3,4] ?_ sH ?CNa26
 case CNa26=>rfl
 rintro x7 hx7<;>conv=>whnf
 have lx7:x7.1.length=x6.1.length+9:=by rw [hx7,aW];rfl
 refine aA.subR (nx':=4) (l':=[(0,.ptr 0 0),(3,.ptr 2 0)]) (H':=[prB x7.2 3,aZ x7.1 3,(2,.cells 61 (toV r.row))]) [(3,5)] ?_ sH sH
 (try refine gS ?_);conv=>whnf
 rw [←hx7]
 refine aA.callN (bY x7 [.w nY,.n r.lead,wS 59] (by show x7.1.length+3≤_;omega)) [0,3,4] ?_ sH ?CNa27
 case CNa27=>rfl
 rintro x8 hx8<;>conv=>whnf
 have lx8:x8.1.length=x7.1.length+3:=by rw [hx8,aW];rfl
 refine aA.subR (nx':=4) (l':=[(0,.ptr 0 0),(3,.ptr 2 0)]) (H':=[prB x8.2 3,aZ x8.1 3,(2,.cells 61 (toV r.row))]) [(3,5)] ?_ sH sH
 (try refine gS ?_);conv=>whnf
 rw [←hx8]
 refine aA.nameAt (fun _ x=>x) 145 (by exact hT.rn) ?_
 conv=>whnf
 (try refine gS ?_);conv=>whnf
 refine aA.subR [] (aA.loop (fun (⟨i,z⟩:Nat×Ac)=>[(0,.ptr 0 0),(3,.ptr 2 0),(145,.buf 4),(146,.v (.int .i64 r.runs.length)),(147,.v (.int .i64 i))]) (fun (⟨i,z⟩:Nat×Ac)=>[prB z.2 3,aZ z.1 3,(2,.cells 61 (toV r.row)),(4,.ro 3 (rws Rn.row r.runs))]) 5 (fun (⟨i,z⟩:Nat×Ac)=>i≤r.runs.length∧z=acc x8 (Pr.all aIF (r.runs.take i))) (fun (⟨i,z⟩:Nat×Ac)=>r.runs.length - i) ?round28 ((0,x8)) ?J028) sH sH
 case J028=>exact (⟨Nat.zero_le _,(jB x8).symm⟩)
 rintro ⟨i,z⟩ hJ back
 try dsimp only at hJ back
 conv=>whnf
 try dsimp only
 refine gS ?_;conv=>whnf
 obtain ⟨hi,hJ⟩:=hJ
 have lz:z.1.length≤x8.1.length+4*i:=by
  rw [hJ,aW]
  have:=rK aJE (r.runs.take i)
  rw [List.length_take] at this
  omega
 refine ⟨fun hk=>?_,fun hk=>?_⟩<;>conv=>whnf
 ·have hk:i<r.runs.length:=by omega
  have hn:=kD (f:=aIF) (r.runs.take i) r.runs[i]
  rw [←dC hk] at hn
  conv=>whnf
  repeat ((first|(guard_target=_∧_;(first|refine oL ?_|refine oR ?_))|(guard_target=Exists _;refine oM ?_));(try intro _);conv=>whnf)
  refine ⟨_,aK hk,?_⟩;conv=>whnf
  try (refine oN ?_;conv=>whnf)
  (try refine gS ?_);conv=>whnf
  refine aA.callN (bY z [.w oD,.s r.runs[i].mach,.n r.runs[i].slots,wS 59] (by show z.1.length+4≤_;omega)) [0,3,6] ?_ sH ?CNa29
  case CNa29=>rfl
  rintro z1 hz1<;>conv=>whnf
  have lz1:z1.1.length=z.1.length+4:=by rw [hz1,aW];rfl
  refine aA.subR (nx':=6) (l':=[(0,.ptr 0 0),(3,.ptr 2 0),(145,.buf 4),(146,.v (.int .i64 r.runs.length)),(147,.v (.int .i64 i))]) (H':=[prB z1.2 3,aZ z1.1 3,(2,.cells 61 (toV r.row)),(4,.ro 3 (rws Rn.row r.runs))]) [(3,7)] ?_ sH sH
  (try refine gS ?_);conv=>whnf
  repeat ((first|(guard_target=_∧_;(first|refine oL ?_|refine oR ?_))|(guard_target=Exists _;refine oM ?_));(try intro _);conv=>whnf)
  refine aA.subR [] (back ((i+1,z1)) (by exact (⟨hk,by show z1=_;rw [hz1,hJ,hn,bD];exact gA rfl rfl⟩)) (by (try dsimp only);omega)) sH sH
 have hJ:z=acc x8 (Pr.all aIF r.runs):=by rw [hJ,List.take_of_length_le (by omega)]
 clear back
 (try refine gS ?_);conv=>whnf
 refine aA.callN (bY z [wS 125] (by show z.1.length+1≤_;omega)) [0,3,5] ?_ sH ?CNa31
 case CNa31=>rfl
 rintro w hw<;>conv=>whnf
 have lw:w.1.length=z.1.length+1:=by rw [hw,aW];rfl
 refine aA.subR (nx':=5) (l':=[(0,.ptr 0 0)]) (H':=[prB w.2 3,aZ w.1 3]) [(3,6)] ?_ sH sH
 (try refine gS ?_);conv=>whnf
 try refine aA.finU ?_
 exact aE.ret tab Tryz.func96 rfl (aL.mk (w) (by rw [hw,hJ]) [(2,3)] sH rfl rfl (aY rfl rfl))
end Go.Proofs.YtgbeechjghajcaaGreatDoor

namespace Go.SynM
open Go Go.Fw Go.RatM Go.SrcM
def aFC (o:OpV):Nat:=5+2*o.ch.length
def aGO (f:FbV):Nat:=2+4*f.cs.length
def aFN (r:RcV):Nat:=28+4*r.cs.length+8*r.inn.length+7*r.out.length+4*r.runs.length
def ttl (s:aJ):Nat:=(s.units.map fun _=>8).sum+((s.items.map fun _=>12).sum+((s.plants.map fun _=>3).sum+((s.machines.map fun _=>7).sum+((s.options.map aFC).sum+((s.forbids.map aGO).sum+((s.recipes.map aFN).sum+(s.swaps.map fun _=>5).sum))))))
theorem cX {α:Type} {f:α→Pr} {n:α→Nat} (h:∀x,(f x).l.length≤n x) (l:List α):(Pr.all f l).l.length≤(l.map n).sum:=by
 induction l with
 |nil=>simp [Pr.all,Pr.nil]
 |cons x l ih=>
  have:=h x
  simp only [Pr.all,Pr.add,List.length_append,List.map_cons,List.sum_cons]
  omega
theorem yY (u:Un):(nL u).l.length≤8:=by
 unfold nL
 split<;>simp
theorem yO (u:It):(pZ u).l.length≤12:=by
 unfold pZ
 split<;>simp
theorem vG (u:ByteArray):(rG u).l.length≤3:=Nat.le_of_eq rfl
theorem yR (u:Mc):(wE u).l.length≤7:=Nat.le_of_eq rfl
theorem yW (u:Sw):(wT u).l.length≤5:=Nat.le_of_eq rfl
theorem zN (o:OpV):(qN o).l.length≤aFC o:=by
 have:=aHR o.ch
 simp only [qN,aFC,List.length_append,List.length_cons,List.length_nil]
 omega
theorem zJ (o:FbV):(pU o).l.length≤aGO o:=by
 have:=pN o.cs
 simp only [pU,aGO,List.length_append,List.length_cons,List.length_nil]
 omega
theorem aBQ (r:RcV):(vB r).l.length≤aFN r:=by
 rw [←aIW]
 have h1:=pN r.cs
 have h2:=rK aGT r.inn
 have h3:=rK aCJ r.out
 have h4:=rK aJE r.runs
 have h5:(aDD r.cs).l.length≤1+4*r.cs.length:=by
  unfold aDD
  split
  ·simp
  simp only [List.length_cons];omega
 simp only [Pr.add,aFN,List.length_append,List.length_cons,List.length_nil]
 omega
end Go.SynM
namespace Go.Proofs.YtgbeechjghajcaaGreatDoor
open Go Go.Fw Go.NatM Go.RatM Go.SrcM Go.SynM
set_option maxRecDepth 100000
set_option maxHeartbeats 99999999
theorem OpV.tok (o:OpV):TOk (fun F h=>o.ok F h):=RoF.tok _ _ _
theorem FbV.tok (o:FbV):TOk (fun F h=>o.ok F h):=RoF.tok _ _ _
section
variable {vU vI vP vM vO vF vR vS:Value}
theorem psrc_fn (s:aJ) (x:Ac) (hl:x.1.length+ttl s≤1000000):FnT Tryz.prog (TopT vU vI vP vM vO vF vR vS s) 31 2 [.ptr 0 0,sK vU vI vP vM vO vF vR vS] [prB x.2 1,aZ x.1 1] (fun y=>y=acc x (yH s)) (aOH 2):=by
 unfold yH
 rw [←bD,←bD,←bD,←bD,←bD,←bD,←bD]
 obtain ⟨sU,eU⟩:∃n,n=(s.units.map fun _=>8).sum:=⟨_,rfl⟩
 obtain ⟨sI,eI⟩:∃n,n=(s.items.map fun _=>12).sum:=⟨_,rfl⟩
 obtain ⟨sP,eP⟩:∃n,n=(s.plants.map fun _=>3).sum:=⟨_,rfl⟩
 obtain ⟨sM,eM⟩:∃n,n=(s.machines.map fun _=>7).sum:=⟨_,rfl⟩
 obtain ⟨sO,eO⟩:∃n,n=(s.options.map aFC).sum:=⟨_,rfl⟩
 obtain ⟨sF,eF⟩:∃n,n=(s.forbids.map aGO).sum:=⟨_,rfl⟩
 obtain ⟨sR,eR⟩:∃n,n=(s.recipes.map aFN).sum:=⟨_,rfl⟩
 obtain ⟨sS,eS⟩:∃n,n=(s.swaps.map fun _=>5).sum:=⟨_,rfl⟩
 unfold ttl at hl
 rw [←eU,←eI,←eP,←eM,←eO,←eF,←eR,←eS] at hl
 have lU:=cB s.units
 have lI:=aG It.row s.items
 have lP:=pG s.plants
 have lM:=aG Mc.row s.machines
 have lO:=aG OpV.row s.options
 have lF:=aG FbV.row s.forbids
 have lR:=aG RcV.row s.recipes
 have lS:=aG Sw.row s.swaps
 refine FnT.of Tryz.func31 (by kernel_rfl) rfl Tryz.ntmps31 rfl fun E0 F h hT w0 cs=>?_
 obtain ⟨aU,cU,aI,cI,aP,cP,aM,cM,aO,cO,aF,cF,aR,cR,aS,cS,rfl,rfl,rfl,rfl,rfl,rfl,rfl,rfl⟩:=oP hT
 conv=>whnf
 (try refine gS ?_);conv=>whnf
 refine aA.subR (nx':=4) (l':=[(0,.ptr 0 0),(3,.ptr 2 0),(21,.v (.slice aU s.units.length cU)),(22,.v (.int .i64 s.units.length)),(23,.v (.int .i64 (0:Nat)))]) (H':=[prB x.2 3,aZ x.1 3,(2,sC aU cU aI cI aP cP aM cM aO cO aF cF aR cR aS cS s)]) [(3,1)] ?_ sH sH
 have mU:=hT.U.len
 refine aA.nameAt (fun _ x=>x) 21 (by exact hT.U) ?_
 conv=>whnf
 (try refine gS ?_);conv=>whnf
 refine aA.subR [] (aA.loop (fun (⟨i,z⟩:Nat×Ac)=>[(0,.ptr 0 0),(3,.ptr 2 0),(21,.buf 4),(22,.v (.int .i64 s.units.length)),(23,.v (.int .i64 i))]) (fun (⟨i,z⟩:Nat×Ac)=>[prB z.2 3,aZ z.1 3,(2,sC aU cU aI cI aP cP aM cM aO cO aF cF aR cR aS cS s),(4,.ro 8 (fQ s.units))]) 5 (fun (⟨i,z⟩:Nat×Ac)=>i≤s.units.length∧z=acc x (Pr.all nL (s.units.take i))) (fun (⟨i,z⟩:Nat×Ac)=>s.units.length - i) ?round1 ((0,x)) ?J01) sH sH
 case J01=>exact (⟨Nat.zero_le _,(jB x).symm⟩)
 rintro ⟨i,z⟩ hJ back
 try dsimp only at hJ back
 conv=>whnf
 try dsimp only
 refine gS ?_;conv=>whnf
 obtain ⟨hi,hJ⟩:=hJ
 have lz:z.1.length≤x.1.length+oH (fun _=>8) s.units i:=by
  rw [hJ,aW]
  have:=cX (n:=(fun _=>8)) yY (s.units.take i)
  unfold oH
  omega
 refine ⟨fun hk=>?_,fun hk=>?_⟩<;>conv=>whnf
 ·have hk:i<s.units.length:=by omega
  have hn:=kD (f:=nL) (s.units.take i) s.units[i]
  rw [←dC hk] at hn
  have hs:=iR (f:=(fun _=>8)) hk
  have hs2:=mZ (f:=(fun _=>8)) (l:=s.units) (i+1)
  rw [←eU] at hs2
  conv=>whnf
  repeat ((first|(guard_target=_∧_;(first|refine oL ?_|refine oR ?_))|(guard_target=Exists _;refine oM ?_));(try intro _);conv=>whnf)
  refine ⟨_,sY hk,?_⟩;conv=>whnf
  try (refine oN ?_;conv=>whnf)
  refine aA.callN (aST z s.units[i] (by omega)) [0,3] ?_ sH ?CNa2
  case CNa2=>rfl
  rintro w hw<;>conv=>whnf
  refine aA.subR (nx':=6) (l':=[(0,.ptr 0 0),(3,.ptr 2 0),(21,.buf 4),(22,.v (.int .i64 s.units.length)),(23,.v (.int .i64 i))]) (H':=[prB w.2 3,aZ w.1 3,(2,sC aU cU aI cI aP cP aM cM aO cO aF cF aR cR aS cS s),(4,.ro 8 (fQ s.units))]) [(3,6)] ?_ sH sH
  (try refine gS ?_);conv=>whnf
  repeat ((first|(guard_target=_∧_;(first|refine oL ?_|refine oR ?_))|(guard_target=Exists _;refine oM ?_));(try intro _);conv=>whnf)
  refine aA.subR [] (back ((i+1,w)) (by exact (⟨hk,by show w=_;rw [hw,hJ,hn,←bD]⟩)) (by (try dsimp only);omega)) sH sH
 have hJ:z=acc x (Pr.all nL s.units):=by rw [hJ,List.take_of_length_le (by omega)]
 clear back lz
 obtain ⟨x1,hx1⟩:∃y,y=z:=⟨_,rfl⟩
 rw [←hx1] at hJ ⊢
 clear hx1
 have hx1:=hJ
 clear hJ
 have lx1:x1.1.length≤x.1.length+sU:=by
  rw [hx1,aW,eU]
  exact Nat.add_le_add_left (cX yY _) _
 rw [←hx1]
 refine aA.subR (nx':=4) (l':=[(0,.ptr 0 0),(3,.ptr 2 0),(32,.v (.slice aI s.items.length cI)),(33,.v (.int .i64 s.items.length)),(34,.v (.int .i64 (0:Nat)))]) (H':=[prB x1.2 3,aZ x1.1 3,(2,sC aU cU aI cI aP cP aM cM aO cO aF cF aR cR aS cS s)]) [] ?_ sH sH
 have mI:=hT.I.len
 refine aA.nameAt (fun _ x=>x) 32 (by exact hT.I) ?_
 conv=>whnf
 (try refine gS ?_);conv=>whnf
 refine aA.subR [] (aA.loop (fun (⟨i,z⟩:Nat×Ac)=>[(0,.ptr 0 0),(3,.ptr 2 0),(32,.buf 4),(33,.v (.int .i64 s.items.length)),(34,.v (.int .i64 i))]) (fun (⟨i,z⟩:Nat×Ac)=>[prB z.2 3,aZ z.1 3,(2,sC aU cU aI cI aP cP aM cM aO cO aF cF aR cR aS cS s),(4,.ro 6 (rws It.row s.items))]) 5 (fun (⟨i,z⟩:Nat×Ac)=>i≤s.items.length∧z=acc x1 (Pr.all pZ (s.items.take i))) (fun (⟨i,z⟩:Nat×Ac)=>s.items.length - i) ?round4 ((0,x1)) ?J04) sH sH
 case J04=>exact (⟨Nat.zero_le _,(jB x1).symm⟩)
 rintro ⟨i,z⟩ hJ back
 try dsimp only at hJ back
 conv=>whnf
 try dsimp only
 refine gS ?_;conv=>whnf
 obtain ⟨hi,hJ⟩:=hJ
 have lz:z.1.length≤x1.1.length+oH (fun _=>12) s.items i:=by
  rw [hJ,aW]
  have:=cX (n:=(fun _=>12)) yO (s.items.take i)
  unfold oH
  omega
 refine ⟨fun hk=>?_,fun hk=>?_⟩<;>conv=>whnf
 ·have hk:i<s.items.length:=by omega
  have hn:=kD (f:=pZ) (s.items.take i) s.items[i]
  rw [←dC hk] at hn
  have hs:=iR (f:=(fun _=>12)) hk
  have hs2:=mZ (f:=(fun _=>12)) (l:=s.items) (i+1)
  rw [←eI] at hs2
  conv=>whnf
  repeat ((first|(guard_target=_∧_;(first|refine oL ?_|refine oR ?_))|(guard_target=Exists _;refine oM ?_));(try intro _);conv=>whnf)
  refine ⟨_,aK hk,?_⟩;conv=>whnf
  try (refine oN ?_;conv=>whnf)
  refine aA.callN (aTE z s.items[i] (by omega)) [0,3] ?_ sH ?CNa5
  case CNa5=>rfl
  rintro w hw<;>conv=>whnf
  refine aA.subR (nx':=6) (l':=[(0,.ptr 0 0),(3,.ptr 2 0),(32,.buf 4),(33,.v (.int .i64 s.items.length)),(34,.v (.int .i64 i))]) (H':=[prB w.2 3,aZ w.1 3,(2,sC aU cU aI cI aP cP aM cM aO cO aF cF aR cR aS cS s),(4,.ro 6 (rws It.row s.items))]) [(3,6)] ?_ sH sH
  (try refine gS ?_);conv=>whnf
  repeat ((first|(guard_target=_∧_;(first|refine oL ?_|refine oR ?_))|(guard_target=Exists _;refine oM ?_));(try intro _);conv=>whnf)
  refine aA.subR [] (back ((i+1,w)) (by exact (⟨hk,by show w=_;rw [hw,hJ,hn,←bD]⟩)) (by (try dsimp only);omega)) sH sH
 have hJ:z=acc x1 (Pr.all pZ s.items):=by rw [hJ,List.take_of_length_le (by omega)]
 clear back lz
 obtain ⟨x2,hx2⟩:∃y,y=z:=⟨_,rfl⟩
 rw [←hx2] at hJ ⊢
 clear hx2
 have hx2:=hJ
 clear hJ
 have lx2:x2.1.length≤x1.1.length+sI:=by
  rw [hx2,aW,eI]
  exact Nat.add_le_add_left (cX yO _) _
 rw [←hx2]
 refine aA.subR (nx':=4) (l':=[(0,.ptr 0 0),(3,.ptr 2 0),(43,.v (.slice aP s.plants.length cP)),(44,.v (.int .i64 s.plants.length)),(45,.v (.int .i64 (0:Nat)))]) (H':=[prB x2.2 3,aZ x2.1 3,(2,sC aU cU aI cI aP cP aM cM aO cO aF cF aR cR aS cS s)]) [] ?_ sH sH
 have mP:=hT.P.len
 refine aA.nameAt (fun _ x=>x) 43 (by exact hT.P) ?_
 conv=>whnf
 (try refine gS ?_);conv=>whnf
 refine aA.subR [] (aA.loop (fun (⟨i,z⟩:Nat×Ac)=>[(0,.ptr 0 0),(3,.ptr 2 0),(43,.buf 4),(44,.v (.int .i64 s.plants.length)),(45,.v (.int .i64 i))]) (fun (⟨i,z⟩:Nat×Ac)=>[prB z.2 3,aZ z.1 3,(2,sC aU cU aI cI aP cP aM cM aO cO aF cF aR cR aS cS s),(4,.ro 1 (jY s.plants))]) 5 (fun (⟨i,z⟩:Nat×Ac)=>i≤s.plants.length∧z=acc x2 (Pr.all rG (s.plants.take i))) (fun (⟨i,z⟩:Nat×Ac)=>s.plants.length - i) ?round7 ((0,x2)) ?J07) sH sH
 case J07=>exact (⟨Nat.zero_le _,(jB x2).symm⟩)
 rintro ⟨i,z⟩ hJ back
 try dsimp only at hJ back
 conv=>whnf
 try dsimp only
 refine gS ?_;conv=>whnf
 obtain ⟨hi,hJ⟩:=hJ
 have lz:z.1.length≤x2.1.length+oH (fun _=>3) s.plants i:=by
  rw [hJ,aW]
  have:=cX (n:=(fun _=>3)) vG (s.plants.take i)
  unfold oH
  omega
 refine ⟨fun hk=>?_,fun hk=>?_⟩<;>conv=>whnf
 ·have hk:i<s.plants.length:=by omega
  have hn:=kD (f:=rG) (s.plants.take i) s.plants[i]
  rw [←dC hk] at hn
  have hs:=iR (f:=(fun _=>3)) hk
  have hs2:=mZ (f:=(fun _=>3)) (l:=s.plants) (i+1)
  rw [←eP] at hs2
  conv=>whnf
  repeat ((first|(guard_target=_∧_;(first|refine oL ?_|refine oR ?_))|(guard_target=Exists _;refine oM ?_));(try intro _);conv=>whnf)
  refine ⟨_,aK hk,?_⟩;conv=>whnf
  (try refine gS ?_);conv=>whnf
  refine aA.callN (bY z [.w fD,.s s.plants[i],wS 59] (by show z.1.length+3≤_;omega)) [0,3,5] ?_ sH ?CNa8
  case CNa8=>rfl
  rintro w hw<;>conv=>whnf
  have lw:w.1.length=z.1.length+3:=by rw [hw,aW];rfl
  refine aA.subR (nx':=6) (l':=[(0,.ptr 0 0),(3,.ptr 2 0),(43,.buf 4),(44,.v (.int .i64 s.plants.length)),(45,.v (.int .i64 i))]) (H':=[prB w.2 3,aZ w.1 3,(2,sC aU cU aI cI aP cP aM cM aO cO aF cF aR cR aS cS s),(4,.ro 1 (jY s.plants))]) [(3,6)] ?_ sH sH
  (try refine gS ?_);conv=>whnf
  repeat ((first|(guard_target=_∧_;(first|refine oL ?_|refine oR ?_))|(guard_target=Exists _;refine oM ?_));(try intro _);conv=>whnf)
  refine aA.subR [] (back ((i+1,w)) (by exact (⟨hk,by show w=_;rw [hw,hJ,hn,←bD];rfl⟩)) (by (try dsimp only);omega)) sH sH
 have hJ:z=acc x2 (Pr.all rG s.plants):=by rw [hJ,List.take_of_length_le (by omega)]
 clear back lz
 obtain ⟨x3,hx3⟩:∃y,y=z:=⟨_,rfl⟩
 rw [←hx3] at hJ ⊢
 clear hx3
 have hx3:=hJ
 clear hJ
 have lx3:x3.1.length≤x2.1.length+sP:=by
  rw [hx3,aW,eP]
  exact Nat.add_le_add_left (cX vG _) _
 rw [←hx3]
 refine aA.subR (nx':=4) (l':=[(0,.ptr 0 0),(3,.ptr 2 0),(58,.v (.slice aM s.machines.length cM)),(59,.v (.int .i64 s.machines.length)),(60,.v (.int .i64 (0:Nat)))]) (H':=[prB x3.2 3,aZ x3.1 3,(2,sC aU cU aI cI aP cP aM cM aO cO aF cF aR cR aS cS s)]) [] ?_ sH sH
 have mM:=hT.M.len
 refine aA.nameAt (fun _ x=>x) 58 (by exact hT.M) ?_
 conv=>whnf
 (try refine gS ?_);conv=>whnf
 refine aA.subR [] (aA.loop (fun (⟨i,z⟩:Nat×Ac)=>[(0,.ptr 0 0),(3,.ptr 2 0),(58,.buf 4),(59,.v (.int .i64 s.machines.length)),(60,.v (.int .i64 i))]) (fun (⟨i,z⟩:Nat×Ac)=>[prB z.2 3,aZ z.1 3,(2,sC aU cU aI cI aP cP aM cM aO cO aF cF aR cR aS cS s),(4,.ro 4 (rws Mc.row s.machines))]) 5 (fun (⟨i,z⟩:Nat×Ac)=>i≤s.machines.length∧z=acc x3 (Pr.all wE (s.machines.take i))) (fun (⟨i,z⟩:Nat×Ac)=>s.machines.length - i) ?round10 ((0,x3)) ?J010) sH sH
 case J010=>exact (⟨Nat.zero_le _,(jB x3).symm⟩)
 rintro ⟨i,z⟩ hJ back
 try dsimp only at hJ back
 conv=>whnf
 try dsimp only
 refine gS ?_;conv=>whnf
 obtain ⟨hi,hJ⟩:=hJ
 have lz:z.1.length≤x3.1.length+oH (fun _=>7) s.machines i:=by
  rw [hJ,aW]
  have:=cX (n:=(fun _=>7)) yR (s.machines.take i)
  unfold oH
  omega
 refine ⟨fun hk=>?_,fun hk=>?_⟩<;>conv=>whnf
 ·have hk:i<s.machines.length:=by omega
  have hn:=kD (f:=wE) (s.machines.take i) s.machines[i]
  rw [←dC hk] at hn
  have hs:=iR (f:=(fun _=>7)) hk
  have hs2:=mZ (f:=(fun _=>7)) (l:=s.machines) (i+1)
  rw [←eM] at hs2
  conv=>whnf
  repeat ((first|(guard_target=_∧_;(first|refine oL ?_|refine oR ?_))|(guard_target=Exists _;refine oM ?_));(try intro _);conv=>whnf)
  refine ⟨_,aK hk,?_⟩;conv=>whnf
  try (refine oN ?_;conv=>whnf)
  (try refine gS ?_);conv=>whnf
  refine aA.callN (bY z [.w cE,.s s.machines[i].name,.w wAt,.s s.machines[i].plant,.w oA,.n s.machines[i].clean,wS 59] (by show z.1.length+7≤_;omega)) [0,3,6] ?_ sH ?CNa11
  case CNa11=>rfl
  rintro w hw<;>conv=>whnf
  have lw:w.1.length=z.1.length+7:=by rw [hw,aW];rfl
  refine aA.subR (nx':=6) (l':=[(0,.ptr 0 0),(3,.ptr 2 0),(58,.buf 4),(59,.v (.int .i64 s.machines.length)),(60,.v (.int .i64 i))]) (H':=[prB w.2 3,aZ w.1 3,(2,sC aU cU aI cI aP cP aM cM aO cO aF cF aR cR aS cS s),(4,.ro 4 (rws Mc.row s.machines))]) [(3,7)] ?_ sH sH
  (try refine gS ?_);conv=>whnf
  repeat ((first|(guard_target=_∧_;(first|refine oL ?_|refine oR ?_))|(guard_target=Exists _;refine oM ?_));(try intro _);conv=>whnf)
  refine aA.subR [] (back ((i+1,w)) (by exact (⟨hk,by show w=_;rw [hw,hJ,hn,←bD];rfl⟩)) (by (try dsimp only);omega)) sH sH
 have hJ:z=acc x3 (Pr.all wE s.machines):=by rw [hJ,List.take_of_length_le (by omega)]
 clear back lz
 obtain ⟨x4,hx4⟩:∃y,y=z:=⟨_,rfl⟩
 rw [←hx4] at hJ ⊢
 clear hx4
 have hx4:=hJ
 clear hJ
 have lx4:x4.1.length≤x3.1.length+sM:=by
  rw [hx4,aW,eM]
  exact Nat.add_le_add_left (cX yR _) _
 rw [←hx4]
 refine aA.subR (nx':=4) (l':=[(0,.ptr 0 0),(3,.ptr 2 0),(82,.v (.slice aO s.options.length cO)),(83,.v (.int .i64 s.options.length)),(84,.v (.int .i64 (0:Nat)))]) (H':=[prB x4.2 3,aZ x4.1 3,(2,sC aU cU aI cI aP cP aM cM aO cO aF cF aR cR aS cS s)]) [] ?_ sH sH
 have mO:=hT.O.len
 refine aA.nameAt (fun _ x=>x) 82 (by exact hT.O) ?_
 conv=>whnf
 (try refine gS ?_);conv=>whnf
 refine aA.subR [] (aA.loop (fun (⟨i,z⟩:Nat×Ac)=>[(0,.ptr 0 0),(3,.ptr 2 0),(82,.buf 4),(83,.v (.int .i64 s.options.length)),(84,.v (.int .i64 i))]) (fun (⟨i,z⟩:Nat×Ac)=>[prB z.2 3,aZ z.1 3,(2,sC aU cU aI cI aP cP aM cM aO cO aF cF aR cR aS cS s),(4,.ro 2 (rws OpV.row s.options))]) 5 (fun (⟨i,z⟩:Nat×Ac)=>i≤s.options.length∧z=acc x4 (Pr.all qN (s.options.take i))) (fun (⟨i,z⟩:Nat×Ac)=>s.options.length - i) ?round13 ((0,x4)) ?J013) sH sH
 case J013=>exact (⟨Nat.zero_le _,(jB x4).symm⟩)
 rintro ⟨i,z⟩ hJ back
 try dsimp only at hJ back
 conv=>whnf
 try dsimp only
 refine gS ?_;conv=>whnf
 obtain ⟨hi,hJ⟩:=hJ
 have lz:z.1.length≤x4.1.length+oH aFC s.options i:=by
  rw [hJ,aW]
  have:=cX (n:=aFC) zN (s.options.take i)
  unfold oH
  omega
 refine ⟨fun hk=>?_,fun hk=>?_⟩<;>conv=>whnf
 ·have hk:i<s.options.length:=by omega
  have hn:=kD (f:=qN) (s.options.take i) s.options[i]
  rw [←dC hk] at hn
  have hs:=iR (f:=aFC) hk
  have hs2:=mZ (f:=aFC) (l:=s.options) (i+1)
  rw [←eO] at hs2
  conv=>whnf
  repeat ((first|(guard_target=_∧_;(first|refine oL ?_|refine oR ?_))|(guard_target=Exists _;refine oM ?_));(try intro _);conv=>whnf)
  refine ⟨_,aK hk,?_⟩;conv=>whnf
  try (refine oN ?_;conv=>whnf)
  refine aA.callT (OpV.tok _) (hT.below.o _ (List.getElem_mem hk)) (aYI s.options[i] z (by unfold aFC at *;omega)) [0,3] sH ?CNa14 ?_
  case CNa14=>rfl
  rintro w hw
  conv=>whnf
  refine aA.subR (nx':=7) (l':=[(0,.ptr 0 0),(3,.ptr 2 0),(82,.buf 4),(83,.v (.int .i64 s.options.length)),(84,.v (.int .i64 i))]) (H':=[prB w.2 3,aZ w.1 3,(2,sC aU cU aI cI aP cP aM cM aO cO aF cF aR cR aS cS s),(4,.ro 2 (rws OpV.row s.options))]) [(3,6)] ?_ sH sH
  (try refine gS ?_);conv=>whnf
  repeat ((first|(guard_target=_∧_;(first|refine oL ?_|refine oR ?_))|(guard_target=Exists _;refine oM ?_));(try intro _);conv=>whnf)
  refine aA.subR [] (back ((i+1,w)) (by exact (⟨hk,by show w=_;rw [hw,hJ,hn,←bD]⟩)) (by (try dsimp only);omega)) sH sH
 have hJ:z=acc x4 (Pr.all qN s.options):=by rw [hJ,List.take_of_length_le (by omega)]
 clear back lz
 obtain ⟨x5,hx5⟩:∃y,y=z:=⟨_,rfl⟩
 rw [←hx5] at hJ ⊢
 clear hx5
 have hx5:=hJ
 clear hJ
 have lx5:x5.1.length≤x4.1.length+sO:=by
  rw [hx5,aW,eO]
  exact Nat.add_le_add_left (cX zN _) _
 rw [←hx5]
 refine aA.subR (nx':=4) (l':=[(0,.ptr 0 0),(3,.ptr 2 0),(93,.v (.slice aF s.forbids.length cF)),(94,.v (.int .i64 s.forbids.length)),(95,.v (.int .i64 (0:Nat)))]) (H':=[prB x5.2 3,aZ x5.1 3,(2,sC aU cU aI cI aP cP aM cM aO cO aF cF aR cR aS cS s)]) [] ?_ sH sH
 have mF:=hT.F.len
 refine aA.nameAt (fun _ x=>x) 93 (by exact hT.F) ?_
 conv=>whnf
 (try refine gS ?_);conv=>whnf
 refine aA.subR [] (aA.loop (fun (⟨i,z⟩:Nat×Ac)=>[(0,.ptr 0 0),(3,.ptr 2 0),(93,.buf 4),(94,.v (.int .i64 s.forbids.length)),(95,.v (.int .i64 i))]) (fun (⟨i,z⟩:Nat×Ac)=>[prB z.2 3,aZ z.1 3,(2,sC aU cU aI cI aP cP aM cM aO cO aF cF aR cR aS cS s),(4,.ro 1 (rws FbV.row s.forbids))]) 5 (fun (⟨i,z⟩:Nat×Ac)=>i≤s.forbids.length∧z=acc x5 (Pr.all pU (s.forbids.take i))) (fun (⟨i,z⟩:Nat×Ac)=>s.forbids.length - i) ?round16 ((0,x5)) ?J016) sH sH
 case J016=>exact (⟨Nat.zero_le _,(jB x5).symm⟩)
 rintro ⟨i,z⟩ hJ back
 try dsimp only at hJ back
 conv=>whnf
 try dsimp only
 refine gS ?_;conv=>whnf
 obtain ⟨hi,hJ⟩:=hJ
 have lz:z.1.length≤x5.1.length+oH aGO s.forbids i:=by
  rw [hJ,aW]
  have:=cX (n:=aGO) zJ (s.forbids.take i)
  unfold oH
  omega
 refine ⟨fun hk=>?_,fun hk=>?_⟩<;>conv=>whnf
 ·have hk:i<s.forbids.length:=by omega
  have hn:=kD (f:=pU) (s.forbids.take i) s.forbids[i]
  rw [←dC hk] at hn
  have hs:=iR (f:=aGO) hk
  have hs2:=mZ (f:=aGO) (l:=s.forbids) (i+1)
  rw [←eF] at hs2
  conv=>whnf
  repeat ((first|(guard_target=_∧_;(first|refine oL ?_|refine oR ?_))|(guard_target=Exists _;refine oM ?_));(try intro _);conv=>whnf)
  refine ⟨_,aK hk,?_⟩;conv=>whnf
  unfold aGO at *
  (try refine gS ?_);conv=>whnf
  refine aA.callN (bY z [.w dK] (by show z.1.length+1≤_;omega)) [0,3,5] ?_ sH ?CNa17
  case CNa17=>rfl
  rintro z1 hz1<;>conv=>whnf
  have lz1:z1.1.length=z.1.length+1:=by rw [hz1,aW];rfl
  refine aA.subR (nx':=6) (l':=[(0,.ptr 0 0),(3,.ptr 2 0),(93,.buf 4),(94,.v (.int .i64 s.forbids.length)),(95,.v (.int .i64 i)),(15,.v (s.forbids[i].hd.v s.forbids[i].cs.length))]) (H':=[prB z1.2 3,aZ z1.1 3,(2,sC aU cU aI cI aP cP aM cM aO cO aF cF aR cR aS cS s),(4,.ro 1 (rws FbV.row s.forbids))]) [(3,6)] ?_ sH sH
  (try refine gS ?_);conv=>whnf
  refine aA.callT (FbV.tok _) (hT.below.f _ (List.getElem_mem hk)) (aHP _ s.forbids[i].cs z1 (by omega)) [0,3] sH ?CNa18 ?_
  case CNa18=>rfl
  rintro z2 hz2
  conv=>whnf
  have lz2:z2.1.length≤z1.1.length+4*s.forbids[i].cs.length:=by
   rw [hz2,aW]
   have:=pN s.forbids[i].cs
   show _+(fG _).length≤_
   omega
  refine aA.subR (nx':=7) (l':=[(0,.ptr 0 0),(3,.ptr 2 0),(93,.buf 4),(94,.v (.int .i64 s.forbids.length)),(95,.v (.int .i64 i))]) (H':=[prB z2.2 3,aZ z2.1 3,(2,sC aU cU aI cI aP cP aM cM aO cO aF cF aR cR aS cS s),(4,.ro 1 (rws FbV.row s.forbids))]) [(3,6)] ?_ sH sH
  (try refine gS ?_);conv=>whnf
  refine aA.callN (bY z2 [wS 59] (by show z2.1.length+1≤_;omega)) [0,3,7] ?_ sH ?CNa19
  case CNa19=>rfl
  rintro w hw<;>conv=>whnf
  have lw:w.1.length=z2.1.length+1:=by rw [hw,aW];rfl
  refine aA.subR (nx':=6) (l':=[(0,.ptr 0 0),(3,.ptr 2 0),(93,.buf 4),(94,.v (.int .i64 s.forbids.length)),(95,.v (.int .i64 i))]) (H':=[prB w.2 3,aZ w.1 3,(2,sC aU cU aI cI aP cP aM cM aO cO aF cF aR cR aS cS s),(4,.ro 1 (rws FbV.row s.forbids))]) [(3,8)] ?_ sH sH
  (try refine gS ?_);conv=>whnf
  repeat ((first|(guard_target=_∧_;(first|refine oL ?_|refine oR ?_))|(guard_target=Exists _;refine oM ?_));(try intro _);conv=>whnf)
  refine aA.subR [] (back ((i+1,w)) (by exact (⟨hk,by show w=_;rw [hw,hz2,hz1,hJ,hn,bD,bD,←bD _ _ (pU _)];exact gA (by simp [Pr.add,pU]) (by simp [Pr.add,pU])⟩)) (by (try dsimp only);omega)) sH sH
 have hJ:z=acc x5 (Pr.all pU s.forbids):=by rw [hJ,List.take_of_length_le (by omega)]
 clear back lz
 obtain ⟨x6,hx6⟩:∃y,y=z:=⟨_,rfl⟩
 rw [←hx6] at hJ ⊢
 clear hx6
 have hx6:=hJ
 clear hJ
 have lx6:x6.1.length≤x5.1.length+sF:=by
  rw [hx6,aW,eF]
  exact Nat.add_le_add_left (cX zJ _) _
 rw [←hx6]
 refine aA.subR (nx':=4) (l':=[(0,.ptr 0 0),(3,.ptr 2 0),(112,.v (.slice aR s.recipes.length cR)),(113,.v (.int .i64 s.recipes.length)),(114,.v (.int .i64 (0:Nat)))]) (H':=[prB x6.2 3,aZ x6.1 3,(2,sC aU cU aI cI aP cP aM cM aO cO aF cF aR cR aS cS s)]) [] ?_ sH sH
 have mR:=hT.R.len
 refine aA.nameAt (fun _ x=>x) 112 (by exact hT.R) ?_
 conv=>whnf
 (try refine gS ?_);conv=>whnf
 refine aA.subR [] (aA.loop (fun (⟨i,z⟩:Nat×Ac)=>[(0,.ptr 0 0),(3,.ptr 2 0),(112,.buf 4),(113,.v (.int .i64 s.recipes.length)),(114,.v (.int .i64 i))]) (fun (⟨i,z⟩:Nat×Ac)=>[prB z.2 3,aZ z.1 3,(2,sC aU cU aI cI aP cP aM cM aO cO aF cF aR cR aS cS s),(4,.ro 17 (rws RcV.row s.recipes))]) 5 (fun (⟨i,z⟩:Nat×Ac)=>i≤s.recipes.length∧z=acc x6 (Pr.all vB (s.recipes.take i))) (fun (⟨i,z⟩:Nat×Ac)=>s.recipes.length - i) ?round21 ((0,x6)) ?J021) sH sH
 case J021=>exact (⟨Nat.zero_le _,(jB x6).symm⟩)
 rintro ⟨i,z⟩ hJ back
 try dsimp only at hJ back
 conv=>whnf
 try dsimp only
 refine gS ?_;conv=>whnf
 obtain ⟨hi,hJ⟩:=hJ
 have lz:z.1.length≤x6.1.length+oH aFN s.recipes i:=by
  rw [hJ,aW]
  have:=cX (n:=aFN) aBQ (s.recipes.take i)
  unfold oH
  omega
 refine ⟨fun hk=>?_,fun hk=>?_⟩<;>conv=>whnf
 ·have hk:i<s.recipes.length:=by omega
  have hn:=kD (f:=vB) (s.recipes.take i) s.recipes[i]
  rw [←dC hk] at hn
  have hs:=iR (f:=aFN) hk
  have hs2:=mZ (f:=aFN) (l:=s.recipes) (i+1)
  rw [←eR] at hs2
  conv=>whnf
  repeat ((first|(guard_target=_∧_;(first|refine oL ?_|refine oR ?_))|(guard_target=Exists _;refine oM ?_));(try intro _);conv=>whnf)
  refine ⟨_,aK hk,?_⟩;conv=>whnf
  try (refine oN ?_;conv=>whnf)
  refine aA.callT (RcV.ok.tok _) (hT.below.r _ (List.getElem_mem hk)) (aXO s.recipes[i] z (by unfold aFN at *;omega)) [0,3] sH ?CNa22 ?_
  case CNa22=>rfl
  rintro w hw
  conv=>whnf
  refine aA.subR (nx':=7) (l':=[(0,.ptr 0 0),(3,.ptr 2 0),(112,.buf 4),(113,.v (.int .i64 s.recipes.length)),(114,.v (.int .i64 i))]) (H':=[prB w.2 3,aZ w.1 3,(2,sC aU cU aI cI aP cP aM cM aO cO aF cF aR cR aS cS s),(4,.ro 17 (rws RcV.row s.recipes))]) [(3,6)] ?_ sH sH
  (try refine gS ?_);conv=>whnf
  repeat ((first|(guard_target=_∧_;(first|refine oL ?_|refine oR ?_))|(guard_target=Exists _;refine oM ?_));(try intro _);conv=>whnf)
  refine aA.subR [] (back ((i+1,w)) (by exact (⟨hk,by show w=_;rw [hw,hJ,hn,←bD]⟩)) (by (try dsimp only);omega)) sH sH
 have hJ:z=acc x6 (Pr.all vB s.recipes):=by rw [hJ,List.take_of_length_le (by omega)]
 clear back lz
 obtain ⟨x7,hx7⟩:∃y,y=z:=⟨_,rfl⟩
 rw [←hx7] at hJ ⊢
 clear hx7
 have hx7:=hJ
 clear hJ
 have lx7:x7.1.length≤x6.1.length+sR:=by
  rw [hx7,aW,eR]
  exact Nat.add_le_add_left (cX aBQ _) _
 rw [←hx7]
 refine aA.subR (nx':=4) (l':=[(0,.ptr 0 0),(3,.ptr 2 0),(123,.v (.slice aS s.swaps.length cS)),(124,.v (.int .i64 s.swaps.length)),(125,.v (.int .i64 (0:Nat)))]) (H':=[prB x7.2 3,aZ x7.1 3,(2,sC aU cU aI cI aP cP aM cM aO cO aF cF aR cR aS cS s)]) [] ?_ sH sH
 have mS:=hT.S.len
 refine aA.nameAt (fun _ x=>x) 123 (by exact hT.S) ?_
 conv=>whnf
 (try refine gS ?_);conv=>whnf
 refine aA.subR [] (aA.loop (fun (⟨i,z⟩:Nat×Ac)=>[(0,.ptr 0 0),(3,.ptr 2 0),(123,.buf 4),(124,.v (.int .i64 s.swaps.length)),(125,.v (.int .i64 i))]) (fun (⟨i,z⟩:Nat×Ac)=>[prB z.2 3,aZ z.1 3,(2,sC aU cU aI cI aP cP aM cM aO cO aF cF aR cR aS cS s),(4,.ro 4 (rws Sw.row s.swaps))]) 5 (fun (⟨i,z⟩:Nat×Ac)=>i≤s.swaps.length∧z=acc x7 (Pr.all wT (s.swaps.take i))) (fun (⟨i,z⟩:Nat×Ac)=>s.swaps.length - i) ?round24 ((0,x7)) ?J024) sH sH
 case J024=>exact (⟨Nat.zero_le _,(jB x7).symm⟩)
 rintro ⟨i,z⟩ hJ back
 try dsimp only at hJ back
 conv=>whnf
 try dsimp only
 refine gS ?_;conv=>whnf
 obtain ⟨hi,hJ⟩:=hJ
 have lz:z.1.length≤x7.1.length+oH (fun _=>5) s.swaps i:=by
  rw [hJ,aW]
  have:=cX (n:=(fun _=>5)) yW (s.swaps.take i)
  unfold oH
  omega
 refine ⟨fun hk=>?_,fun hk=>?_⟩<;>conv=>whnf
 ·have hk:i<s.swaps.length:=by omega
  have hn:=kD (f:=wT) (s.swaps.take i) s.swaps[i]
  rw [←dC hk] at hn
  have hs:=iR (f:=(fun _=>5)) hk
  have hs2:=mZ (f:=(fun _=>5)) (l:=s.swaps) (i+1)
  rw [←eS] at hs2
  conv=>whnf
  repeat ((first|(guard_target=_∧_;(first|refine oL ?_|refine oR ?_))|(guard_target=Exists _;refine oM ?_));(try intro _);conv=>whnf)
  refine ⟨_,aK hk,?_⟩;conv=>whnf
  try (refine oN ?_;conv=>whnf)
  (try refine gS ?_);conv=>whnf
  refine aA.callN (bY z [.w iC,.s s.swaps[i].a,.w aAU,.s s.swaps[i].b,wS 59] (by show z.1.length+5≤_;omega)) [0,3,6] ?_ sH ?CNa25
  case CNa25=>rfl
  rintro w hw<;>conv=>whnf
  have lw:w.1.length=z.1.length+5:=by rw [hw,aW];rfl
  refine aA.subR (nx':=6) (l':=[(0,.ptr 0 0),(3,.ptr 2 0),(123,.buf 4),(124,.v (.int .i64 s.swaps.length)),(125,.v (.int .i64 i))]) (H':=[prB w.2 3,aZ w.1 3,(2,sC aU cU aI cI aP cP aM cM aO cO aF cF aR cR aS cS s),(4,.ro 4 (rws Sw.row s.swaps))]) [(3,7)] ?_ sH sH
  (try refine gS ?_);conv=>whnf
  repeat ((first|(guard_target=_∧_;(first|refine oL ?_|refine oR ?_))|(guard_target=Exists _;refine oM ?_));(try intro _);conv=>whnf)
  refine aA.subR [] (back ((i+1,w)) (by exact (⟨hk,by show w=_;rw [hw,hJ,hn,←bD];rfl⟩)) (by (try dsimp only);omega)) sH sH
 have hJ:z=acc x7 (Pr.all wT s.swaps):=by rw [hJ,List.take_of_length_le (by omega)]
 clear back lz
 obtain ⟨x8,hx8⟩:∃y,y=z:=⟨_,rfl⟩
 rw [←hx8] at hJ ⊢
 clear hx8
 have hx8:=hJ
 clear hJ
 have lx8:x8.1.length≤x7.1.length+sS:=by
  rw [hx8,aW,eS]
  exact Nat.add_le_add_left (cX yW _) _
 (try refine gS ?_);conv=>whnf
 try refine aA.finU ?_
 exact aE.ret tab Tryz.func31 rfl (aL.mk (x8) (hx8) [(2,3)] sH rfl rfl (aY rfl rfl))
end
end Go.Proofs.YtgbeechjghajcaaGreatDoor

namespace Go.Proofs.YtgbeechjghajcaaGreatDoor
open Go Go.Fw Go.NatM Go.RatM Go.SrcM Go.SynM
set_option maxRecDepth 100000
set_option maxHeartbeats 99999999
def aKD (G:Nat→Prop) (h:Array Obj):Prop:=uC h∧G 1
theorem aKD.up {G G':Nat→Prop} {h h':Array Obj} (H:aKD G h) (U:Up G h G' h'):aKD G' h':=⟨by
 have e:=U.same _ H.2
 have:=H.1
 unfold uC at this ⊢
 rw [e];exact this,U.sub _ H.2⟩
theorem aKD.kp {F:Nat→Prop} {h h':Array Obj} (H:aKD F h) (K:Kp F h h'):uC h':=by
 have e:=K.same _ H.2
 have:=H.1
 unfold uC at this ⊢
 rw [e];exact this
theorem aRR (s:aJ):Fit s↔(s.units.length≤32∧s.items.length≤32∧s.plants.length≤8∧s.machines.length≤16∧s.options.length≤6∧s.forbids.length≤16∧s.recipes.length≤64∧s.swaps.length≤32):=
 ⟨fun h=>⟨h.U,h.I,h.P,h.M,h.O,h.F,h.R,h.S⟩,fun ⟨a,b,c,d,e,f,g,i⟩=>⟨a,b,c,d,e,f,g,i⟩⟩
instance (s:aJ):Decidable (Fit s):=decidable_of_iff _ (aRR s).symm
theorem pfew_fn (s:aJ) (aU aI aP aM aO aF aR aS:Option Addr) (cU cI cP cM cO cF cR cS:Nat):FnS Tryz.prog 30 0 [sK (.slice aU s.units.length cU) (.slice aI s.items.length cI) (.slice aP s.plants.length cP) (.slice aM s.machines.length cM) (.slice aO s.options.length cO) (.slice aF s.forbids.length cF) (.slice aR s.recipes.length cR) (.slice aS s.swaps.length cS)] []
  (fun _:Unit=>True) (fun _=>.ret (.v (.bool (decide (Fit s)))) 0 []):=by
 obtain ⟨b,hb⟩:∃b,b=decide (Fit s):=⟨_,rfl⟩
 rw [←hb]
 have hb:b=decide (s.units.length≤32∧s.items.length≤32∧s.plants.length≤8∧s.machines.length≤16∧s.options.length≤6∧s.forbids.length≤16∧s.recipes.length≤64∧s.swaps.length≤32):=hb.trans (decide_eq_decide.2 (aRR s))
 refine FnS.of Tryz.func30 (by kernel_rfl) rfl Tryz.ntmps30 rfl fun E0 F h w0 cs=>?_
 conv=>whnf
 refine gS ?_;conv=>whnf
 by_cases h0:s.units.length≤32
 rotate_left
 ·refine And.intro (fun hp=>absurd hp ((by omega))) (fun _=>?_)
  conv=>whnf
  (try refine gS ?_);conv=>whnf
  have:b=false:=hb.trans (decide_eq_false fun h=>by omega)
  rw [this]
  try refine aA.retU ?_
  exact aE.ret tab Tryz.func30 rfl (eN () trivial)
 refine And.intro (fun _=>?_) (fun hn=>absurd ((by omega)) hn)
 conv=>whnf
 by_cases h1:s.items.length≤32
 rotate_left
 ·refine And.intro (fun hp=>absurd hp ((by omega))) (fun _=>?_)
  conv=>whnf
  (try refine gS ?_);conv=>whnf
  have:b=false:=hb.trans (decide_eq_false fun h=>by omega)
  rw [this]
  try refine aA.retU ?_
  exact aE.ret tab Tryz.func30 rfl (eN () trivial)
 refine And.intro (fun _=>?_) (fun hn=>absurd ((by omega)) hn)
 conv=>whnf
 by_cases h2:s.plants.length≤8
 rotate_left
 ·refine And.intro (fun hp=>absurd hp ((by omega))) (fun _=>?_)
  conv=>whnf
  (try refine gS ?_);conv=>whnf
  have:b=false:=hb.trans (decide_eq_false fun h=>by omega)
  rw [this]
  try refine aA.retU ?_
  exact aE.ret tab Tryz.func30 rfl (eN () trivial)
 refine And.intro (fun _=>?_) (fun hn=>absurd ((by omega)) hn)
 conv=>whnf
 by_cases h3:s.machines.length≤16
 rotate_left
 ·refine And.intro (fun hp=>absurd hp ((by omega))) (fun _=>?_)
  conv=>whnf
  (try refine gS ?_);conv=>whnf
  have:b=false:=hb.trans (decide_eq_false fun h=>by omega)
  rw [this]
  try refine aA.retU ?_
  exact aE.ret tab Tryz.func30 rfl (eN () trivial)
 refine And.intro (fun _=>?_) (fun hn=>absurd ((by omega)) hn)
 conv=>whnf
 by_cases h4:s.options.length≤6
 rotate_left
 ·refine And.intro (fun hp=>absurd hp ((by omega))) (fun _=>?_)
  conv=>whnf
  (try refine gS ?_);conv=>whnf
  have:b=false:=hb.trans (decide_eq_false fun h=>by omega)
  rw [this]
  try refine aA.retU ?_
  exact aE.ret tab Tryz.func30 rfl (eN () trivial)
 refine And.intro (fun _=>?_) (fun hn=>absurd ((by omega)) hn)
 conv=>whnf
 by_cases h5:s.forbids.length≤16
 rotate_left
 ·refine And.intro (fun hp=>absurd hp ((by omega))) (fun _=>?_)
  conv=>whnf
  (try refine gS ?_);conv=>whnf
  have:b=false:=hb.trans (decide_eq_false fun h=>by omega)
  rw [this]
  try refine aA.retU ?_
  exact aE.ret tab Tryz.func30 rfl (eN () trivial)
 refine And.intro (fun _=>?_) (fun hn=>absurd ((by omega)) hn)
 conv=>whnf
 by_cases h6:s.recipes.length≤64
 rotate_left
 ·refine And.intro (fun hp=>absurd hp ((by omega))) (fun _=>?_)
  conv=>whnf
  (try refine gS ?_);conv=>whnf
  have:b=false:=hb.trans (decide_eq_false fun h=>by omega)
  rw [this]
  try refine aA.retU ?_
  exact aE.ret tab Tryz.func30 rfl (eN () trivial)
 refine And.intro (fun _=>?_) (fun hn=>absurd ((by omega)) hn)
 conv=>whnf
 (try refine gS ?_);conv=>whnf
 have:b=decide ((s.swaps.length:Int)≤32):=hb.trans (decide_eq_decide.2 ⟨fun h=>by omega,fun h=>by omega⟩)
 rw [this]
 try refine aA.retU ?_
 exact aE.ret tab Tryz.func30 rfl (eN () trivial)
theorem aJH (s:aJ):(yH s).l.length≤ttl s:=by
 have h1:=cX yY s.units
 have h2:=cX yO s.items
 have h3:=cX vG s.plants
 have h4:=cX yR s.machines
 have h5:=cX zN s.options
 have h6:=cX zJ s.forbids
 have h7:=cX aBQ s.recipes
 have h8:=cX yW s.swaps
 unfold yH ttl
 simp only [Pr.add,List.length_append]
 omega
open Classical in
noncomputable def rA (s:aJ):ByteArray×Int:=if s.good NmP then (joinB (jI s),0) else (⟨#[]⟩,100)
theorem aFF {s:aJ} (h:s.good NmP):rA s=(joinB (jI s),0):=if_pos h
theorem zU {s:aJ} (h:¬s.good NmP):rA s=(⟨#[]⟩,100):=if_neg h
section
variable {vU vI vP vM vO vF vR vS:Value}
abbrev TopW (vU vI vP vM vO vF vR vS:Value) (s:aJ) (F:Nat→Prop) (h:Array Obj):Prop:=gX F h vU vI vP vM vO vF vR vS s∧aKD F h
theorem TopW.tok (vU vI vP vM vO vF vR vS:Value) (s:aJ):TOk (TopW vU vI vP vM vO vF vR vS s):=
 ⟨fun _ _ _ hs H=>⟨H.1.up ⟨hs,fun _ _=>rfl⟩,H.2.up ⟨hs,fun _ _=>rfl⟩⟩,fun _ _ _ H K=>⟨H.1.up ⟨fun _ x=>x,K.same⟩,H.2.up ⟨fun _ x=>x,K.same⟩⟩⟩
theorem aGQ (s:aJ) (hl:ttl s≤65536):FnT Tryz.prog (TopW vU vI vP vM vO vF vR vS s) 15 0 [sK vU vI vP vM vO vF vR vS] [] (fun _:Unit=>True) (fun _=>.ret (.tup [.v (.string (rA s).1),.v (.int .i64 (rA s).2)]) 0 []):=by
 obtain ⟨r,hr⟩:∃r,r=rA s:=⟨_,rfl⟩
 rw [←hr]
 refine FnT.of Tryz.func15 (by kernel_rfl) rfl Tryz.ntmps15 rfl fun E0 F h hT w0 cs=>?_
 obtain ⟨aU,cU,aI,cI,aP,cP,aM,cM,aO,cO,aF,cF,aR,cR,aS,cS,rfl,rfl,rfl,rfl,rfl,rfl,rfl,rfl⟩:=oP hT.1
 conv=>whnf
 (try refine gS ?_);conv=>whnf
 refine aA.callN (pfew_fn s aU aI aP aM aO aF aR aS cU cI cP cM cO cF cR cS) [] ?_ sH ?CNa1
 case CNa1=>rfl
 intro _ _
 conv=>whnf
 (try refine gS ?_);conv=>whnf
 by_cases hF:Fit s
 rotate_left
 ·rw [decide_eq_false hF]
  conv=>whnf
  (try refine gS ?_);conv=>whnf
  have:r=(⟨#[]⟩,100):=hr.trans (zU fun h=>hF (aUX h))
  rw [this]
  try refine aA.retU ?_
  exact aE.ret tab Tryz.func15 rfl (eN () trivial)
 rw [decide_eq_true hF]
 conv=>whnf
 (try refine gS ?_);conv=>whnf
 refine aA.subR (nx':=2) (l':=[(8,.agg [.v (.slice aU s.units.length cU),.v (.slice aI s.items.length cI),.v (.slice aP s.plants.length cP),.v (.slice aM s.machines.length cM),.v (.slice aO s.options.length cO),.v (.slice aF s.forbids.length cF),.v (.slice aR s.recipes.length cR),.v (.slice aS s.swaps.length cS)]),(4,.ptr 1 0)]) (H':=[(1,.cells 91 [.v (.slice none 0 0),.v (.bool false)])]) [] ?_ sH sH
 refine aA.nilOwn (l':=[(8,.agg [.v (.slice aU s.units.length cU),.v (.slice aI s.items.length cI),.v (.slice aP s.plants.length cP),.v (.slice aM s.machines.length cM),.v (.slice aO s.options.length cO),.v (.slice aF s.forbids.length cF),.v (.slice aR s.recipes.length cR),.v (.slice aS s.swaps.length cS)]),(4,.ptr 1 0)]) (H':=[(1,.cells 91 [.buf 2,.v (.bool false)])]) 47 4 ?_ (by rfl) (by rfl) (by rfl)
 refine aA.callT (gX.tok _ _ _ _ _ _ _ _ _) (hT.1) (psrc_fn s ([],false) (by show 0+ttl s≤_;omega)) [1,2] sH ?CNa2 ?_
 case CNa2=>rfl
 rintro ⟨l,b⟩ hy
 conv=>whnf
 refine aA.subR (nx':=4) (l':=[(4,.ptr 1 0)]) (H':=[(1,.cells 91 [.buf 3,.v (.bool b)]),(3,.own 47 4 (l.map Tok.row))]) [] ?_ sH sH
 have hy1:l=jI s:=by
  have:=congrArg Prod.fst hy
  exact this.trans (aJN vocN)
 have hy2:b = !(nN NmP (yH s).l&&(yH s).ok):=by
  have:=congrArg Prod.snd hy
  exact this
 clear hy
 subst hy1
 have hl1:(jI s).length≤65536:=by
  rw [←aJN vocN]
  unfold iW
  rw [List.length_map]
  have:=aJH s
  omega
 cases b with
 |true=>
  (try refine gS ?_);conv=>whnf
  have hg:¬s.good NmP:=fun h=>by
   have:=(aFU hF).2 h
   rw [this.1,this.2] at hy2
   cases hy2
  have:r=(⟨#[]⟩,100):=hr.trans (zU hg)
  rw [this]
  try refine aA.retU ?_
  exact aE.ret tab Tryz.func15 rfl (eN () trivial)
 |false=>
  (try refine gS ?_);conv=>whnf
  have hg:s.good NmP:=(aFU hF).1 (by
   have:=hy2.symm
   simp only [Bool.not_eq_false',Bool.and_eq_true] at this
   exact this)
  have:r=(joinB (jI s),0):=hr.trans (aFF hg)
  rw [this]
  have hx:aCT (jI s)=.tuple #[.string (joinB (jI s)),.int .i64 0]:=if_pos (aBU hg)
  refine aA.callV (fun Ez Hz Az Sz K=>Text_fn (jI s) hl1 (Sz.ro (b:=3) rfl) (hT.2.kp K)) ?_
  conv=>whnf
  rw [hx]
  try dsimp only
  (try refine gS ?_);conv=>whnf
  try refine aA.retU ?_
  exact aE.ret tab Tryz.func15 rfl (eN () trivial)
end
end Go.Proofs.YtgbeechjghajcaaGreatDoor

namespace Go.Proofs.YtgbeechjghajcaaGreatDoor
open Go Go.Fw Go.NatM Go.RatM Go.SrcM
set_option maxRecDepth 100000
set_option maxHeartbeats 99999999
theorem eqU_fn (va vb:Value) (a b:List Un):FnT Tryz.prog (Two va vb 8 (rws Un.row a) (rws Un.row b)) 35 0 [.v va,.v vb] [] (fun _:Unit=>True) (fun _=>.ret (.v (.bool (eqB a b))) 0 []):=by
 have hla:(rws Un.row a).length=a.length:=aG _ _
 have hlb:(rws Un.row b).length=b.length:=aG _ _
 obtain ⟨r,hr⟩:∃r,r=eqB a b:=⟨_,rfl⟩
 rw [←hr]
 refine FnT.of Tryz.func35 (by kernel_rfl) rfl Tryz.ntmps35 rfl fun E0 F h hT w0 cs=>?_
 have mA:=hT.1.len
 obtain ⟨aa,ca,rfl⟩:=RoF.sli hT.1 hla
 obtain ⟨ab,cb,rfl⟩:=RoF.sli hT.2 hlb
 conv=>whnf
 (try refine gS ?_);conv=>whnf
 refine ⟨fun hs=>?_,fun hs=>?_⟩<;>conv=>whnf
 rotate_left
 ·conv=>whnf
  have:r=false:=by rw [hr];exact bH (fun e=>hs (by rw [e]))
  rw [this]
  try refine aA.retU ?_
  exact aE.ret tab Tryz.func35 rfl (eN () trivial)
 conv=>whnf
 have hn:a.length=b.length:=by omega
 refine aA.nameAt (fun _ x=>x) 0 (by exact hT.1) ?_
 conv=>whnf
 (try refine gS ?_);conv=>whnf
 refine aA.nameAt (fun _ x=>x) 1 (by exact hT.2) ?_
 conv=>whnf
 (try refine gS ?_);conv=>whnf
 refine aA.subR [] (aA.loop (fun (k:Nat)=>[(12,.v (.int .i64 a.length)),(13,.v (.int .i64 k)),(0,.buf 0),(1,.buf 1)]) (fun (k:Nat)=>[(0,.ro 8 (rws Un.row a)),(1,.ro 8 (rws Un.row b))]) 2 (fun (k:Nat)=>k≤a.length ∧ ∀j (_:j<k) (ha:j<a.length) (hb:j<b.length),a[j]=b[j]) (fun (k:Nat)=>a.length - k) ?round1 (0) ?J01) sH sH
 case J01=>exact (⟨Nat.zero_le _,fun j hj=>absurd hj (Nat.not_lt_zero _)⟩)
 rintro k hJ back
 conv=>whnf
 refine gS ?_;conv=>whnf
 refine ⟨fun hk=>?_,fun hk=>?_⟩<;>conv=>whnf
 ·have hk:k<a.length:=by omega
  have hk2:k<b.length:=by omega
  conv=>whnf
  refine aA.held tab (.fl 0 (.fl 1 (.fl 2 (.fl 3 (.fl 4 (.fl 5 (.fl 6 (.fl 7 (.fl 8 .done))))))))) (by kernel_rfl) ?_;conv=>whnf
  (try refine gR ?_);conv=>whnf
  repeat ((first|(guard_target=_∧_;(first|refine oL ?_|refine oR ?_|refine oB ?_))|(guard_target=Exists _;refine oM ?_));(try intro _);conv=>whnf)
  conv=>whnf
  refine ⟨_,aK hk,?_⟩;conv=>whnf
  try (refine And.intro (by first|omega|exact Nat.le_of_ble_eq_true rfl) ?_;(try intro _);conv=>whnf)
  conv=>whnf
  repeat ((first|(guard_target=_∧_;(first|refine oL ?_|refine oR ?_|refine oB ?_))|(guard_target=Exists _;refine oM ?_));(try intro _);conv=>whnf)
  conv=>whnf
  refine ⟨_,aK hk2,?_⟩;conv=>whnf
  try (refine And.intro (by first|omega|exact Nat.le_of_ble_eq_true rfl) ?_;(try intro _);conv=>whnf)
  conv=>whnf
  refine ⟨fun hs=>?_,fun hs=>?_⟩<;>conv=>whnf
  ·try refine gR ?_
   conv=>whnf
   (try refine gS ?_);conv=>whnf
   repeat ((first|(guard_target=_∧_;(first|refine oL ?_|refine oR ?_))|(guard_target=Exists _;refine oM ?_));(try intro _);conv=>whnf)
   refine aA.subR [] (back (k+1) (by exact (⟨hk,iL hk hk2 hJ.2 (Un.ext8_iff.2 hs)⟩)) (by (try dsimp only);omega)) sH sH
  (try refine gR ?_);conv=>whnf
  (try refine gS ?_);conv=>whnf
  have:r=false:=by rw [hr];exact bH (fun e=>(fun e=>hs (Un.ext8_iff.1 e)) (pH e hk hk2))
  rw [this]
  try refine aA.retU ?_
  exact aE.ret tab Tryz.func35 rfl (eN () trivial)
 conv=>whnf
 have:r=true:=by rw [hr];exact bL (kM hn fun j h1 h2=>hJ.2 j (by omega) h1 h2)
 rw [this]
 try refine aA.retU ?_
 exact aE.ret tab Tryz.func35 rfl (eN () trivial)
theorem eqI_fn (va vb:Value) (a b:List It):FnT Tryz.prog (Two va vb 6 (rws It.row a) (rws It.row b)) 36 0 [.v va,.v vb] [] (fun _:Unit=>True) (fun _=>.ret (.v (.bool (eqB a b))) 0 []):=by
 have hla:(rws It.row a).length=a.length:=aG _ _
 have hlb:(rws It.row b).length=b.length:=aG _ _
 obtain ⟨r,hr⟩:∃r,r=eqB a b:=⟨_,rfl⟩
 rw [←hr]
 refine FnT.of Tryz.func36 (by kernel_rfl) rfl Tryz.ntmps36 rfl fun E0 F h hT w0 cs=>?_
 have mA:=hT.1.len
 obtain ⟨aa,ca,rfl⟩:=RoF.sli hT.1 hla
 obtain ⟨ab,cb,rfl⟩:=RoF.sli hT.2 hlb
 conv=>whnf
 (try refine gS ?_);conv=>whnf
 refine ⟨fun hs=>?_,fun hs=>?_⟩<;>conv=>whnf
 rotate_left
 ·conv=>whnf
  have:r=false:=by rw [hr];exact bH (fun e=>hs (by rw [e]))
  rw [this]
  try refine aA.retU ?_
  exact aE.ret tab Tryz.func36 rfl (eN () trivial)
 conv=>whnf
 have hn:a.length=b.length:=by omega
 refine aA.nameAt (fun _ x=>x) 0 (by exact hT.1) ?_
 conv=>whnf
 (try refine gS ?_);conv=>whnf
 refine aA.nameAt (fun _ x=>x) 1 (by exact hT.2) ?_
 conv=>whnf
 (try refine gS ?_);conv=>whnf
 refine aA.subR [] (aA.loop (fun (k:Nat)=>[(12,.v (.int .i64 a.length)),(13,.v (.int .i64 k)),(0,.buf 0),(1,.buf 1)]) (fun (k:Nat)=>[(0,.ro 6 (rws It.row a)),(1,.ro 6 (rws It.row b))]) 2 (fun (k:Nat)=>k≤a.length ∧ ∀j (_:j<k) (ha:j<a.length) (hb:j<b.length),a[j]=b[j]) (fun (k:Nat)=>a.length - k) ?round3 (0) ?J03) sH sH
 case J03=>exact (⟨Nat.zero_le _,fun j hj=>absurd hj (Nat.not_lt_zero _)⟩)
 rintro k hJ back
 conv=>whnf
 refine gS ?_;conv=>whnf
 refine ⟨fun hk=>?_,fun hk=>?_⟩<;>conv=>whnf
 ·have hk:k<a.length:=by omega
  have hk2:k<b.length:=by omega
  conv=>whnf
  refine aA.held tab (.fl 0 (.fl 1 (.fl 2 (.fl 3 (.fl 4 (.fl 5 (.fl 6 (.fl 7 (.fl 8 .done))))))))) (by kernel_rfl) ?_;conv=>whnf
  (try refine gR ?_);conv=>whnf
  repeat ((first|(guard_target=_∧_;(first|refine oL ?_|refine oR ?_|refine oB ?_))|(guard_target=Exists _;refine oM ?_));(try intro _);conv=>whnf)
  conv=>whnf
  refine ⟨_,aK hk,?_⟩;conv=>whnf
  try (refine And.intro (by first|omega|exact Nat.le_of_ble_eq_true rfl) ?_;(try intro _);conv=>whnf)
  conv=>whnf
  repeat ((first|(guard_target=_∧_;(first|refine oL ?_|refine oR ?_|refine oB ?_))|(guard_target=Exists _;refine oM ?_));(try intro _);conv=>whnf)
  conv=>whnf
  refine ⟨_,aK hk2,?_⟩;conv=>whnf
  try (refine And.intro (by first|omega|exact Nat.le_of_ble_eq_true rfl) ?_;(try intro _);conv=>whnf)
  conv=>whnf
  refine ⟨fun hs=>?_,fun hs=>?_⟩<;>conv=>whnf
  ·try refine gR ?_
   conv=>whnf
   (try refine gS ?_);conv=>whnf
   repeat ((first|(guard_target=_∧_;(first|refine oL ?_|refine oR ?_))|(guard_target=Exists _;refine oM ?_));(try intro _);conv=>whnf)
   refine aA.subR [] (back (k+1) (by exact (⟨hk,iL hk hk2 hJ.2 (It.ext_iff'.2 hs)⟩)) (by (try dsimp only);omega)) sH sH
  (try refine gR ?_);conv=>whnf
  (try refine gS ?_);conv=>whnf
  have:r=false:=by rw [hr];exact bH (fun e=>(fun e=>hs (It.ext_iff'.1 e)) (pH e hk hk2))
  rw [this]
  try refine aA.retU ?_
  exact aE.ret tab Tryz.func36 rfl (eN () trivial)
 conv=>whnf
 have:r=true:=by rw [hr];exact bL (kM hn fun j h1 h2=>hJ.2 j (by omega) h1 h2)
 rw [this]
 try refine aA.retU ?_
 exact aE.ret tab Tryz.func36 rfl (eN () trivial)
theorem aWH (va vb:Value) (a b:List ByteArray):FnT Tryz.prog (Two va vb 1 (rws (fun s=>[Value.string s]) a) (rws (fun s=>[Value.string s]) b)) 37 0 [.v va,.v vb] [] (fun _:Unit=>True) (fun _=>.ret (.v (.bool (eqB a b))) 0 []):=by
 have hla:(rws (fun s=>[Value.string s]) a).length=a.length:=aG _ _
 have hlb:(rws (fun s=>[Value.string s]) b).length=b.length:=aG _ _
 obtain ⟨r,hr⟩:∃r,r=eqB a b:=⟨_,rfl⟩
 rw [←hr]
 refine FnT.of Tryz.func37 (by kernel_rfl) rfl Tryz.ntmps37 rfl fun E0 F h hT w0 cs=>?_
 have mA:=hT.1.len
 obtain ⟨aa,ca,rfl⟩:=RoF.sli hT.1 hla
 obtain ⟨ab,cb,rfl⟩:=RoF.sli hT.2 hlb
 conv=>whnf
 (try refine gS ?_);conv=>whnf
 refine ⟨fun hs=>?_,fun hs=>?_⟩<;>conv=>whnf
 rotate_left
 ·conv=>whnf
  have:r=false:=by rw [hr];exact bH (fun e=>hs (by rw [e]))
  rw [this]
  try refine aA.retU ?_
  exact aE.ret tab Tryz.func37 rfl (eN () trivial)
 conv=>whnf
 have hn:a.length=b.length:=by omega
 refine aA.nameAt (fun _ x=>x) 0 (by exact hT.1) ?_
 conv=>whnf
 (try refine gS ?_);conv=>whnf
 refine aA.nameAt (fun _ x=>x) 1 (by exact hT.2) ?_
 conv=>whnf
 (try refine gS ?_);conv=>whnf
 refine aA.subR [] (aA.loop (fun (k:Nat)=>[(12,.v (.int .i64 a.length)),(13,.v (.int .i64 k)),(0,.buf 0),(1,.buf 1)]) (fun (k:Nat)=>[(0,.ro 1 (rws (fun s=>[Value.string s]) a)),(1,.ro 1 (rws (fun s=>[Value.string s]) b))]) 2 (fun (k:Nat)=>k≤a.length ∧ ∀j (_:j<k) (ha:j<a.length) (hb:j<b.length),a[j]=b[j]) (fun (k:Nat)=>a.length - k) ?round5 (0) ?J05) sH sH
 case J05=>exact (⟨Nat.zero_le _,fun j hj=>absurd hj (Nat.not_lt_zero _)⟩)
 rintro k hJ back
 conv=>whnf
 refine gS ?_;conv=>whnf
 refine ⟨fun hk=>?_,fun hk=>?_⟩<;>conv=>whnf
 ·have hk:k<a.length:=by omega
  have hk2:k<b.length:=by omega
  conv=>whnf
  refine aA.held tab (.fl 0 (.fl 1 (.fl 2 (.fl 3 (.fl 4 (.fl 5 (.fl 6 (.fl 7 (.fl 8 .done))))))))) (by kernel_rfl) ?_;conv=>whnf
  (try refine gR ?_);conv=>whnf
  repeat ((first|(guard_target=_∧_;(first|refine oL ?_|refine oR ?_|refine oB ?_))|(guard_target=Exists _;refine oM ?_));(try intro _);conv=>whnf)
  conv=>whnf
  refine ⟨_,aK hk,?_⟩;conv=>whnf
  try (refine And.intro (by first|omega|exact Nat.le_of_ble_eq_true rfl) ?_;(try intro _);conv=>whnf)
  conv=>whnf
  refine ⟨_,aK hk2,?_⟩;conv=>whnf
  refine ⟨fun hs=>?_,fun hs=>?_⟩<;>conv=>whnf
  ·try refine gR ?_
   conv=>whnf
   (try refine gS ?_);conv=>whnf
   repeat ((first|(guard_target=_∧_;(first|refine oL ?_|refine oR ?_))|(guard_target=Exists _;refine oM ?_));(try intro _);conv=>whnf)
   refine aA.subR [] (back (k+1) (by exact (⟨hk,iL hk hk2 hJ.2 hs⟩)) (by (try dsimp only);omega)) sH sH
  (try refine gR ?_);conv=>whnf
  (try refine gS ?_);conv=>whnf
  have:r=false:=by rw [hr];exact bH (fun e=>(fun e=>hs e) (pH e hk hk2))
  rw [this]
  try refine aA.retU ?_
  exact aE.ret tab Tryz.func37 rfl (eN () trivial)
 conv=>whnf
 have:r=true:=by rw [hr];exact bL (kM hn fun j h1 h2=>hJ.2 j (by omega) h1 h2)
 rw [this]
 try refine aA.retU ?_
 exact aE.ret tab Tryz.func37 rfl (eN () trivial)
theorem eqM_fn (va vb:Value) (a b:List Mc):FnT Tryz.prog (Two va vb 4 (rws Mc.row a) (rws Mc.row b)) 38 0 [.v va,.v vb] [] (fun _:Unit=>True) (fun _=>.ret (.v (.bool (eqB a b))) 0 []):=by
 have hla:(rws Mc.row a).length=a.length:=aG _ _
 have hlb:(rws Mc.row b).length=b.length:=aG _ _
 obtain ⟨r,hr⟩:∃r,r=eqB a b:=⟨_,rfl⟩
 rw [←hr]
 refine FnT.of Tryz.func38 (by kernel_rfl) rfl Tryz.ntmps38 rfl fun E0 F h hT w0 cs=>?_
 have mA:=hT.1.len
 obtain ⟨aa,ca,rfl⟩:=RoF.sli hT.1 hla
 obtain ⟨ab,cb,rfl⟩:=RoF.sli hT.2 hlb
 conv=>whnf
 (try refine gS ?_);conv=>whnf
 refine ⟨fun hs=>?_,fun hs=>?_⟩<;>conv=>whnf
 rotate_left
 ·conv=>whnf
  have:r=false:=by rw [hr];exact bH (fun e=>hs (by rw [e]))
  rw [this]
  try refine aA.retU ?_
  exact aE.ret tab Tryz.func38 rfl (eN () trivial)
 conv=>whnf
 have hn:a.length=b.length:=by omega
 refine aA.nameAt (fun _ x=>x) 0 (by exact hT.1) ?_
 conv=>whnf
 (try refine gS ?_);conv=>whnf
 refine aA.nameAt (fun _ x=>x) 1 (by exact hT.2) ?_
 conv=>whnf
 (try refine gS ?_);conv=>whnf
 refine aA.subR [] (aA.loop (fun (k:Nat)=>[(12,.v (.int .i64 a.length)),(13,.v (.int .i64 k)),(0,.buf 0),(1,.buf 1)]) (fun (k:Nat)=>[(0,.ro 4 (rws Mc.row a)),(1,.ro 4 (rws Mc.row b))]) 2 (fun (k:Nat)=>k≤a.length ∧ ∀j (_:j<k) (ha:j<a.length) (hb:j<b.length),a[j]=b[j]) (fun (k:Nat)=>a.length - k) ?round7 (0) ?J07) sH sH
 case J07=>exact (⟨Nat.zero_le _,fun j hj=>absurd hj (Nat.not_lt_zero _)⟩)
 rintro k hJ back
 conv=>whnf
 refine gS ?_;conv=>whnf
 refine ⟨fun hk=>?_,fun hk=>?_⟩<;>conv=>whnf
 ·have hk:k<a.length:=by omega
  have hk2:k<b.length:=by omega
  conv=>whnf
  refine aA.held tab (.fl 0 (.fl 1 (.fl 2 (.fl 3 (.fl 4 (.fl 5 (.fl 6 (.fl 7 (.fl 8 .done))))))))) (by kernel_rfl) ?_;conv=>whnf
  (try refine gR ?_);conv=>whnf
  repeat ((first|(guard_target=_∧_;(first|refine oL ?_|refine oR ?_|refine oB ?_))|(guard_target=Exists _;refine oM ?_));(try intro _);conv=>whnf)
  conv=>whnf
  refine ⟨_,aK hk,?_⟩;conv=>whnf
  try (refine And.intro (by first|omega|exact Nat.le_of_ble_eq_true rfl) ?_;(try intro _);conv=>whnf)
  conv=>whnf
  repeat ((first|(guard_target=_∧_;(first|refine oL ?_|refine oR ?_|refine oB ?_))|(guard_target=Exists _;refine oM ?_));(try intro _);conv=>whnf)
  conv=>whnf
  refine ⟨_,aK hk2,?_⟩;conv=>whnf
  try (refine And.intro (by first|omega|exact Nat.le_of_ble_eq_true rfl) ?_;(try intro _);conv=>whnf)
  conv=>whnf
  refine ⟨fun hs=>?_,fun hs=>?_⟩<;>conv=>whnf
  ·try refine gR ?_
   conv=>whnf
   (try refine gS ?_);conv=>whnf
   repeat ((first|(guard_target=_∧_;(first|refine oL ?_|refine oR ?_))|(guard_target=Exists _;refine oM ?_));(try intro _);conv=>whnf)
   refine aA.subR [] (back (k+1) (by exact (⟨hk,iL hk hk2 hJ.2 (Mc.ext_iff'.2 hs)⟩)) (by (try dsimp only);omega)) sH sH
  (try refine gR ?_);conv=>whnf
  (try refine gS ?_);conv=>whnf
  have:r=false:=by rw [hr];exact bH (fun e=>(fun e=>hs (Mc.ext_iff'.1 e)) (pH e hk hk2))
  rw [this]
  try refine aA.retU ?_
  exact aE.ret tab Tryz.func38 rfl (eN () trivial)
 conv=>whnf
 have:r=true:=by rw [hr];exact bL (kM hn fun j h1 h2=>hJ.2 j (by omega) h1 h2)
 rw [this]
 try refine aA.retU ?_
 exact aE.ret tab Tryz.func38 rfl (eN () trivial)
theorem aUZ (va vb:Value) (a b:List Cd):FnT Tryz.prog (Two va vb 4 (rws Cd.row a) (rws Cd.row b)) 42 0 [.v va,.v vb] [] (fun _:Unit=>True) (fun _=>.ret (.v (.bool (eqB a b))) 0 []):=by
 have hla:(rws Cd.row a).length=a.length:=aG _ _
 have hlb:(rws Cd.row b).length=b.length:=aG _ _
 obtain ⟨r,hr⟩:∃r,r=eqB a b:=⟨_,rfl⟩
 rw [←hr]
 refine FnT.of Tryz.func42 (by kernel_rfl) rfl Tryz.ntmps42 rfl fun E0 F h hT w0 cs=>?_
 have mA:=hT.1.len
 obtain ⟨aa,ca,rfl⟩:=RoF.sli hT.1 hla
 obtain ⟨ab,cb,rfl⟩:=RoF.sli hT.2 hlb
 conv=>whnf
 (try refine gS ?_);conv=>whnf
 refine ⟨fun hs=>?_,fun hs=>?_⟩<;>conv=>whnf
 rotate_left
 ·conv=>whnf
  have:r=false:=by rw [hr];exact bH (fun e=>hs (by rw [e]))
  rw [this]
  try refine aA.retU ?_
  exact aE.ret tab Tryz.func42 rfl (eN () trivial)
 conv=>whnf
 have hn:a.length=b.length:=by omega
 refine aA.nameAt (fun _ x=>x) 0 (by exact hT.1) ?_
 conv=>whnf
 (try refine gS ?_);conv=>whnf
 refine aA.nameAt (fun _ x=>x) 1 (by exact hT.2) ?_
 conv=>whnf
 (try refine gS ?_);conv=>whnf
 refine aA.subR [] (aA.loop (fun (k:Nat)=>[(12,.v (.int .i64 a.length)),(13,.v (.int .i64 k)),(0,.buf 0),(1,.buf 1)]) (fun (k:Nat)=>[(0,.ro 4 (rws Cd.row a)),(1,.ro 4 (rws Cd.row b))]) 2 (fun (k:Nat)=>k≤a.length ∧ ∀j (_:j<k) (ha:j<a.length) (hb:j<b.length),a[j]=b[j]) (fun (k:Nat)=>a.length - k) ?round9 (0) ?J09) sH sH
 case J09=>exact (⟨Nat.zero_le _,fun j hj=>absurd hj (Nat.not_lt_zero _)⟩)
 rintro k hJ back
 conv=>whnf
 refine gS ?_;conv=>whnf
 refine ⟨fun hk=>?_,fun hk=>?_⟩<;>conv=>whnf
 ·have hk:k<a.length:=by omega
  have hk2:k<b.length:=by omega
  conv=>whnf
  refine aA.held tab (.fl 0 (.fl 1 (.fl 2 (.fl 3 (.fl 4 (.fl 5 (.fl 6 (.fl 7 (.fl 8 .done))))))))) (by kernel_rfl) ?_;conv=>whnf
  (try refine gR ?_);conv=>whnf
  repeat ((first|(guard_target=_∧_;(first|refine oL ?_|refine oR ?_|refine oB ?_))|(guard_target=Exists _;refine oM ?_));(try intro _);conv=>whnf)
  conv=>whnf
  refine ⟨_,aK hk,?_⟩;conv=>whnf
  try (refine And.intro (by first|omega|exact Nat.le_of_ble_eq_true rfl) ?_;(try intro _);conv=>whnf)
  conv=>whnf
  repeat ((first|(guard_target=_∧_;(first|refine oL ?_|refine oR ?_|refine oB ?_))|(guard_target=Exists _;refine oM ?_));(try intro _);conv=>whnf)
  conv=>whnf
  refine ⟨_,aK hk2,?_⟩;conv=>whnf
  try (refine And.intro (by first|omega|exact Nat.le_of_ble_eq_true rfl) ?_;(try intro _);conv=>whnf)
  conv=>whnf
  refine ⟨fun hs=>?_,fun hs=>?_⟩<;>conv=>whnf
  ·try refine gR ?_
   conv=>whnf
   (try refine gS ?_);conv=>whnf
   repeat ((first|(guard_target=_∧_;(first|refine oL ?_|refine oR ?_))|(guard_target=Exists _;refine oM ?_));(try intro _);conv=>whnf)
   refine aA.subR [] (back (k+1) (by exact (⟨hk,iL hk hk2 hJ.2 (Cd.ext_iff'.2 hs)⟩)) (by (try dsimp only);omega)) sH sH
  (try refine gR ?_);conv=>whnf
  (try refine gS ?_);conv=>whnf
  have:r=false:=by rw [hr];exact bH (fun e=>(fun e=>hs (Cd.ext_iff'.1 e)) (pH e hk hk2))
  rw [this]
  try refine aA.retU ?_
  exact aE.ret tab Tryz.func42 rfl (eN () trivial)
 conv=>whnf
 have:r=true:=by rw [hr];exact bL (kM hn fun j h1 h2=>hJ.2 j (by omega) h1 h2)
 rw [this]
 try refine aA.retU ?_
 exact aE.ret tab Tryz.func42 rfl (eN () trivial)
theorem aUP (va vb:Value) (a b:List Am):FnT Tryz.prog (Two va vb 7 (rws Am.row a) (rws Am.row b)) 108 0 [.v va,.v vb] [] (fun _:Unit=>True) (fun _=>.ret (.v (.bool (eqB a b))) 0 []):=by
 have hla:(rws Am.row a).length=a.length:=aG _ _
 have hlb:(rws Am.row b).length=b.length:=aG _ _
 obtain ⟨r,hr⟩:∃r,r=eqB a b:=⟨_,rfl⟩
 rw [←hr]
 refine FnT.of Tryz.func108 (by kernel_rfl) rfl Tryz.ntmps108 rfl fun E0 F h hT w0 cs=>?_
 have mA:=hT.1.len
 obtain ⟨aa,ca,rfl⟩:=RoF.sli hT.1 hla
 obtain ⟨ab,cb,rfl⟩:=RoF.sli hT.2 hlb
 conv=>whnf
 (try refine gS ?_);conv=>whnf
 refine ⟨fun hs=>?_,fun hs=>?_⟩<;>conv=>whnf
 rotate_left
 ·conv=>whnf
  have:r=false:=by rw [hr];exact bH (fun e=>hs (by rw [e]))
  rw [this]
  try refine aA.retU ?_
  exact aE.ret tab Tryz.func108 rfl (eN () trivial)
 conv=>whnf
 have hn:a.length=b.length:=by omega
 refine aA.nameAt (fun _ x=>x) 0 (by exact hT.1) ?_
 conv=>whnf
 (try refine gS ?_);conv=>whnf
 refine aA.nameAt (fun _ x=>x) 1 (by exact hT.2) ?_
 conv=>whnf
 (try refine gS ?_);conv=>whnf
 refine aA.subR [] (aA.loop (fun (k:Nat)=>[(12,.v (.int .i64 a.length)),(13,.v (.int .i64 k)),(0,.buf 0),(1,.buf 1)]) (fun (k:Nat)=>[(0,.ro 7 (rws Am.row a)),(1,.ro 7 (rws Am.row b))]) 2 (fun (k:Nat)=>k≤a.length ∧ ∀j (_:j<k) (ha:j<a.length) (hb:j<b.length),a[j]=b[j]) (fun (k:Nat)=>a.length - k) ?round11 (0) ?J011) sH sH
 case J011=>exact (⟨Nat.zero_le _,fun j hj=>absurd hj (Nat.not_lt_zero _)⟩)
 rintro k hJ back
 conv=>whnf
 refine gS ?_;conv=>whnf
 refine ⟨fun hk=>?_,fun hk=>?_⟩<;>conv=>whnf
 ·have hk:k<a.length:=by omega
  have hk2:k<b.length:=by omega
  conv=>whnf
  refine aA.held tab (.fl 0 (.fl 1 (.fl 2 (.fl 3 (.fl 4 (.fl 5 (.fl 6 (.fl 7 (.fl 8 .done))))))))) (by kernel_rfl) ?_;conv=>whnf
  (try refine gR ?_);conv=>whnf
  repeat ((first|(guard_target=_∧_;(first|refine oL ?_|refine oR ?_|refine oB ?_))|(guard_target=Exists _;refine oM ?_));(try intro _);conv=>whnf)
  conv=>whnf
  refine ⟨_,aK hk,?_⟩;conv=>whnf
  try (refine And.intro (by first|omega|exact Nat.le_of_ble_eq_true rfl) ?_;(try intro _);conv=>whnf)
  conv=>whnf
  repeat ((first|(guard_target=_∧_;(first|refine oL ?_|refine oR ?_|refine oB ?_))|(guard_target=Exists _;refine oM ?_));(try intro _);conv=>whnf)
  conv=>whnf
  refine ⟨_,aK hk2,?_⟩;conv=>whnf
  try (refine And.intro (by first|omega|exact Nat.le_of_ble_eq_true rfl) ?_;(try intro _);conv=>whnf)
  conv=>whnf
  refine ⟨fun hs=>?_,fun hs=>?_⟩<;>conv=>whnf
  ·try refine gR ?_
   conv=>whnf
   (try refine gS ?_);conv=>whnf
   repeat ((first|(guard_target=_∧_;(first|refine oL ?_|refine oR ?_))|(guard_target=Exists _;refine oM ?_));(try intro _);conv=>whnf)
   refine aA.subR [] (back (k+1) (by exact (⟨hk,iL hk hk2 hJ.2 (Am.ext_iff'.2 hs)⟩)) (by (try dsimp only);omega)) sH sH
  (try refine gR ?_);conv=>whnf
  (try refine gS ?_);conv=>whnf
  have:r=false:=by rw [hr];exact bH (fun e=>(fun e=>hs (Am.ext_iff'.1 e)) (pH e hk hk2))
  rw [this]
  try refine aA.retU ?_
  exact aE.ret tab Tryz.func108 rfl (eN () trivial)
 conv=>whnf
 have:r=true:=by rw [hr];exact bL (kM hn fun j h1 h2=>hJ.2 j (by omega) h1 h2)
 rw [this]
 try refine aA.retU ?_
 exact aE.ret tab Tryz.func108 rfl (eN () trivial)
theorem eqR_fn (va vb:Value) (a b:List Rn):FnT Tryz.prog (Two va vb 3 (rws Rn.row a) (rws Rn.row b)) 109 0 [.v va,.v vb] [] (fun _:Unit=>True) (fun _=>.ret (.v (.bool (eqB a b))) 0 []):=by
 have hla:(rws Rn.row a).length=a.length:=aG _ _
 have hlb:(rws Rn.row b).length=b.length:=aG _ _
 obtain ⟨r,hr⟩:∃r,r=eqB a b:=⟨_,rfl⟩
 rw [←hr]
 refine FnT.of Tryz.func109 (by kernel_rfl) rfl Tryz.ntmps109 rfl fun E0 F h hT w0 cs=>?_
 have mA:=hT.1.len
 obtain ⟨aa,ca,rfl⟩:=RoF.sli hT.1 hla
 obtain ⟨ab,cb,rfl⟩:=RoF.sli hT.2 hlb
 conv=>whnf
 (try refine gS ?_);conv=>whnf
 refine ⟨fun hs=>?_,fun hs=>?_⟩<;>conv=>whnf
 rotate_left
 ·conv=>whnf
  have:r=false:=by rw [hr];exact bH (fun e=>hs (by rw [e]))
  rw [this]
  try refine aA.retU ?_
  exact aE.ret tab Tryz.func109 rfl (eN () trivial)
 conv=>whnf
 have hn:a.length=b.length:=by omega
 refine aA.nameAt (fun _ x=>x) 0 (by exact hT.1) ?_
 conv=>whnf
 (try refine gS ?_);conv=>whnf
 refine aA.nameAt (fun _ x=>x) 1 (by exact hT.2) ?_
 conv=>whnf
 (try refine gS ?_);conv=>whnf
 refine aA.subR [] (aA.loop (fun (k:Nat)=>[(12,.v (.int .i64 a.length)),(13,.v (.int .i64 k)),(0,.buf 0),(1,.buf 1)]) (fun (k:Nat)=>[(0,.ro 3 (rws Rn.row a)),(1,.ro 3 (rws Rn.row b))]) 2 (fun (k:Nat)=>k≤a.length ∧ ∀j (_:j<k) (ha:j<a.length) (hb:j<b.length),a[j]=b[j]) (fun (k:Nat)=>a.length - k) ?round13 (0) ?J013) sH sH
 case J013=>exact (⟨Nat.zero_le _,fun j hj=>absurd hj (Nat.not_lt_zero _)⟩)
 rintro k hJ back
 conv=>whnf
 refine gS ?_;conv=>whnf
 refine ⟨fun hk=>?_,fun hk=>?_⟩<;>conv=>whnf
 ·have hk:k<a.length:=by omega
  have hk2:k<b.length:=by omega
  conv=>whnf
  refine aA.held tab (.fl 0 (.fl 1 (.fl 2 (.fl 3 (.fl 4 (.fl 5 (.fl 6 (.fl 7 (.fl 8 .done))))))))) (by kernel_rfl) ?_;conv=>whnf
  (try refine gR ?_);conv=>whnf
  repeat ((first|(guard_target=_∧_;(first|refine oL ?_|refine oR ?_|refine oB ?_))|(guard_target=Exists _;refine oM ?_));(try intro _);conv=>whnf)
  conv=>whnf
  refine ⟨_,aK hk,?_⟩;conv=>whnf
  try (refine And.intro (by first|omega|exact Nat.le_of_ble_eq_true rfl) ?_;(try intro _);conv=>whnf)
  conv=>whnf
  repeat ((first|(guard_target=_∧_;(first|refine oL ?_|refine oR ?_|refine oB ?_))|(guard_target=Exists _;refine oM ?_));(try intro _);conv=>whnf)
  conv=>whnf
  refine ⟨_,aK hk2,?_⟩;conv=>whnf
  try (refine And.intro (by first|omega|exact Nat.le_of_ble_eq_true rfl) ?_;(try intro _);conv=>whnf)
  conv=>whnf
  refine ⟨fun hs=>?_,fun hs=>?_⟩<;>conv=>whnf
  ·try refine gR ?_
   conv=>whnf
   (try refine gS ?_);conv=>whnf
   repeat ((first|(guard_target=_∧_;(first|refine oL ?_|refine oR ?_))|(guard_target=Exists _;refine oM ?_));(try intro _);conv=>whnf)
   refine aA.subR [] (back (k+1) (by exact (⟨hk,iL hk hk2 hJ.2 (Rn.ext_iff'.2 hs)⟩)) (by (try dsimp only);omega)) sH sH
  (try refine gR ?_);conv=>whnf
  (try refine gS ?_);conv=>whnf
  have:r=false:=by rw [hr];exact bH (fun e=>(fun e=>hs (Rn.ext_iff'.1 e)) (pH e hk hk2))
  rw [this]
  try refine aA.retU ?_
  exact aE.ret tab Tryz.func109 rfl (eN () trivial)
 conv=>whnf
 have:r=true:=by rw [hr];exact bL (kM hn fun j h1 h2=>hJ.2 j (by omega) h1 h2)
 rw [this]
 try refine aA.retU ?_
 exact aE.ret tab Tryz.func109 rfl (eN () trivial)
theorem eqS_fn (va vb:Value) (a b:List Sw):FnT Tryz.prog (Two va vb 4 (rws Sw.row a) (rws Sw.row b)) 45 0 [.v va,.v vb] [] (fun _:Unit=>True) (fun _=>.ret (.v (.bool (eqB a b))) 0 []):=by
 have hla:(rws Sw.row a).length=a.length:=aG _ _
 have hlb:(rws Sw.row b).length=b.length:=aG _ _
 obtain ⟨r,hr⟩:∃r,r=eqB a b:=⟨_,rfl⟩
 rw [←hr]
 refine FnT.of Tryz.func45 (by kernel_rfl) rfl Tryz.ntmps45 rfl fun E0 F h hT w0 cs=>?_
 have mA:=hT.1.len
 obtain ⟨aa,ca,rfl⟩:=RoF.sli hT.1 hla
 obtain ⟨ab,cb,rfl⟩:=RoF.sli hT.2 hlb
 conv=>whnf
 (try refine gS ?_);conv=>whnf
 refine ⟨fun hs=>?_,fun hs=>?_⟩<;>conv=>whnf
 rotate_left
 ·conv=>whnf
  have:r=false:=by rw [hr];exact bH (fun e=>hs (by rw [e]))
  rw [this]
  try refine aA.retU ?_
  exact aE.ret tab Tryz.func45 rfl (eN () trivial)
 conv=>whnf
 have hn:a.length=b.length:=by omega
 refine aA.nameAt (fun _ x=>x) 0 (by exact hT.1) ?_
 conv=>whnf
 (try refine gS ?_);conv=>whnf
 refine aA.nameAt (fun _ x=>x) 1 (by exact hT.2) ?_
 conv=>whnf
 (try refine gS ?_);conv=>whnf
 refine aA.subR [] (aA.loop (fun (k:Nat)=>[(12,.v (.int .i64 a.length)),(13,.v (.int .i64 k)),(0,.buf 0),(1,.buf 1)]) (fun (k:Nat)=>[(0,.ro 4 (rws Sw.row a)),(1,.ro 4 (rws Sw.row b))]) 2 (fun (k:Nat)=>k≤a.length ∧ ∀j (_:j<k) (ha:j<a.length) (hb:j<b.length),a[j]=b[j]) (fun (k:Nat)=>a.length - k) ?round15 (0) ?J015) sH sH
 case J015=>exact (⟨Nat.zero_le _,fun j hj=>absurd hj (Nat.not_lt_zero _)⟩)
 rintro k hJ back
 conv=>whnf
 refine gS ?_;conv=>whnf
 refine ⟨fun hk=>?_,fun hk=>?_⟩<;>conv=>whnf
 ·have hk:k<a.length:=by omega
  have hk2:k<b.length:=by omega
  conv=>whnf
  refine aA.held tab (.fl 0 (.fl 1 (.fl 2 (.fl 3 (.fl 4 (.fl 5 (.fl 6 (.fl 7 (.fl 8 .done))))))))) (by kernel_rfl) ?_;conv=>whnf
  (try refine gR ?_);conv=>whnf
  repeat ((first|(guard_target=_∧_;(first|refine oL ?_|refine oR ?_|refine oB ?_))|(guard_target=Exists _;refine oM ?_));(try intro _);conv=>whnf)
  conv=>whnf
  refine ⟨_,aK hk,?_⟩;conv=>whnf
  try (refine And.intro (by first|omega|exact Nat.le_of_ble_eq_true rfl) ?_;(try intro _);conv=>whnf)
  conv=>whnf
  repeat ((first|(guard_target=_∧_;(first|refine oL ?_|refine oR ?_|refine oB ?_))|(guard_target=Exists _;refine oM ?_));(try intro _);conv=>whnf)
  conv=>whnf
  refine ⟨_,aK hk2,?_⟩;conv=>whnf
  try (refine And.intro (by first|omega|exact Nat.le_of_ble_eq_true rfl) ?_;(try intro _);conv=>whnf)
  conv=>whnf
  refine ⟨fun hs=>?_,fun hs=>?_⟩<;>conv=>whnf
  ·try refine gR ?_
   conv=>whnf
   (try refine gS ?_);conv=>whnf
   repeat ((first|(guard_target=_∧_;(first|refine oL ?_|refine oR ?_))|(guard_target=Exists _;refine oM ?_));(try intro _);conv=>whnf)
   refine aA.subR [] (back (k+1) (by exact (⟨hk,iL hk hk2 hJ.2 (Sw.ext_iff'.2 hs)⟩)) (by (try dsimp only);omega)) sH sH
  (try refine gR ?_);conv=>whnf
  (try refine gS ?_);conv=>whnf
  have:r=false:=by rw [hr];exact bH (fun e=>(fun e=>hs (Sw.ext_iff'.1 e)) (pH e hk hk2))
  rw [this]
  try refine aA.retU ?_
  exact aE.ret tab Tryz.func45 rfl (eN () trivial)
 conv=>whnf
 have:r=true:=by rw [hr];exact bL (kM hn fun j h1 h2=>hJ.2 j (by omega) h1 h2)
 rw [this]
 try refine aA.retU ?_
 exact aE.ret tab Tryz.func45 rfl (eN () trivial)

abbrev TwoO (a b:OpV) (F:Nat→Prop) (h:Array Obj):Prop:=a.ok F h∧b.ok F h
theorem TwoO.tok (a b:OpV):TOk (TwoO a b):=Two.tok _ _ _ _ _
theorem aVV (a b:OpV):FnT Tryz.prog (TwoO a b) 40 0 [.agg (toV a.row),.agg (toV b.row)] [] (fun _:Unit=>True) (fun _=>.ret (.v (.bool (eqB a.bare b.bare))) 0 []):=by
 obtain ⟨r,hr⟩:∃r,r=eqB a.bare b.bare:=⟨_,rfl⟩
 rw [←hr]
 refine FnT.of Tryz.func40 (by kernel_rfl) rfl Tryz.ntmps40 rfl fun E0 F h hT w0 cs=>?_
 conv=>whnf
 (try refine gS ?_);conv=>whnf
 refine ⟨fun hs=>?_,fun hs=>?_⟩<;>conv=>whnf
 ·try refine gS ?_
  conv=>whnf
  refine aA.callT (Two.tok _ _ _ _ _) (hT) (aWH _ _ a.ch b.ch) [] sH ?CNa1 ?_
  case CNa1=>rfl
  intro _ _
  conv=>whnf
  (try refine gS ?_);conv=>whnf
  have:r=eqB a.ch b.ch:=by
   rw [hr]
   by_cases h:a.ch=b.ch
   ·rw [bL h,bL (OpV.bare_iff.2 ⟨hs,h⟩)]
   rw [bH h,bH fun e=>h (OpV.bare_iff.1 e).2]
  rw [this]
  try refine aA.retU ?_
  exact aE.ret tab Tryz.func40 rfl (eN () trivial)
 (try refine gS ?_);conv=>whnf
 have:r=false:=by rw [hr];exact bH fun e=>hs (OpV.bare_iff.1 e).1
 rw [this]
 try refine aA.retU ?_
 exact aE.ret tab Tryz.func40 rfl (eN () trivial)
def sB (r:RcV):List Int:=[r.fr,r.to,r.rwN,r.rwD,r.yN,r.yD,r.tN,r.tD,r.lead,r.inum,r.pnum]
theorem aJJ (r:RcV):FnS Tryz.prog 107 0 [.agg (toV r.row)] [] (fun _:Unit=>True) (fun _=>.ret (.agg (toV ((sB r).map fun z=>Value.int .i64 z))) 0 []):=by
 refine FnS.of Tryz.func107 (by kernel_rfl) rfl Tryz.ntmps107 rfl fun E0 F h w0 cs=>?_
 conv=>whnf
 refine gS ?_;conv=>whnf
 try refine aA.retU ?_
 exact aE.ret tab Tryz.func107 rfl (eN () trivial)
theorem arT:Tryz.prog.underlying 169=some (.array 11 3):=by kernel_rfl
theorem inT:Tryz.prog.underlying 3=some (.int .i64):=by kernel_rfl
theorem arI:Tryz.prog.info? 3=some (Tryz.prog.info? 3).get! :=by kernel_rfl
theorem inC:Tryz.prog.cellsOf 3=1:=by kernel_rfl
theorem arG:Tryz.prog.eqGuardType Tryz.prog.depth 169=false:=by kernel_rfl
theorem aMW {a b:RcV}:sB a=sB b↔a.fr=b.fr∧a.to=b.to∧a.rwN=b.rwN∧a.rwD=b.rwD∧a.yN=b.yN∧a.yD=b.yD∧a.tN=b.tN∧a.tD=b.tD∧a.lead=b.lead∧a.inum=b.inum∧a.pnum=b.pnum:=by simp [sB]
theorem nums_of {a b:RcV} (e:a.bare=b.bare):sB a=sB b:=by
 obtain ⟨_,_,h3,h4,_,_,_,h8,h9,h10,h11,h12,h13,h14,_,h16,h17⟩:=RcV.bare_iff.1 e
 exact aMW.2 ⟨h3,h4,h8,h9,h10,h11,h12,h13,h14,h16,h17⟩
theorem aWW (a b:RcV):FnT Tryz.prog (TwoR a b) 44 0 [.agg (toV a.row),.agg (toV b.row)] [] (fun _:Unit=>True) (fun _=>.ret (.v (.bool (eqB a.bare b.bare))) 0 []):=by
 obtain ⟨r,hr⟩:∃r,r=eqB a.bare b.bare:=⟨_,rfl⟩
 rw [←hr]
 refine FnT.of Tryz.func44 (by kernel_rfl) rfl Tryz.ntmps44 rfl fun E0 F h hT w0 cs=>?_
 conv=>whnf
 (try refine gS ?_);conv=>whnf
 refine aA.held tab (.fl 0 (.fl 1 (.fl 2 (.fl 3 (.fl 4 (.fl 5 (.fl 6 (.fl 7 (.fl 8 (.fl 9 (.fl 10 (.fl 11 (.fl 12 (.fl 13 (.fl 14 (.fl 16 (.fl 17 (.e1 15 [17] (.e1 18 [] (.fl 19 (.fl 20 (.fl 21 (.fl 22 (.fl 23 (.fl 24 (.fl 25 (.e1 26 [] (.fl 27 (.fl 28 (.fl 29 (.fl 30 (.fl 31 (.fl 32 (.e1 33 [] (.fl 34 (.fl 35 (.fl 36 (.fl 37 (.fl 38 (.fl 39 (.e1 40 [] (.fl 41 (.fl 42 (.fl 43 (.fl 44 (.fl 45 (.fl 46 (.e1 47 [] (.fl 48 (.fl 49 .done)))))))))))))))))))))))))))))))))))))))))))))))))) (by kernel_rfl) ?_;conv=>whnf
 (try refine gR ?_);conv=>whnf
 refine ⟨fun h1=>?_,fun h1=>?_⟩<;>conv=>whnf
 ·try refine gR ?_
  conv=>whnf
  refine ⟨fun h2=>?_,fun h2=>?_⟩<;>conv=>whnf
  ·try refine gR ?_
   conv=>whnf
   refine aV.callN (aJJ a) [] ?_ sH ?CNa2
   case CNa2=>rfl
   intro _ _
   conv=>whnf
   try refine oB ?_
   (try refine gR ?_);conv=>whnf
   refine aV.callN (aJJ b) [] ?_ sH ?CNa3
   case CNa3=>rfl
   rintro ⟨⟩ _<;>conv=>whnf
   conv=>whnf
   try refine oB ?_
   refine bK.eqArr (us:=sB a) (ws:=sB b) arT inT arI inC arG rfl rfl ?_
   by_cases h3:sB a=sB b
   ·rw [decide_eq_true h3]
    conv=>whnf
    (try refine gR ?_);conv=>whnf
    have C4:=aUZ (a.hc.v a.cs.length) (b.hc.v b.cs.length) a.cs b.cs
    by_cases h4:a.cs=b.cs
    rotate_left
    ·rw [bH h4] at C4
     refine aV.callT (Two.tok _ _ _ _ _) (⟨hT.1.c,hT.2.c⟩) (C4) [] ?_ sH ?CNa4
     case CNa4=>rfl
     intro _ _
     conv=>whnf
     try refine oB ?_
     (try refine gR ?_);conv=>whnf
     repeat ((first|(guard_target=_∧_;(first|refine oL ?_|refine oR ?_|refine oB ?_))|(guard_target=Exists _;refine oM ?_));(try intro _);conv=>whnf)
     (try refine gS ?_);conv=>whnf
     have:r=false:=by rw [hr];exact bH fun e=>h4 (RcV.bare_iff.1 e).2.2.2.2.1
     rw [this]
     try refine aA.retU ?_
     exact aE.ret tab Tryz.func44 rfl (eN () trivial)
    rw [bL h4] at C4
    refine aV.callT (Two.tok _ _ _ _ _) (⟨hT.1.c,hT.2.c⟩) (C4) [] ?_ sH ?CNa5
    case CNa5=>rfl
    intro _ _
    conv=>whnf
    try refine oB ?_
    (try refine gR ?_);conv=>whnf
    have C5:=aUP (a.hi.v a.inn.length) (b.hi.v b.inn.length) a.inn b.inn
    by_cases h5:a.inn=b.inn
    rotate_left
    ·rw [bH h5] at C5
     refine aV.callT (Two.tok _ _ _ _ _) (⟨hT.1.i,hT.2.i⟩) (C5) [] ?_ sH ?CNa6
     case CNa6=>rfl
     intro _ _
     conv=>whnf
     try refine oB ?_
     (try refine gR ?_);conv=>whnf
     repeat ((first|(guard_target=_∧_;(first|refine oL ?_|refine oR ?_|refine oB ?_))|(guard_target=Exists _;refine oM ?_));(try intro _);conv=>whnf)
     (try refine gS ?_);conv=>whnf
     have:r=false:=by rw [hr];exact bH fun e=>h5 (RcV.bare_iff.1 e).2.2.2.2.2.1
     rw [this]
     try refine aA.retU ?_
     exact aE.ret tab Tryz.func44 rfl (eN () trivial)
    rw [bL h5] at C5
    refine aV.callT (Two.tok _ _ _ _ _) (⟨hT.1.i,hT.2.i⟩) (C5) [] ?_ sH ?CNa7
    case CNa7=>rfl
    intro _ _
    conv=>whnf
    try refine oB ?_
    (try refine gR ?_);conv=>whnf
    have C6:=aUP (a.ho.v a.out.length) (b.ho.v b.out.length) a.out b.out
    by_cases h6:a.out=b.out
    rotate_left
    ·rw [bH h6] at C6
     refine aV.callT (Two.tok _ _ _ _ _) (⟨hT.1.o,hT.2.o⟩) (C6) [] ?_ sH ?CNa8
     case CNa8=>rfl
     intro _ _
     conv=>whnf
     try refine oB ?_
     (try refine gR ?_);conv=>whnf
     repeat ((first|(guard_target=_∧_;(first|refine oL ?_|refine oR ?_|refine oB ?_))|(guard_target=Exists _;refine oM ?_));(try intro _);conv=>whnf)
     (try refine gS ?_);conv=>whnf
     have:r=false:=by rw [hr];exact bH fun e=>h6 (RcV.bare_iff.1 e).2.2.2.2.2.2.1
     rw [this]
     try refine aA.retU ?_
     exact aE.ret tab Tryz.func44 rfl (eN () trivial)
    rw [bL h6] at C6
    refine aV.callT (Two.tok _ _ _ _ _) (⟨hT.1.o,hT.2.o⟩) (C6) [] ?_ sH ?CNa9
    case CNa9=>rfl
    intro _ _
    conv=>whnf
    try refine oB ?_
    (try refine gR ?_);conv=>whnf
    have C7:=eqR_fn (a.hr.v a.runs.length) (b.hr.v b.runs.length) a.runs b.runs
    by_cases h7:a.runs=b.runs
    rotate_left
    ·rw [bH h7] at C7
     refine aV.callT (Two.tok _ _ _ _ _) (⟨hT.1.rn,hT.2.rn⟩) (C7) [] ?_ sH ?CNa10
     case CNa10=>rfl
     intro _ _
     conv=>whnf
     try refine oB ?_
     (try refine gR ?_);conv=>whnf
     (try refine gS ?_);conv=>whnf
     have:r=false:=by rw [hr];exact bH fun e=>h7 (RcV.bare_iff.1 e).2.2.2.2.2.2.2.2.2.2.2.2.2.2.1
     rw [this]
     try refine aA.retU ?_
     exact aE.ret tab Tryz.func44 rfl (eN () trivial)
    rw [bL h7] at C7
    refine aV.callT (Two.tok _ _ _ _ _) (⟨hT.1.rn,hT.2.rn⟩) (C7) [] ?_ sH ?CNa11
    case CNa11=>rfl
    intro _ _
    conv=>whnf
    try refine oB ?_
    (try refine gR ?_);conv=>whnf
    (try refine gS ?_);conv=>whnf
    have:r=true:=by
     obtain ⟨n1,n2,n3,n4,n5,n6,n7,n8,n9,n10,n11⟩:=aMW.1 h3
     rw [hr]
     exact bL (RcV.bare_iff.2 ⟨h1,h2,n1,n2,h4,h5,h6,n3,n4,n5,n6,n7,n8,n9,h7,n10,n11⟩)
    rw [this]
    try refine aA.retU ?_
    exact aE.ret tab Tryz.func44 rfl (eN () trivial)
   rw [decide_eq_false h3]
   conv=>whnf
   (try refine gR ?_);conv=>whnf
   repeat ((first|(guard_target=_∧_;(first|refine oL ?_|refine oR ?_|refine oB ?_))|(guard_target=Exists _;refine oM ?_));(try intro _);conv=>whnf)
   (try refine gS ?_);conv=>whnf
   have:r=false:=by rw [hr];exact bH fun e=>h3 (nums_of e)
   rw [this]
   try refine aA.retU ?_
   exact aE.ret tab Tryz.func44 rfl (eN () trivial)
  (try refine gR ?_);conv=>whnf
  repeat ((first|(guard_target=_∧_;(first|refine oL ?_|refine oR ?_|refine oB ?_))|(guard_target=Exists _;refine oM ?_));(try intro _);conv=>whnf)
  (try refine gS ?_);conv=>whnf
  have:r=false:=by rw [hr];exact bH fun e=>h2 (RcV.bare_iff.1 e).2.1
  rw [this]
  try refine aA.retU ?_
  exact aE.ret tab Tryz.func44 rfl (eN () trivial)
 (try refine gR ?_);conv=>whnf
 repeat ((first|(guard_target=_∧_;(first|refine oL ?_|refine oR ?_|refine oB ?_))|(guard_target=Exists _;refine oM ?_));(try intro _);conv=>whnf)
 (try refine gS ?_);conv=>whnf
 have:r=false:=by rw [hr];exact bH fun e=>h1 (RcV.bare_iff.1 e).1
 rw [this]
 try refine aA.retU ?_
 exact aE.ret tab Tryz.func44 rfl (eN () trivial)

structure aEW {α:Type} (row:α→List Value) (ok:α→(Nat→Prop)→Array Obj→Prop) (sz:Nat) (va vb:Value) (a b:List α) (F:Nat→Prop) (h:Array Obj):Prop where
 ra:RoF F h va sz (rws row a)
 rb:RoF F h vb sz (rws row b)
 oa:∀o∈a,ok o F h
 ob:∀o∈b,ok o F h
theorem aEW.tok {α:Type} {row:α→List Value} {ok:α→(Nat→Prop)→Array Obj→Prop} (t:∀o,TOk (ok o)) {sz:Nat} {va vb:Value} {a b:List α}:TOk (aEW row ok sz va vb a b):=
 ⟨fun F F' h hs H=>⟨RoF.up ⟨hs,fun _ _=>rfl⟩ H.ra,RoF.up ⟨hs,fun _ _=>rfl⟩ H.rb,fun o ho=>(t o).1 F F' h hs (H.oa o ho),fun o ho=>(t o).1 F F' h hs (H.ob o ho)⟩,
  fun F h h' H K=>⟨RoF.up ⟨fun _ x=>x,K.same⟩ H.ra,RoF.up ⟨fun _ x=>x,K.same⟩ H.rb,fun o ho=>(t o).2 F h h' (H.oa o ho) K,fun o ho=>(t o).2 F h h' (H.ob o ho) K⟩⟩
abbrev okO (o:OpV) (F:Nat→Prop) (h:Array Obj):Prop:=o.ok F h
abbrev okF (o:FbV) (F:Nat→Prop) (h:Array Obj):Prop:=o.ok F h
abbrev okR (o:RcV) (F:Nat→Prop) (h:Array Obj):Prop:=o.ok F h
theorem OpV.tok' (o:OpV):TOk (okO o):=RoF.tok _ _ _
theorem FbV.tok' (o:FbV):TOk (okF o):=RoF.tok _ _ _
theorem RcV.tok' (o:RcV):TOk (okR o):=RcV.ok.tok o
theorem eqfO_fn (va vb:Value) (a b:List OpV):FnT Tryz.prog (aEW OpV.row okO 2 va vb a b) 39 0 [.v va,.v vb,.v (.func (.func 40) #[] #[])] [] (fun _:Unit=>True) (fun _=>.ret (.v (.bool (eqB (a.map OpV.bare) (b.map OpV.bare)))) 0 []):=by
 have hla:(rws OpV.row a).length=a.length:=aG _ _
 have hlb:(rws OpV.row b).length=b.length:=aG _ _
 obtain ⟨r,hr⟩:∃r,r=eqB (a.map OpV.bare) (b.map OpV.bare):=⟨_,rfl⟩
 rw [←hr]
 refine FnT.of Tryz.func39 (by kernel_rfl) rfl Tryz.ntmps39 rfl fun E0 F h hT w0 cs=>?_
 have mA:=hT.ra.len
 obtain ⟨aa,ca,rfl⟩:=RoF.sli hT.ra hla
 obtain ⟨ab,cb,rfl⟩:=RoF.sli hT.rb hlb
 conv=>whnf
 (try refine gS ?_);conv=>whnf
 refine ⟨fun hs=>?_,fun hs=>?_⟩<;>conv=>whnf
 rotate_left
 ·conv=>whnf
  have:r=false:=by rw [hr];exact bH (fun e=>hs (by rw [xI e]))
  rw [this]
  try refine aA.retU ?_
  exact aE.ret tab Tryz.func39 rfl (eN () trivial)
 conv=>whnf
 have hn:a.length=b.length:=by omega
 refine aA.nameAt (fun _ x=>x) 15 (by exact hT.ra) ?_
 conv=>whnf
 (try refine gS ?_);conv=>whnf
 refine aA.nameAt (fun _ x=>x) 1 (by exact hT.rb) ?_
 conv=>whnf
 (try refine gS ?_);conv=>whnf
 refine aA.subR [] (aA.loop (fun (k:Nat)=>[(16,.v (.int .i64 a.length)),(17,.v (.int .i64 k)),(15,.buf 0),(1,.buf 1),(2,.v (.func (.func 40) #[] #[]))]) (fun (k:Nat)=>[(0,.ro 2 (rws OpV.row a)),(1,.ro 2 (rws OpV.row b))]) 2 (fun (k:Nat)=>k≤a.length ∧ ∀j (_:j<k) (ha:j<a.length) (hb:j<b.length),a[j].bare=b[j].bare) (fun (k:Nat)=>a.length - k) ?round1 (0) ?J01) sH sH
 case J01=>exact (⟨Nat.zero_le _,fun j hj=>absurd hj (Nat.not_lt_zero _)⟩)
 rintro k hJ back
 conv=>whnf
 refine gS ?_;conv=>whnf
 refine ⟨fun hk=>?_,fun hk=>?_⟩<;>conv=>whnf
 ·have hk:k<a.length:=by omega
  have hk2:k<b.length:=by omega
  conv=>whnf
  repeat ((first|(guard_target=_∧_;(first|refine oL ?_|refine oR ?_))|(guard_target=Exists _;refine oM ?_));(try intro _);conv=>whnf)
  refine ⟨_,aK hk,?_⟩;conv=>whnf
  try (refine oN ?_;conv=>whnf)
  repeat ((first|(guard_target=_∧_;(first|refine oL ?_|refine oR ?_))|(guard_target=Exists _;refine oM ?_));(try intro _);conv=>whnf)
  refine ⟨_,aK hk2,?_⟩;conv=>whnf
  try (refine oN ?_;conv=>whnf)
  have C:=aVV a[k] b[k]
  by_cases hs:a[k].bare=b[k].bare
  ·rw [bL hs] at C
   refine aA.callT (TwoO.tok _ _) (⟨hT.oa _ (List.getElem_mem hk),hT.ob _ (List.getElem_mem hk2)⟩) (C) [] sH ?CNa2 ?_
   case CNa2=>rfl
   intro _ _
   conv=>whnf
   (try refine gS ?_);conv=>whnf
   repeat ((first|(guard_target=_∧_;(first|refine oL ?_|refine oR ?_))|(guard_target=Exists _;refine oM ?_));(try intro _);conv=>whnf)
   refine aA.subR [] (back (k+1) (by exact (⟨hk,xE hk hk2 hJ.2 (hs)⟩)) (by (try dsimp only);omega)) sH sH
  rw [bH hs] at C
  refine aA.callT (TwoO.tok _ _) (⟨hT.oa _ (List.getElem_mem hk),hT.ob _ (List.getElem_mem hk2)⟩) (C) [] sH ?CNa4 ?_
  case CNa4=>rfl
  intro _ _
  conv=>whnf
  (try refine gS ?_);conv=>whnf
  have:r=false:=by rw [hr];exact bH (fun e=>(fun e=>hs e) (yZ e hk hk2))
  rw [this]
  try refine aA.retU ?_
  exact aE.ret tab Tryz.func39 rfl (eN () trivial)
 conv=>whnf
 have:r=true:=by rw [hr];exact bL (xN hn fun j h1 h2=>hJ.2 j (by omega) h1 h2)
 rw [this]
 try refine aA.retU ?_
 exact aE.ret tab Tryz.func39 rfl (eN () trivial)
theorem eqfF_fn (va vb:Value) (a b:List FbV):FnT Tryz.prog (aEW FbV.row okF 1 va vb a b) 41 0 [.v va,.v vb,.v (.func (.func 42) #[] #[])] [] (fun _:Unit=>True) (fun _=>.ret (.v (.bool (eqB (a.map FbV.bare) (b.map FbV.bare)))) 0 []):=by
 have hla:(rws FbV.row a).length=a.length:=aG _ _
 have hlb:(rws FbV.row b).length=b.length:=aG _ _
 obtain ⟨r,hr⟩:∃r,r=eqB (a.map FbV.bare) (b.map FbV.bare):=⟨_,rfl⟩
 rw [←hr]
 refine FnT.of Tryz.func41 (by kernel_rfl) rfl Tryz.ntmps41 rfl fun E0 F h hT w0 cs=>?_
 have mA:=hT.ra.len
 obtain ⟨aa,ca,rfl⟩:=RoF.sli hT.ra hla
 obtain ⟨ab,cb,rfl⟩:=RoF.sli hT.rb hlb
 conv=>whnf
 (try refine gS ?_);conv=>whnf
 refine ⟨fun hs=>?_,fun hs=>?_⟩<;>conv=>whnf
 rotate_left
 ·conv=>whnf
  have:r=false:=by rw [hr];exact bH (fun e=>hs (by rw [xI e]))
  rw [this]
  try refine aA.retU ?_
  exact aE.ret tab Tryz.func41 rfl (eN () trivial)
 conv=>whnf
 have hn:a.length=b.length:=by omega
 refine aA.nameAt (fun _ x=>x) 15 (by exact hT.ra) ?_
 conv=>whnf
 (try refine gS ?_);conv=>whnf
 refine aA.nameAt (fun _ x=>x) 1 (by exact hT.rb) ?_
 conv=>whnf
 (try refine gS ?_);conv=>whnf
 refine aA.subR [] (aA.loop (fun (k:Nat)=>[(16,.v (.int .i64 a.length)),(17,.v (.int .i64 k)),(15,.buf 0),(1,.buf 1),(2,.v (.func (.func 42) #[] #[]))]) (fun (k:Nat)=>[(0,.ro 1 (rws FbV.row a)),(1,.ro 1 (rws FbV.row b))]) 2 (fun (k:Nat)=>k≤a.length ∧ ∀j (_:j<k) (ha:j<a.length) (hb:j<b.length),a[j].bare=b[j].bare) (fun (k:Nat)=>a.length - k) ?round5 (0) ?J05) sH sH
 case J05=>exact (⟨Nat.zero_le _,fun j hj=>absurd hj (Nat.not_lt_zero _)⟩)
 rintro k hJ back
 conv=>whnf
 refine gS ?_;conv=>whnf
 refine ⟨fun hk=>?_,fun hk=>?_⟩<;>conv=>whnf
 ·have hk:k<a.length:=by omega
  have hk2:k<b.length:=by omega
  conv=>whnf
  repeat ((first|(guard_target=_∧_;(first|refine oL ?_|refine oR ?_))|(guard_target=Exists _;refine oM ?_));(try intro _);conv=>whnf)
  refine ⟨_,aK hk,?_⟩;conv=>whnf
  try (refine oN ?_;conv=>whnf)
  refine ⟨_,aK hk2,?_⟩;conv=>whnf
  have C:=aUZ (a[k].hd.v a[k].cs.length) (b[k].hd.v b[k].cs.length) a[k].cs b[k].cs
  by_cases hs:a[k].cs=b[k].cs
  ·rw [bL hs] at C
   refine aA.callT (Two.tok _ _ _ _ _) (⟨hT.oa _ (List.getElem_mem hk),hT.ob _ (List.getElem_mem hk2)⟩) (C) [] sH ?CNa6 ?_
   case CNa6=>rfl
   intro _ _
   conv=>whnf
   (try refine gS ?_);conv=>whnf
   repeat ((first|(guard_target=_∧_;(first|refine oL ?_|refine oR ?_))|(guard_target=Exists _;refine oM ?_));(try intro _);conv=>whnf)
   refine aA.subR [] (back (k+1) (by exact (⟨hk,xE hk hk2 hJ.2 (FbV.bare_iff.2 hs)⟩)) (by (try dsimp only);omega)) sH sH
  rw [bH hs] at C
  refine aA.callT (Two.tok _ _ _ _ _) (⟨hT.oa _ (List.getElem_mem hk),hT.ob _ (List.getElem_mem hk2)⟩) (C) [] sH ?CNa8 ?_
  case CNa8=>rfl
  intro _ _
  conv=>whnf
  (try refine gS ?_);conv=>whnf
  have:r=false:=by rw [hr];exact bH (fun e=>(fun e=>hs (FbV.bare_iff.1 e)) (yZ e hk hk2))
  rw [this]
  try refine aA.retU ?_
  exact aE.ret tab Tryz.func41 rfl (eN () trivial)
 conv=>whnf
 have:r=true:=by rw [hr];exact bL (xN hn fun j h1 h2=>hJ.2 j (by omega) h1 h2)
 rw [this]
 try refine aA.retU ?_
 exact aE.ret tab Tryz.func41 rfl (eN () trivial)
theorem eqfR_fn (va vb:Value) (a b:List RcV):FnT Tryz.prog (aEW RcV.row okR 17 va vb a b) 43 0 [.v va,.v vb,.v (.func (.func 44) #[] #[])] [] (fun _:Unit=>True) (fun _=>.ret (.v (.bool (eqB (a.map RcV.bare) (b.map RcV.bare)))) 0 []):=by
 have hla:(rws RcV.row a).length=a.length:=aG _ _
 have hlb:(rws RcV.row b).length=b.length:=aG _ _
 obtain ⟨r,hr⟩:∃r,r=eqB (a.map RcV.bare) (b.map RcV.bare):=⟨_,rfl⟩
 rw [←hr]
 refine FnT.of Tryz.func43 (by kernel_rfl) rfl Tryz.ntmps43 rfl fun E0 F h hT w0 cs=>?_
 have mA:=hT.ra.len
 obtain ⟨aa,ca,rfl⟩:=RoF.sli hT.ra hla
 obtain ⟨ab,cb,rfl⟩:=RoF.sli hT.rb hlb
 conv=>whnf
 (try refine gS ?_);conv=>whnf
 refine ⟨fun hs=>?_,fun hs=>?_⟩<;>conv=>whnf
 rotate_left
 ·conv=>whnf
  have:r=false:=by rw [hr];exact bH (fun e=>hs (by rw [xI e]))
  rw [this]
  try refine aA.retU ?_
  exact aE.ret tab Tryz.func43 rfl (eN () trivial)
 conv=>whnf
 have hn:a.length=b.length:=by omega
 refine aA.nameAt (fun _ x=>x) 15 (by exact hT.ra) ?_
 conv=>whnf
 (try refine gS ?_);conv=>whnf
 refine aA.nameAt (fun _ x=>x) 1 (by exact hT.rb) ?_
 conv=>whnf
 (try refine gS ?_);conv=>whnf
 refine aA.subR [] (aA.loop (fun (k:Nat)=>[(16,.v (.int .i64 a.length)),(17,.v (.int .i64 k)),(15,.buf 0),(1,.buf 1),(2,.v (.func (.func 44) #[] #[]))]) (fun (k:Nat)=>[(0,.ro 17 (rws RcV.row a)),(1,.ro 17 (rws RcV.row b))]) 2 (fun (k:Nat)=>k≤a.length ∧ ∀j (_:j<k) (ha:j<a.length) (hb:j<b.length),a[j].bare=b[j].bare) (fun (k:Nat)=>a.length - k) ?round9 (0) ?J09) sH sH
 case J09=>exact (⟨Nat.zero_le _,fun j hj=>absurd hj (Nat.not_lt_zero _)⟩)
 rintro k hJ back
 conv=>whnf
 refine gS ?_;conv=>whnf
 refine ⟨fun hk=>?_,fun hk=>?_⟩<;>conv=>whnf
 ·have hk:k<a.length:=by omega
  have hk2:k<b.length:=by omega
  conv=>whnf
  repeat ((first|(guard_target=_∧_;(first|refine oL ?_|refine oR ?_))|(guard_target=Exists _;refine oM ?_));(try intro _);conv=>whnf)
  refine ⟨_,aK hk,?_⟩;conv=>whnf
  try (refine oN ?_;conv=>whnf)
  repeat ((first|(guard_target=_∧_;(first|refine oL ?_|refine oR ?_))|(guard_target=Exists _;refine oM ?_));(try intro _);conv=>whnf)
  refine ⟨_,aK hk2,?_⟩;conv=>whnf
  try (refine oN ?_;conv=>whnf)
  have C:=aWW a[k] b[k]
  by_cases hs:a[k].bare=b[k].bare
  ·rw [bL hs] at C
   refine aA.callT (TwoR.tok _ _) (⟨hT.oa _ (List.getElem_mem hk),hT.ob _ (List.getElem_mem hk2)⟩) (C) [] sH ?CNa10 ?_
   case CNa10=>rfl
   intro _ _
   conv=>whnf
   (try refine gS ?_);conv=>whnf
   repeat ((first|(guard_target=_∧_;(first|refine oL ?_|refine oR ?_))|(guard_target=Exists _;refine oM ?_));(try intro _);conv=>whnf)
   refine aA.subR [] (back (k+1) (by exact (⟨hk,xE hk hk2 hJ.2 (hs)⟩)) (by (try dsimp only);omega)) sH sH
  rw [bH hs] at C
  refine aA.callT (TwoR.tok _ _) (⟨hT.oa _ (List.getElem_mem hk),hT.ob _ (List.getElem_mem hk2)⟩) (C) [] sH ?CNa12 ?_
  case CNa12=>rfl
  intro _ _
  conv=>whnf
  (try refine gS ?_);conv=>whnf
  have:r=false:=by rw [hr];exact bH (fun e=>(fun e=>hs e) (yZ e hk hk2))
  rw [this]
  try refine aA.retU ?_
  exact aE.ret tab Tryz.func43 rfl (eN () trivial)
 conv=>whnf
 have:r=true:=by rw [hr];exact bL (xN hn fun j h1 h2=>hJ.2 j (by omega) h1 h2)
 rw [this]
 try refine aA.retU ?_
 exact aE.ret tab Tryz.func43 rfl (eN () trivial)
end Go.Proofs.YtgbeechjghajcaaGreatDoor

namespace Go.Proofs.YtgbeechjghajcaaGreatDoor
open Go Go.Fw Go.NatM Go.RatM Go.SrcM
set_option maxRecDepth 100000
set_option maxHeartbeats 99999999
section
variable {vU vI vP vM vO vF vR vS wU wI wP wM wO wF wR wS:Value}
theorem zQ (a b:aJ):FnT Tryz.prog (nT vU vI vP vM vO vF vR vS wU wI wP wM wO wF wR wS a b) 17 0 [sK vU vI vP vM vO vF vR vS,sK wU wI wP wM wO wF wR wS] [] (fun _:Unit=>True) (fun _=>.ret (.v (.bool (eqB a.bare b.bare))) 0 []):=by
 obtain ⟨r,hr⟩:∃r,r=eqB a.bare b.bare:=⟨_,rfl⟩
 rw [←hr]
 have no:∀ {p:Prop},(a.bare=b.bare→p) → ¬p→r=false:=fun h hp=>hr.trans (bH fun e=>hp (h e))
 refine FnT.of Tryz.func17 (by kernel_rfl) rfl Tryz.ntmps17 rfl fun E0 F h hT w0 cs=>?_
 conv=>whnf
 (try refine gS ?_);conv=>whnf
 have C0:=eqU_fn vU wU a.units b.units
 by_cases h0:a.units=b.units
 rotate_left
 ·rw [bH h0] at C0
  refine aA.callT (Two.tok _ _ _ _ _) (⟨(show RoF F h vU 8 (rws Un.row a.units) from hT.1.U),(show RoF F h wU 8 (rws Un.row b.units) from hT.2.U)⟩) (C0) [] sH ?CNa1 ?_
  case CNa1=>rfl
  intro _ _
  conv=>whnf
  (try refine gS ?_);conv=>whnf
  rw [no (fun e=>(aJ.of_bare e).1) h0]
  try refine aA.retU ?_
  exact aE.ret tab Tryz.func17 rfl (eN () trivial)
 rw [bL h0] at C0
 refine aA.callT (Two.tok _ _ _ _ _) (⟨(show RoF F h vU 8 (rws Un.row a.units) from hT.1.U),(show RoF F h wU 8 (rws Un.row b.units) from hT.2.U)⟩) (C0) [] sH ?CNa2 ?_
 case CNa2=>rfl
 intro _ _
 conv=>whnf
 (try refine gS ?_);conv=>whnf
 have C1:=eqI_fn vI wI a.items b.items
 by_cases h1:a.items=b.items
 rotate_left
 ·rw [bH h1] at C1
  refine aA.callT (Two.tok _ _ _ _ _) (⟨hT.1.I,hT.2.I⟩) (C1) [] sH ?CNa3 ?_
  case CNa3=>rfl
  intro _ _
  conv=>whnf
  (try refine gS ?_);conv=>whnf
  rw [no (fun e=>(aJ.of_bare e).2.1) h1]
  try refine aA.retU ?_
  exact aE.ret tab Tryz.func17 rfl (eN () trivial)
 rw [bL h1] at C1
 refine aA.callT (Two.tok _ _ _ _ _) (⟨hT.1.I,hT.2.I⟩) (C1) [] sH ?CNa4 ?_
 case CNa4=>rfl
 intro _ _
 conv=>whnf
 (try refine gS ?_);conv=>whnf
 have C2:=aWH vP wP a.plants b.plants
 by_cases h2:a.plants=b.plants
 rotate_left
 ·rw [bH h2] at C2
  refine aA.callT (Two.tok _ _ _ _ _) (⟨hT.1.P,hT.2.P⟩) (C2) [] sH ?CNa5 ?_
  case CNa5=>rfl
  intro _ _
  conv=>whnf
  (try refine gS ?_);conv=>whnf
  rw [no (fun e=>(aJ.of_bare e).2.2.1) h2]
  try refine aA.retU ?_
  exact aE.ret tab Tryz.func17 rfl (eN () trivial)
 rw [bL h2] at C2
 refine aA.callT (Two.tok _ _ _ _ _) (⟨hT.1.P,hT.2.P⟩) (C2) [] sH ?CNa6 ?_
 case CNa6=>rfl
 intro _ _
 conv=>whnf
 (try refine gS ?_);conv=>whnf
 have C3:=eqM_fn vM wM a.machines b.machines
 by_cases h3:a.machines=b.machines
 rotate_left
 ·rw [bH h3] at C3
  refine aA.callT (Two.tok _ _ _ _ _) (⟨hT.1.M,hT.2.M⟩) (C3) [] sH ?CNa7 ?_
  case CNa7=>rfl
  intro _ _
  conv=>whnf
  (try refine gS ?_);conv=>whnf
  rw [no (fun e=>(aJ.of_bare e).2.2.2.1) h3]
  try refine aA.retU ?_
  exact aE.ret tab Tryz.func17 rfl (eN () trivial)
 rw [bL h3] at C3
 refine aA.callT (Two.tok _ _ _ _ _) (⟨hT.1.M,hT.2.M⟩) (C3) [] sH ?CNa8 ?_
 case CNa8=>rfl
 intro _ _
 conv=>whnf
 (try refine gS ?_);conv=>whnf
 have C4:=eqfO_fn vO wO a.options b.options
 by_cases h4:a.options.map OpV.bare=b.options.map OpV.bare
 rotate_left
 ·rw [bH h4] at C4
  refine aA.callT (aEW.tok OpV.tok') (⟨hT.1.O,hT.2.O,hT.1.below.o,hT.2.below.o⟩) (C4) [] sH ?CNa9 ?_
  case CNa9=>rfl
  intro _ _
  conv=>whnf
  (try refine gS ?_);conv=>whnf
  rw [no (fun e=>(aJ.of_bare e).2.2.2.2.1) h4]
  try refine aA.retU ?_
  exact aE.ret tab Tryz.func17 rfl (eN () trivial)
 rw [bL h4] at C4
 refine aA.callT (aEW.tok OpV.tok') (⟨hT.1.O,hT.2.O,hT.1.below.o,hT.2.below.o⟩) (C4) [] sH ?CNa10 ?_
 case CNa10=>rfl
 intro _ _
 conv=>whnf
 (try refine gS ?_);conv=>whnf
 have C5:=eqfF_fn vF wF a.forbids b.forbids
 by_cases h5:a.forbids.map FbV.bare=b.forbids.map FbV.bare
 rotate_left
 ·rw [bH h5] at C5
  refine aA.callT (aEW.tok FbV.tok') (⟨hT.1.F,hT.2.F,hT.1.below.f,hT.2.below.f⟩) (C5) [] sH ?CNa11 ?_
  case CNa11=>rfl
  intro _ _
  conv=>whnf
  (try refine gS ?_);conv=>whnf
  rw [no (fun e=>(aJ.of_bare e).2.2.2.2.2.1) h5]
  try refine aA.retU ?_
  exact aE.ret tab Tryz.func17 rfl (eN () trivial)
 rw [bL h5] at C5
 refine aA.callT (aEW.tok FbV.tok') (⟨hT.1.F,hT.2.F,hT.1.below.f,hT.2.below.f⟩) (C5) [] sH ?CNa12 ?_
 case CNa12=>rfl
 intro _ _
 conv=>whnf
 (try refine gS ?_);conv=>whnf
 have C6:=eqfR_fn vR wR a.recipes b.recipes
 by_cases h6:a.recipes.map RcV.bare=b.recipes.map RcV.bare
 rotate_left
 ·rw [bH h6] at C6
  refine aA.callT (aEW.tok RcV.tok') (⟨hT.1.R,hT.2.R,hT.1.below.r,hT.2.below.r⟩) (C6) [] sH ?CNa13 ?_
  case CNa13=>rfl
  intro _ _
  conv=>whnf
  (try refine gS ?_);conv=>whnf
  rw [no (fun e=>(aJ.of_bare e).2.2.2.2.2.2.1) h6]
  try refine aA.retU ?_
  exact aE.ret tab Tryz.func17 rfl (eN () trivial)
 rw [bL h6] at C6
 refine aA.callT (aEW.tok RcV.tok') (⟨hT.1.R,hT.2.R,hT.1.below.r,hT.2.below.r⟩) (C6) [] sH ?CNa14 ?_
 case CNa14=>rfl
 intro _ _
 conv=>whnf
 (try refine gS ?_);conv=>whnf
 have C7:=eqS_fn vS wS a.swaps b.swaps
 by_cases h7:a.swaps=b.swaps
 rotate_left
 ·rw [bH h7] at C7
  refine aA.callT (Two.tok _ _ _ _ _) (⟨hT.1.S,hT.2.S⟩) (C7) [] sH ?CNa15 ?_
  case CNa15=>rfl
  intro _ _
  conv=>whnf
  (try refine gS ?_);conv=>whnf
  rw [no (fun e=>(aJ.of_bare e).2.2.2.2.2.2.2) h7]
  try refine aA.retU ?_
  exact aE.ret tab Tryz.func17 rfl (eN () trivial)
 rw [bL h7] at C7
 refine aA.callT (Two.tok _ _ _ _ _) (⟨hT.1.S,hT.2.S⟩) (C7) [] sH ?CNa16 ?_
 case CNa16=>rfl
 intro _ _
 conv=>whnf
 (try refine gS ?_);conv=>whnf
 have:r=true:=hr.trans (bL (aJ.bare_mk h0 h1 h2 h3 h4 h5 h6 h7))
 rw [this]
 try refine aA.retU ?_
 exact aE.ret tab Tryz.func17 rfl (eN () trivial)
end
end Go.Proofs.YtgbeechjghajcaaGreatDoor

namespace Go.Proofs.YtgbeechjghajcaaGreatDoor
open Go Go.Fw Go.NatM Go.RatM Go.SrcM Go.SynM
set_option maxRecDepth 100000
set_option maxHeartbeats 99999999
abbrev stV (en:Int) (s:St):SV:=.agg [.buf 0,.v (.int .i64 (s.n:Int)),.v (.int .i64 en),.v (.int .i64 s.e),.v (.int .i64 s.pl)]
abbrev roL (L:List Tok):Nat×Fw.Blk:=(0,.ro 4 (L.map Tok.row))
abbrev aMH {α:Type} (en:Int) (f:α→SV) (y:α×St):gK:=.ret (.tup [f y.1,stV en y.2]) 1 []
abbrev outS (en:Int) (y:St):gK:=.ret (stV en y) 1 []
abbrev aC (z:Int):SV:=.v (.int .i64 z)
abbrev bN (z:ByteArray):SV:=.v (.string z)
section
variable (L:List Tok) (en:Int) (hL:L.length≤65536) (s:St)
theorem aKX {n:Nat} (h:n<L.length):(L.map Tok.row)[((n:Int)).toNat]? = some L[n].row:=by
 rw [Int.toNat_natCast,List.getElem?_map,List.getElem?_eq_getElem h];rfl
theorem lH (c:Int):FnS Tryz.prog 162 1 [stV en s,aC c] [roL L] (fun y=>y=(mE L en c s).2) (outS en):=by
 have lm:(L.map Tok.row).length=L.length:=List.length_map _
 refine FnS.of Tryz.func162 (by kernel_rfl) rfl Tryz.ntmps162 rfl fun E0 F h w0 cs=>?_
 conv=>whnf
 refine gS ?_;conv=>whnf
 refine ⟨fun h0=>?_,fun h0=>?_⟩<;>conv=>whnf
 ·try refine gS ?_
  conv=>whnf
  refine ⟨fun h1=>?_,fun h1=>?_⟩<;>conv=>whnf
  ·have hn:s.n<L.length:=by omega
   conv=>whnf
   repeat ((first|(guard_target=_∧_;(first|refine oL ?_|refine oR ?_))|(guard_target=Exists _;refine oM ?_));(try intro _);conv=>whnf)
   refine ⟨_,aKX L hn,?_⟩;conv=>whnf
   try refine aA.retU ?_
   exact aE.ret tab Tryz.func162 rfl (aL.mk ((⟨s.n,c,L[s.n].pos⟩:St)) (by unfold mE;simp only [h0,if_true,List.getElem?_eq_getElem hn]) [] sH rfl rfl (aY rfl rfl))
  have hn:¬s.n<L.length:=by omega
  (try refine gS ?_);conv=>whnf
  try refine aA.retU ?_
  exact aE.ret tab Tryz.func162 rfl (aL.mk ((⟨s.n,100,en⟩:St)) (by unfold mE;simp only [h0,if_true,List.getElem?_eq_none (Nat.le_of_not_lt hn)]) [] sH rfl rfl (aY rfl rfl))
 (try refine gS ?_);conv=>whnf
 try refine aA.retU ?_
 exact aE.ret tab Tryz.func162 rfl (aL.mk (s) (by unfold mE;simp only [if_neg h0]) [] sH rfl rfl (aY rfl rfl))
theorem aGM (k:Int) (t:ByteArray):FnS Tryz.prog 159 1 [stV en s,aC k,bN t] [roL L] (fun _:Unit=>True) (fun _=>.ret (.v (.bool (cL L k t s))) 1 []):=by
 have lm:(L.map Tok.row).length=L.length:=List.length_map _
 obtain ⟨b,hb⟩:∃b,b=cL L k t s:=⟨_,rfl⟩
 rw [←hb]
 refine FnS.of Tryz.func159 (by kernel_rfl) rfl Tryz.ntmps159 rfl fun E0 F h w0 cs=>?_
 conv=>whnf
 refine gS ?_;conv=>whnf
 unfold cL at hb
 refine ⟨fun h0=>?_,fun h0=>?_⟩<;>conv=>whnf
 ·rw [decide_eq_true h0] at hb
  conv=>whnf
  refine ⟨fun h1=>?_,fun h1=>?_⟩<;>conv=>whnf
  ·have hn:s.n<L.length:=by omega
   rw [List.getElem?_eq_getElem hn] at hb
   conv=>whnf
   repeat ((first|(guard_target=_∧_;(first|refine oL ?_|refine oR ?_))|(guard_target=Exists _;refine oM ?_));(try intro _);conv=>whnf)
   refine ⟨_,aKX L hn,?_⟩;conv=>whnf
   refine ⟨fun h2=>?_,fun h2=>?_⟩<;>conv=>whnf
   ·try refine gS ?_
    conv=>whnf
    repeat ((first|(guard_target=_∧_;(first|refine oL ?_|refine oR ?_))|(guard_target=Exists _;refine oM ?_));(try intro _);conv=>whnf)
    refine ⟨_,aKX L hn,?_⟩;conv=>whnf
    have:b=decide (L[s.n].text=t):=hb.trans (by simp [h2])
    rw [this]
    try refine aA.retU ?_
    exact aE.ret tab Tryz.func159 rfl (eN () trivial)
   (try refine gS ?_);conv=>whnf
   have:b=false:=hb.trans (by simp [h2])
   rw [this]
   try refine aA.retU ?_
   exact aE.ret tab Tryz.func159 rfl (eN () trivial)
  have hn:¬s.n<L.length:=by omega
  rw [List.getElem?_eq_none (Nat.le_of_not_lt hn)] at hb
  (try refine gS ?_);conv=>whnf
  have:b=false:=hb
  rw [this]
  try refine aA.retU ?_
  exact aE.ret tab Tryz.func159 rfl (eN () trivial)
 rw [decide_eq_false h0] at hb
 (try refine gS ?_);conv=>whnf
 have:b=false:=hb
 rw [this]
 try refine aA.retU ?_
 exact aE.ret tab Tryz.func159 rfl (eN () trivial)
theorem eB (t:ByteArray):FnS Tryz.prog 134 1 [stV en s,bN t] [roL L] (fun _:Unit=>True) (fun _=>.ret (.v (.bool (cL L 1 t s))) 1 []):=by
 refine FnS.of Tryz.func134 (by kernel_rfl) rfl Tryz.ntmps134 rfl fun E0 F h w0 cs=>?_
 conv=>whnf
 refine gS ?_;conv=>whnf
 refine aA.callN (aGM L en s 1 t) [0] ?_ sH ?CNa1
 case CNa1=>rfl
 intro _ _
 conv=>whnf
 (try refine gS ?_);conv=>whnf
 try refine aA.retU ?_
 exact aE.ret tab Tryz.func134 rfl (eN () trivial)
theorem yX (t:ByteArray):FnS Tryz.prog 160 1 [stV en s,bN t] [roL L] (fun _:Unit=>True) (fun _=>.ret (.v (.bool (cL L 3 t s))) 1 []):=by
 refine FnS.of Tryz.func160 (by kernel_rfl) rfl Tryz.ntmps160 rfl fun E0 F h w0 cs=>?_
 conv=>whnf
 refine gS ?_;conv=>whnf
 refine aA.callN (aGM L en s 3 t) [0] ?_ sH ?CNa2
 case CNa2=>rfl
 intro _ _
 conv=>whnf
 (try refine gS ?_);conv=>whnf
 try refine aA.retU ?_
 exact aE.ret tab Tryz.func160 rfl (eN () trivial)
theorem aUY {k:Int} {t:ByteArray} (h:cL L k t s=true):s.n<L.length:=by
 unfold cL at h
 by_cases hn:s.n<L.length
 ·exact hn
 rw [List.getElem?_eq_none (Nat.le_of_not_lt hn)] at h
 simp at h
include hL in
theorem aQV (k:Int) (t:ByteArray):FnS Tryz.prog 164 1 [stV en s,aC k,bN t] [roL L] (fun y=>y=(oZ L en k t s).2) (outS en):=by
 refine FnS.of Tryz.func164 (by kernel_rfl) rfl Tryz.ntmps164 rfl fun E0 F h w0 cs=>?_
 conv=>whnf
 refine gS ?_;conv=>whnf
 refine aA.callN (aGM L en s k t) [0] ?_ sH ?CNa3
 case CNa3=>rfl
 intro _ _
 conv=>whnf
 (try refine gS ?_);conv=>whnf
 cases hb:cL L k t s with
 |false=>
  (try refine gS ?_);conv=>whnf
  refine aA.callN (lH L en s 100) [0] ?_ sH ?CNa4
  case CNa4=>rfl
  rintro y hy<;>conv=>whnf
  (try refine gS ?_);conv=>whnf
  try refine aA.retU ?_
  exact aE.ret tab Tryz.func164 rfl (aL.mk (y) (by unfold oZ;rw [hb,hy];rfl) [] sH rfl rfl (aY rfl rfl))
 |true=>
  have:=aUY L s hb
  conv=>whnf
  repeat ((first|(guard_target=_∧_;(first|refine oL ?_|refine oR ?_))|(guard_target=Exists _;refine oM ?_));(try intro _);conv=>whnf)
  try refine aA.retU ?_
  exact aE.ret tab Tryz.func164 rfl (aL.mk ((⟨s.n+1,s.e,s.pl⟩:St)) (by unfold oZ;rw [hb];rfl) [] sH rfl rfl (aY rfl rfl))
include hL in
theorem cK (t:ByteArray):FnS Tryz.prog 139 1 [stV en s,bN t] [roL L] (fun y=>y=(oZ L en 1 t s).2) (outS en):=by
 refine FnS.of Tryz.func139 (by kernel_rfl) rfl Tryz.ntmps139 rfl fun E0 F h w0 cs=>?_
 conv=>whnf
 refine gS ?_;conv=>whnf
 refine aA.callN (aQV L en hL s 1 t) [0] ?_ sH ?CNa5
 case CNa5=>rfl
 rintro y hy<;>conv=>whnf
 (try refine gS ?_);conv=>whnf
 try refine aA.retU ?_
 exact aE.ret tab Tryz.func139 rfl (aL.mk (y) (hy) [] sH rfl rfl (aY rfl rfl))
include hL in
theorem dH (t:ByteArray):FnS Tryz.prog 140 1 [stV en s,bN t] [roL L] (fun y=>y=(oZ L en 3 t s).2) (outS en):=by
 refine FnS.of Tryz.func140 (by kernel_rfl) rfl Tryz.ntmps140 rfl fun E0 F h w0 cs=>?_
 conv=>whnf
 refine gS ?_;conv=>whnf
 refine aA.callN (aQV L en hL s 3 t) [0] ?_ sH ?CNa6
 case CNa6=>rfl
 rintro y hy<;>conv=>whnf
 (try refine gS ?_);conv=>whnf
 try refine aA.retU ?_
 exact aE.ret tab Tryz.func140 rfl (aL.mk (y) (hy) [] sH rfl rfl (aY rfl rfl))
theorem iT (n m:Nat):FnS Tryz.prog 136 1 [stV en s,aC (n:Int),aC (m:Int)] [roL L] (fun y=>y=(bX L en n m s).2) (outS en):=by
 refine FnS.of Tryz.func136 (by kernel_rfl) rfl Tryz.ntmps136 rfl fun E0 F h w0 cs=>?_
 conv=>whnf
 refine gS ?_;conv=>whnf
 refine ⟨fun h=>?_,fun h=>?_⟩<;>conv=>whnf
 ·try refine gS ?_
  conv=>whnf
  refine aA.callN (lH L en s 2) [0] ?_ sH ?CNa7
  case CNa7=>rfl
  rintro y hy<;>conv=>whnf
  (try refine gS ?_);conv=>whnf
  try refine aA.retU ?_
  exact aE.ret tab Tryz.func136 rfl (aL.mk (y) (by unfold bX;rw [if_pos (by omega),hy]) [] sH rfl rfl (aY rfl rfl))
 (try refine gS ?_);conv=>whnf
 try refine aA.retU ?_
 exact aE.ret tab Tryz.func136 rfl (aL.mk (s) (by unfold bX;rw [if_neg (by omega)]) [] sH rfl rfl (aY rfl rfl))
include hL in
theorem eD:FnS Tryz.prog 138 1 [stV en s] [roL L] (fun y=>y=eV L en s) (aMH en bN):=by
 have lm:(L.map Tok.row).length=L.length:=List.length_map _
 refine FnS.of Tryz.func138 (by kernel_rfl) rfl Tryz.ntmps138 rfl fun E0 F h w0 cs=>?_
 conv=>whnf
 refine gS ?_;conv=>whnf
 refine ⟨fun h0=>?_,fun h0=>?_⟩<;>conv=>whnf
 ·have e0:(if s.e=0 then L[s.n]? else none)=L[s.n]? :=if_pos h0
  conv=>whnf
  refine ⟨fun h1=>?_,fun h1=>?_⟩<;>conv=>whnf
  ·have hn:¬s.n<L.length:=by omega
   replace e0:=e0.trans (List.getElem?_eq_none (Nat.le_of_not_lt hn))
   (try refine gS ?_);conv=>whnf
   refine aA.callN (lH L en s 100) [0] ?_ sH ?CNa8
   case CNa8=>rfl
   rintro y hy<;>conv=>whnf
   (try refine gS ?_);conv=>whnf
   try refine aA.retU ?_
   exact aE.ret tab Tryz.func138 rfl (aL.mk ((SynM.e0,y)) (by unfold eV;rw [e0,hy]) [] sH rfl rfl (aY rfl rfl))
  have hn:s.n<L.length:=by omega
  replace e0:=e0.trans (List.getElem?_eq_getElem hn)
  conv=>whnf
  repeat ((first|(guard_target=_∧_;(first|refine oL ?_|refine oR ?_))|(guard_target=Exists _;refine oM ?_));(try intro _);conv=>whnf)
  refine ⟨_,aKX L hn,?_⟩;conv=>whnf
  refine ⟨fun h2=>?_,fun h2=>?_⟩<;>conv=>whnf
  ·try refine gS ?_
   conv=>whnf
   repeat ((first|(guard_target=_∧_;(first|refine oL ?_|refine oR ?_))|(guard_target=Exists _;refine oM ?_));(try intro _);conv=>whnf)
   refine ⟨_,aKX L hn,?_⟩;conv=>whnf
   try (refine oN ?_;conv=>whnf)
   refine aA.held tab (.fl 0 (.fl 1 (.fl 2 (.e1 3 [] .done)))) (by kernel_rfl) ?_;conv=>whnf
   (try refine gR ?_);conv=>whnf
   repeat ((first|(guard_target=_∧_;(first|refine oL ?_|refine oR ?_|refine oB ?_))|(guard_target=Exists _;refine oM ?_));(try intro _);conv=>whnf)
   (try refine gS ?_);conv=>whnf
   try refine aA.retU ?_
   exact aE.ret tab Tryz.func138 rfl (aL.mk ((L[s.n].text,(⟨s.n+1,s.e,s.pl⟩:St))) (by unfold eV;rw [e0];simp only [h2,if_true]) [] sH rfl rfl (aY rfl rfl))
  (try refine gS ?_);conv=>whnf
  refine aA.callN (lH L en s 100) [0] ?_ sH ?CNa9
  case CNa9=>rfl
  rintro y hy<;>conv=>whnf
  (try refine gS ?_);conv=>whnf
  try refine aA.retU ?_
  exact aE.ret tab Tryz.func138 rfl (aL.mk ((SynM.e0,y)) (by unfold eV;rw [e0];simp only [if_neg h2,hy]) [] sH rfl rfl (aY rfl rfl))
 have e0:(if s.e=0 then L[s.n]? else none)=none:=if_neg h0
 (try refine gS ?_);conv=>whnf
 refine aA.callN (lH L en s 100) [0] ?_ sH ?CNa10
 case CNa10=>rfl
 rintro y hy<;>conv=>whnf
 (try refine gS ?_);conv=>whnf
 try refine aA.retU ?_
 exact aE.ret tab Tryz.func138 rfl (aL.mk ((SynM.e0,y)) (by unfold eV;rw [e0,hy]) [] sH rfl rfl (aY rfl rfl))
include hL in
theorem rL:FnS Tryz.prog 163 1 [stV en s] [roL L] (fun y=>y=sJ L en s) (aMH en aC):=by
 have lm:(L.map Tok.row).length=L.length:=List.length_map _
 refine FnS.of Tryz.func163 (by kernel_rfl) rfl Tryz.ntmps163 rfl fun E0 F h w0 cs=>?_
 conv=>whnf
 refine gS ?_;conv=>whnf
 refine ⟨fun h0=>?_,fun h0=>?_⟩<;>conv=>whnf
 ·have e0:(if s.e=0 then L[s.n]? else none)=L[s.n]? :=if_pos h0
  conv=>whnf
  refine ⟨fun h1=>?_,fun h1=>?_⟩<;>conv=>whnf
  ·have hn:¬s.n<L.length:=by omega
   replace e0:=e0.trans (List.getElem?_eq_none (Nat.le_of_not_lt hn))
   (try refine gS ?_);conv=>whnf
   refine aA.callN (lH L en s 100) [0] ?_ sH ?CNa11
   case CNa11=>rfl
   rintro y hy<;>conv=>whnf
   (try refine gS ?_);conv=>whnf
   try refine aA.retU ?_
   exact aE.ret tab Tryz.func163 rfl (aL.mk (((0:Int),y)) (by unfold sJ;rw [e0,hy]) [] sH rfl rfl (aY rfl rfl))
  have hn:s.n<L.length:=by omega
  replace e0:=e0.trans (List.getElem?_eq_getElem hn)
  have bad:¬(L[s.n].kind=2∧0≤L[s.n].n∧L[s.n].n≤1048576) → ∀y,y=(mE L en 100 s).2→((0:Int),y)=sJ L en s:=fun hb y hy=>by
   unfold sJ;rw [e0];simp only [if_neg hb,hy]
  conv=>whnf
  repeat ((first|(guard_target=_∧_;(first|refine oL ?_|refine oR ?_))|(guard_target=Exists _;refine oM ?_));(try intro _);conv=>whnf)
  refine ⟨_,aKX L hn,?_⟩;conv=>whnf
  refine ⟨fun h2=>?_,fun h2=>?_⟩<;>conv=>whnf
  ·try refine gS ?_
   conv=>whnf
   repeat ((first|(guard_target=_∧_;(first|refine oL ?_|refine oR ?_))|(guard_target=Exists _;refine oM ?_));(try intro _);conv=>whnf)
   refine ⟨_,aKX L hn,?_⟩;conv=>whnf
   refine ⟨fun h3=>?_,fun h3=>?_⟩<;>conv=>whnf
   ·try refine gS ?_
    conv=>whnf
    refine aA.callN (lH L en s 100) [0] ?_ sH ?CNa12
    case CNa12=>rfl
    rintro y hy<;>conv=>whnf
    (try refine gS ?_);conv=>whnf
    try refine aA.retU ?_
    exact aE.ret tab Tryz.func163 rfl (aL.mk (((0:Int),y)) (bad (by omega) y hy) [] sH rfl rfl (aY rfl rfl))
   (try refine gS ?_);conv=>whnf
   repeat ((first|(guard_target=_∧_;(first|refine oL ?_|refine oR ?_))|(guard_target=Exists _;refine oM ?_));(try intro _);conv=>whnf)
   refine ⟨_,aKX L hn,?_⟩;conv=>whnf
   refine ⟨fun h4=>?_,fun h4=>?_⟩<;>conv=>whnf
   ·try refine gS ?_
    conv=>whnf
    refine aA.callN (lH L en s 100) [0] ?_ sH ?CNa13
    case CNa13=>rfl
    rintro y hy<;>conv=>whnf
    (try refine gS ?_);conv=>whnf
    try refine aA.retU ?_
    exact aE.ret tab Tryz.func163 rfl (aL.mk (((0:Int),y)) (bad (by omega) y hy) [] sH rfl rfl (aY rfl rfl))
   (try refine gS ?_);conv=>whnf
   repeat ((first|(guard_target=_∧_;(first|refine oL ?_|refine oR ?_))|(guard_target=Exists _;refine oM ?_));(try intro _);conv=>whnf)
   refine ⟨_,aKX L hn,?_⟩;conv=>whnf
   try (refine oN ?_;conv=>whnf)
   refine aA.held tab (.fl 0 (.fl 1 (.fl 2 (.e1 3 [] .done)))) (by kernel_rfl) ?_;conv=>whnf
   (try refine gR ?_);conv=>whnf
   repeat ((first|(guard_target=_∧_;(first|refine oL ?_|refine oR ?_|refine oB ?_))|(guard_target=Exists _;refine oM ?_));(try intro _);conv=>whnf)
   (try refine gS ?_);conv=>whnf
   try refine aA.retU ?_
   exact aE.ret tab Tryz.func163 rfl (aL.mk ((L[s.n].n,(⟨s.n+1,s.e,s.pl⟩:St))) (by unfold sJ;rw [e0];simp only [if_pos (show L[s.n].kind=2∧0≤L[s.n].n∧L[s.n].n≤1048576 by omega)]) [] sH rfl rfl (aY rfl rfl))
  (try refine gS ?_);conv=>whnf
  refine aA.callN (lH L en s 100) [0] ?_ sH ?CNa14
  case CNa14=>rfl
  rintro y hy<;>conv=>whnf
  (try refine gS ?_);conv=>whnf
  try refine aA.retU ?_
  exact aE.ret tab Tryz.func163 rfl (aL.mk (((0:Int),y)) (bad (fun h=>h2 h.1) y hy) [] sH rfl rfl (aY rfl rfl))
 have e0:(if s.e=0 then L[s.n]? else none)=none:=if_neg h0
 (try refine gS ?_);conv=>whnf
 refine aA.callN (lH L en s 100) [0] ?_ sH ?CNa15
 case CNa15=>rfl
 rintro y hy<;>conv=>whnf
 (try refine gS ?_);conv=>whnf
 try refine aA.retU ?_
 exact aE.ret tab Tryz.func163 rfl (aL.mk (((0:Int),y)) (by unfold sJ;rw [e0,hy]) [] sH rfl rfl (aY rfl rfl))
include hL in
theorem qL:FnS Tryz.prog 161 1 [stV en s] [roL L] (fun y=>y=pT L en s) (fun y=>.ret (.tup [aC y.1.1,aC y.1.2,stV en y.2]) 1 []):=by
 refine FnS.of Tryz.func161 (by kernel_rfl) rfl Tryz.ntmps161 rfl fun E0 F h w0 cs=>?_
 conv=>whnf
 refine gS ?_;conv=>whnf
 refine aA.callN (rL L en hL s) [0] ?_ sH ?CNa16
 case CNa16=>rfl
 rintro ⟨n,s1⟩ h1<;>conv=>whnf
 (try refine gS ?_);conv=>whnf
 refine aA.callN (dH L en hL s1 (B [47])) [0] ?_ sH ?CNa17
 case CNa17=>rfl
 rintro s2 h2<;>conv=>whnf
 (try refine gS ?_);conv=>whnf
 refine aA.callN (rL L en hL s2) [0] ?_ sH ?CNa18
 case CNa18=>rfl
 rintro ⟨d,s3⟩ h3<;>conv=>whnf
 (try refine gS ?_);conv=>whnf
 refine aA.held tab (.fl 0 (.fl 1 (.fl 2 (.fl 3 (.fl 4 (.e1 5 [] .done)))))) (by kernel_rfl) ?_;conv=>whnf
 (try refine gR ?_);conv=>whnf
 repeat ((first|(guard_target=_∧_;(first|refine oL ?_|refine oR ?_|refine oB ?_))|(guard_target=Exists _;refine oM ?_));(try intro _);conv=>whnf)
 (try refine gS ?_);conv=>whnf
 try refine aA.retU ?_
 exact aE.ret tab Tryz.func161 rfl (aL.mk (((n,d),s3)) (by unfold pT sb rt;rw [←h1];simp only;rw [←h2,←h3]) [] sH rfl rfl (aY rfl rfl))
end
end Go.Proofs.YtgbeechjghajcaaGreatDoor
