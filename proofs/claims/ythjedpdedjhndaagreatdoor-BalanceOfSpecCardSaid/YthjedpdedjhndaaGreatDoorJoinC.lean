/- Texts of this seat, joined: The symbolic walk: a nil slice gets a name. The symbolic walk: append of nothing; loops and calls in another order (for al -/
import Derived.Test.YthjedpdedjhndaaGreatDoorJoinB
import Derived.ChangeKeysEq
import Derived.Test.YthjedpdedjhndaaGreatDoorChecked
import Derived.Lib.TrailingZeros
import Derived.Laws.Externs
set_option linter.unusedVariables false
set_option linter.unusedSimpArgs false
set_option maxRecDepth 100000
set_option maxHeartbeats 99999999
namespace Go.Fw
open Go
variable {P:Program}
mutual
/-- the name n is the value v -/
def SV.inst (n:Nat) (v:Value):SV->SV
 | .v x=>.v x
 | .ptr b off=>match Nat.beq b n with
  |true=>.v (.pointer (some ⟨iI v,off,none⟩))
  |false=>.ptr b off
 | .buf b=>match Nat.beq b n with
  |true=>.v v
  |false=>.buf b
 | .row b i off sz=>match Nat.beq b n with
  |true=>.v (.pointer (some ⟨iI v,aGG v+i.toNat*sz+off,none⟩))
  |false=>.row b i off sz
 | .agg cs=>.agg (SV.insts n v cs)
 | .tup vs=>.tup (SV.insts n v vs)
 | .ifc t x=>.ifc t (SV.inst n v x)
 | .fn g a b=>.fn g (SV.insts n v a) (SV.insts n v b)
def SV.insts (n:Nat) (v:Value):List SV->List SV
 | []=>[]
 |x::xs=>SV.inst n v x::SV.insts n v xs
end
theorem aAO (E:Env) (n:Nat) (v:Value) (b:Nat):push E n v b=match Nat.beq b n with
 |true=>v
 |false=>E b:=rfl
mutual
theorem SV.g_inst (n:Nat) (v:Value) (E:Env):∀x:SV,(x.inst n v).g E=x.g (push E n v)
 | .v _=>rfl
 | .ptr b off=>by
  simp only [SV.inst,SV.g,aAO];cases Nat.beq b n<;>rfl
 | .buf b=>by
  simp only [SV.inst,SV.g,aAO];cases Nat.beq b n<;>rfl
 | .row b i off sz=>by
  simp only [SV.inst,SV.g,aAO];cases Nat.beq b n<;>rfl
 | .agg cs=>by simp only [SV.inst,SV.g,SV.gs_inst n v E cs]
 | .tup vs=>by simp only [SV.inst,SV.g,SV.gs_inst n v E vs]
 | .ifc t x=>by simp only [SV.inst,SV.g,SV.g_inst n v E x]
 | .fn g a b=>by simp only [SV.inst,SV.g,SV.gs_inst n v E a,SV.gs_inst n v E b]
theorem SV.gs_inst (n:Nat) (v:Value) (E:Env):∀xs:List SV,SV.gs E (SV.insts n v xs)=SV.gs (push E n v) xs
 | []=>rfl
 |x::xs=>by simp only [SV.insts,SV.gs,SV.g_inst n v E x,SV.gs_inst n v E xs]
end
def aIU (n:Nat) (v:Value):SFr->SFr
 | []=>[]
 |(s,x)::l=>(s,x.inst n v)::aIU n v l
theorem wG (n:Nat) (v:Value) (E:Env):∀l:SFr,gF E (aIU n v l)=gF (push E n v) l
 | []=>rfl
 |(s,x)::l=>by simp only [aIU,gF,SV.g_inst,wG n v E l]
def aCQ (n:Nat) (v:Value):Blk->Blk
 | .cells t cs=>.cells t (SV.insts n v cs)
 | .own e sz rows=>.own e sz rows
 | .ro sz rows=>.ro sz rows
 | .map d es=>.map d es
 | .raw a o=>.raw a o
def xH (n:Nat) (v:Value):SH->SH
 | []=>[]
 |(b,x)::H=>(b,aCQ n v x)::xH n v H
theorem fN (n:Nat) (v:Value):∀H:SH,xH n v H=H.map fun p=>(p.1,aCQ n v p.2)
 | []=>rfl
 |(b,x)::H=>by simp only [xH,List.map_cons,fN n v H]
theorem bBA {n:Nat} {v:Value} {E:Env} {F:Nat->Prop} {h:Array Obj} {x:Value} {b:Blk} (H:(aCQ n v b).ok E F h x):b.ok (push E n v) F h x:=by
 cases b with
 |cells t cs=>
  obtain ⟨g,h1,h2,h3⟩:=H;exact ⟨g,h1,by rw [<-SV.gs_inst];exact h2,h3⟩
 |own=>exact H
 |ro=>exact H
 |map|raw=>exact H
theorem mL (n:Nat) (v:Value) (b:Blk):wr (aCQ n v b)=wr b:=by cases b<;>rfl
theorem aA.nilOwn {s:SCx P} {ds:List cY} {nx:Nat} {st:List SI} {l l':SFr} {H H':SH} (e:TypeId) (sz:Nat) (hr:aA s ds (nx+1) st l' ((nx,.own e sz [])::H'))
  (hl:aIU nx (.slice none 0 0) l'=l) (hH:xH nx (.slice none 0 0) H'=H) (hfr:gQ s.n0 nx l H ds=true):aA s ds nx st l H:=.mk fun E h hA S K=>by
 obtain ⟨f1,f2,f3,f4⟩:=dW hfr;have A:=gA E nx (.slice none 0 0);have hk:∀p∈H',p.1<nx:=fun p hp=>(jO (p:=(p.1,aCQ nx (.slice none 0 0) p.2)) f3 (by rw [<-hH,fN];exact List.mem_map_of_mem hp)).1;have hlt:∀p∈H',push E nx (.slice none 0 0) p.1=E p.1:=fun p hp=>A _ (hk p hp);have S':Sat (push E nx (.slice none 0 0)) s.F ((nx,.own e sz [])::H') h:=by
  refine ⟨fun p hp=>?_,List.pairwise_cons.2 ⟨fun q hq _ _ g e1=>?_,?_⟩⟩
  ·rcases List.mem_cons.1 hp with rfl|hp
   ·show (Blk.own e sz []).ok _ _ _ (push E nx _ nx);rw [gW];exact ⟨fun r hr=>(by cases hr),⟨by simp,.inl ⟨rfl,rfl⟩⟩,fun g hg=>(by cases hg)⟩
   rw [hlt p hp];have:=S.ok (p.1,aCQ nx (.slice none 0 0) p.2) (by rw [<-hH,fN];exact List.mem_map_of_mem hp);exact bBA this
  ·have:ownB (push E nx (.slice none 0 0) nx)=some g:=e1;rw [gW] at this;cases this
  have:=S.apart;rw [<-hH,fN,List.pairwise_map] at this;refine List.Pairwise.imp_of_mem (fun {a b} ha hb hA hw1 hw2 g e1 e2=>?_) this;rw [hlt a ha] at e1;rw [hlt b hb] at e2;exact hA (by rw [mL];exact hw1) (by rw [mL];exact hw2) g e1 e2
 have:=hr.run _ h (hA.trans (A.mono f1)) S' K;rw [jA A ds f4,<-wG,hl] at this;exact this
theorem ldR_at {T:Tab P} {l:SFr} {H:SH} {t t':TypeId} {x:Operand} {b off:Nat} {cs:List SV} {v:SV} (hn:nth cs off=some v) (hx:evS l x=some (.ptr b off)) (hb:bX H b=some (.cells t' cs)) (hs:eY T t=true):
  ldR T l H (.load t x)=.got v (.cell b off v):=by
 simp only [ldR,hx,hb,hs,hn]
theorem aBT:∀ {H:SH} {b:Nat} {x:Blk},bX H b=some x->nG H b x=H
 | [],_,_,h=>by cases h
 |(s,v)::l,d,x,h=>by
  simp only [bX] at h;simp only [nG]
  cases hb:Nat.beq s d with
  |true=>simp only [hb,Option.some.injEq] at h;simp [h]
  |false=>simp only [hb] at h;simp [aBT h]
theorem aA.rowsEq {s:SCx P} {ds:List cY} {nx:Nat} {st:List SI} {l:SFr} {H:SH} {e:TypeId} {sz:Nat} {rows rows':List (List Value)} (b:Nat) (he:rows=rows') (hr:yS H b (.own e sz rows') fun H=>aA s ds nx st l H)
  (hl:bX H b=some (.own e sz rows):=by rfl):aA s ds nx st l H:=by
 subst he;rw [jN,aBT hl] at hr;exact hr
theorem aOS {n k b b2:Nat} (hn:n<=1000000) (hk:k<=1000:=by decide) (hb:b≠b2:=by decide):0<1/\n+1<=9223372036854775807/\(n+1)*k<=140737488355328/\b≠b2:=
 ⟨Nat.one_pos,by omega,Nat.le_trans (Nat.mul_le_mul (show n+1<=1000001 by omega) hk) (by decide),hb⟩


section
variable {s:SCx P} {ds:List cY} {nx:Nat} {st:List SI} {l:SFr} {H:SH} {all:Array Oper} {rest:List Oper} {o:Oper} {x y:Operand}
/-! a slice of the walk's own is only read from now on -/
theorem aDC {f:Nat->Nat}:∀ {H:SH} {seen:List Nat},dV f H seen=true -> ∀p∈H,f p.1∉seen
 | [],_,_,p,hp=>by cases hp
 |(b,x)::H,seen,h,p,hp=>by
  simp only [dV] at h
  cases hm:aHJ (f b) seen with
  |true=>simp [hm] at h
  |false=>
   simp only [hm] at h;rcases List.mem_cons.1 hp with rfl|hp
   ·exact aAZ hm
   exact fun hc=>aDC h p hp (List.mem_cons_of_mem _ hc)
theorem aOJ {x:Blk}:∀ {H:SH} {b:Nat} {p:Nat×Blk},p∈nG H b x->p=(b,x)\/p∈H
 | [],_,_,h=>by cases h
 |(s,v)::l,d,p,h=>by
  simp only [nG] at h
  cases hb:Nat.beq s d with
  |true=>
   simp only [hb] at h;have:=Nat.eq_of_beq_eq_true hb;rcases List.mem_cons.1 h with rfl|h
   ·exact .inl (by rw [this])
   exact .inr (List.mem_cons_of_mem _ h)
  |false=>
   simp only [hb] at h;rcases List.mem_cons.1 h with rfl|h
   ·exact .inr (List.mem_cons_self ..)
   exact (aOJ h).imp id fun h=>List.mem_cons_of_mem _ h
end

structure TOk (T:(Nat->Prop)->Array Obj->Prop):Prop where
 mono:∀F F' h,(∀i,F i->F' i)->T F h->T F' h
 keep:∀F h h',T F h->Kp F h h'->T F h'
theorem TOk.at {T:(Nat->Prop)->Array Obj->Prop} (ok:TOk T) {F:Nat->Prop} {h0 h:Array Obj} (hT:T F h0) (K:Kp F h0 h):T F h:=ok.keep F h0 h hT K
structure FnT (P:Program) (T:(Nat->Prop)->Array Obj->Prop) (g:FuncId) (k:Nat) (args:List SV) (W:SH) {X:Type} (J:X->Prop) (out:X->eR):Prop where
 call:∀(E:Env) (F:Nat->Prop) (h:Array Obj),(∀i,F i->i<h.size)->T F h->Sat E F W h->Fn P g (SV.gs E args).toArray h (aT k E F h J out)
theorem FnT.of {T:(Nat→Prop)→Array Obj→Prop} {f:FuncId} {fn:Func} {code:Code} {k:Nat} {args:List SV} {W:SH} {X:Type} {J:X→Prop} {out:X→eR} (hf:P.funcs[f]? = some fn) (hname:(fn.name == "runtime.NumGoroutine")=false) (hb:fn.body=some code) {n:Nat} (hnt:fn.ntmps=n)
  (hargs:Nat.ble args.length n=true)
  (H:∀E0 F h,T F h -> ∀w0 cs,bFQ 0 args fun l=>aA ⟨cW P f n w0 cs (aT k E0 F h J out),F,h,E0,k⟩ [] k [.code code] l W):FnT P T f k args W J out:=
 ⟨fun E F h hF hT S=>Fn.ofG E k args W F hf hname hb hnt hargs hF S fun w0 cs=>H E F h hT w0 cs⟩
section
variable {s:SCx P} {ds:List cY} {nx:Nat} {kk:List SI} {l:SFr} {H:SH}
variable {all:Array Oper} {rest:List Oper} {o:Oper} {cl:Call} {x:Operand} {g:FuncId} {first captured vs:List SV}
theorem aA.callT {T:(Nat->Prop)->Array Obj->Prop} (ok:TOk T) (hT:T s.F s.h0) {k:Nat} {args:List SV} {W:SH} {X:Type} {J:X->Prop} {out:X->eR} (C:FnT P T g k args W J out) (ren:List Nat)
  (hH:nE (bY ren) H W) (ha:SV.rens (bY ren) args=first++(vs++captured))
  (hr:∀y,J y->yQ s ds k nx ren (dN (fZ (bY ren) W) H) o.dst l (.ops all rest::kk) (out y))
  (hlen:ren.length=k:=by rfl) (hren:bdN nx ren=true:=by rfl) (hfr:gQ s.n0 nx l H ds=true:=by rfl) (hn:dV (bY ren) W []=true:=by rfl)
  (hop:o.op=.call cl:=by rfl) (hcal:cl.callee=.value x:=by rfl) (hx:eM l x=some (g,first,captured):=by rfl) (hargs:gK l cl.args.toList=some vs:=by rfl)
  (hgd:bT l all o=some true:=by rfl) (hdn:cB s.c.n o.dst=true:=by rfl):aA s ds nx (.ops all (o::rest)::kk) l H:=by
 obtain ⟨f1,f2,f3,f4⟩:=dW hfr;refine aA.callE (R:=fun E h=>aT k (fun b=>E (bY ren b)) (iR s.F E (dN (fZ (bY ren) W) H)) h J out) ?_ ?_ ?_ ?_ hop hcal hx hargs hgd hdn
 ·intro E h hA S K;have:=C.call (fun b=>E (bY ren b)) (iR s.F E (dN (fZ (bY ren) W) H)) h (fun i hi=>?_) (ok.mono _ _ _ (fun i hi=>.inl hi) (ok.at hT K)) (S.hand (bY ren) hH hn)
  ·rw [<-ha,SV.gs_ren];exact this
  rcases hi with hi|⟨q,hq,hw,hg⟩
  ·have:=K.lt i hi;have:=K.size;omega
  exact (Blk.lt (S.ok q ((dX _ _).subset hq)) hw hg).1
 ·rintro E h h' ⟨y,E',_,_,_,_,he⟩;cases ho:out y<;>rw [ho] at he<;>cases he
 ·rintro E h hA S K ch h' ⟨y,E',hJ,hA',S',K',he⟩;have hr:=hr y hJ
  cases ho:out y with
  |ret v n H'=>rw [ho] at he;cases he
  |pan ch' n H'=>
   rw [ho] at he hr S';cases he;obtain ⟨E'',a1,_,a3,a4⟩:=S.takeBack K hlen hren f3 hA' S' K';have:=hr.run E'' h' (hA.trans (a1.mono f1)) a3 a4;rw [jA a1 ds f4,iX a1 l f2] at this;exact this
 rintro E h hA S K v h' ⟨y,E',hJ,hA',S',K',he⟩;have hr:=hr y hJ
 cases ho:out y with
 |pan ch n H'=>rw [ho] at he;cases he
 |ret v' n H'=>
  rw [ho] at he hr S';cases he;obtain ⟨E'',a1,a2,a3,a4⟩:=S.takeBack K hlen hren f3 hA' S' K';simp only [yQ,bD] at hr;have:=hr.run E'' h' (hA.trans (a1.mono f1)) a3 a4;rw [jA a1 ds f4,eP,iX a1 l f2,a2] at this;exact this
end

section
variable {s:SCx P} {ds:List cY} {all:List Oper} {st:List SI} {t:Tr} {taken:List Nat} {ps:List (Nat×cV)} {nx kk:Nat} {keep:List Nat} {l:SFr} {H:SH} {o:Oper} {cl:Call} {x:Operand} {g:FuncId} {first captured vs:List SV}
theorem aK.callT {T:(Nat->Prop)->Array Obj->Prop} (ok:TOk T) (hT:T s.F s.h0) {k:Nat} {args:List SV} {W:SH} {X:Type} {J:X->Prop} {out:X->eR} (C:FnT P T g k args W J out) (ren:List Nat)
  (hr:∀y,J y->wH s ds all st t taken ps keep k nx ren (dN (fZ (bY ren) W) H) o.dst l (out y))
  (hH:nE (bY ren) H W) (ha:SV.rens (bY ren) args=first++(vs++captured))
  (hlen:ren.length=k:=by rfl) (hren:bdN nx ren=true:=by rfl) (hfr:gQ s.n0 nx l H ds=true:=by rfl) (hn:dV (bY ren) W []=true:=by rfl) (hps:bFV nx ps=true:=by rfl)
  (ho:all[kk]? = some o:=by rfl) (hop:o.op=.call cl:=by rfl) (hcal:cl.callee=.value x:=by rfl) (hx:eM l x=some (g,first,captured):=by rfl) (hargs:gK l cl.args.toList=some vs:=by rfl)
  (hgd:bT l all.toArray o=some true:=by rfl) (hdn:cB s.c.n o.dst=true:=by rfl):aK s ds all st kk keep t taken ps nx l H:=by
 obtain ⟨f1,f2,f3,f4⟩:=dW hfr
 refine aK.of ho (pT hop hcal) hdn hgd (V:=fun E h v h'=>aT k (fun b=>E (bY ren b)) (iR s.F E (dN (fZ (bY ren) W) H)) h J out (.returned v) h')
  (PN:=fun E h ch h'=>aT k (fun b=>E (bY ren b)) (iR s.F E (dN (fZ (bY ren) W) H)) h J out (.panicked ch) h') ?_ ?_ ?_
 ·intro E h hA S K;have:=C.call (fun b=>E (bY ren b)) (iR s.F E (dN (fZ (bY ren) W) H)) h (fun i hi=>by
   rcases hi with hi|⟨q,hq,hw,hg⟩
   ·have:=K.lt i hi;have:=K.size;omega
   exact (Blk.lt (S.ok q ((dX _ _).subset hq)) hw hg).1) (ok.mono _ _ _ (fun i hi=>.inl hi) (ok.at hT K)) (S.hand (bY ren) hH hn)
  rw [<-SV.gs_ren,ha] at this;refine xD.callE (first:=(SV.gs E first).toArray) (captured:=(SV.gs E captured).toArray) (vs:=SV.gs E vs) (by rw [zF];exact this) ?_ hop hcal (kL hx) (kH hargs);rintro h' ⟨y,E',_,_,_,_,he⟩;cases ho:out y<;>rw [ho] at he<;>cases he
 ·rintro E h hA S K ch h' ⟨y,E',hJ,hA',S',K',he⟩;have hr:=hr y hJ
  cases ho:out y with
  |ret v n H'=>rw [ho] at he;cases he
  |pan ch' n H'=>
   rw [ho] at he hr S';cases he;obtain ⟨E'',a1,_,a3,a4⟩:=S.takeBack K hlen hren f3 hA' S' K';have:=hr.run E'' h' (hA.trans (a1.mono f1)) a3 a4;rw [jA a1 ds f4,aKL,iX a1 l f2] at this;exact this
 rintro E h hA S K v h' ⟨y,E',hJ,hA',S',K',he⟩;have hr:=hr y hJ
 cases ho:out y with
 |pan ch n H'=>rw [ho] at he;cases he
 |ret v' n H'=>
  rw [ho] at he hr S';cases he;obtain ⟨E'',a1,a2,a3,a4⟩:=S.takeBack K hlen hren f3 hA' S' K';simp only [wH,bD] at hr;exact ⟨E'',_,_,_,a1,f1,hps,jA a1 ds f4,by rw [eP,iX a1 l f2,a2],a3,a4,hr.1,hr.2⟩
end
theorem Blk.ok_wr {E:Env} {F F':Nat->Prop} {h:Array Obj} {x:Value} {b:Blk} (hw:wr b=true) (hF:∀i,F i->F' i) (H:b.ok E F' h x):b.ok E F h x:=by
 cases b with
 |cells t cs=>
  obtain ⟨g,h1,h2,h3⟩:=H;exact ⟨g,h1,h2,fun hf=>h3 (hF g hf)⟩
 |own e sz rows=>
  obtain ⟨h1,h2,h3⟩:=H;exact ⟨h1,h2,fun g hg hf=>h3 g hg (hF g hf)⟩
 |ro sz rows=>cases hw
 |map d es|raw d es=>
  obtain ⟨g,h1,h2,h3⟩:=H;exact ⟨g,h1,h2,fun hf=>h3 (hF g hf)⟩
theorem fL {n m k b b2:Nat} (hn:n+m<=1000000) (hk:k<=1000:=by decide) (hb:b≠b2:=by decide):0<1/\n+m<=9223372036854775807/\(n+m)*k<=140737488355328/\b≠b2:=
 ⟨Nat.one_pos,by omega,Nat.le_trans (Nat.mul_le_mul hn hk) (by decide),hb⟩

def RoF (G:Nat->Prop) (h:Array Obj) (v:Value) (sz:Nat) (rows:List (List Value)):Prop:=
 mH sz rows/\(rows.length<=9223372036854775807/\aUS v) /\ ∃a cap,v=.slice a rows.length cap/\iS G h a rows
structure Up (G:Nat->Prop) (h:Array Obj) (G':Nat->Prop) (h':Array Obj):Prop where
 sub:∀i,G i->G' i
 same:∀i,G i->h'[i]? = h[i]?
theorem Up.refl (G:Nat->Prop) (h:Array Obj):Up G h G h:=⟨fun _ x=>x,fun _ _=>rfl⟩
theorem Up.trans {G G' G'':Nat->Prop} {h h' h'':Array Obj} (U:Up G h G' h') (V:Up G' h' G'' h''):Up G h G'' h'':=⟨fun i hi=>V.sub i (U.sub i hi),fun i hi=>(V.same i (U.sub i hi)).trans (U.same i hi)⟩
theorem RoF.up {G G':Nat->Prop} {h h':Array Obj} {v:Value} {sz:Nat} {rows:List (List Value)} (U:Up G h G' h') (H:RoF G h v sz rows):RoF G' h' v sz rows:=by
 obtain ⟨h1,h0,a,cap,h2,h3⟩:=H;refine ⟨h1,h0,a,cap,h2,h3.imp id fun ⟨g,o,e1,e2,e3⟩=>⟨g,o,e1,U.sub g e2,fun j v hj=>?_⟩⟩;have:=e3 j v hj;unfold bL at this ⊢;rw [U.same g e2];exact this
theorem RoF.len {G:Nat->Prop} {h:Array Obj} {v:Value} {sz:Nat} {rows:List (List Value)} (H:RoF G h v sz rows):rows.length<=9223372036854775807:=H.2.1.1
theorem RoF.nil {G:Nat->Prop} {h:Array Obj} {sz:Nat}:RoF G h (.slice none 0 0) sz []:=⟨fun _ h=>(by cases h),⟨by simp,Nat.le_refl 0⟩,none,0,rfl,.inl rfl⟩
theorem RoF.blk {E:Env} {F:Nat->Prop} {h:Array Obj} {v:Value} {sz:Nat} {rows:List (List Value)} (H:RoF F h v sz rows):(Blk.ro sz rows).ok E F h v:=H
theorem RoF.ownB {G:Nat->Prop} {h:Array Obj} {v:Value} {sz:Nat} {rows:List (List Value)} (H:RoF G h v sz rows):∃a cap,v=.slice a rows.length cap:=by
 obtain ⟨_,_,a,cap,h2,_⟩:=H;exact ⟨a,cap,h2⟩
structure Now (F0 G0:Nat->Prop) (hh:Array Obj) (F G:Nat->Prop) (h:Array Obj):Prop where
 conv:∀hf,Kp F h hf->Kp F0 hh hf
 sub:∀i,F0 i->F i
 gsub:∀i,G i->F i
 lt:∀i,F i->i<h.size
 ginc:∀i,G0 i->G i
 gnew:∀i,G i->G0 i \/ ¬F0 i
section
variable {F0 G0 F G F' G':Nat->Prop} {hh h h':Array Obj}
theorem Now.start (hG:∀i,G i->F i) (hF:∀i,F i->i<h.size):Now F G h F G h:=⟨fun _ K=>K,fun _ x=>x,hG,hF,fun _ x=>x,fun _ x=>.inl x⟩
theorem Now.kp (N:Now F0 G0 hh F G h):Kp F0 hh h:=N.conv h ⟨Nat.le_refl _,fun _ _=>rfl,N.lt⟩
theorem Now.trans (N:Now F0 G0 hh F G h) (M:Now F G h F' G' h'):Now F0 G0 hh F' G' h':=
 ⟨fun hf K=>N.conv hf (M.conv hf K),fun i hi=>M.sub i (N.sub i hi),M.gsub,M.lt,fun i hi=>M.ginc i (N.ginc i hi),fun i hi=>(M.gnew i hi).elim (N.gnew i) fun h=>.inr fun hf=>h (N.sub i hf)⟩
theorem Now.later (N:Now F0 G0 hh F G h) (K:Kp F h h'):Now F0 G0 hh F G h':=
 ⟨fun hf K'=>N.conv hf (K.trans K'),N.sub,N.gsub,fun i hi=>Nat.lt_of_lt_of_le (N.lt i hi) K.size,N.ginc,N.gnew⟩
theorem Now.up (N:Now F0 G0 hh F G h) (K:Kp F h h'):Up G h G h':=⟨fun _ x=>x,fun i hi=>K.same i (N.gsub i hi)⟩
theorem Now.step (hG:∀i,G i->F i) (M:Now F G h F' G' h'):Up G h G' h':=⟨M.ginc,fun i hi=>M.kp.same i (hG i hi)⟩
end
theorem aD.looks {c:Ctx P} {ds:List Deferred} {st:List SI} {l l':Fr} {h:Array Obj} (hs:∀d v,look l' d=some v->look l d=some v) (hr:aD c ds st l' h):aD c ds st l h:=
 by
 unfold aD at hr ⊢;exact fun hwf a w ha hd hh hw=>hr hwf a w ⟨ha.size,fun d v hv=>ha.get d v (hs d v hv)⟩ hd hh hw
section
variable {s:SCx P} {ds:List cY} {nx:Nat} {st:List SI} {l:SFr} {H:SH}
theorem aA.nameAt {G:Nat->Prop} (hG:∀i,G i->s.F i) (k:Nat) {v:Value} {sz:Nat} {rows:List (List Value)} (hv:RoF G s.h0 v sz rows) (hr:aA s ds (nx+1) st ((k,.buf nx)::l) ((nx,.ro sz rows)::H))
  (hl:oS l k=some (.v v):=by rfl) (hfr:gQ s.n0 nx l H ds=true:=by rfl):aA s ds nx st l H:=.mk fun E h hA S K=>by
 obtain ⟨f1,f2,f3,f4⟩:=dW hfr;have hv':RoF s.F h v sz rows:=hv.up ⟨hG,fun i hi=>K.same i (hG i hi)⟩;have S':=S.add (n:=nx) (x:=v) (b:=.ro sz rows) f3 hv'.blk (fun hw=>by cases hw);have A:=gA E nx v;have:=hr.run _ h (hA.trans (A.mono f1)) S' K;rw [jA A ds f4] at this;refine aD.looks (l':=gF (push E nx v) ((k,.buf nx)::l)) (fun d u hd=>?_) this;simp only [gF,look,SV.g] at hd
 cases hb:Nat.beq k d with
 |true=>
  simp only [hb,Option.some.injEq] at hd;have:=Nat.eq_of_beq_eq_true hb;subst this;rw [fD hl,<-hd,gW];rfl
 |false=>
  simp only [hb] at hd;rw [iX A l f2] at hd;exact hd
theorem aYW (E:Env):∀(cs:List SV) (k:Nat) (x:SV),SV.gs E (cs.set k x)=(SV.gs E cs).set k (x.g E)
 | [],_,_=>rfl
 |c::cs,0,x=>rfl
 |c::cs,k+1,x=>by simp only [List.set_cons_succ,SV.gs,aYW E cs k x]
def aFC:List SV->Nat->SV->List SV
 | [],_,_=>[]
 |c::cs,k,x=>match k with
  |0=>x::cs
  |k+1=>c::aFC cs k x
theorem aMM:∀(cs:List SV) (k:Nat) (x:SV),aFC cs k x=cs.set k x
 | [],_,_=>rfl
 |c::cs,0,x=>rfl
 |c::cs,k+1,x=>by simp only [aFC,List.set_cons_succ,aMM cs k x]
def aTU:List SV->Nat->SV->(List SV->Prop)->Prop
 | [],_,_,K=>K []
 |c::cs,k,x,K=>match k with
  |0=>K (x::cs)
  |k+1=>aTU cs k x fun l=>K (c::l)
theorem aOI:∀(cs:List SV) (k:Nat) (x:SV) (K:List SV->Prop),aTU cs k x K=K (aFC cs k x)
 | [],_,_,_=>rfl
 |c::cs,0,x,_=>rfl
 |c::cs,k+1,x,K=>by simp only [aTU,aFC,aOI cs k x]
theorem mem_setH_ne' {x:Blk}:∀ {H:SH} {b:Nat} {seen:List Nat} {p:Nat×Blk},dV (rn []) H seen=true->p∈nG H b x->p=(b,x)\/(p∈H/\p.1≠b)
 | [],_,_,_,_,h=>by cases h
 |(s,v)::l,d,seen,p,hn,h=>by
  simp only [dV] at hn
  cases hm:aHJ (rn [] s) seen with
  |true=>simp [hm] at hn
  |false=>
   simp only [hm] at hn;simp only [nG] at h
   cases hb:Nat.beq s d with
   |true=>
    simp only [hb] at h;have:=Nat.eq_of_beq_eq_true hb;subst this;rcases List.mem_cons.1 h with rfl|h
    ·exact .inl rfl
    refine .inr ⟨List.mem_cons_of_mem _ h,fun e=>?_⟩;have h1:=aDC hn p h;rw [e] at h1;exact h1 (List.mem_cons_self ..)
   |false=>
    simp only [hb] at h;rcases List.mem_cons.1 h with rfl|h
    ·exact .inr ⟨List.mem_cons_self ..,fun e=>by simp only at e;subst e;simp at hb⟩
    exact (mem_setH_ne' hn h).imp id fun ⟨h1,h2⟩=>⟨List.mem_cons_of_mem _ h1,h2⟩
theorem setH_apart' {E:Env} {t:TypeId} {cs cs':List SV}:∀ {H:SH} {b:Nat},bX H b=some (.cells t cs)->H.Pairwise (nM E)->(nG H b (.cells t cs')).Pairwise (nM E)
 | [],_,h,_=>by cases h
 |(s,v)::l,d,h,hp=>by
  obtain ⟨h1,h2⟩:=List.pairwise_cons.1 hp;simp only [bX] at h;simp only [nG]
  cases hb:Nat.beq s d with
  |true=>
   simp only [hb,Option.some.injEq] at h;subst h;exact List.pairwise_cons.2 ⟨fun q hq _ hw g e1 e2=>h1 q hq rfl hw g e1 e2,h2⟩
  |false=>
   simp only [hb] at h;refine List.pairwise_cons.2 ⟨fun q hq=>?_,setH_apart' h h2⟩;rcases aOJ hq with rfl|hq
   ·intro hw _ g e1 e2;exact h1 _ (bW h) hw rfl g e1 e2
   exact h1 q hq
theorem aA.nameCell {G:Nat->Prop} (hG:∀i,G i->s.F i) (b k:Nat) {v:Value} {sz:Nat} {rows:List (List Value)} {t:TypeId} {cs:List SV} (hv:RoF G s.h0 v sz rows)
  (hr:aTU cs k (.buf nx) fun cs=>yS H b (.cells t cs) fun H=>aA s ds (nx+1) st l ((nx,.ro sz rows)::H))
  (hb:bX H b=some (.cells t cs):=by rfl) (hk:nth cs k=some (.v v):=by rfl) (hn:dV (rn []) H []=true:=by rfl) (hfr:gQ s.n0 nx l H ds=true:=by rfl):aA s ds nx st l H:=.mk fun E h hA S K=>by
 obtain ⟨f1,f2,f3,f4⟩:=dW hfr;rw [aOI,jN] at hr;have hv':RoF s.F h v sz rows:=hv.up ⟨hG,fun i hi=>K.same i (hG i hi)⟩;have S1:=S.add (n:=nx) (x:=v) (b:=.ro sz rows) f3 hv'.blk (fun hw=>by cases hw);have A:=gA E nx v;have hlt:=jO f3 (bW hb);have hne:b≠nx:=by have:=hlt.1;simp only at this;omega
 have hgs:SV.gs (push E nx v) (aFC cs k (.buf nx))=SV.gs E cs:=by
  rw [aMM,aYW];show (SV.gs (push E nx v) cs).set k (push E nx v nx)=_;rw [gW,SV.gs_ag A cs hlt.2];refine List.ext_getElem? fun j=>?_;rw [List.getElem?_set];split
  ·rename_i e
   subst e;rw [fW] at hk;rw [uR,hk];split
   ·rfl
   rename_i h1
   have:=(List.getElem?_eq_some_iff.1 hk).1;rw [fM] at h1;exact absurd this h1
  rfl
 have S':Sat (push E nx v) s.F ((nx,.ro sz rows)::nG H b (.cells t (aFC cs k (.buf nx)))) h:=by
  have Sr:Sat (push E nx v) s.F H h:=⟨fun p hp=>S1.ok p (List.mem_cons_of_mem _ hp),(List.pairwise_cons.1 S1.apart).2⟩;refine ⟨fun p hp=>?_,List.pairwise_cons.2 ⟨fun q hq hw=>(by cases hw),setH_apart' hb Sr.apart⟩⟩;rcases List.mem_cons.1 hp with rfl|hp
  ·exact S1.ok _ (List.mem_cons_self ..)
  rcases mem_setH_ne' hn hp with rfl|⟨hp,_⟩
  ·obtain ⟨g,h1,h2,h3⟩:=S.ok _ (bW hb);refine ⟨g,?_,?_,h3⟩
   ·show push E nx v b=_;rw [A b hlt.1];exact h1
   rw [hgs];exact h2
  exact Sr.ok p hp
 have:=hr.run _ h (hA.trans (A.mono f1)) S' K;rw [jA A ds f4,iX A l f2] at this;exact this
end

section
variable {s:SCx P} {ds:List cY} {nx:Nat} {st:List SI} {l:SFr} {H:SH} {all:Array Oper} {rest:List Oper} {o:Oper} {x y:Operand}
theorem aA.indexA (T:Tab P) {t e len sz:Nat} {k:IntKind} {cs:List SV} (j:Nat) (hr:fJ l o.dst (.agg ((cs.drop (j*sz)).take sz)) fun l=>aA s ds nx (.ops all rest::st) l H)
  (hop:o.op=.index t x y:=by rfl) (hx:evS l x=some (.agg cs):=by rfl) (hy:evS l y=some (.v (.int k j)):=by rfl) (ht:bC T.und t=some (.array len e sz):=by rfl) (ha:uY T e=true:=by rfl)
  (hj:Nat.blt j len=true:=by rfl) (hle:Nat.ble (j*sz+sz) cs.length=true:=by rfl) (hgd:bT l all o=some true:=by rfl) (hdn:cB s.c.n o.dst=true:=by rfl) (hnd:dY o=true:=by rfl):aA s ds nx (.ops all (o::rest)::st) l H:=by
 rw [bD] at hr;refine aA.effL (x:=.agg ((cs.drop (j*sz)).take sz)) (H':=H) (fun E h S K=>Eff.toS S K ?_) (fun E=>bK hgd) hdn hnd hr;refine Eff.of_val1 fun a w haa hh=>⟨w,?_,dC.refl w,hh⟩;have e1:=haa.ev (bN (E:=E) hx);have e2:=haa.ev (bN (E:=E) hy);simp only [SV.g] at e1 e2;obtain ⟨h1,h2⟩:=T.okU.look ht;have hj':=Nat.blt_eq.mp hj;have hle':=Nat.le_of_ble_eq_true hle;have hlen:(SV.gs E cs).length=cs.length:=fM E cs;have hj2:(j:Int)<(len:Int):=by omega
 simp only [execOp,hop,e1,e2,Instr.index,asIntOf,Sem.run_bind,Sem.run_pure,Result.andThen_ok,run_underlying h1]
 simp [hj2,eQ h2,part,rH T ha,SV.g,aAR,yY,hlen]
end

def uT (n:Nat) (v:Value):SFr->(SFr->Prop)->Prop
 | [],K=>K []
 |(s,x)::l,K=>uT n v l fun l=>K ((s,x.inst n v)::l)
theorem qQ (n:Nat) (v:Value):∀(l:SFr) (K:SFr->Prop),uT n v l K=K (aIU n v l)
 | [],_=>rfl
 |(s,x)::l,K=>by simp only [uT,aIU,qQ n v l]
def vQ (n:Nat) (v:Value):SH->(SH->Prop)->Prop
 | [],K=>K []
 |(b,x)::H,K=>vQ n v H fun H=>K ((b,aCQ n v x)::H)
theorem rF (n:Nat) (v:Value):∀(H:SH) (K:SH->Prop),vQ n v H K=K (xH n v H)
 | [],_=>rfl
 |(b,x)::H,K=>by simp only [vQ,xH,rF n v H]
def aET (n:Nat) (v:Value):List cY->List cY
 | []=>[]
 |d::l=>⟨d.g,SV.insts n v d.captured,SV.insts n v d.args,d.col⟩::aET n v l
theorem qP (E:Env) (n:Nat):push E n (E n)=E:=by
 funext b
 rw [aAO]
 cases hb:Nat.beq b n with
 |true=>have:=Nat.eq_of_beq_eq_true hb;subst this;rfl
 |false=>rfl
theorem bFY {n:Nat} {v:Value} {E:Env} {F:Nat->Prop} {h:Array Obj} {x:Value} {b:Blk} (H:b.ok (push E n v) F h x):(aCQ n v b).ok E F h x:=by
 cases b with
 |cells t cs=>
  obtain ⟨g,h1,h2,h3⟩:=H;exact ⟨g,h1,by rw [SV.gs_inst];exact h2,h3⟩
 |own=>exact H
 |ro=>exact H
 |map|raw=>exact H
theorem Blk.more {E:Env} {F F':Nat->Prop} {h:Array Obj} {x:Value} {b:Blk} (H:b.ok E F h x) (hF:∀i,F i->F' i) (hn:wr b=true -> ∀g,ownB x=some g -> ¬F' g):b.ok E F' h x:=by
 cases b with
 |cells t cs=>
  obtain ⟨g,h1,h2,h3⟩:=H;exact ⟨g,h1,h2,hn rfl g (by rw [h1];rfl)⟩
 |own e sz rows=>
  obtain ⟨h1,h2,h3⟩:=H;exact ⟨h1,h2,fun g hg=>hn rfl g hg⟩
 |ro sz rows=>
  obtain ⟨e1,e0,a,cap,e2,e3⟩:=H;exact ⟨e1,e0,a,cap,e2,e3.mono hF⟩
 |map d es|raw d es=>
  obtain ⟨g,h1,h2,h3⟩:=H;exact ⟨g,h1,h2,hn rfl g (by rw [h1];rfl)⟩
section
variable {s:SCx P} {ds:List cY} {nx:Nat} {st:List SI} {l:SFr} {H:SH}
theorem aA.conc {G:Nat->Prop} (hG:∀i,G i->s.F i) (b:Nat) {e sz:Nat} {rows:List (List Value)} {n:Nat}
  (hr:∀(a:Option Addr) (c:Nat) (G':Nat->Prop) (h':Array Obj),Now s.F G s.h0 (fun i=>s.F i\/G' i) G' h'->RoF G' h' (.slice a n c) sz rows ->
   uT b (.slice a n c) l fun l=>aHA H b fun H=>vQ b (.slice a n c) H fun H=>aA ⟨s.c,fun i=>s.F i\/G' i,h',s.E0,s.n0⟩ ds nx st l H)
  (hb:bX H b=some (.own e sz rows):=by rfl) (hlen:rows.length=n:=by rfl) (hn:dV (rn []) H []=true:=by rfl) (hds:∀v,aET b v ds=ds:=by exact fun _=>rfl):aA s ds nx st l H:=.mk fun E h hA S K=>by
 subst hlen;have hmem:=bW hb;have hrow:rowsAt H b=some (sz,rows):=by unfold rowsAt;rw [hb]
 have hbo:=S.ok _ hmem;have hlt:∀k,ownB (E b)=some k->k<h.size /\ ¬s.F k:=fun k hk=>Blk.lt hbo rfl hk;obtain ⟨g1,a,c,g2,g3⟩:=S.rowsAt hrow
 have N:Now s.F G s.h0 (fun i=>s.F i\/(G i\/ownB (E b)=some i)) (fun i=>G i\/ownB (E b)=some i) h:=
  ⟨fun hf K'=>K.trans ⟨K'.size,fun i hi=>K'.same i (.inl hi),fun i hi=>K'.lt i (.inl hi)⟩,fun i hi=>.inl hi,fun i hi=>.inr hi,
   fun i hi=>hi.elim (fun hi=>Nat.lt_of_lt_of_le (K.lt i hi) K.size) (fun hi=>hi.elim (fun hi=>Nat.lt_of_lt_of_le (K.lt i (hG i hi)) K.size) (fun hi=>(hlt i hi).1)),
   fun i hi=>.inl hi,fun i hi=>hi.elim .inl (fun hi=>.inr (hlt i hi).2)⟩
 have R:RoF (fun i=>G i\/ownB (E b)=some i) h (.slice a rows.length c) sz rows:=by
  refine ⟨g1,⟨S.rowsLen hrow,?_⟩,a,c,rfl,g3.imp id fun ⟨g,o,e1,e2⟩=>⟨g,o,e1,.inr ?_,e2⟩⟩
  ·have:=S.rowsCap hrow;rw [g2] at this;exact this
  show ownB (E b)=some g;rw [g2,e1];rfl
 have hr:=hr a c _ h N R;rw [qQ,sT,rF] at hr;have hv:E b=.slice a rows.length c:=g2;have hpush:push E b (.slice a rows.length c)=E:=by rw [<-hv];exact qP E b
 have S':Sat E (fun i=>s.F i\/(G i\/ownB (E b)=some i)) (xH b (.slice a rows.length c) (aAA H b)) h:=by
  refine ⟨fun p hp=>?_,?_⟩
  ·rw [fN] at hp;obtain ⟨q,hq,rfl⟩:=List.mem_map.1 hp;have hq1:=(iE H b).subset hq;have hq2:=tI hq;refine bFY ?_;rw [hpush];refine Blk.more (S.ok q hq1) (fun i hi=>.inl hi) fun hw g hg hF=>?_;have h1:=(Blk.lt (S.ok q hq1) hw hg).2;rcases hF with hF|hF|hF
   ·exact h1 hF
   ·exact h1 (hG _ hF)
   exact rJ S.apart hq1 hmem hq2 hw rfl g hg hF
  rw [fN,List.pairwise_map];refine List.Pairwise.imp (fun {p q} hA=>?_) (S.apart.sublist (iE H b));intro hw1 hw2 g e1 e2;exact hA (by rw [<-mL b (.slice a rows.length c)];exact hw1) (by rw [<-mL b (.slice a rows.length c)];exact hw2) g e1 e2
 have:=hr.run E h hA S' ⟨Nat.le_refl _,fun _ _=>rfl,N.lt⟩;rw [wG,hpush] at this;exact this
end
def jP {X:Type} (k:Nat) (E:Env) (F G:Nat->Prop) (h:Array Obj) (J:X->(Nat->Prop)->Array Obj->Prop) (out:X->eR) (e:Ending) (h':Array Obj):Prop:=
 ∃x E' F' G',Now F G h F' G' h'/\J x G' h'/\Ag k E E'/\Sat E' F' (out x).heap h'/\(out x).ok E' e
structure FnX (P:Program) (g:FuncId) (k:Nat) (args:List SV) (W:SH) (Pre:(Nat->Prop)->Array Obj->Prop) {X:Type} (J:X->(Nat->Prop)->Array Obj->Prop) (out:X->eR):Prop where
 call:∀(E:Env) (F G:Nat->Prop) (h:Array Obj),(∀i,G i->F i)->(∀i,F i->i<h.size)->Pre G h->Sat E F W h->Fn P g (SV.gs E args).toArray h (jP k E F G h J out)
theorem FnX.of {f:FuncId} {fn:Func} {code:Code} {k:Nat} {args:List SV} {W:SH} {Pre:(Nat→Prop)→Array Obj→Prop} {X:Type} {J:X→(Nat→Prop)→Array Obj→Prop} {out:X→eR} (hf:P.funcs[f]? = some fn) (hname:(fn.name == "runtime.NumGoroutine")=false) (hb:fn.body=some code) {n:Nat} (hnt:fn.ntmps=n)
  (hargs:Nat.ble args.length n=true)
  (H:∀E0 F G h,Now F G h F G h->Pre G h -> ∀w0 cs,bFQ 0 args fun l=>aA ⟨cW P f n w0 cs (jP k E0 F G h J out),F,h,E0,k⟩ [] k [.code code] l W):FnX P f k args W Pre J out:=
 ⟨fun E F G h hG hF hP S=>Fn.ofG E k args W F hf hname hb hnt hargs hF S fun w0 cs=>H E F G h (Now.start hG hF) hP w0 cs⟩
theorem jP.mk {X:Type} {k:Nat} {E0:Env} {F G F' G':Nat->Prop} {h0 hb:Array Obj} {J:X->(Nat->Prop)->Array Obj->Prop} {out:X->eR} (N:Now F G h0 F' G' hb) (x:X) (hJ:∀h',Up G' hb G' h'->J x G' h') (m:List (Nat×Nat)) {H:SH}
  (hH:nE (rn m) H (out x).heap) (hm:bGH k m=true) (hn:dV (rn m) (out x).heap []=true) {e:Env->Ending} (he:∀E,(out x).ok (fun b=>E (rn m b)) (e E)):
  ∀E h,Ag k E0 E->Sat E F' H h->Kp F' hb h->jP k E0 F G h0 J out (e E) h:=fun E h hA S K=>
 ⟨x,fun b=>E (rn m b),F',G',N.later K,hJ h (N.up K),fun b hb=>by show E (rn m b)=_;rw [bGB hm b hb];exact hA b hb,S.ren hH hn,he E⟩
theorem sW (f:Nat->Nat) (R:SH):∀H:SH,lX f R (H.filter fun p=>wr p.2)=lX f R H
 | []=>rfl
 |(b,x)::H=>by
  simp only [lX,List.filter_cons]
  cases hw:wr x with
  |true=>simp only [if_true,lX,hw,sW f R H]
  |false=>simp [sW f R H]
theorem Sat.takeBackX {k nx:Nat} {E E':Env} {F F' G G':Nat->Prop} {H W H':SH} {h h' h0:Array Obj} {ren:List Nat} (S:Sat E F H h) (K:Kp F h0 h) (hG:∀i,G i->F i) (hlen:ren.length=k) (hren:bdN nx ren=true) (hbd:bdH nx H=true)
  (A:Ag k (fun b=>E (bY ren b)) E') (N:Now (iR F E (dN (fZ (bY ren) W) H)) G h F' G' h') (S':Sat E' F' H' h'):
  ∃E'':Env,Ag nx E E''/\(∀x:SV,(x.ren (nmC ren k nx)).g E''=x.g E')/\Sat E'' (fun i=>F i\/G' i) (lX (nmC ren k nx) (dN (fZ (bY ren) W) H) H') h'/\Kp (fun i=>F i\/G' i) h' h'/\Now F G h0 (fun i=>F i\/G' i) G' h':=by
 have K':Kp (iR F E (dN (fZ (bY ren) W) H)) h h':=N.kp
 have Sf:Sat E' (iR F E (dN (fZ (bY ren) W) H)) (H'.filter fun p=>wr p.2) h':=
  ⟨fun p hp=>Blk.ok_wr (List.mem_filter.1 hp).2 N.sub (S'.ok p (List.mem_filter.1 hp).1),S'.apart.sublist List.filter_sublist⟩
 obtain ⟨E'',a1,a2,a3,a4⟩:=S.takeBack K hlen hren hbd A Sf K';rw [sW] at a3;have lt:∀i,F i\/G' i->i<h'.size:=fun i hi=>hi.elim (fun hi=>N.lt i (N.sub i (.inl hi))) (fun hi=>N.lt i (N.gsub i hi));refine ⟨E'',a1,a2,⟨fun p hp=>Blk.more (a3.ok p hp) (fun i hi=>.inl hi) fun hw g hg hF=>?_,a3.apart⟩,⟨Nat.le_refl _,fun _ _=>rfl,lt⟩,?_⟩
 ·rcases hF with hF|hF
  ·exact (Blk.lt (a3.ok p hp) hw hg).2 hF
  rcases rV hp with hp|⟨q,hq,hwq,rfl⟩
  ·have hpH:=(dX _ _).subset hp;rw [a1 p.1 (jO hbd hpH).1] at hg;rcases N.gnew g hF with h1|h1
   ·exact (Blk.lt (S.ok p hpH) hw hg).2 (hG g h1)
   exact h1 (.inr ⟨p,hp,hw,hg⟩)
  have e:E'' (nmC ren k nx q.1)=E' q.1:=a2 (.buf q.1);have hg:ownB (E'' (nmC ren k nx q.1))=some g:=hg;rw [e] at hg;exact (Blk.lt (S'.ok q hq) hwq hg).2 (N.gsub g hF)
 exact ⟨fun hf K2=>K.trans (Kp.trans ⟨K'.size,fun i hi=>K'.same i (.inl hi),fun i hi=>K'.lt i (.inl hi)⟩ ⟨K2.size,fun i hi=>K2.same i (.inl hi),fun i hi=>lt i (.inl hi)⟩),fun i hi=>.inl hi,fun i hi=>.inr hi,lt,N.ginc,
  fun i hi=>(N.gnew i hi).imp id (fun hn hf=>hn (.inl hf))⟩
section
variable {s:SCx P} {ds:List cY} {nx:Nat} {kk:List SI} {l:SFr} {H:SH}
variable {all:Array Oper} {rest:List Oper} {o:Oper} {cl:Call} {x:Operand} {g:FuncId} {first captured vs:List SV}
theorem aA.callX {G:Nat->Prop} (hG:∀i,G i->s.F i) {k:Nat} {args:List SV} {W:SH} {Pre:(Nat->Prop)->Array Obj->Prop} {X:Type} {J:X->(Nat->Prop)->Array Obj->Prop} {out:X->eR} (C:FnX P g k args W Pre J out) (hpre:∀h,Up G s.h0 G h->Pre G h) (ren:List Nat)
  (hH:nE (bY ren) H W) (ha:SV.rens (bY ren) args=first++(vs++captured))
  (hr:∀y G' h',Now s.F G s.h0 (fun i=>s.F i\/G' i) G' h'->J y G' h'->yQ ⟨s.c,fun i=>s.F i\/G' i,h',s.E0,s.n0⟩ ds k nx ren (dN (fZ (bY ren) W) H) o.dst l (.ops all rest::kk) (out y))
  (hlen:ren.length=k:=by rfl) (hren:bdN nx ren=true:=by rfl) (hfr:gQ s.n0 nx l H ds=true:=by rfl) (hn:dV (bY ren) W []=true:=by rfl)
  (hop:o.op=.call cl:=by rfl) (hcal:cl.callee=.value x:=by rfl) (hx:eM l x=some (g,first,captured):=by rfl) (hargs:gK l cl.args.toList=some vs:=by rfl)
  (hgd:bT l all o=some true:=by rfl) (hdn:cB s.c.n o.dst=true:=by rfl):aA s ds nx (.ops all (o::rest)::kk) l H:=by
 obtain ⟨f1,f2,f3,f4⟩:=dW hfr;refine aA.callE (R:=fun E h=>jP k (fun b=>E (bY ren b)) (iR s.F E (dN (fZ (bY ren) W) H)) G h J out) ?_ ?_ ?_ ?_ hop hcal hx hargs hgd hdn
 ·intro E h hA S K;have:=C.call (fun b=>E (bY ren b)) (iR s.F E (dN (fZ (bY ren) W) H)) G h (fun i hi=>.inl (hG i hi)) (fun i hi=>?_) (hpre h ⟨fun _ x=>x,fun i hi=>K.same i (hG i hi)⟩) (S.hand (bY ren) hH hn)
  ·rw [<-ha,SV.gs_ren];exact this
  rcases hi with hi|⟨q,hq,hw,hg⟩
  ·have:=K.lt i hi;have:=K.size;omega
  exact (Blk.lt (S.ok q ((dX _ _).subset hq)) hw hg).1
 ·rintro E h h' ⟨y,E',_,_,_,_,_,_,he⟩;cases ho:out y<;>rw [ho] at he<;>cases he
 ·rintro E h hA S K ch h' ⟨y,E',F',G',N,hJ,hA',S',he⟩;obtain ⟨E'',a1,a2,a3,a4,a5⟩:=S.takeBackX K hG hlen hren f3 hA' N S';have hr:=hr y G' h' a5 hJ
  cases ho:out y with
  |ret v n H'=>rw [ho] at he;cases he
  |pan ch' n H'=>
   rw [ho] at he hr a3;cases he;have:=hr.run E'' h' (hA.trans (a1.mono f1)) a3 a4;rw [jA a1 ds f4,iX a1 l f2] at this;exact this
 rintro E h hA S K v h' ⟨y,E',F',G',N,hJ,hA',S',he⟩;obtain ⟨E'',a1,a2,a3,a4,a5⟩:=S.takeBackX K hG hlen hren f3 hA' N S';have hr:=hr y G' h' a5 hJ
 cases ho:out y with
 |pan ch n H'=>rw [ho] at he;cases he
 |ret v' n H'=>
  rw [ho] at he hr a3;cases he;simp only [yQ,bD] at hr;have:=hr.run E'' h' (hA.trans (a1.mono f1)) a3 a4;rw [jA a1 ds f4,eP,iX a1 l f2,a2] at this;exact this
end

def eW (es:List (Value×Value)) (key:Value):Option Value->Prop
 |some v=>(∃p∈es,p.1=key) /\ ∀p∈es,p.1=key->p.2=v
 |none=>∀p∈es,p.1≠key
theorem aCN {w:World} {t kt et g clock:Nat} {d:TypeDesc} {en:Array MapEntry} {es:List (Value×Value)} {key z:Value} {r:Option Value} (ht:P.underlying t=some (.map kt et)) (hk:P.underlying kt=some d)
  (hb:w.heap[g]? = some (.map en clock)) (hes:en.toList.map (fun e=>(e.key,e.val))=es) (hks:∀p∈es,MapKept.IsKey d p.1) (hkey:MapKept.IsKey d key) (hg:eW es key r) (hz:(zeroValue et).run P w=.ok z w) (ok:Bool):
  (Instr.lookup t (.map (some g)) key ok).run P w=.ok (if ok then .tuple #[r.getD z,.bool r.isSome] else r.getD z) w:=by
 have hks':∀x∈en.toList,MapKept.IsKey d x.key:=fun x hx=>hks (x.key,x.val) (by rw [<-hes];exact List.mem_map.2 ⟨x,hx,rfl⟩);have hck:=MapKept.run_checkKey (P:=P) (w:=w) hk hkey en.isEmpty 9999;rcases MapKept.findNow_spec hkey en.toList 0 hks' with ⟨h1,h2⟩|⟨j,e,h1,h2,h3⟩
 ·have hr:r=none:=by
   cases r with
   |none=>rfl
   |some v=>
    obtain ⟨⟨p,hp,hp1⟩,_⟩:=hg;rw [<-hes] at hp;obtain ⟨x,hx,rfl⟩:=List.mem_map.1 hp;exact absurd hp1 (h2 x hx)
  subst hr;have hf:=MapKept.run_findKey (P:=P) (w:=w) hk h1;simp only [Instr.lookup,Sem.run_bind,run_underlying ht,Result.andThen_ok,MapKept.run_getObj_map hb,Sem.run_pure,hck,hf,hz,Option.getD_none,Option.isSome_none]
 have hm:(e.key,e.val)∈es:=by rw [<-hes];exact List.mem_map.2 ⟨e,List.mem_of_getElem? h2,rfl⟩
 have hr:r=some e.val:=by
  cases r with
  |none=>exact absurd h3 (hg _ hm)
  |some v=>exact congrArg some (hg.2 _ hm h3).symm
 subst hr;have hf:=MapKept.run_findKey (P:=P) (w:=w) hk h1;simp only [Instr.lookup,Sem.run_bind,run_underlying ht,Result.andThen_ok,MapKept.run_getObj_map hb,Sem.run_pure,hck,hf,Option.getD_some,Option.isSome_some]
theorem aNF {w:World} {t kt et g clock:Nat} {d:TypeDesc} {en:Array MapEntry} {es:List (Value×Value)} {key val:Value} (ht:P.underlying t=some (.map kt et)) (hk:P.underlying kt=some d)
  (hb:w.heap[g]? = some (.map en clock)) (hes:en.toList.map (fun e=>(e.key,e.val))=es) (hks:∀p∈es,MapKept.IsKey d p.1) (hkey:MapKept.IsKey d key) (hg:eW es key none):
  (Instr.mapUpdate t (.map (some g)) key val).run P w=.ok () (w.putObj g (.map (en.push {key,val,born:=clock}) (clock+1))):=by
 have hks':∀x∈en.toList,MapKept.IsKey d x.key:=fun x hx=>hks (x.key,x.val) (by rw [<-hes];exact List.mem_map.2 ⟨x,hx,rfl⟩);have hck:=MapKept.run_checkKey (P:=P) (w:=w) hk hkey false 9999;have e2:∀o',(setObj g o').run P w=.ok () (w.putObj g o'):=fun o'=>by simp [setObj,Sem.run,hb,World.putObj]
 rcases MapKept.findNow_spec hkey en.toList 0 hks' with ⟨h1,h2⟩|⟨j,e,h1,h2,h3⟩
 ·have hf:=MapKept.run_findKey (P:=P) (w:=w) hk h1;simp only [Instr.mapUpdate,Sem.run_bind,run_underlying ht,Result.andThen_ok,MapKept.run_getObj_map hb,hck,hf,e2]
 have hm:(e.key,e.val)∈es:=by rw [<-hes];exact List.mem_map.2 ⟨e,List.mem_of_getElem? h2,rfl⟩
 exact absurd h3 (hg _ hm)
theorem Sat.mapAt {F:Nat->Prop} {H:SH} {E:Env} {h:Array Obj} (S:Sat E F H h) {b:Nat} {d:TypeDesc} {es:List (Value×Value)} (hl:bX H b=some (.map d es)):∃g,E b=.map (some g)/\aDE h g d es /\ ¬F g:=S.ok _ (bW hl)
def nB (G:Nat->Prop) (h:Array Obj) (v:Value) (d:TypeDesc) (es:List (Value×Value)):Prop:=∃g,v=.map (some g)/\G g/\aDE h g d es
theorem nB.up {G G':Nat->Prop} {h h':Array Obj} {v:Value} {d:TypeDesc} {es:List (Value×Value)} (U:Up G h G' h') (H:nB G h v d es):nB G' h' v d es:=by
 obtain ⟨g,h1,h2,h3⟩:=H;exact ⟨g,h1,U.sub g h2,h3.same (U.same g h2)⟩
section
variable {n:Nat} {F:Nat->Prop} {h0:Array Obj} {nx:Nat} {l:SFr} {H:SH} {o:Oper} {t kt et:Nat} {d:TypeDesc} {es:List (Value×Value)} {key z:Value} {r:Option Value} {x y:Operand} {ok:Bool}
theorem aDD {b:Nat} (ht:P.underlying t=some (.map kt et)) (hk:P.underlying kt=some d) (hz:∀w,(zeroValue et).run P w=.ok z w) (hb:bX H b=some (.map d es)) (hg:eW es key r) (hkey:MapKept.IsKey d key)
  (hop:o.op=.lookup t x y ok) (hx:evS l x=some (.buf b)) (hy:evS l y=some (.v key)):cJ P n F h0 l H o (.v (if ok then .tuple #[r.getD z,.bool r.isSome] else r.getD z)) H:=
 cJ.of_eff (by simp [jZ,cQ,dH,hop]) fun E h S K=>by
  obtain ⟨g,g1,⟨⟨en,clock,g2,g3⟩,g4⟩,_⟩:=S.mapAt hb;refine Eff.of_value fun a w ha hh=>⟨_,w,?_,dC.refl w,rfl,hh▸S,hh▸K⟩;have e1:=ha.ev (bN (E:=E) hx);have e2:=ha.ev (bN (E:=E) hy);simp only [SV.g] at e1 e2;rw [g1] at e1
  simp [execOp,hop,e1,e2,SV.g,aCN ht hk (by rw [hh];exact g2) g3 g4 hkey hg (hz w) ok]
theorem aJT {v:Value} (hv:nB F h0 v d es) (ht:P.underlying t=some (.map kt et)) (hk:P.underlying kt=some d) (hz:∀w,(zeroValue et).run P w=.ok z w) (hg:eW es key r) (hkey:MapKept.IsKey d key)
  (hop:o.op=.lookup t x y ok) (hx:evS l x=some (.v v)) (hy:evS l y=some (.v key)):cJ P n F h0 l H o (.v (if ok then .tuple #[r.getD z,.bool r.isSome] else r.getD z)) H:=
 cJ.of_eff (by simp [jZ,cQ,dH,hop]) fun E h S K=>by
  obtain ⟨g,g1,g5,⟨en,clock,g2,g3⟩,g4⟩:=hv;refine Eff.of_value fun a w ha hh=>⟨_,w,?_,dC.refl w,rfl,hh▸S,hh▸K⟩;have e1:=ha.ev (bN (E:=E) hx);have e2:=ha.ev (bN (E:=E) hy);simp only [SV.g] at e1 e2;rw [g1] at e1
  simp [execOp,hop,e1,e2,SV.g,aCN ht hk (by rw [hh,K.same g g5];exact g2) g3 g4 hkey hg (hz w) ok]
theorem aOX {b:Nat} {val:Value} {u:SV} (ht:P.underlying t=some (.map kt et)) (hk:P.underlying kt=some d) {m:Operand} (hb:bX H b=some (.map d es)) (hg:eW es key none) (hkey:MapKept.IsKey d key)
  (hop:o.op=.insert t m x y\/o.op=.mapUpdate t m x y) (hm:evS l m=some (.buf b)) (hx:evS l x=some (.v key)) (hy:evS l y=some u) (hu:∀E,u.g E=val):cJ P n F h0 l H o (.v undef) (nG H b (.map d (es++[(key,val)]))):=
 cJ.of_eff (by rcases hop with hop|hop<;>simp [jZ,cQ,dH,hop]) fun E h S K=>by
  obtain ⟨g,g1,⟨⟨en,clock,g2,g3⟩,g4⟩,g5⟩:=S.mapAt hb;refine Eff.of_skip fun a w ha hh=>?_;have e1:=ha.ev (bN (E:=E) hm);have e2:=ha.ev (bN (E:=E) hx);have e3:=ha.ev (bN (E:=E) hy);simp only [SV.g,hu] at e1 e2 e3;rw [g1] at e1;have hb':w.heap[g]? = some (.map en clock):=by rw [hh];exact g2
  have hrun:=aNF (val:=val) ht hk hb' g3 g4 hkey hg;refine ⟨w.putObj g (.map (en.push {key,val,born:=clock}) (clock+1)),by rcases hop with hop|hop<;>simp [execOp,hop,e1,e2,e3,hrun],⟨rfl,rfl,rfl⟩,rfl,?_⟩;have hlt:g<h.size:=(Array.getElem?_eq_some_iff.1 g2).1;have hh':(w.putObj g (.map (en.push {key,val,born:=clock}) (clock+1))).heap=h.setIfInBounds g (.map (en.push {key,val,born:=clock}) (clock+1)):=by simp [World.putObj,hh]
  rw [hh'];have hsame:∀k,k≠g->(h.setIfInBounds g (.map (en.push {key,val,born:=clock}) (clock+1)))[k]? = h[k]? :=fun k hk=>by simp [Ne.symm hk]
  have hF:∀k,F k->(h.setIfInBounds g (.map (en.push {key,val,born:=clock}) (clock+1)))[k]? = h[k]? :=fun k hk=>hsame k (fun e=>g5 (e▸hk));have hy:(Blk.map d (es++[(key,val)])).ok E F (h.setIfInBounds g (.map (en.push {key,val,born:=clock}) (clock+1))) (E b):=by
   refine ⟨g,g1,⟨⟨_,_,by simp [hlt];exact ⟨rfl,rfl⟩,by simp [g3]⟩,fun p hp=>?_⟩,g5⟩;rcases List.mem_append.1 hp with hp|hp
   ·exact g4 p hp
   rw [List.mem_singleton.1 hp];exact hkey
  exact ⟨Sat.set (x:=.map d es) rfl rfl hy hF (fun k hk=>.inl (hsame k (fun e=>hk (by rw [g1,e];rfl)))) S hb,⟨by simpa using K.size,fun k hk=>(hF k hk).trans (K.same k hk),K.lt⟩⟩
theorem aLY (d:TypeDesc) (hop:o.op=.makeMap t none) (hb:bdH nx H=true):aEU P n F h0 nx l H o (.buf nx) ((nx,.map d [])::H):=fun E h S K=>by
 refine Eff.of_value fun a w ha hh=>?_;refine ⟨.map (some h.size),w.alloc (.map #[] 0),by simp [execOp,hop,Instr.makeMap,hh],⟨rfl,rfl,rfl⟩,push E nx (.map (some h.size)),gA E nx _,by simp [SV.g,gW],?_⟩;have hh':(w.alloc (.map #[] 0)).heap=h.push (.map #[] 0):=by simp [World.alloc,hh]
 rw [hh'];obtain ⟨S',K'⟩:=S.pushB K (.map #[] 0);refine ⟨S'.add hb ⟨h.size,rfl,⟨⟨#[],0,by simp,rfl⟩,fun p hp=>by cases hp⟩,K.ge (Nat.le_refl _)⟩ (fun _ p hp hw g hg e=>?_),K'⟩;have:=(Blk.lt (S.ok p hp) hw hg).1;simp only [ownB,Option.some.injEq] at e;omega
end
section
variable {s:SCx P} {ds:List cY} {nx:Nat} {st:List SI} {l:SFr} {H:SH} {all:Array Oper} {rest:List Oper} {o:Oper} {t kt et:Nat} {d:TypeDesc} {es:List (Value×Value)} {key z:Value} {x y:Operand} {ok:Bool}
theorem aA.makeMap (d:TypeDesc) (hr:fJ l o.dst (.buf nx) fun l=>aA s ds (nx+1) (.ops all rest::st) l ((nx,.map d [])::H)) (hop:o.op=.makeMap t none:=by rfl) (hfr:gQ s.n0 nx l H ds=true:=by rfl)
  (hgd:bT l all o=some true:=by rfl) (hdn:cB s.c.n o.dst=true:=by rfl) (hnd:dY o=true:=by rfl):aA s ds nx (.ops all (o::rest)::st) l H:=by
 rw [bD] at hr;obtain ⟨f1,f2,f3,f4⟩:=dW hfr;exact aA.eff (aLY d hop f3) (fun E=>bK hgd) hdn hnd f1 f2 f4 hr
theorem aA.lookup {b:Nat} (r:Option Value) (ht:P.underlying t=some (.map kt et)) (hk:P.underlying kt=some d) (hz:∀w,(zeroValue et).run P w=.ok z w) (hg:eW es key r)
  (hr:fJ l o.dst (.v (if ok then .tuple #[r.getD z,.bool r.isSome] else r.getD z)) fun l=>aA s ds nx (.ops all rest::st) l H)
  (hop:o.op=.lookup t x y ok:=by rfl) (hx:evS l x=some (.buf b):=by rfl) (hy:evS l y=some (.v key):=by rfl) (hb:bX H b=some (.map d es):=by rfl) (hkey:MapKept.IsKey d key:=by first|exact rfl|exact trivial)
  (hgd:bT l all o=some true:=by rfl) (hdn:cB s.c.n o.dst=true:=by rfl) (hnd:dY o=true:=by rfl):aA s ds nx (.ops all (o::rest)::st) l H:=by
 rw [bD] at hr;exact aA.effK (aDD ht hk hz hb hg hkey hop hx hy) (fun E=>bK hgd) hdn hnd hr
theorem aA.lookupF {v:Value} (hv:nB s.F s.h0 v d es) (r:Option Value) (ht:P.underlying t=some (.map kt et)) (hk:P.underlying kt=some d) (hz:∀w,(zeroValue et).run P w=.ok z w) (hg:eW es key r)
  (hr:fJ l o.dst (.v (if ok then .tuple #[r.getD z,.bool r.isSome] else r.getD z)) fun l=>aA s ds nx (.ops all rest::st) l H)
  (hop:o.op=.lookup t x y ok:=by rfl) (hx:evS l x=some (.v v):=by rfl) (hy:evS l y=some (.v key):=by rfl) (hkey:MapKept.IsKey d key:=by first|exact rfl|exact trivial)
  (hgd:bT l all o=some true:=by rfl) (hdn:cB s.c.n o.dst=true:=by rfl) (hnd:dY o=true:=by rfl):aA s ds nx (.ops all (o::rest)::st) l H:=by
 rw [bD] at hr;exact aA.effK (aJT hv ht hk hz hg hkey hop hx hy) (fun E=>bK hgd) hdn hnd hr
theorem aA.insert {b:Nat} {val:Value} {u:SV} {m:Operand} (ht:P.underlying t=some (.map kt et)) (hk:P.underlying kt=some d) (hg:eW es key none) {es':List (Value×Value)} (he:es++[(key,val)]=es')
  (hr:yS H b (.map d es') fun H=>fJ l o.dst (.v undef) fun l=>aA s ds nx (.ops all rest::st) l H)
  (hop:o.op=.insert t m x y\/o.op=.mapUpdate t m x y:=by first|exact .inl rfl|exact .inr rfl)
  (hm:evS l m=some (.buf b):=by rfl) (hx:evS l x=some (.v key):=by rfl) (hy:evS l y=some u:=by rfl) (hb:bX H b=some (.map d es):=by rfl) (hkey:MapKept.IsKey d key:=by first|exact rfl|exact trivial) (hu:∀E,u.g E=val:=by exact fun _=>rfl)
  (hgd:bT l all o=some true:=by rfl) (hdn:cB s.c.n o.dst=true:=by rfl) (hnd:dY o=true:=by rfl):aA s ds nx (.ops all (o::rest)::st) l H:=by
 subst he;rw [jN,bD] at hr;exact aA.effK (aOX ht hk hb hg hkey hop hm hx hy hu) (fun E=>bK hgd) hdn hnd hr
end
section
variable {s:SCx P} {ds:List cY} {nx:Nat} {st:List SI} {l:SFr} {H:SH} {all:List Oper} {o:Oper} {t kt et:Nat} {d:TypeDesc} {es:List (Value×Value)} {key z:Value} {x y:Operand} {ok:Bool}
variable {k:Nat} {keep:List Nat} {tr:Tr} {taken:List Nat} {ps:List (Nat×cV)}
theorem aK.lookup {b:Nat} (r:Option Value) (ht:P.underlying t=some (.map kt et)) (hk:P.underlying kt=some d) (hz:∀w,(zeroValue et).run P w=.ok z w) (hg:eW es key r) (hpi:gL H keep ps)
  (hr:fJ l o.dst (.v (if ok then .tuple #[r.getD z,.bool r.isSome] else r.getD z)) fun l=>bG s ds all st tr taken ps nx l H)
  (ho:all[k]? = some o:=by rfl) (hop:o.op=.lookup t x y ok:=by rfl) (hx:evS l x=some (.buf b):=by rfl) (hy:evS l y=some (.v key):=by rfl) (hb:bX H b=some (.map d es):=by rfl) (hkey:MapKept.IsKey d key:=by first|exact rfl|exact trivial)
  (hgd:bT l all.toArray o=some true:=by rfl) (hdn:cB s.c.n o.dst=true:=by rfl) (hf:cQ o=false:=by rfl):aK s ds all st k keep tr taken ps nx l H:=by
 rw [bD] at hr;exact aK.ofK ho hf hdn hgd (aDD ht hk hz hb hg hkey hop hx hy) hpi hr
theorem aK.rput (T:Tab P) {b e sz:Nat} {rows:List (List Value)} {i:Int} {off:Nat} {vals:List Value} (row:List Value) (hrow:rows[i.toNat]? = some row)
  (hr:yS H b (.own e sz (rows.set i.toNat (jX row off vals))) fun H=>gL H keep ps/\fJ l o.dst (.v undef) fun l=>bG s ds all st tr taken ps nx l H)
  (ho:all[k]? = some o:=by rfl) (hev:evO T l H nx o.op=.rput b e sz rows i off vals:=by rfl) (hgd:bT l all.toArray o=some true:=by rfl) (hdn:cB s.c.n o.dst=true:=by rfl) (hf:cQ o=false:=by rfl):aK s ds all st k keep tr taken ps nx l H:=by
 have hk:=aJW (P:=P) (n:=s.c.n) (F:=s.F) (h0:=s.h0) (nx:=nx) (l:=l) (H:=H) (o:=o) T o.op rfl;rw [hev] at hk;rw [jN,bD] at hr;exact aK.ofK ho hf hdn hgd (hk row hrow) hr.1 hr.2
end

section
variable {s:SCx P} {ds:List cY} {nx:Nat} {st:List SI} {l:SFr} {H:SH} {all:Array Oper} {rest:List Oper} {o:Oper}
theorem aA.isNil (T:Tab P) {k b sz:Nat} {rows:List (List Value)} (hr1:rows=[]->fJ l o.dst (.v (.bool true)) fun l=>aA s ds nx (.ops all rest::st) l H) (hr0:fJ l o.dst (.v (.bool false)) fun l=>aA s ds nx (.ops all rest::st) l H)
  (hx:oS l k=some (.buf b)) (hev:∀a n c,ev1 T [(k,.slice a n c)] o.op=.val (.bool a.isNone):=by exact fun a _ _=>by cases a<;>rfl) (hb:bX H b=some (.ro sz rows):=by rfl)
  (hgd:bT l all o=some true:=by rfl) (hdn:cB s.c.n o.dst=true:=by rfl) (hnd:dY o=true:=by rfl):aA s ds nx (.ops all (o::rest)::st) l H:=.mk fun E h hA S K=>by
 rw [bD] at hr1 hr0;obtain ⟨g1,g2,ad,cap,g3,g4⟩:=S.ok _ (bW hb);simp only at g3;have hl:look (gF E l) k=some (.slice ad rows.length cap):=by rw [fD hx];simp only [SV.g];rw [g3]
 have key:Eff P s.c.n (gF E l) h o (fun v h'=>v=.bool ad.isNone/\h'=h):=Eff.of_value fun a w ha hh=>by
  refine ⟨.bool ad.isNone,w,?_,dC.refl w,rfl,hh⟩;have:=yO T s.c.n [(k,.slice ad rows.length cap)] o.op a w o (ha.sub ⟨hl,trivial⟩) rfl;rw [hev] at this;exact this
 refine aD.eff key (fun v h' ⟨e1,e2⟩=>?_) (bK hgd) hdn hnd;subst e1 e2
 cases ad with
 |none=>
  have hn:rows=[]:=by
   rcases g4 with g4|⟨g,o,g4,_⟩
   ·exact g4
   cases g4
  have:=(hr1 hn).run E h' hA S K;rw [eP] at this;exact this
 |some _=>
  have:=hr0.run E h' hA S K;rw [eP] at this;exact this
theorem aA.build0 {t:TypeId} {parts:Array (Nat×Operand)} (hr:fJ l o.dst (.agg []) fun l=>aA s ds nx (.ops all rest::st) l H) (hop:o.op=.build t parts:=by rfl) (hp:qH l parts.toList=some []:=by rfl) (hb:P.built t []=some #[]:=by rfl)
  (hgd:bT l all o=some true:=by rfl) (hdn:cB s.c.n o.dst=true:=by rfl) (hnd:dY o=true:=by rfl):aA s ds nx (.ops all (o::rest)::st) l H:=by
 rw [bD] at hr;exact aA.effK (aCA (ps:=[]) (cs:=[]) hop hp (fun _ _ _=>hb)) (fun E=>bK hgd) hdn hnd hr
theorem aA.iface0 {t:TypeId} {x:Operand} {y:SV} {fs:Array Field} (hr:fJ l o.dst (.ifc t y) fun l=>aA s ds nx (.ops all rest::st) l H) (hu:P.underlying t=some (.struct fs)) (hop:o.op=.makeInterface t x:=by rfl) (hx:evS l x=some y:=by rfl)
  (hgd:bT l all o=some true:=by rfl) (hdn:cB s.c.n o.dst=true:=by rfl) (hnd:dY o=true:=by rfl):aA s ds nx (.ops all (o::rest)::st) l H:=by
 rw [bD] at hr;refine aA.effK (cJ.of_plain fun E h S K a w ha=>?_) (fun E=>bK hgd) hdn hnd hr;have h1:=ha.ev (bN (E:=E) hx)
 simp [execOp,hop,h1,Instr.makeInterface,SV.g,run_underlying hu]
theorem aA.mapEq {d:TypeDesc} {es es':List (Value×Value)} (b:Nat) (he:es=es') (hr:yS H b (.map d es') fun H=>aA s ds nx st l H) (hl:bX H b=some (.map d es):=by rfl):aA s ds nx st l H:=by
 subst he;rw [jN,aBT hl] at hr;exact hr
theorem aA.concM {G:Nat->Prop} (hG:∀i,G i->s.F i) (b:Nat) {d:TypeDesc} {es:List (Value×Value)}
  (hr:∀(r:Nat) (G':Nat->Prop) (h':Array Obj),Now s.F G s.h0 (fun i=>s.F i\/G' i) G' h'->nB G' h' (.map (some r)) d es ->
   uT b (.map (some r)) l fun l=>aHA H b fun H=>vQ b (.map (some r)) H fun H=>aA ⟨s.c,fun i=>s.F i\/G' i,h',s.E0,s.n0⟩ ds nx st l H)
  (hb:bX H b=some (.map d es):=by rfl) (hn:dV (rn []) H []=true:=by rfl) (hds:∀v,aET b v ds=ds:=by exact fun _=>rfl):aA s ds nx st l H:=.mk fun E h hA S K=>by
 have hmem:=bW hb;obtain ⟨r,g2,g3,g4⟩:=S.mapAt hb;have hbo:=S.ok _ hmem;have hlt:∀k,ownB (E b)=some k->k<h.size /\ ¬s.F k:=fun k hk=>Blk.lt hbo rfl hk
 have N:Now s.F G s.h0 (fun i=>s.F i\/(G i\/ownB (E b)=some i)) (fun i=>G i\/ownB (E b)=some i) h:=
  ⟨fun hf K'=>K.trans ⟨K'.size,fun i hi=>K'.same i (.inl hi),fun i hi=>K'.lt i (.inl hi)⟩,fun i hi=>.inl hi,fun i hi=>.inr hi,
   fun i hi=>hi.elim (fun hi=>Nat.lt_of_lt_of_le (K.lt i hi) K.size) (fun hi=>hi.elim (fun hi=>Nat.lt_of_lt_of_le (K.lt i (hG i hi)) K.size) (fun hi=>(hlt i hi).1)),
   fun i hi=>.inl hi,fun i hi=>hi.elim .inl (fun hi=>.inr (hlt i hi).2)⟩
 have R:nB (fun i=>G i\/ownB (E b)=some i) h (.map (some r)) d es:=⟨r,rfl,.inr (by rw [g2];rfl),g3⟩;have hr:=hr r _ h N R;rw [qQ,sT,rF] at hr;have hpush:push E b (.map (some r))=E:=by rw [<-g2];exact qP E b
 have S':Sat E (fun i=>s.F i\/(G i\/ownB (E b)=some i)) (xH b (.map (some r)) (aAA H b)) h:=by
  refine ⟨fun p hp=>?_,?_⟩
  ·rw [fN] at hp;obtain ⟨q,hq,rfl⟩:=List.mem_map.1 hp;have hq1:=(iE H b).subset hq;have hq2:=tI hq;refine bFY ?_;rw [hpush];refine Blk.more (S.ok q hq1) (fun i hi=>.inl hi) fun hw g hg hF=>?_;have h1:=(Blk.lt (S.ok q hq1) hw hg).2;rcases hF with hF|hF|hF
   ·exact h1 hF
   ·exact h1 (hG _ hF)
   exact rJ S.apart hq1 hmem hq2 hw rfl g hg hF
  rw [fN,List.pairwise_map];refine List.Pairwise.imp (fun {p q} hA=>?_) (S.apart.sublist (iE H b));intro hw1 hw2 g e1 e2;exact hA (by rw [<-mL b (.map (some r))];exact hw1) (by rw [<-mL b (.map (some r))];exact hw2) g e1 e2
 have:=hr.run E h hA S' ⟨Nat.le_refl _,fun _ _=>rfl,N.lt⟩;rw [wG,hpush] at this;exact this
end

theorem cV.at_conv {F F':Nat->Prop} {h0 h0':Array Obj} (conv:∀hf,Kp F' h0' hf->Kp F h0 hf) {E:Env} {h:Array Obj} {p:cV} (H:p.at F' h0' E h):p.at F h0 E h:=by
 cases p with
 |cell=>exact H
 |cells=>exact H
 |rws=>exact H
 |none=>exact conv _ H
theorem aPG.conv {F F':Nat->Prop} {h0 h0':Array Obj} (conv:∀hf,Kp F' h0' hf->Kp F h0 hf) {E:Env} {taken:List Nat} {ps:List (Nat×cV)} {G:tV} (R:aPG F h0 E taken ps G):aPG F' h0' E taken ps G:=
 ⟨fun q hq=>(R.full q hq).imp id fun ⟨h1,p,h2,h3⟩=>⟨h1,p,h2,fun w hw=>h3 w (cV.at_conv conv hw)⟩,R.tk⟩
section
variable {s:SCx P} {ds:List cY} {all:List Oper} {st:List SI} {t:Tr} {taken:List Nat} {ps:List (Nat×cV)} {nx kk:Nat} {keep:List Nat} {l:SFr} {H:SH} {o:Oper} {cl:Call} {x:Operand} {g:FuncId} {first captured vs:List SV}
theorem aK.ofB {k:Nat} (ho:all[k]? = some o) (hf:cQ o=false) (hdst:cB s.c.n o.dst=true)
  {V:Env->Array Obj->Value->Array Obj->Prop} {PN:Env->Array Obj->List PanicEntry->Array Obj->Prop} (hgd:bT l all.toArray o=some true)
  (hE:∀E h,Ag s.n0 s.E0 E->Sat E s.F H h->Kp s.F s.h0 h->xD P s.c.n (gF E l) h o (V E h) (PN E h))
  (hpan:∀E h,Ag s.n0 s.E0 E->Sat E s.F H h->Kp s.F s.h0 h -> ∀ch h',PN E h ch h'->Unw s.c (gD E ds) (.panicking ch) (aFZ (yB all) (gF E l)) h')
  (hr:∀E h,Ag s.n0 s.E0 E->Sat E s.F H h->Kp s.F s.h0 h -> ∀v h',V E h v h' -> ∃(F':Nat->Prop) (hb:Array Obj) (E':Env) (nx':Nat) (l':SFr) (H':SH),(∀hf,Kp F' hb hf->Kp s.F s.h0 hf)/\Ag nx E E'/\s.n0<=nx/\bFV nx ps=true/\gD E' ds=gD E ds/\gF E' l'=upd (gF E l) o.dst v/\Sat E' F' H' h'/\Kp F' hb h'/\gL H' keep ps/\bG ⟨s.c,F',hb,s.E0,s.n0⟩ ds all st t taken ps nx' l' H'):
  aK s ds all st k keep t taken ps nx l H:=by
 refine ⟨fun E h hA S K Q D hD hN hP G hG hk f listed hc a w ha hd hh hw=>?_⟩;have hfa:cN all.toArray k=false:=by
  have ho':all.toArray[k]? = some o:=by simpa using ho
  unfold cN;rw [ho'];exact hf
 refine ⟨hfa,?_⟩;have hwn:=bJ ha (bK hgd);have ho':all.toArray[k]? = some o:=by simpa using ho
 unfold wpOp;simp only [ho',hwn,if_true];refine .inl (hE E h hA S K a w ha hh _ _ (fun v w' hlk hV=>?_) fun ch w' hlk hPN=>hP (gF E l) ch w'.heap a w' (hD▸hpan E h hA S K ch _ hPN) ha hd rfl (hw.trans hlk));obtain ⟨F',hb,E',nx',l',H',conv,hag,hn,hbp,hgD,hgF,S',K',hpi,hrr⟩:=hr E h hA S K v _ hV;have hG':=(hG.ag hag hbp).conv conv
 refine ⟨fun q hq=>?_,hrr.run E' w'.heap (hA.trans (hag.mono hn)) S' K' Q D (hgD.trans hD) hN hP G hG' f _ hc (a.put o.dst v) w' (by rw [hgF];exact eG ha (fE hdst) v) (by cases o.dst<;>simpa [Act.put] using hd) rfl (hw.trans hlk)⟩;rcases hG'.full q hq with h1|⟨h1,p,h2,h3⟩
 ·exact .inr (h1 w')
 have:=List.all_eq_true.1 hk q.1 h1;simp only [Bool.or_eq_true,fT] at this;rcases this with h4|h4
 ·exact .inr (h3 w' (cV.at_of S' K' (kM hpi q.1 p h2 h4)))
 exact .inl (by simpa using h4)
theorem aK.callX {G:Nat->Prop} (hG:∀i,G i->s.F i) {k:Nat} {args:List SV} {W:SH} {Pre:(Nat->Prop)->Array Obj->Prop} {X:Type} {J:X->(Nat->Prop)->Array Obj->Prop} {out:X->eR} (C:FnX P g k args W Pre J out) (hpre:∀h,Up G s.h0 G h->Pre G h) (ren:List Nat)
  (hH:nE (bY ren) H W) (ha:SV.rens (bY ren) args=first++(vs++captured))
  (hr:∀y G' h',Now s.F G s.h0 (fun i=>s.F i\/G' i) G' h'->J y G' h'->wH ⟨s.c,fun i=>s.F i\/G' i,h',s.E0,s.n0⟩ ds all st t taken ps keep k nx ren (dN (fZ (bY ren) W) H) o.dst l (out y))
  (hlen:ren.length=k:=by rfl) (hren:bdN nx ren=true:=by rfl) (hfr:gQ s.n0 nx l H ds=true:=by rfl) (hn:dV (bY ren) W []=true:=by rfl) (hps:bFV nx ps=true:=by rfl)
  (ho:all[kk]? = some o:=by rfl) (hop:o.op=.call cl:=by rfl) (hcal:cl.callee=.value x:=by rfl) (hx:eM l x=some (g,first,captured):=by rfl) (hargs:gK l cl.args.toList=some vs:=by rfl)
  (hgd:bT l all.toArray o=some true:=by rfl) (hdn:cB s.c.n o.dst=true:=by rfl):aK s ds all st kk keep t taken ps nx l H:=by
 obtain ⟨f1,f2,f3,f4⟩:=dW hfr
 refine aK.ofB ho (pT hop hcal) hdn hgd (V:=fun E h v h'=>jP k (fun b=>E (bY ren b)) (iR s.F E (dN (fZ (bY ren) W) H)) G h J out (.returned v) h')
  (PN:=fun E h ch h'=>jP k (fun b=>E (bY ren b)) (iR s.F E (dN (fZ (bY ren) W) H)) G h J out (.panicked ch) h') ?_ ?_ ?_
 ·intro E h hA S K;have:=C.call (fun b=>E (bY ren b)) (iR s.F E (dN (fZ (bY ren) W) H)) G h (fun i hi=>.inl (hG i hi)) (fun i hi=>by
   rcases hi with hi|⟨q,hq,hw,hg⟩
   ·have:=K.lt i hi;have:=K.size;omega
   exact (Blk.lt (S.ok q ((dX _ _).subset hq)) hw hg).1) (hpre h ⟨fun _ x=>x,fun i hi=>K.same i (hG i hi)⟩) (S.hand (bY ren) hH hn)
  rw [<-SV.gs_ren,ha] at this;refine xD.callE (first:=(SV.gs E first).toArray) (captured:=(SV.gs E captured).toArray) (vs:=SV.gs E vs) (by rw [zF];exact this) ?_ hop hcal (kL hx) (kH hargs);rintro h' ⟨y,E',_,_,_,_,_,_,he⟩;cases ho:out y<;>rw [ho] at he<;>cases he
 ·rintro E h hA S K ch h' ⟨y,E',F',G',N,hJ,hA',S',he⟩;obtain ⟨E'',a1,a2,a3,a4,a5⟩:=S.takeBackX K hG hlen hren f3 hA' N S';have hr:=hr y G' h' a5 hJ
  cases ho:out y with
  |ret v n H'=>rw [ho] at he;cases he
  |pan ch' n H'=>
   rw [ho] at he hr a3;cases he;have:=hr.run E'' h' (hA.trans (a1.mono f1)) a3 a4;rw [jA a1 ds f4,aKL,iX a1 l f2] at this;exact this
 rintro E h hA S K v h' ⟨y,E',F',G',N,hJ,hA',S',he⟩;obtain ⟨E'',a1,a2,a3,a4,a5⟩:=S.takeBackX K hG hlen hren f3 hA' N S';have hr:=hr y G' h' a5 hJ
 cases ho:out y with
 |pan ch n H'=>rw [ho] at he;cases he
 |ret v' n H'=>
  rw [ho] at he hr a3;cases he;simp only [wH,bD] at hr;exact ⟨_,_,E'',_,_,_,a5.conv,a1,f1,hps,jA a1 ds f4,by rw [eP,iX a1 l f2,a2],a3,a4,hr.1,hr.2⟩
end

theorem aCW {α:Type}:∀l:List α,(l.map fun m=>[m]).flatten=l
 | []=>rfl
 |a::l=>congrArg (a :: ·) (aCW l)
theorem gs_toV' (E:Env) (vs:List Value):SV.gs E (vs.map SV.v)=vs:=by
 induction vs with
 |nil=>rfl
 |cons v vs ih=>simp only [List.map_cons,SV.gs,SV.g,ih]
section
variable {s:SCx P} {ds:List cY} {nx:Nat} {st:List SI} {l:SFr} {H:SH} {all:Array Oper} {rest:List Oper} {o:Oper}
theorem aA.concA {G:Nat->Prop} (hG:∀i,G i->s.F i) (b:Nat) {t:TypeId} {vs:List Value} {n:Nat} (h1:∀v∈vs,v.oneCell'=true)
  (hr:∀(g:Nat) (G':Nat->Prop) (h':Array Obj),Now s.F G s.h0 (fun i=>s.F i\/G' i) G' h'->RoF G' h' (.slice (some ⟨g,0,none⟩) n n) 1 (vs.map fun m=>[m]) ->
   uT b (.pointer (some ⟨g,0,none⟩)) l fun l=>aHA H b fun H=>vQ b (.pointer (some ⟨g,0,none⟩)) H fun H=>aA ⟨s.c,fun i=>s.F i\/G' i,h',s.E0,s.n0⟩ ds nx st l H)
  (hb:bX H b=some (.cells t (vs.map SV.v)):=by rfl) (hlen:vs.length=n:=by rfl) (hsm:n<=9223372036854775807:=by decide) (hn:dV (rn []) H []=true:=by rfl) (hds:∀v,aET b v ds=ds:=by exact fun _=>rfl):aA s ds nx st l H:=.mk fun E h hA S K=>by
 subst hlen;have hmem:=bW hb;have hbo:=S.ok _ hmem;have hlt:∀k,ownB (E b)=some k->k<h.size /\ ¬s.F k:=fun k hk=>Blk.lt hbo rfl hk;obtain ⟨g,g2,g3,g4⟩:=hbo
 have N:Now s.F G s.h0 (fun i=>s.F i\/(G i\/ownB (E b)=some i)) (fun i=>G i\/ownB (E b)=some i) h:=
  ⟨fun hf K'=>K.trans ⟨K'.size,fun i hi=>K'.same i (.inl hi),fun i hi=>K'.lt i (.inl hi)⟩,fun i hi=>.inl hi,fun i hi=>.inr hi,
   fun i hi=>hi.elim (fun hi=>Nat.lt_of_lt_of_le (K.lt i hi) K.size) (fun hi=>hi.elim (fun hi=>Nat.lt_of_lt_of_le (K.lt i (hG i hi)) K.size) (fun hi=>(hlt i hi).1)),
   fun i hi=>.inl hi,fun i hi=>hi.elim .inl (fun hi=>.inr (hlt i hi).2)⟩
 simp only at g2;have R:RoF (fun i=>G i\/ownB (E b)=some i) h (.slice (some ⟨g,0,none⟩) vs.length vs.length) 1 (vs.map fun m=>[m]):=by
  refine ⟨fun r hr=>?_,⟨by rw [List.length_map];exact hsm,Nat.le_refl _⟩,some ⟨g,0,none⟩,vs.length,by rw [List.length_map],.inr ⟨g,0,rfl,.inr (by rw [g2];rfl),fun j v hj=>?_⟩⟩
  ·obtain ⟨m,hm,rfl⟩:=List.mem_map.1 hr;exact ⟨rfl,fun u hu=>by rw [List.mem_singleton.1 hu];exact h1 m hm⟩
  rw [aCW] at hj;rw [At.cell g3,gs_toV',Nat.zero_add];rw [List.getElem?_toArray];exact hj
 have hr:=hr g _ h N R;rw [qQ,sT,rF] at hr;have hpush:push E b (.pointer (some ⟨g,0,none⟩))=E:=by rw [<-g2];exact qP E b
 have S':Sat E (fun i=>s.F i\/(G i\/ownB (E b)=some i)) (xH b (.pointer (some ⟨g,0,none⟩)) (aAA H b)) h:=by
  refine ⟨fun p hp=>?_,?_⟩
  ·rw [fN] at hp;obtain ⟨q,hq,rfl⟩:=List.mem_map.1 hp;have hq1:=(iE H b).subset hq;have hq2:=tI hq;refine bFY ?_;rw [hpush];refine Blk.more (S.ok q hq1) (fun i hi=>.inl hi) fun hw g hg hF=>?_;have h1:=(Blk.lt (S.ok q hq1) hw hg).2;rcases hF with hF|hF|hF
   ·exact h1 hF
   ·exact h1 (hG _ hF)
   exact rJ S.apart hq1 hmem hq2 hw rfl g hg hF
  rw [fN,List.pairwise_map];refine List.Pairwise.imp (fun {p q} hA=>?_) (S.apart.sublist (iE H b));intro hw1 hw2 g e1 e2;exact hA (by rw [<-mL b (.pointer (some ⟨_,0,none⟩))];exact hw1) (by rw [<-mL b (.pointer (some ⟨_,0,none⟩))];exact hw2) g e1 e2
 have:=hr.run E h hA S' ⟨Nat.le_refl _,fun _ _=>rfl,N.lt⟩;rw [wG,hpush] at this;exact this
theorem aA.sliceArr {t e sz:Nat} {x:Operand} {g n:Nat} (hr:fJ l o.dst (.v (.slice (some ⟨g,0,none⟩) n n)) fun l=>aA s ds nx (.ops all rest::st) l H) (hu:P.underlying t=some (.array n e)) (hs:(P.info? e).map (·.size)=some sz) (hpos:n≠0)
  (hop:o.op=.slice t x none none none:=by rfl) (hx:evS l x=some (.v (.pointer (some ⟨g,0,none⟩))):=by rfl)
  (hgd:bT l all o=some true:=by rfl) (hdn:cB s.c.n o.dst=true:=by rfl) (hnd:dY o=true:=by rfl):aA s ds nx (.ops all (o::rest)::st) l H:=by
 rw [bD] at hr;refine aA.effK (cJ.of_plain fun E h S K b w ha=>?_) (fun E=>bK hgd) hdn hnd hr;have h1:=ha.ev (bN (E:=E) hx);simp only [SV.g] at h1
 simp [execOp,hop,h1,Instr.sliceAt,run_underlying hu,Instr.sureAddr,Instr.sliceBounds,eQ hs,hpos,SV.g,fS]
end


section
variable {cc:Ctx P} {F:Nat->Prop} {h0:Array Obj} {E0:Env} {n0:Nat} {ds:List cY} {nx:Nat} {st:List SI} {l:SFr} {H:SH}
theorem aA.concY {G:Nat->Prop} (hG:∀i,G i->F i) (b:Nat) {e sz:Nat} {rows:List (List Value)} {n:Nat}
  (hr:∀(F':Nat->Prop) (a:Option Addr) (c:Nat) (G':Nat->Prop) (h':Array Obj),Now F G h0 F' G' h'->RoF G' h' (.slice a n c) sz rows ->
   uT b (.slice a n c) l fun l=>aHA H b fun H=>vQ b (.slice a n c) H fun H=>aA ⟨cc,F',h',E0,n0⟩ ds nx st l H)
  (hb:bX H b=some (.own e sz rows):=by rfl) (hlen:rows.length=n:=by rfl) (hn:dV (rn []) H []=true:=by rfl) (hds:∀v,aET b v ds=ds:=by exact fun _=>rfl):aA ⟨cc,F,h0,E0,n0⟩ ds nx st l H:=
 aA.conc hG b (fun a c G' h' N R=>hr _ a c G' h' N R) hb hlen hn hds
variable {all:Array Oper} {rest:List Oper} {o:Oper} {cl:Call} {x:Operand} {g:FuncId} {first captured vs:List SV}
theorem aA.callY {G:Nat->Prop} (hG:∀i,G i->F i) {k:Nat} {args:List SV} {W:SH} {Pre:(Nat->Prop)->Array Obj->Prop} {X:Type} {J:X->(Nat->Prop)->Array Obj->Prop} {out:X->eR} (C:FnX P g k args W Pre J out) (hpre:∀h,Up G h0 G h->Pre G h) (ren:List Nat)
  (hH:nE (bY ren) H W) (ha:SV.rens (bY ren) args=first++(vs++captured))
  (hr:∀F' y G' h',Now F G h0 F' G' h'->J y G' h'->yQ ⟨cc,F',h',E0,n0⟩ ds k nx ren (dN (fZ (bY ren) W) H) o.dst l (.ops all rest::st) (out y))
  (hlen:ren.length=k:=by rfl) (hren:bdN nx ren=true:=by rfl) (hfr:gQ n0 nx l H ds=true:=by rfl) (hn:dV (bY ren) W []=true:=by rfl)
  (hop:o.op=.call cl:=by rfl) (hcal:cl.callee=.value x:=by rfl) (hx:eM l x=some (g,first,captured):=by rfl) (hargs:gK l cl.args.toList=some vs:=by rfl)
  (hgd:bT l all o=some true:=by rfl) (hdn:cB cc.n o.dst=true:=by rfl):aA ⟨cc,F,h0,E0,n0⟩ ds nx (.ops all (o::rest)::st) l H:=
 aA.callX hG C hpre ren hH ha (fun y G' h' N J=>hr _ y G' h' N J) hlen hren hfr hn hop hcal hx hargs hgd hdn
end

section
variable {cc:Ctx P} {F:Nat->Prop} {h0:Array Obj} {E0:Env} {n0:Nat}
theorem aWC {G:Nat->Prop} (hG:∀i,G i->F i) {b e sz n:Nat} {rows:List (List Value)} {E:Env} {H:SH} {h:Array Obj} (S:Sat E F H h) (K:Kp F h0 h) (hb:bX H b=some (.own e sz rows)) (hlen:rows.length=n):
  ∃(a:Option Addr) (c:Nat) (G':Nat->Prop),E b=.slice a n c/\Now F G h0 (fun i=>F i\/G' i) G' h/\RoF G' h (.slice a n c) sz rows/\Sat E (fun i=>F i\/G' i) (xH b (.slice a n c) (aAA H b)) h:=by
 subst hlen;have hmem:=bW hb;have hrow:rowsAt H b=some (sz,rows):=by unfold rowsAt;rw [hb]
 have hbo:=S.ok _ hmem;have hlt:∀k,ownB (E b)=some k->k<h.size /\ ¬F k:=fun k hk=>Blk.lt hbo rfl hk;obtain ⟨g1,a,c,g2,g3⟩:=S.rowsAt hrow
 have N:Now F G h0 (fun i=>F i\/(G i\/ownB (E b)=some i)) (fun i=>G i\/ownB (E b)=some i) h:=
  ⟨fun hf K'=>K.trans ⟨K'.size,fun i hi=>K'.same i (.inl hi),fun i hi=>K'.lt i (.inl hi)⟩,fun i hi=>.inl hi,fun i hi=>.inr hi,
   fun i hi=>hi.elim (fun hi=>Nat.lt_of_lt_of_le (K.lt i hi) K.size) (fun hi=>hi.elim (fun hi=>Nat.lt_of_lt_of_le (K.lt i (hG i hi)) K.size) (fun hi=>(hlt i hi).1)),
   fun i hi=>.inl hi,fun i hi=>hi.elim .inl (fun hi=>.inr (hlt i hi).2)⟩
 refine ⟨a,c,_,g2,N,?_,?_⟩
 ·refine ⟨g1,⟨S.rowsLen hrow,?_⟩,a,c,rfl,g3.imp id fun ⟨g,o,e1,e2⟩=>⟨g,o,e1,.inr ?_,e2⟩⟩
  ·have:=S.rowsCap hrow;rw [g2] at this;exact this
  show ownB (E b)=some g;rw [g2,e1];rfl
 have hpush:push E b (.slice a rows.length c)=E:=by rw [<-g2];exact qP E b
 refine ⟨fun p hp=>?_,?_⟩
 ·rw [fN] at hp;obtain ⟨q,hq,rfl⟩:=List.mem_map.1 hp;have hq1:=(iE H b).subset hq;have hq2:=tI hq;refine bFY ?_;rw [hpush];refine Blk.more (S.ok q hq1) (fun i hi=>.inl hi) fun hw g hg hF=>?_;have h1:=(Blk.lt (S.ok q hq1) hw hg).2;rcases hF with hF|hF|hF
  ·exact h1 hF
  ·exact h1 (hG _ hF)
  exact rJ S.apart hq1 hmem hq2 hw rfl g hg hF
 rw [fN,List.pairwise_map];refine List.Pairwise.imp (fun {p q} hA=>?_) (S.apart.sublist (iE H b));intro hw1 hw2 g e1 e2;exact hA (by rw [<-mL b (.slice a rows.length c)];exact hw1) (by rw [<-mL b (.slice a rows.length c)];exact hw2) g e1 e2
variable {ds:List cY} {all:List Oper} {st:List SI} {t:Tr} {taken:List Nat} {ps:List (Nat×cV)} {nx k:Nat} {keep:List Nat} {l:SFr} {H:SH}
end

theorem xD.panic {n:Nat} {l:Fr} {h:Array Obj} {o:Oper} {x:Operand} {t:TypeId} {v:Value} (hop:o.op=.panic x) (hx:ev l x=some (.iface t v)):
  xD P n l h o (fun _ _=>False) (fun ch h'=>ch=[{v:=.iface t v,recovered:=false}]/\h'=h):=by
 intro a w ha hh next Q hn hp
 have hrun:(execOp a.eval o).run P w=.halt (.panic (.iface t v)) w:=by
  have e:(Instr.panic (.iface t v)).run P w=.halt (.panic (.iface t v)) w:=rfl
  simp [execOp,hop,ha.ev hx,e]
 unfold Oper.wp;rw [hrun];exact hp _ w (dC.refl w) ⟨rfl,hh⟩
section
variable {s:SCx P} {ds:List cY} {all:List Oper} {st:List SI} {t:Tr} {taken:List Nat} {ps:List (Nat×cV)} {nx kk:Nat} {keep:List Nat} {l:SFr} {H:SH} {o:Oper} {x:Operand}
theorem aK.panicX {ti:TypeId} {y:SV} {v:Value} (hr:aB s ds (.panicking [{v:=.iface ti v,recovered:=false}]) nx (aOC (yB all) l) H) (hy:∀E,y.g E=v)
  (ho:all[kk]? = some o:=by rfl) (hf:cQ o=false:=by rfl) (hop:o.op=.panic x:=by rfl) (hx:evS l x=some (.ifc ti y):=by rfl) (hgd:bT l all.toArray o=some true:=by rfl) (hdn:cB s.c.n o.dst=true:=by rfl):aK s ds all st kk keep t taken ps nx l H:=
 aK.of ho hf hdn (V:=fun _ _ _ _=>False) (PN:=fun _ h ch h'=>ch=[{v:=.iface ti v,recovered:=false}]/\h'=h) hgd
  (fun E h _ _ _=>xD.panic hop (by rw [bN hx,SV.g,hy]))
  (fun E h hA S K ch h' ⟨e1,e2⟩=>by
   subst e1;subst e2;have:=hr.run E h' hA S K
   rwa [aKL] at this)
  (fun _ _ _ _ _ _ _ hv=>hv.elim)
end

section
variable {cc:Ctx P} {F:Nat->Prop} {h0:Array Obj} {E0:Env} {n0:Nat}
variable {ds:List cY} {all:List Oper} {st:List SI} {t:Tr} {taken:List Nat} {ps:List (Nat×cV)} {nx:Nat} {l:SFr} {H:SH}
theorem bG.concY {G:Nat->Prop} (hG:∀i,G i->F i) (b:Nat) {e sz:Nat} {rows:List (List Value)} {n:Nat}
  (hr:∀(F':Nat->Prop) (a:Option Addr) (c:Nat) (G':Nat->Prop) (h':Array Obj),Now F G h0 F' G' h'->RoF G' h' (.slice a n c) sz rows ->
   uT b (.slice a n c) l fun l=>aHA H b fun H=>vQ b (.slice a n c) H fun H=>bG ⟨cc,F',h',E0,n0⟩ ds all st t taken ps nx l H)
  (hb:bX H b=some (.own e sz rows):=by rfl) (hlen:rows.length=n:=by rfl):bG ⟨cc,F,h0,E0,n0⟩ ds all st t taken ps nx l H:=by
 refine ⟨fun E h hA S K Q D hD hN hP Gp hGp f listed hc a w ha hd hh hw=>?_⟩;obtain ⟨a1,c,G',e1,N,R,S'⟩:=aWC hG S K hb hlen;have hr:=hr _ a1 c G' h N R;rw [qQ,sT,rF] at hr;have hpush:push E b (.slice a1 n c)=E:=by rw [<-e1];exact qP E b
 exact hr.run E h hA S' ⟨Nat.le_refl _,fun _ _=>rfl,N.lt⟩ Q D hD hN hP Gp (hGp.conv N.conv) f listed hc a w (by rw [wG,hpush];exact ha) hd hh hw
end


end Go.Fw

namespace Go.Proofs.YthjedpdedjhndaaGreatDoor
open Go Go.Fw
def tabU:List (Nat×UD):=[(1,.func),
(2,.int .i64),
(3,.int .i64),
(4,.bool),
(5,.int .u8),
(6,.int .u8),
(7,.struct [(0,1,false),(1,1,false),(2,1,false),(3,1,false)]),
(8,.struct [(0,1,false),(1,1,false),(2,1,false),(3,1,false)]),
(9,.str),
(10,.str),
(11,.str),
(12,.int .u64),
(13,.struct [(0,1,false),(1,1,false)]),
(14,.struct [(0,1,false),(1,1,false)]),
(15,.ptr),
(16,.ptr),
(17,.ptr),
(18,.struct [(0,1,false)]),
(19,.struct [(0,1,false)]),
(20,.iface),
(21,.int .i32),
(22,.slice 100 8),
(23,.slice 85 6),
(24,.slice 9 1),
(25,.slice 136 4),
(26,.slice 102 2),
(27,.slice 45 1),
(28,.slice 49 17),
(29,.slice 142 4),
(30,.struct [(0,1,false),(1,1,false),(2,1,false),(3,1,false),(4,1,false),(5,1,false),(6,1,false),(7,1,false)]),
(31,.struct [(0,1,false),(1,1,false),(2,1,false),(3,1,false),(4,1,false),(5,1,false),(6,1,false),(7,1,false)]),
(32,.func),
(33,.func),
(34,.struct [(0,1,false),(1,1,false),(2,1,false)]),
(35,.struct [(0,1,false),(1,1,false),(2,1,false)]),
(36,.int .i64),
(38,.func),
(39,.func),
(41,.func),
(42,.func),
(45,.slice 191 4),
(46,.slice 55 7),
(47,.slice 272 3),
(48,.struct [(0,1,false),(1,1,false),(2,1,false),(3,1,false),(4,1,false),(5,1,false),(6,1,false),(7,1,false),(8,1,false),(9,1,false),(10,1,false),(11,1,false),(12,1,false),(13,1,false),(14,1,false),(15,1,false),(16,1,false)]),
(49,.struct [(0,1,false),(1,1,false),(2,1,false),(3,1,false),(4,1,false),(5,1,false),(6,1,false),(7,1,false),(8,1,false),(9,1,false),(10,1,false),(11,1,false),(12,1,false),(13,1,false),(14,1,false),(15,1,false),(16,1,false)]),
(50,.slice 46 1),
(53,.func),
(55,.struct [(0,1,false),(1,1,false),(2,1,false),(3,1,false),(4,1,false),(5,1,false),(6,1,false)]),
(56,.func),
(58,.func),
(59,.ptr),
(63,.func),
(68,.func),
(71,.func),
(72,.func),
(75,.struct [(0,3,true),(3,1,false)]),
(77,.func),
(78,.func),
(82,.struct [(0,1,false),(1,1,false),(2,1,false)]),
(85,.struct [(0,1,false),(1,1,false),(2,1,false),(3,1,false),(4,1,false),(5,1,false)]),
(87,.func),
(89,.func),
(90,.func),
(92,.ptr),
(93,.struct [(0,8,true),(8,1,false)]),
(94,.struct [(0,8,true),(8,1,false)]),
(100,.struct [(0,1,false),(1,1,false),(2,1,false),(3,1,false),(4,1,false),(5,3,true)]),
(102,.struct [(0,1,false),(1,1,false)]),
(104,.struct [(0,1,false)]),
(106,.slice 35 3),
(110,.func),
(114,.struct [(0,1,false)]),
(124,.func),
(125,.map),
(131,.func),
(132,.array 2 3 1),
(133,.array 10 132 2),
(136,.struct [(0,1,false),(1,1,false),(2,1,false),(3,1,false)]),
(142,.struct [(0,1,false),(1,1,false),(2,1,false),(3,1,false)]),
(143,.func),
(144,.slice 158 4),
(148,.struct [(0,1,false),(1,1,false)]),
(150,.ptr),
(152,.struct [(0,1,false),(1,1,false),(2,1,false),(3,8,true)]),
(153,.map),
(155,.func),
(158,.struct [(0,1,false),(1,1,false),(2,1,false),(3,1,false)]),
(160,.map),
(161,.slice 160 1),
(163,.struct [(0,1,false),(1,1,false),(2,1,false),(3,1,false),(4,1,false),(5,1,false)]),
(173,.int .u64),
(174,.slice 173 1),
(186,.func),
(187,.func),
(190,.struct [(0,1,false),(1,1,false),(2,1,false),(3,1,false)]),
(191,.struct [(0,1,false),(1,1,false),(2,1,false),(3,1,false)]),
(193,.func),
(194,.func),
(197,.func),
(198,.int .i64),
(200,.ptr),
(201,.array 256 3 1),
(202,.func),
(203,.func),
(204,.array 5 203 1),
(206,.struct [(0,1,false),(1,1,false),(2,256,true),(258,5,true),(263,1,false)]),
(208,.ptr),
(209,.func),
(212,.ptr),
(213,.func),
(216,.ptr),
(217,.func),
(232,.ptr),
(233,.func),
(237,.func),
(239,.array 5 4 1),
(242,.func),
(244,.func),
(246,.func),
(248,.func),
(250,.func),
(252,.slice 4 1),
(254,.ptr),
(256,.func),
(259,.ptr),
(260,.func),
(262,.ptr),
(263,.func),
(265,.ptr),
(267,.func),
(268,.func),
(272,.struct [(0,1,false),(1,1,false),(2,1,false)]),
(273,.ptr),
(274,.func),
(276,.ptr),
(277,.func),
(282,.slice 3 1),
(283,.func),
(288,.slice 5 1),
(296,.func),
(297,.func),
(299,.int .u64),
(305,.func),
(307,.func),
(308,.array 4 5 1),
(318,.func),
(321,.func),
(324,.func),
(334,.ptr),
(335,.func),
(338,.ptr),
(339,.func),
(348,.iface),
(349,.func),
(353,.ptr),
(355,.ptr),
(356,.array 64 5 1)]
theorem tabU_ok:AllU Tryz.prog tabU:=aTN (by kernel_rfl)
def tabI:List (Nat×Inf):=[(1,⟨.nilFunc,1,8⟩),
(2,⟨.int .i64 0,1,8⟩),
(3,⟨.int .i64 0,1,8⟩),
(4,⟨.bool false,1,1⟩),
(5,⟨.int .u8 0,1,1⟩),
(6,⟨.int .u8 0,1,1⟩),
(7,⟨.agg #[.int .i64 0,.int .i64 0,.bool false,.int .u8 0],4,24⟩),
(8,⟨.agg #[.int .i64 0,.int .i64 0,.bool false,.int .u8 0],4,24⟩),
(9,⟨.string ⟨#[]⟩,1,16⟩),
(10,⟨.string ⟨#[]⟩,1,16⟩),
(11,⟨.string ⟨#[]⟩,1,16⟩),
(12,⟨.int .u64 0,1,8⟩),
(13,⟨.agg #[.string ⟨#[]⟩,.int .u64 0],2,24⟩),
(14,⟨.agg #[.string ⟨#[]⟩,.int .u64 0],2,24⟩),
(15,⟨.pointer none,1,8⟩),
(16,⟨.pointer none,1,8⟩),
(17,⟨.pointer none,1,8⟩),
(18,⟨.agg #[.pointer none],1,8⟩),
(19,⟨.agg #[.pointer none],1,8⟩),
(20,⟨.nilIface,1,16⟩),
(21,⟨.int .i32 0,1,4⟩),
(22,⟨.slice none 0 0,1,24⟩),
(23,⟨.slice none 0 0,1,24⟩),
(24,⟨.slice none 0 0,1,24⟩),
(25,⟨.slice none 0 0,1,24⟩),
(26,⟨.slice none 0 0,1,24⟩),
(27,⟨.slice none 0 0,1,24⟩),
(28,⟨.slice none 0 0,1,24⟩),
(29,⟨.slice none 0 0,1,24⟩),
(30,⟨.agg #[.slice none 0 0,.slice none 0 0,.slice none 0 0,.slice none 0 0,.slice none 0 0,.slice none 0 0,.slice none 0 0,.slice none 0 0],8,192⟩),
(31,⟨.agg #[.slice none 0 0,.slice none 0 0,.slice none 0 0,.slice none 0 0,.slice none 0 0,.slice none 0 0,.slice none 0 0,.slice none 0 0],8,192⟩),
(32,⟨.nilFunc,1,8⟩),
(33,⟨.nilFunc,1,8⟩),
(34,⟨.agg #[.bool false,.string ⟨#[]⟩,.string ⟨#[]⟩],3,40⟩),
(35,⟨.agg #[.bool false,.string ⟨#[]⟩,.string ⟨#[]⟩],3,40⟩),
(36,⟨.int .i64 0,1,8⟩),
(38,⟨.nilFunc,1,8⟩),
(39,⟨.nilFunc,1,8⟩),
(41,⟨.nilFunc,1,8⟩),
(42,⟨.nilFunc,1,8⟩),
(45,⟨.slice none 0 0,1,24⟩),
(46,⟨.slice none 0 0,1,24⟩),
(47,⟨.slice none 0 0,1,24⟩),
(48,⟨.agg #[.string ⟨#[]⟩,.string ⟨#[]⟩,.int .i64 0,.int .i64 0,.slice none 0 0,.slice none 0 0,.slice none 0 0,.int .i64 0,.int .i64 0,.int .i64 0,.int .i64 0,.int .i64 0,.int .i64 0,.int .i64 0,.slice none 0 0,.int .i64 0,.int .i64 0],17,216⟩),
(49,⟨.agg #[.string ⟨#[]⟩,.string ⟨#[]⟩,.int .i64 0,.int .i64 0,.slice none 0 0,.slice none 0 0,.slice none 0 0,.int .i64 0,.int .i64 0,.int .i64 0,.int .i64 0,.int .i64 0,.int .i64 0,.int .i64 0,.slice none 0 0,.int .i64 0,.int .i64 0],17,216⟩),
(50,⟨.slice none 0 0,1,24⟩),
(53,⟨.nilFunc,1,8⟩),
(55,⟨.agg #[.int .i64 0,.int .i64 0,.string ⟨#[]⟩,.string ⟨#[]⟩,.bool false,.int .i64 0,.int .i64 0],7,72⟩),
(56,⟨.nilFunc,1,8⟩),
(58,⟨.nilFunc,1,8⟩),
(59,⟨.pointer none,1,8⟩),
(63,⟨.nilFunc,1,8⟩),
(68,⟨.nilFunc,1,8⟩),
(71,⟨.nilFunc,1,8⟩),
(72,⟨.nilFunc,1,8⟩),
(75,⟨.agg #[.bool false,.string ⟨#[]⟩,.string ⟨#[]⟩,.bool false],4,48⟩),
(77,⟨.nilFunc,1,8⟩),
(78,⟨.nilFunc,1,8⟩),
(82,⟨.agg #[.bool false,.string ⟨#[]⟩,.string ⟨#[]⟩],3,40⟩),
(85,⟨.agg #[.string ⟨#[]⟩,.string ⟨#[]⟩,.int .i64 0,.int .i64 0,.int .i64 0,.int .i64 0],6,64⟩),
(87,⟨.nilFunc,1,8⟩),
(89,⟨.nilFunc,1,8⟩),
(90,⟨.nilFunc,1,8⟩),
(92,⟨.pointer none,1,8⟩),
(93,⟨.agg #[.slice none 0 0,.slice none 0 0,.slice none 0 0,.slice none 0 0,.slice none 0 0,.slice none 0 0,.slice none 0 0,.slice none 0 0,.bool false],9,200⟩),
(94,⟨.agg #[.slice none 0 0,.slice none 0 0,.slice none 0 0,.slice none 0 0,.slice none 0 0,.slice none 0 0,.slice none 0 0,.slice none 0 0,.bool false],9,200⟩),
(100,⟨.agg #[.string ⟨#[]⟩,.string ⟨#[]⟩,.int .i64 0,.int .i64 0,.int .i64 0,.bool false,.string ⟨#[]⟩,.string ⟨#[]⟩],8,96⟩),
(102,⟨.agg #[.string ⟨#[]⟩,.slice none 0 0],2,40⟩),
(104,⟨.agg #[.int .i64 0],1,8⟩),
(106,⟨.slice none 0 0,1,24⟩),
(110,⟨.nilFunc,1,8⟩),
(114,⟨.agg #[.int .i64 0],1,8⟩),
(124,⟨.nilFunc,1,8⟩),
(125,⟨.map none,1,8⟩),
(131,⟨.nilFunc,1,8⟩),
(132,⟨.agg #[.int .i64 0,.int .i64 0],2,16⟩),
(133,⟨.agg #[.int .i64 0,.int .i64 0,.int .i64 0,.int .i64 0,.int .i64 0,.int .i64 0,.int .i64 0,.int .i64 0,.int .i64 0,.int .i64 0,.int .i64 0,.int .i64 0,.int .i64 0,.int .i64 0,.int .i64 0,.int .i64 0,.int .i64 0,.int .i64 0,.int .i64 0,.int .i64 0],20,160⟩),
(136,⟨.agg #[.string ⟨#[]⟩,.string ⟨#[]⟩,.int .i64 0,.int .i64 0],4,48⟩),
(142,⟨.agg #[.string ⟨#[]⟩,.string ⟨#[]⟩,.int .i64 0,.int .i64 0],4,48⟩),
(143,⟨.nilFunc,1,8⟩),
(144,⟨.slice none 0 0,1,24⟩),
(148,⟨.agg #[.int .i64 0,.int .i64 0],2,16⟩),
(150,⟨.pointer none,1,8⟩),
(152,⟨.agg #[.string ⟨#[]⟩,.slice none 0 0,.int .i64 0,.slice none 0 0,.slice none 0 0,.slice none 0 0,.slice none 0 0,.slice none 0 0,.slice none 0 0,.slice none 0 0,.slice none 0 0],11,240⟩),
(153,⟨.map none,1,8⟩),
(155,⟨.nilFunc,1,8⟩),
(158,⟨.agg #[.int .i64 0,.int .i64 0,.string ⟨#[]⟩,.int .i64 0],4,40⟩),
(160,⟨.map none,1,8⟩),
(161,⟨.slice none 0 0,1,24⟩),
(163,⟨.agg #[.map none,.map none,.map none,.map none,.map none,.slice none 0 0],6,64⟩),
(173,⟨.int .u64 0,1,8⟩),
(174,⟨.slice none 0 0,1,24⟩),
(186,⟨.nilFunc,1,8⟩),
(187,⟨.nilFunc,1,8⟩),
(190,⟨.agg #[.string ⟨#[]⟩,.string ⟨#[]⟩,.int .i64 0,.int .i64 0],4,48⟩),
(191,⟨.agg #[.string ⟨#[]⟩,.string ⟨#[]⟩,.int .i64 0,.int .i64 0],4,48⟩),
(193,⟨.nilFunc,1,8⟩),
(194,⟨.nilFunc,1,8⟩),
(197,⟨.nilFunc,1,8⟩),
(198,⟨.int .i64 0,1,8⟩),
(200,⟨.pointer none,1,8⟩),
(201,⟨.agg #[.int .i64 0,.int .i64 0,.int .i64 0,.int .i64 0,.int .i64 0,.int .i64 0,.int .i64 0,.int .i64 0,.int .i64 0,.int .i64 0,.int .i64 0,.int .i64 0,.int .i64 0,.int .i64 0,.int .i64 0,.int .i64 0,.int .i64 0,.int .i64 0,.int .i64 0,.int .i64 0,.int .i64 0,.int .i64 0,.int .i64 0,.int .i64 0,.int .i64 0,.int .i64 0,.int .i64 0,.int .i64 0,.int .i64 0,.int .i64 0,.int .i64 0,.int .i64 0,.int .i64 0,.int .i64 0,.int .i64 0,.int .i64 0,.int .i64 0,.int .i64 0,.int .i64 0,.int .i64 0,.int .i64 0,.int .i64 0,.int .i64 0,.int .i64 0,.int .i64 0,.int .i64 0,.int .i64 0,.int .i64 0,.int .i64 0,.int .i64 0,.int .i64 0,.int .i64 0,.int .i64 0,.int .i64 0,.int .i64 0,.int .i64 0,.int .i64 0,.int .i64 0,.int .i64 0,.int .i64 0,.int .i64 0,.int .i64 0,.int .i64 0,.int .i64 0,.int .i64 0,.int .i64 0,.int .i64 0,.int .i64 0,.int .i64 0,.int .i64 0,.int .i64 0,.int .i64 0,.int .i64 0,.int .i64 0,.int .i64 0,.int .i64 0,.int .i64 0,.int .i64 0,.int .i64 0,.int .i64 0,.int .i64 0,.int .i64 0,.int .i64 0,.int .i64 0,.int .i64 0,.int .i64 0,.int .i64 0,.int .i64 0,.int .i64 0,.int .i64 0,.int .i64 0,.int .i64 0,.int .i64 0,.int .i64 0,.int .i64 0,.int .i64 0,.int .i64 0,.int .i64 0,.int .i64 0,.int .i64 0,.int .i64 0,.int .i64 0,.int .i64 0,.int .i64 0,.int .i64 0,.int .i64 0,.int .i64 0,.int .i64 0,.int .i64 0,.int .i64 0,.int .i64 0,.int .i64 0,.int .i64 0,.int .i64 0,.int .i64 0,.int .i64 0,.int .i64 0,.int .i64 0,.int .i64 0,.int .i64 0,.int .i64 0,.int .i64 0,.int .i64 0,.int .i64 0,.int .i64 0,.int .i64 0,.int .i64 0,.int .i64 0,.int .i64 0,.int .i64 0,.int .i64 0,.int .i64 0,.int .i64 0,.int .i64 0,.int .i64 0,.int .i64 0,.int .i64 0,.int .i64 0,.int .i64 0,.int .i64 0,.int .i64 0,.int .i64 0,.int .i64 0,.int .i64 0,.int .i64 0,.int .i64 0,.int .i64 0,.int .i64 0,.int .i64 0,.int .i64 0,.int .i64 0,.int .i64 0,.int .i64 0,.int .i64 0,.int .i64 0,.int .i64 0,.int .i64 0,.int .i64 0,.int .i64 0,.int .i64 0,.int .i64 0,.int .i64 0,.int .i64 0,.int .i64 0,.int .i64 0,.int .i64 0,.int .i64 0,.int .i64 0,.int .i64 0,.int .i64 0,.int .i64 0,.int .i64 0,.int .i64 0,.int .i64 0,.int .i64 0,.int .i64 0,.int .i64 0,.int .i64 0,.int .i64 0,.int .i64 0,.int .i64 0,.int .i64 0,.int .i64 0,.int .i64 0,.int .i64 0,.int .i64 0,.int .i64 0,.int .i64 0,.int .i64 0,.int .i64 0,.int .i64 0,.int .i64 0,.int .i64 0,.int .i64 0,.int .i64 0,.int .i64 0,.int .i64 0,.int .i64 0,.int .i64 0,.int .i64 0,.int .i64 0,.int .i64 0,.int .i64 0,.int .i64 0,.int .i64 0,.int .i64 0,.int .i64 0,.int .i64 0,.int .i64 0,.int .i64 0,.int .i64 0,.int .i64 0,.int .i64 0,.int .i64 0,.int .i64 0,.int .i64 0,.int .i64 0,.int .i64 0,.int .i64 0,.int .i64 0,.int .i64 0,.int .i64 0,.int .i64 0,.int .i64 0,.int .i64 0,.int .i64 0,.int .i64 0,.int .i64 0,.int .i64 0,.int .i64 0,.int .i64 0,.int .i64 0,.int .i64 0,.int .i64 0,.int .i64 0,.int .i64 0,.int .i64 0,.int .i64 0,.int .i64 0,.int .i64 0,.int .i64 0,.int .i64 0,.int .i64 0,.int .i64 0,.int .i64 0,.int .i64 0,.int .i64 0,.int .i64 0,.int .i64 0,.int .i64 0,.int .i64 0,.int .i64 0,.int .i64 0,.int .i64 0,.int .i64 0,.int .i64 0],256,2048⟩),
(202,⟨.nilFunc,1,8⟩),
(203,⟨.nilFunc,1,8⟩),
(204,⟨.agg #[.nilFunc,.nilFunc,.nilFunc,.nilFunc,.nilFunc],5,40⟩),
(206,⟨.agg #[.string ⟨#[]⟩,.int .i64 0,.int .i64 0,.int .i64 0,.int .i64 0,.int .i64 0,.int .i64 0,.int .i64 0,.int .i64 0,.int .i64 0,.int .i64 0,.int .i64 0,.int .i64 0,.int .i64 0,.int .i64 0,.int .i64 0,.int .i64 0,.int .i64 0,.int .i64 0,.int .i64 0,.int .i64 0,.int .i64 0,.int .i64 0,.int .i64 0,.int .i64 0,.int .i64 0,.int .i64 0,.int .i64 0,.int .i64 0,.int .i64 0,.int .i64 0,.int .i64 0,.int .i64 0,.int .i64 0,.int .i64 0,.int .i64 0,.int .i64 0,.int .i64 0,.int .i64 0,.int .i64 0,.int .i64 0,.int .i64 0,.int .i64 0,.int .i64 0,.int .i64 0,.int .i64 0,.int .i64 0,.int .i64 0,.int .i64 0,.int .i64 0,.int .i64 0,.int .i64 0,.int .i64 0,.int .i64 0,.int .i64 0,.int .i64 0,.int .i64 0,.int .i64 0,.int .i64 0,.int .i64 0,.int .i64 0,.int .i64 0,.int .i64 0,.int .i64 0,.int .i64 0,.int .i64 0,.int .i64 0,.int .i64 0,.int .i64 0,.int .i64 0,.int .i64 0,.int .i64 0,.int .i64 0,.int .i64 0,.int .i64 0,.int .i64 0,.int .i64 0,.int .i64 0,.int .i64 0,.int .i64 0,.int .i64 0,.int .i64 0,.int .i64 0,.int .i64 0,.int .i64 0,.int .i64 0,.int .i64 0,.int .i64 0,.int .i64 0,.int .i64 0,.int .i64 0,.int .i64 0,.int .i64 0,.int .i64 0,.int .i64 0,.int .i64 0,.int .i64 0,.int .i64 0,.int .i64 0,.int .i64 0,.int .i64 0,.int .i64 0,.int .i64 0,.int .i64 0,.int .i64 0,.int .i64 0,.int .i64 0,.int .i64 0,.int .i64 0,.int .i64 0,.int .i64 0,.int .i64 0,.int .i64 0,.int .i64 0,.int .i64 0,.int .i64 0,.int .i64 0,.int .i64 0,.int .i64 0,.int .i64 0,.int .i64 0,.int .i64 0,.int .i64 0,.int .i64 0,.int .i64 0,.int .i64 0,.int .i64 0,.int .i64 0,.int .i64 0,.int .i64 0,.int .i64 0,.int .i64 0,.int .i64 0,.int .i64 0,.int .i64 0,.int .i64 0,.int .i64 0,.int .i64 0,.int .i64 0,.int .i64 0,.int .i64 0,.int .i64 0,.int .i64 0,.int .i64 0,.int .i64 0,.int .i64 0,.int .i64 0,.int .i64 0,.int .i64 0,.int .i64 0,.int .i64 0,.int .i64 0,.int .i64 0,.int .i64 0,.int .i64 0,.int .i64 0,.int .i64 0,.int .i64 0,.int .i64 0,.int .i64 0,.int .i64 0,.int .i64 0,.int .i64 0,.int .i64 0,.int .i64 0,.int .i64 0,.int .i64 0,.int .i64 0,.int .i64 0,.int .i64 0,.int .i64 0,.int .i64 0,.int .i64 0,.int .i64 0,.int .i64 0,.int .i64 0,.int .i64 0,.int .i64 0,.int .i64 0,.int .i64 0,.int .i64 0,.int .i64 0,.int .i64 0,.int .i64 0,.int .i64 0,.int .i64 0,.int .i64 0,.int .i64 0,.int .i64 0,.int .i64 0,.int .i64 0,.int .i64 0,.int .i64 0,.int .i64 0,.int .i64 0,.int .i64 0,.int .i64 0,.int .i64 0,.int .i64 0,.int .i64 0,.int .i64 0,.int .i64 0,.int .i64 0,.int .i64 0,.int .i64 0,.int .i64 0,.int .i64 0,.int .i64 0,.int .i64 0,.int .i64 0,.int .i64 0,.int .i64 0,.int .i64 0,.int .i64 0,.int .i64 0,.int .i64 0,.int .i64 0,.int .i64 0,.int .i64 0,.int .i64 0,.int .i64 0,.int .i64 0,.int .i64 0,.int .i64 0,.int .i64 0,.int .i64 0,.int .i64 0,.int .i64 0,.int .i64 0,.int .i64 0,.int .i64 0,.int .i64 0,.int .i64 0,.int .i64 0,.int .i64 0,.int .i64 0,.int .i64 0,.int .i64 0,.int .i64 0,.int .i64 0,.int .i64 0,.int .i64 0,.int .i64 0,.int .i64 0,.int .i64 0,.int .i64 0,.int .i64 0,.int .i64 0,.int .i64 0,.int .i64 0,.int .i64 0,.int .i64 0,.int .i64 0,.int .i64 0,.int .i64 0,.int .i64 0,.int .i64 0,.int .i64 0,.nilFunc,.nilFunc,.nilFunc,.nilFunc,.nilFunc,.slice none 0 0],264,2136⟩),
(208,⟨.pointer none,1,8⟩),
(209,⟨.nilFunc,1,8⟩),
(212,⟨.pointer none,1,8⟩),
(213,⟨.nilFunc,1,8⟩),
(216,⟨.pointer none,1,8⟩),
(217,⟨.nilFunc,1,8⟩),
(232,⟨.pointer none,1,8⟩),
(233,⟨.nilFunc,1,8⟩),
(237,⟨.nilFunc,1,8⟩),
(239,⟨.agg #[.bool false,.bool false,.bool false,.bool false,.bool false],5,5⟩),
(242,⟨.nilFunc,1,8⟩),
(244,⟨.nilFunc,1,8⟩),
(246,⟨.nilFunc,1,8⟩),
(248,⟨.nilFunc,1,8⟩),
(250,⟨.nilFunc,1,8⟩),
(252,⟨.slice none 0 0,1,24⟩),
(254,⟨.pointer none,1,8⟩),
(256,⟨.nilFunc,1,8⟩),
(259,⟨.pointer none,1,8⟩),
(260,⟨.nilFunc,1,8⟩),
(262,⟨.pointer none,1,8⟩),
(263,⟨.nilFunc,1,8⟩),
(265,⟨.pointer none,1,8⟩),
(267,⟨.nilFunc,1,8⟩),
(268,⟨.nilFunc,1,8⟩),
(272,⟨.agg #[.string ⟨#[]⟩,.int .i64 0,.int .i64 0],3,32⟩),
(273,⟨.pointer none,1,8⟩),
(274,⟨.nilFunc,1,8⟩),
(276,⟨.pointer none,1,8⟩),
(277,⟨.nilFunc,1,8⟩),
(282,⟨.slice none 0 0,1,24⟩),
(283,⟨.nilFunc,1,8⟩),
(288,⟨.slice none 0 0,1,24⟩),
(296,⟨.nilFunc,1,8⟩),
(297,⟨.nilFunc,1,8⟩),
(299,⟨.int .u64 0,1,8⟩),
(305,⟨.nilFunc,1,8⟩),
(307,⟨.nilFunc,1,8⟩),
(308,⟨.agg #[.int .u8 0,.int .u8 0,.int .u8 0,.int .u8 0],4,4⟩),
(318,⟨.nilFunc,1,8⟩),
(321,⟨.nilFunc,1,8⟩),
(324,⟨.nilFunc,1,8⟩),
(334,⟨.pointer none,1,8⟩),
(335,⟨.nilFunc,1,8⟩),
(338,⟨.pointer none,1,8⟩),
(339,⟨.nilFunc,1,8⟩),
(348,⟨.nilIface,1,16⟩),
(349,⟨.nilFunc,1,8⟩),
(353,⟨.pointer none,1,8⟩),
(355,⟨.pointer none,1,8⟩),
(356,⟨.agg #[.int .u8 0,.int .u8 0,.int .u8 0,.int .u8 0,.int .u8 0,.int .u8 0,.int .u8 0,.int .u8 0,.int .u8 0,.int .u8 0,.int .u8 0,.int .u8 0,.int .u8 0,.int .u8 0,.int .u8 0,.int .u8 0,.int .u8 0,.int .u8 0,.int .u8 0,.int .u8 0,.int .u8 0,.int .u8 0,.int .u8 0,.int .u8 0,.int .u8 0,.int .u8 0,.int .u8 0,.int .u8 0,.int .u8 0,.int .u8 0,.int .u8 0,.int .u8 0,.int .u8 0,.int .u8 0,.int .u8 0,.int .u8 0,.int .u8 0,.int .u8 0,.int .u8 0,.int .u8 0,.int .u8 0,.int .u8 0,.int .u8 0,.int .u8 0,.int .u8 0,.int .u8 0,.int .u8 0,.int .u8 0,.int .u8 0,.int .u8 0,.int .u8 0,.int .u8 0,.int .u8 0,.int .u8 0,.int .u8 0,.int .u8 0,.int .u8 0,.int .u8 0,.int .u8 0,.int .u8 0,.int .u8 0,.int .u8 0,.int .u8 0,.int .u8 0],64,64⟩)]
theorem tabI_ok:AllI Tryz.prog tabI:=aUV (by kernel_rfl)
def tabE:List (Nat×List Nat):=[(35,[0,2,2]),(55,[1,1,2,2,0,1,1]),(75,[0,2,2,0]),(82,[0,2,2]),(85,[2,2,1,1,1,1]),(100,[2,2,1,1,1,0,2,2]),(104,[1]),(114,[1]),(136,[2,2,1,1]),(142,[2,2,1,1]),(148,[1,1]),(158,[1,1,2,1]),(191,[2,2,1,1]),(272,[2,1,1])]
theorem tabE_ok:AllE Tryz.prog tabE:=aTL (by kernel_rfl)
def tab:Tab Tryz.prog where
 und:=tabU
 okU:=tabU_ok
 inf:=tabI
 okI:=tabI_ok
 eqs:=tabE
 okE:=tabE_ok
 mixed:=by kernel_rfl
theorem eN {X:Type} {k:Nat} {E0:Env} {F:Nat->Prop} {h0:Array Obj} {J:X->Prop} {out:X->eR} {H H':SH} {w v:SV} {n:Nat} (x:X) (hJ:J x) (hH:nE (rn []) H (out x).heap:=by repeat (first|exact trivial|refine ⟨by rfl,?_⟩)) (hn:dV (rn []) (out x).heap []=true:=by rfl) (ho:out x=.ret v n H':=by rfl) (hv:w=v.ren (rn []):=by rfl):∀E h,Ag k E0 E->Sat E F H h->Kp F h0 h->aT k E0 F h0 J out (.returned (w.g E)) h:=aT.mk x hJ [] hH rfl hn (bH ho hv)
theorem eX {X:Type} {k:Nat} {E0:Env} {F G F' G':Nat->Prop} {h0 hb:Array Obj} {J:X->(Nat->Prop)->Array Obj->Prop} {out:X->eR} {H H':SH} {w v:SV} {n:Nat} (N:Now F G h0 F' G' hb) (x:X) (hJ:∀h',Up G' hb G' h'->J x G' h') (hH:nE (rn []) H (out x).heap:=by repeat (first|exact trivial|refine ⟨by rfl,?_⟩)) (hn:dV (rn []) (out x).heap []=true:=by rfl) (ho:out x=.ret v n H':=by rfl) (hv:w=v.ren (rn []):=by rfl):∀E h,Ag k E0 E->Sat E F' H h->Kp F' hb h->jP k E0 F G h0 J out (.returned (w.g E)) h:=jP.mk N x hJ [] hH rfl hn (bH ho hv)
theorem gS {s:SCx Tryz.prog} {ds:List cY} {nx:Nat} {st:List SI} {l:SFr} {H:SH} (h:goS tab s.c.n s.n0 s.F s.h0 ds (fun nx st l H=>aA s ds nx st l H) 1000 nx st l H):aA s ds nx st l H:=pM tab 1000 nx st l H h
theorem gO {c:Ctx Tryz.prog} {ds:List Deferred} {h:Array Obj} {st:List SI} {l:Fr} (g:go tab c.n h (fun st l=>aD c ds st l h) 1000 st l):aD c ds st l h:=go_run tab 1000 st l g
theorem gR {s:SCx Tryz.prog} {ds:List cY} {all:List Oper} {st:List SI} {t:Tr} {taken:List Nat} {ps:List (Nat×cV)} {nx:Nat} {l:SFr} {H:SH} (g:goR tab s.c.n s.n0 s.F s.h0 ds all st all.toArray (fun k keep t taken ps nx l H=>aK s ds all st k keep t taken ps nx l H) (fun nx l H=>aA s ds nx st l H) t taken ps nx l H):bG s ds all st t taken ps nx l H:=goR_run tab t taken ps nx l H g
structure Sqh (p : Prop) : Prop where h : p
theorem sqA {p q : Prop} (h : q) (e : Sqh q -> p := by intro h; (repeat ((first|(guard_target=_/\_;(first|refine oL ?_|refine oR ?_))|(guard_target=Exists _;refine oM ?_));(try intro _);conv=>whnf)); exact h.h) : p := e ⟨h⟩
theorem bZ {p q : Prop} (h : q) (e : Sqh q -> p := by intro h; (try refine gS ?_);(conv=>whnf);(repeat ((first|(guard_target=_/\_;(first|refine oL ?_|refine oR ?_))|(guard_target=Exists _;refine oM ?_));(try intro _);conv=>whnf)); exact h.h) : p := e ⟨h⟩
theorem dB {p q : Prop} (h : q) (e : Sqh q -> p := by intro h; (conv=>whnf);(repeat ((first|(guard_target=_/\_;(first|refine oL ?_|refine oR ?_))|(guard_target=Exists _;refine oM ?_));(try intro _);conv=>whnf)); exact h.h) : p := e ⟨h⟩
theorem sqtA {p q : Prop} (h : q) (e : Sqh q -> p := by intro h; refine gS ?_;(conv=>whnf);(repeat ((first|(guard_target=_/\_;(first|refine oL ?_|refine oR ?_))|(guard_target=Exists _;refine oM ?_));(try intro _);conv=>whnf)); exact h.h) : p := e ⟨h⟩
theorem bGF {p q : Prop} (h : q) (e : Sqh q -> p := by intro h; (conv=>whnf);(try refine gS ?_);(conv=>whnf);(repeat ((first|(guard_target=_/\_;(first|refine oL ?_|refine oR ?_))|(guard_target=Exists _;refine oM ?_));(try intro _);conv=>whnf)); exact h.h) : p := e ⟨h⟩
theorem sqB {p q : Prop} (h : q) (e : Sqh q -> p := by intro h; (repeat ((first|(guard_target=_/\_;(first|refine oL ?_|refine oR ?_|refine oB ?_))|(guard_target=Exists _;refine oM ?_));(try intro _);conv=>whnf)); exact h.h) : p := e ⟨h⟩
theorem fA {p q : Prop} (h : q) (e : Sqh q -> p := by intro h; (try refine gR ?_);(conv=>whnf);(repeat ((first|(guard_target=_/\_;(first|refine oL ?_|refine oR ?_|refine oB ?_))|(guard_target=Exists _;refine oM ?_));(try intro _);conv=>whnf)); exact h.h) : p := e ⟨h⟩
theorem sqwB {p q : Prop} (h : q) (e : Sqh q -> p := by intro h; (conv=>whnf);(repeat ((first|(guard_target=_/\_;(first|refine oL ?_|refine oR ?_|refine oB ?_))|(guard_target=Exists _;refine oM ?_));(try intro _);conv=>whnf)); exact h.h) : p := e ⟨h⟩
theorem bFN {p q : Prop} (h : q) (e : Sqh q -> p := by intro h; (conv=>whnf);(try refine gR ?_);(conv=>whnf);(repeat ((first|(guard_target=_/\_;(first|refine oL ?_|refine oR ?_|refine oB ?_))|(guard_target=Exists _;refine oM ?_));(try intro _);conv=>whnf)); exact h.h) : p := e ⟨h⟩
theorem sqC {p q : Prop} (h : q) (e : Sqh q -> p := by intro h; (repeat ((first|refine oM ?_|refine oL ?_|refine oR ?_);(try intro _);conv=>whnf)); exact h.h) : p := e ⟨h⟩
theorem dT {p q : Prop} (h : q) (e : Sqh q -> p := by intro h; (try refine gS ?_);(conv=>whnf);(repeat ((first|refine oM ?_|refine oL ?_|refine oR ?_);(try intro _);conv=>whnf)); exact h.h) : p := e ⟨h⟩
theorem cG {p q : Prop} (h : q) (e : Sqh q -> p := by intro h; (conv=>whnf);(repeat ((first|refine oM ?_|refine oL ?_|refine oR ?_);(try intro _);conv=>whnf)); exact h.h) : p := e ⟨h⟩
theorem sqtC {p q : Prop} (h : q) (e : Sqh q -> p := by intro h; refine gS ?_;(conv=>whnf);(repeat ((first|refine oM ?_|refine oL ?_|refine oR ?_);(try intro _);conv=>whnf)); exact h.h) : p := e ⟨h⟩
theorem bFP {p q : Prop} (h : q) (e : Sqh q -> p := by intro h; (conv=>whnf);(try refine gS ?_);(conv=>whnf);(repeat ((first|refine oM ?_|refine oL ?_|refine oR ?_);(try intro _);conv=>whnf)); exact h.h) : p := e ⟨h⟩
theorem mQ {p q : Prop} (h : q) (e : Sqh q -> p := by intro h; (try refine gS ?_);(conv=>whnf);(repeat ((first|refine oL ?_|refine oR ?_);(try intro _);conv=>whnf)); exact h.h) : p := e ⟨h⟩
theorem sI {p q : Prop} (h : q) (e : Sqh q -> p := by intro h; (conv=>whnf);(repeat ((first|refine oL ?_|refine oR ?_);(try intro _);conv=>whnf)); exact h.h) : p := e ⟨h⟩
theorem bFU {p q : Prop} (h : q) (e : Sqh q -> p := by intro h; (conv=>whnf);(try refine gS ?_);(conv=>whnf);(repeat ((first|refine oL ?_|refine oR ?_);(try intro _);conv=>whnf)); exact h.h) : p := e ⟨h⟩
theorem sqE {p q : Prop} (h : q) (e : Sqh q -> p := by intro h; (repeat ((first|refine oM ?_|refine oL ?_|refine oR ?_|refine oB ?_);(try intro _);conv=>whnf)); exact h.h) : p := e ⟨h⟩
theorem mE {p q : Prop} (h : q) (e : Sqh q -> p := by intro h; (try refine gR ?_);(conv=>whnf);(repeat ((first|refine oM ?_|refine oL ?_|refine oR ?_|refine oB ?_);(try intro _);conv=>whnf)); exact h.h) : p := e ⟨h⟩
theorem xE {p q : Prop} (h : q) (e : Sqh q -> p := by intro h; (conv=>whnf);(repeat ((first|refine oM ?_|refine oL ?_|refine oR ?_|refine oB ?_);(try intro _);conv=>whnf)); exact h.h) : p := e ⟨h⟩
theorem aBF {p q : Prop} (h : q) (e : Sqh q -> p := by intro h; (conv=>whnf);(try refine gR ?_);(conv=>whnf);(repeat ((first|refine oM ?_|refine oL ?_|refine oR ?_|refine oB ?_);(try intro _);conv=>whnf)); exact h.h) : p := e ⟨h⟩
theorem sqrF {p q : Prop} (h : q) (e : Sqh q -> p := by intro h; (try refine gR ?_);(conv=>whnf);(repeat ((first|refine oL ?_|refine oR ?_|refine oB ?_);(try intro _);conv=>whnf)); exact h.h) : p := e ⟨h⟩
theorem squF {p q : Prop} (h : q) (e : Sqh q -> p := by intro h; (conv=>whnf);(try refine gR ?_);(conv=>whnf);(repeat ((first|refine oL ?_|refine oR ?_|refine oB ?_);(try intro _);conv=>whnf)); exact h.h) : p := e ⟨h⟩
theorem sqs {p q : Prop} (h : q) (e : Sqh q -> p := by intro h; (try refine gS ?_);(conv=>whnf); exact h.h) : p := e ⟨h⟩
theorem sqr {p q : Prop} (h : q) (e : Sqh q -> p := by intro h; (try refine gR ?_);(conv=>whnf); exact h.h) : p := e ⟨h⟩
theorem sqv {p q : Prop} (h : q) (e : Sqh q -> p := by intro h; (conv=>whnf);(try refine gS ?_);(conv=>whnf); exact h.h) : p := e ⟨h⟩
theorem squ {p q : Prop} (h : q) (e : Sqh q -> p := by intro h; (conv=>whnf);(try refine gR ?_);(conv=>whnf); exact h.h) : p := e ⟨h⟩
theorem zP {p:Prop} (h:p:=by (conv=>whnf);(repeat (guard_target=_/\_;refine And.intro (by (conv=>whnf);first|rfl|exact trivial) ?_;conv=>whnf));exact trivial):p:=h
def fls:Nat->Nat->Tr->Tr
  |_,0,t=>t
  |a,n+1,t=>.fl a (fls (a+1) n t)
def zYb:List SI->Bool
  | []=>true
  | .code .ret::_=>true
  |_=>false
section
variable {s:SCx Tryz.prog} {ds:List cY} {nx:Nat} {st:List SI} {l:SFr} {H:SH}
theorem zU (hr:aB s ds .returning nx l H) (hro:s.c.round=none:=by rfl) (he:zYb st=true:=by rfl):aA s ds nx st l H:=by
  unfold zYb at he
  split at he
  · exact aA.finU hr hro
  · exact aA.retU hr hro
  · cases he
variable {f n n0:Nat} {w0:World} {cs:List Frame} {h:Array Obj} {X:Value} {E0:Env} {fn:Func} {xs:List SV}
theorem zW (hf:Tryz.prog.funcs[f]? = some fn) (he:∀E,(tupS xs).g E=X) (hx:resS tab l H fn.results.toList=some xs:=by rfl):aA ⟨cW Tryz.prog f n w0 cs (fun e h'=>∃v,e=.returned v/\v=X/\aH h.size h h'),fun k=>k<h.size,h,E0,n0⟩ [] nx (.code .ret::st) l H:=
  aA.retU (aB.ret tab hf hx fun E _ _ _ K=>⟨_,rfl,he E,K.keeps⟩)
theorem zR (hf:Tryz.prog.funcs[f]? = some fn) (hx:resS tab l H fn.results.toList=some xs:=by rfl) (he:∀E,(tupS xs).g E=X:=by exact fun _=>rfl):aA ⟨cW Tryz.prog f n w0 cs (fun e h'=>∃v,e=.returned v/\v=X/\aH h.size h h'),fun k=>k<h.size,h,E0,n0⟩ [] nx (.code .ret::st) l H:=zW hf he hx
end
section
variable {s:SCx Tryz.prog} {ds:List cY} {nx:Nat} {l:SFr} {H:SH} {k:List SI} {id:Nat} {ops:List Oper}
theorem zH (t:Tr) (hr:bG s ds ops k t [] [] nx l H) (hB:(Region.noSelect ops.toArray&&lA .any ops.toArray t ops.toArray.size [] (Array.replicate ops.toArray.size false))=true:=by kernel_rfl) (hnd:tG ops=true:=by rfl):aA s ds nx (.code (.region id ops.toArray true)::k) l H:=aA.held tab t hB hr hnd
end
section
variable {f:FuncId} {fn:Func} {code:Code} {h:Array Obj} {R:Ending->Array Obj->Prop}
theorem zO (hf:Tryz.prog.funcs[f]? = some fn) {n:Nat} (hnt:fn.ntmps=n) {args:List Value} {q:World→List Frame→Prop} (H:∀w0 cs,q w0 cs)
    (hname:(fn.name == "runtime.NumGoroutine")=false:=by kernel_rfl) (hb:fn.body=some code:=by rfl) (hargs:Nat.ble args.length n=true:=by rfl)
    (e:Sqh (∀w0 cs,q w0 cs) -> ∀w0 cs,argK 0 args fun l=>aA ⟨cW Tryz.prog f n w0 cs R,fun k=>k<h.size,h,fun _=>undef,0⟩ [] 0 [.code code] l []:=by intro h w0 cs;(conv=>whnf);refine gS ?_;(conv=>whnf);exact h.h w0 cs):Fw.Fn Tryz.prog f args.toArray h R:=Fn.ofS hf hname hb hnt hargs (e ⟨H⟩)
theorem zS {k:Nat} {args:List SV} {W:SH} {X:Type} {J:X→Prop} {out:X→eR} (hf:Tryz.prog.funcs[f]? = some fn) {n:Nat} (hnt:fn.ntmps=n) {q:Env→(Nat→Prop)→Array Obj→World→List Frame→Prop} (H:∀E0 F h w0 cs,q E0 F h w0 cs)
    (hname:(fn.name == "runtime.NumGoroutine")=false:=by kernel_rfl) (hb:fn.body=some code:=by rfl) (hargs:Nat.ble args.length n=true:=by rfl)
    (e:Sqh (∀E0 F h w0 cs,q E0 F h w0 cs) -> ∀E0 F h w0 cs,bFQ 0 args fun l=>aA ⟨cW Tryz.prog f n w0 cs (aT k E0 F h J out),F,h,E0,k⟩ [] k [.code code] l W:=by intro h E0 F h1 w0 cs;(conv=>whnf);refine gS ?_;(conv=>whnf);exact h.h E0 F h1 w0 cs):FnS Tryz.prog f k args W J out:=FnS.of hf hname hb hnt hargs (e ⟨H⟩)
theorem zT {T:(Nat→Prop)→Array Obj→Prop} {k:Nat} {args:List SV} {W:SH} {X:Type} {J:X→Prop} {out:X→eR} (hf:Tryz.prog.funcs[f]? = some fn) {n:Nat} (hnt:fn.ntmps=n) {q:Env→(Nat→Prop)→Array Obj→World→List Frame→Prop} (H:∀E0 F h,T F h → ∀w0 cs,q E0 F h w0 cs)
    (hname:(fn.name == "runtime.NumGoroutine")=false:=by kernel_rfl) (hb:fn.body=some code:=by rfl) (hargs:Nat.ble args.length n=true:=by rfl)
    (e:Sqh (∀E0 F h,T F h -> ∀w0 cs,q E0 F h w0 cs) -> ∀E0 F h,T F h -> ∀w0 cs,bFQ 0 args fun l=>aA ⟨cW Tryz.prog f n w0 cs (aT k E0 F h J out),F,h,E0,k⟩ [] k [.code code] l W:=by intro h E0 F h1 hT w0 cs;(conv=>whnf);refine gS ?_;(conv=>whnf);exact h.h E0 F h1 hT w0 cs):FnT Tryz.prog T f k args W J out:=FnT.of hf hname hb hnt hargs (e ⟨H⟩)
theorem zX {k:Nat} {args:List SV} {W:SH} {Pre:(Nat→Prop)→Array Obj→Prop} {X:Type} {J:X→(Nat→Prop)→Array Obj→Prop} {out:X→eR} (hf:Tryz.prog.funcs[f]? = some fn) {n:Nat} (hnt:fn.ntmps=n) {q:Env→(Nat→Prop)→(Nat→Prop)→Array Obj→World→List Frame→Prop}
    (H:∀E0 F G h,Now F G h F G h->Pre G h -> ∀w0 cs,q E0 F G h w0 cs)
    (hname:(fn.name == "runtime.NumGoroutine")=false:=by kernel_rfl) (hb:fn.body=some code:=by rfl) (hargs:Nat.ble args.length n=true:=by rfl)
    (e:Sqh (∀E0 F G h,Now F G h F G h->Pre G h -> ∀w0 cs,q E0 F G h w0 cs) -> ∀E0 F G h,Now F G h F G h->Pre G h -> ∀w0 cs,bFQ 0 args fun l=>aA ⟨cW Tryz.prog f n w0 cs (jP k E0 F G h J out),F,h,E0,k⟩ [] k [.code code] l W:=by intro h E0 F G h1 N hP w0 cs;(conv=>whnf);refine gS ?_;(conv=>whnf);exact h.h E0 F G h1 N hP w0 cs):FnX Tryz.prog f k args W Pre J out:=FnX.of hf hname hb hnt hargs (e ⟨H⟩)
def roK:Nat->List (Nat×List (List Value))->(SH->Prop)->Prop
  |_,[],K=>K []
  |i,(sz,rows)::l,K=>roK (i+1) l fun W=>K ((i,.ro sz rows)::W)
theorem bGL:∀(i:Nat) (l:List (Nat×List (List Value))) (K:SH->Prop),roK i l K=K (roH i l)
  |_,[],_=>rfl
  |i,(sz,rows)::l,K=>by rw [roK,bGL];rfl
theorem zG (N:Nat) {vs:List Value} {l:List (Nat×List (List Value))} (hl:Ros h vs l) (args:List SV) (hf:Tryz.prog.funcs[f]? = some fn) {n:Nat} (hnt:fn.ntmps=n) {q:World→List Frame→Prop} (H:∀w0 cs,q w0 cs)
    (hname:(fn.name == "runtime.NumGoroutine")=false:=by kernel_rfl) (hb:fn.body=some code:=by rfl) (hargs:Nat.ble args.length n=true:=by rfl)
    (e:Sqh (∀w0 cs,q w0 cs) -> ∀w0 cs,roK 0 l fun W=>bFQ 0 args fun fr=>aA ⟨cW Tryz.prog f n w0 cs R,fun k=>k<h.size,h,mJ vs,N⟩ [] N [.code code] fr W:=by intro h w0 cs;(conv=>whnf);refine gS ?_;(conv=>whnf);exact h.h w0 cs):Fw.Fn Tryz.prog f (SV.gs (mJ vs) args).toArray h R:=
  Fn.ofG (mJ vs) N args (roH 0 l) (fun k=>k<h.size) hf hname hb hnt hargs (fun _ hk=>hk) (Sat.ros hl) fun w0 cs=>by have:=e ⟨H⟩ w0 cs;rw [bGL] at this;exact this
end
section
variable {s:SCx Tryz.prog} {ds:List cY} {nx:Nat} {kk:List SI} {l:SFr} {H:SH} {q:Prop}
variable {all:Array Oper} {rest:List Oper} {o:Oper} {cl:Call} {x:Operand} {g:FuncId} {first captured vs:List SV}
theorem zN {k:Nat} {args:List SV} {W:SH} {X:Type} {J:X→Prop} {out:X→eR} (C:FnS Tryz.prog g k args W J out) (ren:List Nat) (h:q) (hH:nE (bY ren) H W:=by repeat (first|exact trivial|refine ⟨by rfl,?_⟩))
    (hlen:ren.length=k:=by rfl) (hren:bdN nx ren=true:=by rfl) (hfr:gQ s.n0 nx l H ds=true:=by rfl) (hn:dV (bY ren) W []=true:=by rfl) (hop:o.op=.call cl:=by rfl) (hcal:cl.callee=.value x:=by rfl) (hx:eM l x=some (g,first,captured):=by rfl) (hargs:gK l cl.args.toList=some vs:=by rfl)
    (hgd:bT l all o=some true:=by rfl) (hdn:cB s.c.n o.dst=true:=by rfl) (ha:SV.rens (bY ren) args=first++(vs++captured):=by rfl)
    (e:Sqh q -> ∀y,J y->yQ s ds k nx ren (dN (fZ (bY ren) W) H) o.dst l (.ops all rest::kk) (out y):=by intro h _ _;(conv=>whnf);exact h.h):aA s ds nx (.ops all (o::rest)::kk) l H:=aA.callN C ren (e ⟨h⟩) hH ha hlen hren hfr hn hop hcal hx hargs hgd hdn
theorem zM {T:(Nat→Prop)→Array Obj→Prop} (ok:TOk T) (hT:T s.F s.h0) {k:Nat} {args:List SV} {W:SH} {X:Type} {J:X→Prop} {out:X→eR} (C:FnT Tryz.prog T g k args W J out) (ren:List Nat) (h:q) (hH:nE (bY ren) H W:=by repeat (first|exact trivial|refine ⟨by rfl,?_⟩))
    (hlen:ren.length=k:=by rfl) (hren:bdN nx ren=true:=by rfl) (hfr:gQ s.n0 nx l H ds=true:=by rfl) (hn:dV (bY ren) W []=true:=by rfl) (hop:o.op=.call cl:=by rfl) (hcal:cl.callee=.value x:=by rfl) (hx:eM l x=some (g,first,captured):=by rfl) (hargs:gK l cl.args.toList=some vs:=by rfl)
    (hgd:bT l all o=some true:=by rfl) (hdn:cB s.c.n o.dst=true:=by rfl) (ha:SV.rens (bY ren) args=first++(vs++captured):=by rfl)
    (e:Sqh q -> ∀y,J y->yQ s ds k nx ren (dN (fZ (bY ren) W) H) o.dst l (.ops all rest::kk) (out y):=by intro h _ _;(conv=>whnf);exact h.h):aA s ds nx (.ops all (o::rest)::kk) l H:=aA.callT ok hT C ren hH ha (e ⟨h⟩) hlen hren hfr hn hop hcal hx hargs hgd hdn
end
section
variable {s:SCx Tryz.prog} {ds:List cY} {all:List Oper} {st:List SI} {t:Tr} {taken:List Nat} {ps:List (Nat×cV)} {nx ki:Nat} {keep:List Nat} {l:SFr} {H:SH} {o:Oper} {cl:Call} {x:Operand} {g:FuncId} {first captured vs:List SV} {q:Prop}
theorem zK {k:Nat} {args:List SV} {W:SH} {X:Type} {J:X→Prop} {out:X→eR} (C:FnS Tryz.prog g k args W J out) (ren:List Nat) (h:q) (hH:nE (bY ren) H W:=by repeat (first|exact trivial|refine ⟨by rfl,?_⟩))
    (hlen:ren.length=k:=by rfl) (hren:bdN nx ren=true:=by rfl) (hfr:gQ s.n0 nx l H ds=true:=by rfl) (hn:dV (bY ren) W []=true:=by rfl) (hps:bFV nx ps=true:=by rfl)
    (ho:all[ki]? = some o:=by rfl) (hop:o.op=.call cl:=by rfl) (hcal:cl.callee=.value x:=by rfl) (hx:eM l x=some (g,first,captured):=by rfl) (hargs:gK l cl.args.toList=some vs:=by rfl) (hgd:bT l all.toArray o=some true:=by rfl) (hdn:cB s.c.n o.dst=true:=by rfl) (ha:SV.rens (bY ren) args=first++(vs++captured):=by rfl)
    (e:Sqh q -> ∀y,J y->wH s ds all st t taken ps keep k nx ren (dN (fZ (bY ren) W) H) o.dst l (out y):=by intro h _ _;(conv=>whnf);(try refine oB ?_);exact h.h):aK s ds all st ki keep t taken ps nx l H:=aK.callN C ren (e ⟨h⟩) hH ha hlen hren hfr hn hps ho hop hcal hx hargs hgd hdn
end
section
variable {s:SCx Tryz.prog} {ds:List cY} {nx:Nat} {st:List SI} {l:SFr} {H:SH}
theorem zQ (nx':Nat) (l':SFr) (H':SH) (hr:aA s ds nx' st l' H') (m:List (Nat×Nat):=[]) (hl:bGJ (rn m) l l':=by repeat (first|exact trivial|refine ⟨by rfl,?_⟩)) (hH:nE (rn m) H H':=by repeat (first|exact trivial|refine ⟨by rfl,?_⟩)) (hm:bGH s.n0 m=true:=by rfl) (hn:dV (rn m) H' []=true:=by rfl) (hd:bGM (rn m) ds=ds:=by rfl):aA s ds nx st l H:=aA.subR m hr hl hH hm hn hd
theorem zb {nx':Nat} {l':SFr} {H':SH} (hr:aA s ds nx' st l' H') (m:List (Nat×Nat):=[]) (hl:bGJ (rn m) l l':=by repeat (first|exact trivial|refine ⟨by rfl,?_⟩)) (hH:nE (rn m) H H':=by repeat (first|exact trivial|refine ⟨by rfl,?_⟩)) (hm:bGH s.n0 m=true:=by rfl) (hn:dV (rn m) H' []=true:=by rfl) (hd:bGM (rn m) ds=ds:=by rfl):aA s ds nx st l H:=aA.subR m hr hl hH hm hn hd
theorem zL {x:Code} {X:Type} (L:X→SFr) (HH:X→SH) (nxl:Nat) (J:X→Prop) (μ:X→Nat) (x0:X) (hJ:J x0)
    (round:∀x1,J x1->(∀x2,J x2->μ x2<μ x1->aA s ds nxl (.inLoop x::st) (L x2) (HH x2))->aA s ds nxl (.code x::.inLoop x::st) (L x1) (HH x1)) (hl:bGJ (rn []) l (L x0):=by repeat (first|exact trivial|refine ⟨by rfl,?_⟩)) (hH:nE (rn []) H (HH x0):=by repeat (first|exact trivial|refine ⟨by rfl,?_⟩)) (hn:dV (rn []) (HH x0) []=true:=by rfl) (hd:bGM (rn []) ds=ds:=by rfl):aA s ds nx (.code (.loop x)::st) l H:=aA.subR [] (aA.loop L HH nxl J μ round x0 hJ) hl hH rfl hn hd
variable {all:Array Oper} {rest:List Oper} {o:Oper} {cl:Call} {x:Operand} {g:FuncId} {first captured vs:List SV} {X:Value}
theorem zc (H1:∀E h,FnV Tryz.prog g (SV.gs E (first++(vs++captured))).toArray h fun r h'=>r=X/\aH h.size h h') (hr:fJ l o.dst (.v X) fun l=>aA s ds nx (.ops all rest::st) l H) (hop:o.op=.call cl:=by rfl) (hcal:cl.callee=.value x:=by rfl) (hx:eM l x=some (g,first,captured):=by rfl) (hargs:gK l cl.args.toList=some vs:=by rfl) (hgd:bT l all o=some true:=by rfl) (hdn:cB s.c.n o.dst=true:=by rfl):aA s ds nx (.ops all (o::rest)::st) l H:=
  aA.callV (fun E h _ _ _=>H1 E h) hr hop hcal hx hargs hgd hdn
end
section
variable {s:SCx Tryz.prog} {ds:List cY} {all:List Oper} {st:List SI} {t:Tr} {taken:List Nat} {ps:List (Nat×cV)} {nx k:Nat} {keep:List Nat} {l:SFr} {H:SH} {o:Oper} {cl:Call} {x:Operand} {g:FuncId} {first captured vs:List SV} {X:Value}
theorem zk (H1:∀E h,FnV Tryz.prog g (SV.gs E (first++(vs++captured))).toArray h fun r h'=>r=X∧aH h.size h h') (hr:fJ l o.dst (.v X) fun l=>bG s ds all st t taken ps nx l H) (hpi:gL H keep ps:=by (conv=>whnf);(repeat (guard_target=_∧_;refine And.intro (by (conv=>whnf);first|rfl|exact trivial) ?_;conv=>whnf));exact trivial)
    (ho:all[k]? = some o:=by rfl) (hop:o.op=.call cl:=by rfl) (hcal:cl.callee=.value x:=by rfl) (hx:eM l x=some (g,first,captured):=by rfl) (hargs:gK l cl.args.toList=some vs:=by rfl) (hgd:bT l all.toArray o=some true:=by rfl) (hdn:cB s.c.n o.dst=true:=by rfl):aK s ds all st k keep t taken ps nx l H:=aK.callV (fun E h _ _ _=>H1 E h) hpi hr ho hop hcal hx hargs hgd hdn
end
section
variable {f n k nx:Nat} {w0:World} {cs:List Frame} {h0:Array Obj} {E0:Env} {F:Nat->Prop} {fn:Func} {xs:List SV} {st:List SI} {l:SFr} {H:SH} {X:Type} {J:X->Prop} {out:X->eR}
theorem zI (hf:Tryz.prog.funcs[f]? = some fn) (x:X) (hJ:J x) (m:List (Nat×Nat):=[]) (hx:resS tab l H fn.results.toList=some xs:=by rfl) (he:zYb st=true:=by rfl) (hH:nE (rn m) H (out x).heap:=by repeat (first|exact trivial|refine ⟨by rfl,?_⟩)) (hm:bGH k m=true:=by rfl) (hn:dV (rn m) (out x).heap []=true:=by rfl) {v:SV} {nn:Nat} {H':SH} (ho:out x=.ret v nn H':=by rfl) (hv:tupS xs=v.ren (rn m):=by rfl):
    aA ⟨cW Tryz.prog f n w0 cs (aT k E0 F h0 J out),F,h0,E0,k⟩ [] nx st l H:=zU (aB.ret tab hf hx (aT.mk x hJ m hH hm hn (bH ho hv))) rfl he
theorem zV (hf:Tryz.prog.funcs[f]? = some fn) (x:X) (hJ:J x) (hH:nE (rn []) H (out x).heap:=by repeat (first|exact trivial|refine ⟨by rfl,?_⟩)) (hn:dV (rn []) (out x).heap []=true:=by rfl) {ch:List PanicEntry} {nn:Nat} {H':SH} (ho:out x=.pan ch nn H':=by rfl):
    aB ⟨cW Tryz.prog f n w0 cs (aT k E0 F h0 J out),F,h0,E0,k⟩ [] (.panicking ch) nx l H:=aB.pan hf (aT.mk x hJ [] hH rfl hn (aQ ho))
end
abbrev nV (x:Int):SV:=.v (.int .i64 x)
abbrev FV (f:FuncId) (args:Array Value) (h:Array Obj) (X:Value):Prop:=FnV Tryz.prog f args h fun r h'=>r=X/\aH h.size h h'
end Go.Proofs.YthjedpdedjhndaaGreatDoor

namespace Go.Fw
open Go
variable {P:Program}
theorem Unw.collected {c:Ctx P} {ds:List Deferred} {u:FrameMode} {l:Fr} {h:Array Obj} {D:Nat} (hD:h[D]? = some (.deferred (some []))) (hu:u ≠ .run)
  (H:Unw c ds u l (h.setIfInBounds D (.deferred none))):Unw c ({target:=.collected D,args:=#[]}::ds) u l h:=by
 intro a w todo ha hd hh hw;have ht:=run_takeDeferred (P:=P) (w:=w) (b:=D) (by rw [hh];exact hD)
 refine c.back _ (lone {c.fr {a with defers:=ds} todo with mode:=u} c.cs (w.putObj D (.deferred none))) (step_lone_go ?_)
  (H {a with defers:=ds} (w.putObj D (.deferred none)) todo ⟨ha.size,ha.get⟩ rfl (by simp [World.putObj,hh]) (hw.trans ⟨rfl,rfl,rfl⟩))
 cases u with
 |run=>exact absurd rfl hu
 |returning=>simp [stepG,unwind,Ctx.fr,hd,Sem.runT_eq,ht,GStep.bare_after]
 |panicking ch=>simp [stepG,unwind,Ctx.fr,hd,Sem.runT_eq,ht,GStep.bare_after]
abbrev lp (r:Loop) (st:LoopState) (pd:Option Code):Loop:={r with state:=st,pending:=pd}
theorem aD.rangeFuncE {c:Ctx P} {ds:List Deferred} {k:List SI} {l:Fr} {h:Array Obj} {f:Operand} {params:Array Tmp} {assign body:Code} {g:FuncId} {first captured:Array Value} {R:Ending->Array Obj->Prop}
  (H:∀r:Loop,Rec c l h.size params assign body r->Fn P g (first ++ #[.func (.yield (h.size+1)) #[] #[]]++captured) ((h.push (.deferred (some []))).push (.loop r)) R)
  (hno:∀h',¬R .outgrown h')
  (hp:∀ch h',R (.panicked ch) h'->Unw c ({target:=.collected h.size,args:=#[]}::ds) (.panicking ch) l h')
  (hr:∀v h',R (.returned v) h' -> ∃r',h'[h.size+1]? = some (.loop r')/\r'.state ≠ .busy/\aD c ({target:=.collected h.size,args:=#[]}::ds) (bFZ r'.pending++k) l (h'.setIfInBounds (h.size+1) (.loop {r' with state:=.exhausted})))
  (hro:c.round=none:=by rfl) (hf:ev l f=some (.func (.func g) first captured):=by rfl):
  aD c ds (.code (.rangeFunc f params assign body)::k) l h:=by
 unfold aD;intro hwf a w ha hd hh hw;subst hh;obtain ⟨r,hrdef⟩:∃r:Loop,r = {state:=.ready,pending:=none,fn:=c.fn,tmps:=a.tmps,params:=params,assign:=assign,body:=body,defers:=w.heap.size}:=⟨_,rfl⟩;have hrec:Rec c l w.heap.size params assign body r:=by subst hrdef;exact ⟨rfl,rfl,rfl,rfl,rfl,rfl,rfl,⟨ha.size,ha.get⟩⟩
 have HF:=H r hrec;have hen:=run_enterLoop_outer (P:=P) (w:=w) c.fn a.tmps params assign body;rw [<-hrdef] at hen;obtain ⟨w1,hw1⟩:∃w1,w1=(w.alloc (.deferred (some []))).alloc (.loop r):=⟨_,rfl⟩;rw [<-hw1] at hen;have hheap:w1.heap=(w.heap.push (.deferred (some []))).push (.loop r):=by rw [hw1];rfl
 have hlike:dC w w1:=by rw [hw1];exact ⟨rfl,rfl,rfl⟩
 obtain ⟨e,w',fr,⟨hlk,hR⟩,hcomes,hfn,hleave⟩:=HF.calls w1 hheap (c.fr {a with defers:={target:=.collected w.heap.size,args:=#[]}::ds} (.inRangeFunc (w.heap.size+1)::its k)::c.cs)
 have henter:Go.step P (lone (c.fr a (its (.code (.rangeFunc f params assign body)::k))) c.cs w) =
   .next (lone (Frame.enter P g (first ++ #[.func (.yield (w.heap.size+1)) #[] #[]]++captured) .normal) (c.fr {a with defers:={target:=.collected w.heap.size,args:=#[]}::ds} (.inRangeFunc (w.heap.size+1)::its k)::c.cs) w1):=by
  refine step_lone_go ?_;have hev:(c.fr {a with defers:={target:=.collected w.heap.size,args:=#[]}::ds} (.inRangeFunc (w.heap.size+1)::its k)).eval=({a with defers:={target:=.collected w.heap.size,args:=#[]}::ds}:Act).eval:=c.eval _ _;have ha':bB c.n l {a with defers:={target:=.collected w.heap.size,args:=#[]}::ds}:=⟨ha.size,ha.get⟩;have hfv:=ha'.ev hf;have hc:=nX HF.enters (first ++ #[.func (.yield (w.heap.size+1)) #[] #[]]++captured) w1;have hev2:({a with defers:={target:=.collected w.heap.size,args:=#[]}::ds}:Act).eval (.const (.func (.yield (w.heap.size+1)) #[] #[]))=.func (.yield (w.heap.size+1)) #[] #[]:=rfl;simp only [Ctx.fr,hro] at hev
  have hap:Sem.run P (do let d <-resolve ({fn:=c.fn,tmps:=a.tmps,todo:=Item.inRangeFunc (w.heap.size+1)::its k,defers:={target:=Target.collected w.heap.size,args:=#[]}::ds,mode:=FrameMode.run,kind:=c.kind}:Frame).eval {callee:=.value f,args:=#[.const (.func (.yield (w.heap.size+1)) #[] #[])],argTypes:=#[]} 0;invoke d.target d.args) w1
    = .ok (.enter g (first ++ #[Value.func (Fn.yield (w.heap.size+1)) #[] #[]]++captured)) w1:=by
   have e1:(resolve ({fn:=c.fn,tmps:=a.tmps,todo:=Item.inRangeFunc (w.heap.size+1)::its k,defers:={target:=Target.collected w.heap.size,args:=#[]}::ds,mode:=FrameMode.run,kind:=c.kind}:Frame).eval {callee:=.value f,args:=#[.const (.func (.yield (w.heap.size+1)) #[] #[])],argTypes:=#[]} 0)
     = pure {target:=.fn (.func g) captured,args:=first ++ #[.func (.yield (w.heap.size+1)) #[] #[]]}:=by
    unfold resolve;rw [hev];simp only [hfv,Deferred.ofValue,List.map_toArray,List.map_cons,List.map_nil,hev2]
   rw [e1];simp only [Sem.run_bind,Sem.run_pure,Result.andThen,invoke];exact hc
  simp only [its,SI.it,stepG,stepG.exec,Ctx.fr,Sem.runT_eq,hro,hen,GStep.bare_after,GStep.bare_go,stepG.apply,hd,hap,if_true,List.cons_append,List.nil_append]
 refine c.back _ _ henter ?_
 cases e with
 |outgrown=>exact absurd hR (hno _)
 |panicked ch=>
  refine eB c hcomes (c.back _ _ (step_leave_panicked hleave) ?_);exact hp ch _ hR {a with defers:={target:=.collected w.heap.size,args:=#[]}::ds} w' _ ⟨ha.size,ha.get⟩ rfl rfl (hw.trans (hlike.trans hlk))
 |returned v=>
  obtain ⟨r',hr1,hr2,hr3⟩:=hr v _ hR;refine eB c hcomes (c.back _ _ (step_leave_returned hleave) ?_);have hfin:(c.fr {a with defers:={target:=.collected w.heap.size,args:=#[]}::ds} (.inRangeFunc (w.heap.size+1)::its k)).finish v=c.fr {a with defers:={target:=.collected w.heap.size,args:=#[]}::ds} (.endRangeFunc (w.heap.size+1)::its k):=by
   simp [Frame.finish,Ctx.fr]
  rw [hfin];have hend:=run_endLoop (P:=P) (w:=w') hr1 hr2;refine c.back _ (lone (c.fr {a with defers:={target:=.collected w.heap.size,args:=#[]}::ds} (its (bFZ r'.pending++k))) c.cs (w'.putObj (w.heap.size+1) (.loop {r' with state:=.exhausted}))) (step_lone_go ?_) ?_
  ·have ej:its (bFZ r'.pending++k)=(r'.pending.map Item.code).toList++its k:=by
    cases r'.pending<;>rfl
   simp [stepG,stepG.exec,Ctx.fr,Sem.runT_eq,hend,GStep.bare_after,ej]
  unfold aD at hr3;refine hr3 ?_ _ _ ⟨ha.size,ha.get⟩ rfl rfl (hw.trans (hlike.trans (hlk.trans ⟨rfl,rfl,rfl⟩)))
  cases r'.pending with
  |none=>exact bQ hwf
  |some x=>exact cA trivial (bQ hwf)
/-! over symbolic heaps -/
theorem Sat.raw {E:Env} {F:Nat->Prop} {h0 h:Array Obj} {H:SH} {b a:Nat} {o:Obj} (S:Sat E F H h) (K:Kp F h0 h) (hl:bX H b=some (.raw a o)) (o':Obj):
  h[a]? = some o/\Sat E F (nG H b (.raw a o')) (h.setIfInBounds a o')/\Kp F h0 (h.setIfInBounds a o'):=by
 obtain ⟨g,e1,⟨rfl,e2⟩,e3⟩:=S.ok _ (bW hl);have hlt:g<h.size:=(Array.getElem?_eq_some_iff.1 e2).1;have hF:∀k,F k->(h.setIfInBounds g o')[k]? = h[k]? :=fun k hk=>Array.getElem?_setIfInBounds_ne (by rintro rfl;exact e3 hk);refine ⟨e2,Sat.set (b:=b) (x:=.raw g o) (y:=.raw g o') rfl rfl ⟨g,e1,⟨rfl,Array.getElem?_setIfInBounds_self_of_lt hlt⟩,e3⟩ hF (fun k hk=>.inl ?_) S hl,⟨by simpa using K.size,fun k hk=>(hF k hk).trans (K.same k hk),K.lt⟩⟩;exact Array.getElem?_setIfInBounds_ne (fun e=>hk (by rw [show E b=_ from e1,<-e];rfl))
abbrev aKE (D:Nat):cY:=⟨0,[],[],some D⟩
def qG (s:SCx P) (ds:List cY) (k:List SI) (l:SFr) (E1:Env) (D y:Nat) (e:Ending) (h':Array Obj):Prop:=match e with
 | .returned _=>∃r',h'[y]? = some (.loop r')/\r'.state ≠ .busy/\aD s.c (gD E1 (aKE D::ds)) (bFZ r'.pending++k) (gF E1 l) (h'.setIfInBounds y (.loop {r' with state:=.exhausted}))
 | .panicked ch=>Unw s.c (gD E1 (aKE D::ds)) (.panicking ch) (gF E1 l) h'
 | .outgrown=>False
section
variable {s:SCx P} {ds:List cY} {nx:Nat} {k:List SI} {l:SFr} {H:SH}
theorem aA.range {f:Operand} {params:Array Tmp} {assign body:Code} {g:FuncId} {first captured:List SV} {fn:Func} {code:Code} (hf:P.funcs[g]? = some fn) (hname:(fn.name == "runtime.NumGoroutine")=false) (hb:fn.body=some code) {n:Nat} (hnt:fn.ntmps=n)
  (hr:∀(E1:Env) (D y:Nat) (r:Loop),Rec s.c (gF E1 l) D params assign body r->Ag s.n0 s.E0 E1 -> ∀w0 cs,bFQ 0 (first++(.v (.func (.yield y) #[] #[])::captured)) fun la=>
   aA ⟨cW P g n w0 cs (qG s ds k l E1 D y),s.F,s.h0,E1,nx⟩ [] (nx+2) [.code code] la ((nx+1,.raw y (.loop (lp r .ready none)))::(nx,.raw D (.deferred (some [])))::H))
  (hx:eM l f=some (g,first,captured):=by rfl) (hargs:Nat.ble (first.length+(captured.length+1)) n=true:=by rfl) (hfr:gQ s.n0 nx l H ds=true:=by rfl) (hb2:bdH (nx+1) H=true:=by rfl) (hbd:SV.bds nx (first++captured)=true:=by rfl) (hro:s.c.round=none:=by rfl):
  aA s ds nx (.code (.rangeFunc f params assign body)::k) l H:=.mk fun E h hA S K=>by
 obtain ⟨f1,f2,f3,f4⟩:=dW hfr;refine aD.rangeFuncE (R:=qG s ds k l E h.size (h.size+1)) (fun r hrec=>?_) (fun _ h=>h) (fun _ _ h=>h) (fun _ _ h=>h) hro (kL hx);obtain ⟨E2,hE2⟩:∃E2,E2=push (push E nx (.pointer (some ⟨h.size,0,none⟩))) (nx+1) (.pointer (some ⟨h.size+1,0,none⟩)):=⟨_,rfl⟩;have A1:=gA E nx (.pointer (some ⟨h.size,0,none⟩));have A2:=gA (push E nx (.pointer (some ⟨h.size,0,none⟩))) (nx+1) (.pointer (some ⟨h.size+1,0,none⟩));have AA:Ag nx E E2:=by rw [hE2];exact A1.trans (A2.mono (Nat.le_succ _))
 have kk:aH h.size h ((h.push (.deferred (some []))).push (.loop r)):=((aH.refl h.size h).push (Nat.le_refl _) _).push (by simp) _;obtain ⟨S1,K1⟩:=S.keeps K kk;have hlt:∀p∈H,wr p.2=true -> ∀g,ownB (E p.1)=some g->g<h.size:=fun p hp hw g hg=>(Blk.lt (S.ok p hp) hw hg).1
 have S2:=Sat.add (n:=nx) (x:=.pointer (some ⟨h.size,0,none⟩)) (b:=.raw h.size (.deferred (some []))) S1 f3 ⟨_,rfl,⟨rfl,by rw [Array.getElem?_push_lt (by simp)];simp⟩,K.ge (Nat.le_refl _)⟩
  (fun _ p hp hw g hg e=>by cases e;exact absurd (hlt p hp hw _ hg) (Nat.lt_irrefl _))
 have hbn:Nat.blt nx (nx+1)=true:=Nat.blt_eq.mpr (Nat.lt_succ_self _)
 have S3:=Sat.add (n:=nx+1) (x:=.pointer (some ⟨h.size+1,0,none⟩)) (b:=.raw (h.size+1) (.loop r)) S2 (by simp only [bdH,hbn,bdB,hb2]) ⟨_,rfl,⟨rfl,by have:=Array.getElem?_push_size (xs:=h.push (.deferred (some []))) (x:=Obj.loop r);rw [Array.size_push] at this;exact this⟩,K.ge (Nat.le_succ _)⟩
  (fun _ p hp hw g hg e=>by
   cases e;rcases List.mem_cons.1 hp with rfl|hp
   ·rw [gW] at hg;injection hg with hg
    exact absurd hg (Nat.ne_of_lt (Nat.lt_succ_self _))
   rw [A1 _ (jO f3 hp).1] at hg;exact absurd (hlt p hp hw _ hg) (Nat.not_lt.2 (Nat.le_succ _)))
 rw [<-hE2] at S3;have hrl:lp r .ready none=r:=by rw [<-hrec.state,<-hrec.pending]
 rw [<-hrl] at S3 ⊢;have hag:SV.gs E (first++(.v (.func (.yield (h.size+1)) #[] #[])::captured))=SV.gs E2 (first++(.v (.func (.yield (h.size+1)) #[] #[])::captured)):=by
  have h1:=SV.gs_ag AA _ hbd;rw [sV,sV] at h1;obtain ⟨e1,e2⟩:=List.append_inj h1 (by rw [fM,fM]);rw [sV,sV,e1,SV.gs,SV.gs,e2];rfl
 have:=Fn.of (P:=P) (f:=g) hf hname hb hnt (args:=SV.gs E (first++(.v (.func (.yield (h.size+1)) #[] #[])::captured))) (by rw [fM,List.length_append,List.length_cons];exact hargs)
  (h:=(h.push (.deferred (some []))).push (.loop (lp r .ready none))) (R:=qG s ds k l E h.size (h.size+1)) fun w0 cs=>by
   have H1:=hr E h.size (h.size+1) r hrec hA w0 cs;rw [aAC] at H1;have:=H1.run E2 _ AA S3 (by rw [hrl];exact K1);rw [aDM,<-hag] at this;exact this
 have ea:(SV.gs E first).toArray ++ #[Value.func (.yield (h.size+1)) #[] #[]]++(SV.gs E captured).toArray=(SV.gs E (first++(.v (.func (.yield (h.size+1)) #[] #[])::captured))).toArray:=by
  apply Array.ext';simp [sV,SV.gs,SV.g]
 rw [ea];exact this
theorem qG.ret {E1:Env} {D y yn nx' n1:Nat} {r:Loop} {st:LoopState} {pd:Option Code} {H':SH} {v:Env->Value} (hA1:Ag s.n0 s.E0 E1) (hr:aA s (aKE D::ds) nx' (bFZ pd++k) l (nG H' yn (.raw y (.loop (lp r .exhausted pd)))))
  (hl:bX H' yn=some (.raw y (.loop (lp r st pd))):=by rfl) (hs:st ≠ .busy:=by decide) (hn:Nat.ble s.n0 n1=true:=by rfl) (hf:bdF n1 l=true:=by rfl) (hd:bdD n1 ds=true:=by rfl):
  ∀E h,Ag n1 E1 E->Sat E s.F H' h->Kp s.F s.h0 h->qG s ds k l E1 D y (.returned (v E)) h:=fun E h hA S K=>by
 obtain ⟨e1,S',K'⟩:=S.raw K hl (.loop (lp r .exhausted pd));refine ⟨_,e1,hs,?_⟩;have:=hr.run E _ (hA1.trans (hA.mono (Nat.le_of_ble_eq_true hn))) S' K';rw [iX hA l hf,show gD E (aKE D::ds)=gD E1 (aKE D::ds) by simp only [gD,jA hA ds hd];rfl] at this;exact this
theorem qG.pan {E1:Env} {D y nx' n1:Nat} {ch:List PanicEntry} {H':SH} (hA1:Ag s.n0 s.E0 E1) (hr:aB s (aKE D::ds) (.panicking ch) nx' l H')
  (hn:Nat.ble s.n0 n1=true:=by rfl) (hf:bdF n1 l=true:=by rfl) (hd:bdD n1 ds=true:=by rfl):
  ∀E h,Ag n1 E1 E->Sat E s.F H' h->Kp s.F s.h0 h->qG s ds k l E1 D y (.panicked ch) h:=fun E h hA S K=>by
 have:=hr.run E h (hA1.trans (hA.mono (Nat.le_of_ble_eq_true hn))) S K;rw [iX hA l hf,show gD E (aKE D::ds)=gD E1 (aKE D::ds) by simp only [gD,jA hA ds hd];rfl] at this;exact this
theorem aB.collected {D dn:Nat} {u:FrameMode} (hr:aB s ds u nx l (nG H dn (.raw D (.deferred none)))) (hu:u ≠ .run) (hl:bX H dn=some (.raw D (.deferred (some []))):=by rfl):aB s (aKE D::ds) u nx l H:=.mk fun E h hA S K=>by
 obtain ⟨e1,S',K'⟩:=S.raw K hl (.deferred none);exact Unw.collected e1 hu (hr.run E _ hA S' K')
/-! a round -/
def zipS:List Nat->List SV->SFr->SFr
 |p::ps,v::vs,l=>zipS ps vs ((p,v)::l)
 |_,_,l=>l
theorem aSM (E:Env):∀(ps:List Nat) (vs:List SV) (l:SFr),gF E (zipS ps vs l)=yR ps (SV.gs E vs) (gF E l)
 | [],[],l=>rfl
 | [],_::_,l=>rfl
 |_::_,[],l=>rfl
 |p::ps,v::vs,l=>by simp only [zipS,SV.gs,yR,aSM E ps vs,gF]
def aCO (s:SCx P) (ds:List cY) (all:Array Oper) (rest:List Oper) (k:List SI) (d:Nat) (l:SFr) (E1:Env) (v:Value) (h':Array Obj):Prop:=aD s.c (gD E1 ds) (.ops all rest::k) ((d,v)::gF E1 l) h'
theorem aA.yield {l0:SFr} {c0:Ctx P} {D y d:Nat} {params:Array Tmp} {assign body:Code} {r:Loop} {all:Array Oper} {rest:List Oper} {o:Oper} {cl:Call} {x:Operand} {vs:List SV} (hrec:Rec c0 (gF s.E0 l0) D params assign body r) (yn:Nat)
  (hr:∀E1,Ag s.n0 s.E0 E1 -> ∀w0 fr cs,aA ⟨kC P c0.fn c0.n y w0 fr cs (aCO s ds all rest k d l E1),s.F,s.h0,E1,nx⟩ [] nx [.code assign,.item .beginRound,.code body] (zipS params.toList vs l0) H)
  (hl:bX H yn=some (.raw y (.loop (lp r .ready none))):=by rfl) (hop:o.op=.call cl:=by rfl) (hcal:cl.callee=.value x:=by rfl) (hx:evS l x=some (.v (.func (.yield y) #[] #[])):=by rfl) (hargs:gK l cl.args.toList=some vs:=by rfl)
  (hgd:bT l all o=some true:=by rfl) (hdst:o.dst=some d:=by rfl) (hdn:Nat.blt d s.c.n=true:=by rfl) (hlen:Nat.beq vs.length params.toList.length=true:=by rfl) (hps:params.toList.all (fun p=>Nat.blt p c0.n)=true:=by rfl) (hl0:bdF s.n0 l0=true:=by rfl):
  aA s ds nx (.ops all (o::rest)::k) l H:=.mk fun E h hA S K=>by
 refine aD.callY (R:=aCO s ds all rest k d l E) (lD.of hrec (r1:=lp r .ready none) ⟨rfl,rfl,rfl,rfl,rfl⟩ (S.raw K hl (.loop r)).1 (vs:=SV.gs E vs) (fun w0 fr cs=>?_) (by rw [fM];exact hlen) hps) (fun _ _ h=>h) hop hcal (bN hx) (kH hargs) (bK hgd) hdst hdn;have:=(hr E hA w0 fr cs).run E h (Ag.refl _ _) S K;rw [aSM,iX hA l0 hl0] at this;exact this
theorem aA.beginRound {y:Nat} {r:Loop} {pd:Option Code} (yn:Nat) (hr:yS H yn (.raw y (.loop (lp r .busy pd))) fun H=>aA s ds nx k l H) (hl:bX H yn=some (.raw y (.loop (lp r .ready pd))):=by rfl) (hc:s.c.round=some y:=by rfl):
  aA s ds nx (.item .beginRound::k) l H:=.mk fun E h hA S K=>by
 rw [jN] at hr;obtain ⟨e1,S',K'⟩:=S.raw K hl (.loop (lp r .busy pd));exact aD.beginRound e1 rfl (hr.run E _ hA S' K') hc
section
variable {f n:Nat} {w0:World} {fr:Frame} {cs:List Frame} {all:Array Oper} {rest:List Oper} {d y nx' n1:Nat} {E1:Env} {dsr:List cY} {L:SFr} {H':SH} {r:Loop} {st:LoopState} {pd:Option Code} {kk:List SI}
theorem aCO.mk {b:Bool} {h':Array Obj} {E:Env} (hr:aA s ds nx' (.ops all rest::k) ((d,.v (.bool b))::l) H') (hA1:Ag s.n0 s.E0 E1) (hA:Ag n1 E1 E) (S:Sat E s.F H' h') (K:Kp s.F s.h0 h') (hn:s.n0<=n1) (hf:bdF n1 l=true) (hd:bdD n1 ds=true):aCO s ds all rest k d l E1 (.bool b) h':=by
 have:=hr.run E h' (hA1.trans (hA.mono hn)) S K;rw [gF,iX hA l hf,jA hA ds hd] at this;exact this
theorem aA.endRound (yn:Nat) (hA1:Ag s.n0 s.E0 E1) (hr:yS H' yn (.raw y (.loop (lp r .ready none))) fun H'=>aA s ds nx' (.ops all rest::k) ((d,.v (.bool true))::l) H')
  (hl:bX H' yn=some (.raw y (.loop (lp r st pd))):=by rfl) (hn:Nat.ble s.n0 n1=true:=by rfl) (hf:bdF n1 l=true:=by rfl) (hd:bdD n1 ds=true:=by rfl):
  aA ⟨kC P f n y w0 fr cs (aCO s ds all rest k d l E1),s.F,s.h0,E1,n1⟩ dsr nx' [] L H':=.mk fun E h hA S K=>by
 rw [jN] at hr;obtain ⟨e1,S',K'⟩:=S.raw K hl (.loop (lp r .ready none));exact aD.endRound e1 (aCO.mk hr hA1 hA S' K' (Nat.le_of_ble_eq_true hn) hf hd)
theorem aA.roundRet (yn:Nat) (hA1:Ag s.n0 s.E0 E1) (hr:yS H' yn (.raw y (.loop (lp r .done (some .ret)))) fun H'=>aA s ds nx' (.ops all rest::k) ((d,.v (.bool false))::l) H')
  (hl:bX H' yn=some (.raw y (.loop (lp r st pd))):=by rfl) (hn:Nat.ble s.n0 n1=true:=by rfl) (hf:bdF n1 l=true:=by rfl) (hd:bdD n1 ds=true:=by rfl):
  aA ⟨kC P f n y w0 fr cs (aCO s ds all rest k d l E1),s.F,s.h0,E1,n1⟩ dsr nx' (.code .ret::kk) L H':=.mk fun E h hA S K=>by
 rw [jN] at hr;obtain ⟨e1,S',K'⟩:=S.raw K hl (.loop (lp r .done (some .ret)));exact aD.roundRet e1 (aCO.mk hr hA1 hA S' K' (Nat.le_of_ble_eq_true hn) hf hd)
end
end
end Go.Fw

namespace Go.NatM
def B:Nat:=18446744073709551616
theorem mA:B=18446744073709551616:=rfl
theorem rN:0<B:=by decide
theorem eD (j:Nat):0<B^j:=Nat.pow_pos rN
def wdc (V j:Nat):Nat:=V/B^j%B
theorem iB (V j:Nat):wdc V j<B:=Nat.mod_lt _ rN
theorem qA (V j:Nat):wdc V j<=18446744073709551615:=by have:=iB V j;rw [mA] at this;omega
theorem aEM {V m j:Nat} (h:V<B^m) (hj:m<=j):wdc V j=0:=by
 unfold wdc;rw [Nat.div_eq_of_lt (Nat.lt_of_lt_of_le h (Nat.pow_le_pow_right rN hj))];rfl
theorem iD (V j:Nat):V%B^(j+1)=V%B^j+B^j*wdc V j:=by
 unfold wdc;rw [Nat.pow_succ,Nat.mod_mul]
theorem kB (V j:Nat):V/B^j=wdc V j+B*(V/B^(j+1)):=by
 unfold wdc;rw [Nat.pow_succ,<-Nat.div_div_eq_div_mul,Nat.mod_add_div]
theorem aNR {V m:Nat} (h:V<B^m):V%B^m=V:=Nat.mod_eq_of_lt h
def car (V1 V2 j:Nat):Nat:=(V1%B^j+V2%B^j)/B^j
theorem aYC (V1 V2:Nat):car V1 V2 0=0:=by simp [car,Nat.mod_one]
theorem car_le (V1 V2 j:Nat):car V1 V2 j<=1:=by
 have h1:=Nat.mod_lt V1 (eD j);have h2:=Nat.mod_lt V2 (eD j);have:car V1 V2 j<2:=by
  unfold car;exact Nat.div_lt_of_lt_mul (by omega)
 omega
theorem aZY (V1 V2 j:Nat):wdc (V1+V2) j=(wdc V1 j+wdc V2 j+car V1 V2 j)%B/\car V1 V2 (j+1)=(wdc V1 j+wdc V2 j+car V1 V2 j)/B:=by
 have hB:=eD j;have e:(V1+V2)/B^j=V1/B^j+V2/B^j+car V1 V2 j:=by
  unfold car;have h1:=Nat.div_add_mod V1 (B^j);have h2:=Nat.div_add_mod V2 (B^j);have:V1+V2=(V1%B^j+V2%B^j)+B^j*(V1/B^j+V2/B^j):=by rw [Nat.mul_add];omega
  rw [this,Nat.add_mul_div_left _ _ hB];omega
 constructor
 ·unfold wdc;rw [e,Nat.add_mod (V1/B^j+V2/B^j),Nat.add_mod (V1/B^j)]
  simp [Nat.add_mod]
 have h1:=iD V1 j;have h2:=iD V2 j;show (V1%B^(j+1)+V2%B^(j+1))/B^(j+1)=_;rw [h1,h2,Nat.pow_succ,<-Nat.div_div_eq_div_mul];have:V1%B^j+B^j*wdc V1 j+(V2%B^j+B^j*wdc V2 j)=(V1%B^j+V2%B^j)+B^j*(wdc V1 j+wdc V2 j):=by rw [Nat.mul_add];omega
 rw [this,Nat.add_mul_div_left _ _ hB];unfold car
 congr 1
 omega
def bor (V1 V2 j:Nat):Nat:=if V1%B^j<V2%B^j then 1 else 0
theorem bBV (V1 V2:Nat):bor V1 V2 0=0:=by simp [bor,Nat.mod_one]
theorem aYT (V1 V2 j:Nat):bor V1 V2 j<=1:=by unfold bor;split<;>omega
theorem div_sub {N V1 V2 q1 q2 r1 r2:Nat} (hN:0<N) (h1:V1=N*q1+r1) (h2:V2=N*q2+r2) (l1:r1<N) (l2:r2<N) (h:V2<=V1):
  q1=(V1 - V2)/N+q2+(if r1<r2 then 1 else 0):=by
 have hq:q2<=q1:=by
  rcases Nat.lt_or_ge q1 q2 with hh|hh
  ·exfalso
   have:=Nat.mul_le_mul_left N (show q1+1<=q2 by omega);rw [Nat.mul_add,Nat.mul_one] at this;omega
  exact hh
 split
 ·rename_i hlt
  have hq':q2+1<=q1:=by
   rcases Nat.lt_or_ge q2 q1 with hh|hh
   ·exact hh
   exfalso
   have:q1=q2:=by omega
   subst this;omega
  obtain ⟨q,rfl⟩:∃q,q1=q2+1+q:=⟨q1 - (q2+1),by omega⟩;have e1:N*(q2+1+q)=N*q2+N+N*q:=by rw [Nat.mul_add,Nat.mul_add,Nat.mul_one]
  have e2:V1 - V2=N*q+(r1+N - r2):=by omega
  rw [e2,Nat.mul_add_div hN,Nat.div_eq_of_lt (by omega)];omega
 rename_i hge
 obtain ⟨q,rfl⟩:∃q,q1=q2+q:=⟨q1 - q2,by omega⟩;have e1:N*(q2+q)=N*q2+N*q:=by rw [Nat.mul_add]
 have e2:V1 - V2=N*q+(r1 - r2):=by omega
 rw [e2,Nat.mul_add_div hN,Nat.div_eq_of_lt (by omega)];omega
theorem aYM {V1 V2:Nat} (h:V2<=V1) (j:Nat):
  (wdc (V1 - V2) j:Int)=((wdc V1 j:Int) - wdc V2 j - bor V1 V2 j)%B /\
  bor V1 V2 (j+1)=if (wdc V1 j:Int) - wdc V2 j - bor V1 V2 j<0 then 1 else 0:=by
 have hB:=eD j;have d1:=Nat.div_add_mod V1 (B^j);have d2:=Nat.div_add_mod V2 (B^j);have m1:=Nat.mod_lt V1 hB;have m2:=Nat.mod_lt V2 hB;have w1:=kB V1 j;have w2:=kB V2 j;have l1:=iB V1 j;have l2:=iB V2 j;have hb:=aYT V1 V2 j;have z1:=Nat.zero_le (V1%B^j);have z2:=Nat.zero_le (V2%B^j);have e:V1/B^j=(V1 - V2)/B^j+V2/B^j+bor V1 V2 j:=div_sub hB d1.symm d2.symm m1 m2 h;have w3:=kB (V1 - V2) j;have l3:=iB (V1 - V2) j
 constructor
 ·have:(wdc V1 j:Int) - wdc V2 j - bor V1 V2 j=wdc (V1 - V2) j+B*(((V1 - V2)/B^(j+1):Nat)+((V2/B^(j+1):Nat):Int) - ((V1/B^(j+1):Nat):Int)):=by
   have e':((V1/B^j:Nat):Int)=((V1 - V2)/B^j:Nat)+((V2/B^j:Nat):Int)+(bor V1 V2 j:Nat):=by exact_mod_cast e
   rw [w1,w2,w3] at e';simp only [Int.natCast_add,Int.natCast_mul] at e';rw [Int.mul_sub,Int.mul_add];omega
  rw [this,Int.add_mul_emod_self_left];exact (Int.emod_eq_of_lt (by omega) (by omega)).symm
 have s1:=iD V1 j;have s2:=iD V2 j;unfold bor;rw [s1,s2];by_cases hlt:V1%B^j<V2%B^j
 ·rw [if_pos hlt];by_cases hw:wdc V1 j<=wdc V2 j
  ·have:=Nat.mul_le_mul_left (B^j) hw;rw [if_pos (by omega),if_pos (by omega)]
  have:=Nat.mul_le_mul_left (B^j) (show wdc V2 j+1<=wdc V1 j by omega);rw [Nat.mul_add,Nat.mul_one] at this;rw [if_neg (by omega),if_neg (by omega)]
 rw [if_neg hlt];by_cases hw:wdc V1 j<wdc V2 j
 ·have:=Nat.mul_le_mul_left (B^j) (show wdc V1 j+1<=wdc V2 j by omega);rw [Nat.mul_add,Nat.mul_one] at this;rw [if_pos (by omega),if_pos (by omega)]
 have:=Nat.mul_le_mul_left (B^j) (show wdc V2 j<=wdc V1 j by omega);rw [if_neg (by omega),if_neg (by omega)]
def aAV (V k x:Nat):Nat:=V%B^k+B^k*(x+B*(V/B^(k+1)))
theorem rY {V k x:Nat} (hx:x<B) (j:Nat):wdc (aAV V k x) j=if j=k then x else wdc V j:=by
 have hm:=Nat.mod_lt V (eD k);unfold aAV;by_cases h:j=k
 ·subst h;rw [if_pos rfl];unfold wdc;rw [Nat.add_mul_div_left _ _ (eD j),Nat.div_eq_of_lt hm,Nat.zero_add,Nat.add_mul_mod_self_left,Nat.mod_eq_of_lt hx]
 rw [if_neg h];rcases Nat.lt_or_ge j k with hlt|hge
 ·obtain ⟨d,rfl⟩:∃d,k=j+1+d:=⟨k - j - 1,by omega⟩;have e:∀Y,wdc (V%B^(j+1+d)+B^(j+1+d)*Y) j=wdc V j:=by
   intro Y;unfold wdc;have a1:∀Z:Nat,Z/B^j%B=Z%B^(j+1)/B^j:=by
    intro Z;rw [Nat.pow_succ,Nat.mod_mul_right_div_self]
   rw [a1,a1]
   congr 1
   rw [Nat.pow_add,Nat.mul_assoc,Nat.add_mul_mod_self_left,Nat.mod_mul_right_mod]
  exact e _
 obtain ⟨d,rfl⟩:∃d,j=k+1+d:=⟨j - k - 1,by omega⟩;unfold wdc;have e:(V%B^k+B^k*(x+B*(V/B^(k+1))))/B^(k+1)=V/B^(k+1):=by
  rw [Nat.pow_succ,<-Nat.div_div_eq_div_mul,Nat.add_mul_div_left _ _ (eD k),Nat.div_eq_of_lt hm,Nat.zero_add,Nat.add_mul_div_left _ _ rN,Nat.div_eq_of_lt hx,Nat.zero_add]
 have e2:∀Z:Nat,Z/B^(k+1+d)=Z/B^(k+1)/B^d:=fun Z=>by rw [Nat.pow_add,Nat.div_div_eq_div_mul]
 rw [e2,e,e2]
theorem aAN {V k x:Nat}:aAV V k x+B^k*wdc V k=V+B^k*x:=by
 have h1:=Nat.div_add_mod V (B^k);have h2:=kB V k;unfold aAV;rw [Nat.mul_add];have h3:B^k*(V/B^k)=B^k*wdc V k+B^k*(B*(V/B^(k+1))):=by rw [h2,Nat.mul_add]
 omega
theorem aAP {V k x m:Nat} (hx:x<B) (hk:k<m) (hV:V<B^m):aAV V k x<B^m:=by
 obtain ⟨d,rfl⟩:∃d,m=k+1+d:=⟨m - k - 1,by omega⟩;have h1:V/B^(k+1)<B^d:=Nat.div_lt_of_lt_mul (by rw [<-Nat.pow_add];exact hV);have h2:x+B*(V/B^(k+1))<B*B^d:=by
  have:=Nat.mul_le_mul_left B (show V/B^(k+1)+1<=B^d by omega);rw [Nat.mul_add,Nat.mul_one] at this;omega
 unfold aAV;have hm:=Nat.mod_lt V (eD k);have:=Nat.mul_le_mul_left (B^k) (show x+B*(V/B^(k+1))+1<=B*B^d by omega);rw [Nat.mul_add,Nat.mul_one] at this;have e:B^(k+1+d)=B^k*(B*B^d):=by rw [Nat.pow_add,Nat.pow_succ,Nat.mul_assoc]
 rw [e];omega
theorem aYB {m:Nat}:∀ {V V':Nat},V<B^m->V'<B^m->(∀j,j<m->wdc V j=wdc V' j)->V=V':=by
 induction m with
 |zero=>intro V V' h h' _;simp at h h';omega
 |succ m ih=>
  intro V V' h h' hw;have e:V%B^m=V'%B^m:=by
   refine ih (Nat.mod_lt _ (eD m)) (Nat.mod_lt _ (eD m)) (fun j hj=>?_);have a:∀Z,wdc (Z%B^m) j=wdc Z j:=by
    intro Z;obtain ⟨d,rfl⟩:∃d,m=j+1+d:=⟨m - j - 1,by omega⟩;unfold wdc;have a1:∀Z:Nat,Z/B^j%B=Z%B^(j+1)/B^j:=by
     intro Z;rw [Nat.pow_succ,Nat.mod_mul_right_div_self]
    rw [a1,a1,Nat.pow_add,Nat.mod_mul_right_mod]
   rw [a,a];exact hw j (by omega)
  have h1:=iD V m;have h2:=iD V' m;rw [Nat.mod_eq_of_lt h] at h1;rw [Nat.mod_eq_of_lt h'] at h2;rw [h1,h2,e,hw m (by omega)]
def nw (V:Nat):Nat:=if V=0 then 0 else Nat.log2 V/64+1
theorem xJ (j:Nat):B^j=2^(64*j):=by
 rw [show B=2^64 from rfl,<-Nat.pow_mul]
theorem mV (V:Nat):V<B^nw V:=by
 unfold nw;split
 ·rename_i h;subst h;decide
 rw [xJ];rw [<-Nat.log2_lt (by assumption)];have:=Nat.div_add_mod (Nat.log2 V) 64;have:=Nat.mod_lt (Nat.log2 V) (show 0<64 by omega);omega
theorem nw_top {V:Nat} (h:V≠0):wdc V (nw V - 1)≠0/\B^(nw V - 1)<=V:=by
 have hle:B^(nw V - 1)<=V:=by
  unfold nw;rw [if_neg h,Nat.add_sub_cancel,xJ];rw [<-Nat.le_log2 h];have:=Nat.div_add_mod (Nat.log2 V) 64;omega
 refine ⟨?_,hle⟩;have hlt:=mV V;have hpos:nw V=nw V - 1+1:=by unfold nw;rw [if_neg h];omega
 have:=iD V (nw V - 1);rw [<-hpos,Nat.mod_eq_of_lt hlt] at this;intro h0;rw [h0,Nat.mul_zero,Nat.add_zero] at this;have:=Nat.mod_lt V (eD (nw V - 1));omega
theorem aSQ {V m:Nat} (h:V<B^m):nw V<=m:=by
 unfold nw;split
 ·omega
 rename_i h0
 rw [xJ,<-Nat.log2_lt h0] at h;have:=Nat.div_add_mod (Nat.log2 V) 64;omega
theorem nw_eq {V m:Nat} (h:V<B^m) (ht:m≠0->wdc V (m - 1)≠0):m=nw V:=by
 have h1:=aSQ h;rcases Nat.lt_or_ge (nw V) m with hlt|hge
 ·exfalso
  exact ht (by omega) (aEM (mV V) (by omega))
 omega
theorem nw_zero:nw 0=0:=rfl
theorem sO {V:Nat} (h:V≠0):0<nw V:=by unfold nw;rw [if_neg h];omega
theorem fR {V V':Nat} (h:V<=V'):nw V<=nw V':=aSQ (Nat.lt_of_le_of_lt h (mV V'))
theorem aTS {V1 V2 j:Nat} (h:V1/B^(j+1)=V2/B^(j+1)) (hne:wdc V1 j<wdc V2 j):V1<V2:=by
 have h1:=kB V1 j;have h2:=kB V2 j;have:V1/B^j<V2/B^j:=by rw [h1,h2,h];omega
 rcases Nat.lt_or_ge V1 V2 with hlt|hge
 ·exact hlt
 have:=Nat.div_le_div_right (c:=B^j) hge;omega
theorem aTO {V1 V2:Nat} (h:nw V1<nw V2):V1<V2:=by
 rcases Nat.lt_or_ge V1 V2 with hlt|hge
 ·exact hlt
 have:=fR hge;omega
def bl (V:Nat):Nat:=if V=0 then 0 else Nat.log2 V+1
theorem aOZ {V k:Nat} (h1:2^k<=V) (h2:V<2^(k+1)):Nat.log2 V=k:=by
 have h0:V≠0:=by
  intro e;subst e;have:=Nat.pow_pos (n:=k) (show 0<2 by omega);omega
 have a:=(Nat.le_log2 h0).2 h1;have b:=(Nat.log2_lt h0).2 h2;omega
theorem aPN (V:Nat):V<2^bl V:=by
 unfold bl;split
 ·rename_i h;subst h;decide
 rename_i h;exact (Nat.log2_lt h).1 (by omega)
theorem aNL {V:Nat} (h:V≠0):2^(bl V - 1)<=V:=by
 unfold bl;rw [if_neg h,Nat.add_sub_cancel];exact (Nat.le_log2 h).1 (Nat.le_refl _)
theorem aQP {V:Nat} (h:V≠0):0<bl V:=by unfold bl;rw [if_neg h];omega
theorem aWW {V k:Nat} (h0:V≠0) (h1:V<2^k) (h2:2^(k - 1)<=V):bl V=k:=by
 have hk:k≠0:=by intro e;subst e;simp at h1;omega
 unfold bl;rw [if_neg h0,aOZ h2 (by rw [Nat.sub_add_cancel (by omega)];exact h1)];omega
theorem gC {V s:Nat} (h:2^s<=V):bl V=s+bl (V/2^s):=by
 have hp:=Nat.pow_pos (n:=s) (show 0<2 by omega);have hq:V/2^s≠0:=by
  have:=Nat.div_pos h hp;omega
 have h1:=aPN (V/2^s);have h2:=aNL hq;have h3:=aQP hq;have d:=Nat.div_add_mod V (2^s);have m:=Nat.mod_lt V hp;refine aWW (by omega) ?_ ?_
 ·rw [Nat.pow_add];have:=Nat.mul_le_mul_left (2^s) (show V/2^s+1<=2^bl (V/2^s) by omega);rw [Nat.mul_add,Nat.mul_one] at this;omega
 rw [show s+bl (V/2^s) - 1=s+(bl (V/2^s) - 1) by omega,Nat.pow_add];have:=Nat.mul_le_mul_left (2^s) h2;omega
theorem aAB {V:Nat} (h:V≠0):bl V=64*(nw V - 1)+bl (wdc V (nw V - 1)):=by
 obtain ⟨_,hle⟩:=nw_top h;have hlt:=mV V;have e:wdc V (nw V - 1)=V/B^(nw V - 1):=by
  unfold wdc;refine Nat.mod_eq_of_lt (Nat.div_lt_of_lt_mul ?_);rw [<-Nat.pow_succ,Nat.succ_eq_add_one,Nat.sub_add_cancel (sO h)];exact hlt
 rw [e,xJ] at *;exact gC hle
theorem aJM {a b:Nat} (h:a<=b):bl a<=bl b:=by
 rcases Nat.lt_or_ge (bl b) (bl a) with hlt|hge
 ·exfalso
  have ha:a≠0:=by intro e;subst e;simp [bl] at hlt
  have h1:=aPN b;have h2:=aNL ha;have:=Nat.pow_le_pow_right (show 0<2 by omega) (show bl b<=bl a - 1 by omega);omega
 exact hge
end Go.NatM

namespace Go.Proofs.YthjedpdedjhndaaGreatDoor
open Go Go.Fw Go.NatM
def Rdw (h:Array Obj) (b off m V:Nat):Prop:=∀j,j<m->bL h b (off+j)=some (.int .u64 (wdc V j:Nat))
def Wr (h:Array Obj) (v:Value) (m V:Nat):Prop:=
 ∃a cap,v=.slice a m cap/\m<=cap/\V<B^m/\(0<m -> ∃b off,a=some ⟨b,off,none⟩/\Rdw h b off m V)
theorem tY {h:Array Obj} {b o:Nat} {v:Value} (H:bL h b o=some v):b<h.size:=by
 unfold bL at H;split at H
 ·rename_i hb;exact (Array.getElem?_eq_some_iff.1 hb).1
 cases H
theorem aQK {h h':Array Obj} {b:Nat} (hb:h'[b]? = h[b]?) (o:Nat):bL h' b o=bL h b o:=by
 unfold bL;rw [hb]
theorem Wr.of_same {h h':Array Obj} {v:Value} {m V:Nat} (hw:Wr h v m V) (hs:∀b,v.ownBlock=some b->b<h.size->h'[b]? = h[b]?):Wr h' v m V:=by
 obtain ⟨a,cap,rfl,hc,hV,hr⟩:=hw;refine ⟨a,cap,rfl,hc,hV,fun hm=>?_⟩;obtain ⟨b,off,rfl,hrd⟩:=hr hm;refine ⟨b,off,rfl,fun j hj=>?_⟩;rw [aQK (hs b rfl (tY (hrd j hj)))];exact hrd j hj
theorem Wr.keeps {h h':Array Obj} {v:Value} {m V:Nat} (hw:Wr h v m V) (hk:aH h.size h h'):Wr h' v m V:=
 hw.of_same fun b _ hb=>hk.same b hb
theorem Wr.of_at {h:Array Obj} {g m cap V:Nat} {cur:Array Value} (hat:At h g cur 173) (hm:m<=cap) (hV:V<B^m) (hc:∀j,j<m->cur[j]? = some (.int .u64 (wdc V j:Nat))):
  Wr h (.slice (some ⟨g,0,none⟩) m cap) m V:=
 ⟨_,cap,rfl,hm,hV,fun _=>⟨g,0,rfl,fun j hj=>by rw [Nat.zero_add,hat.cell];exact hc j hj⟩⟩
theorem aIQ (x:Int) (h:Array Obj):FnV Tryz.prog 284 #[.int .i64 x] h fun v h'=>v=.bool false/\h'=h:=by
 refine Fn.of (args:=[.int .i64 x]) Tryz.func284 (by kernel_rfl) rfl Tryz.ntmps284 rfl fun w0 cs=>?_;refine gO ?_;conv=>whnf
 refine aD.ret Tryz.func284 rfl rfl ⟨_,rfl,?_⟩;exact ⟨by simp [tup],rfl⟩
theorem aIO (x:Int) (h:Array Obj):FnV Tryz.prog 285 #[.int .u64 x] h fun v h'=>v=.bool false/\h'=h:=by
 refine Fn.of (args:=[.int .u64 x]) Tryz.func285 (by kernel_rfl) rfl Tryz.ntmps285 rfl fun w0 cs=>?_;refine gO ?_;conv=>whnf
 refine aD.ret Tryz.func285 rfl rfl ⟨_,rfl,?_⟩;exact ⟨by simp [tup],rfl⟩
def lC (x y:Int):Int:=if x<y then -1 else if y<x then 1 else 0
theorem aTQ (x y:Int) (h:Array Obj):FnV Tryz.prog 234 #[.int .i64 x,.int .i64 y] h fun v h'=>v=.int .i64 (lC x y)/\h'=h:=by
 refine Fn.of (args:=[.int .i64 x,.int .i64 y]) Tryz.func234 (by kernel_rfl) rfl Tryz.ntmps234 rfl fun w0 cs=>?_;refine gO ?_;conv=>whnf
 refine aD.callV (aIQ x h) ?_;rintro v h' ⟨rfl,rfl⟩
 (try refine gO ?_);conv=>whnf
 refine aD.callV (aIQ y h') ?_;rintro v h' ⟨rfl,rfl⟩
 (try refine gO ?_);conv=>whnf
 refine ⟨fun h1=>?_,fun h1=>?_⟩<;>conv=>whnf
 ·refine aD.ret Tryz.func234 rfl rfl ⟨_,rfl,?_⟩;exact ⟨by simp [tup,lC,h1],rfl⟩
 refine ⟨fun h2=>?_,fun h2=>?_⟩<;>conv=>whnf
 ·refine aD.ret Tryz.func234 rfl rfl ⟨_,rfl,?_⟩;exact ⟨by simp [tup,lC,h1,h2],rfl⟩
 refine aD.ret Tryz.func234 rfl rfl ⟨_,rfl,?_⟩;exact ⟨by simp [tup,lC,h1,h2],rfl⟩
theorem cmp_u64 (x y:Int) (h:Array Obj):FnV Tryz.prog 235 #[.int .u64 x,.int .u64 y] h fun v h'=>v=.int .i64 (lC x y)/\h'=h:=by
 refine Fn.of (args:=[.int .u64 x,.int .u64 y]) Tryz.func235 (by kernel_rfl) rfl Tryz.ntmps235 rfl fun w0 cs=>?_;refine gO ?_;conv=>whnf
 refine aD.callV (aIO x h) ?_;rintro v h' ⟨rfl,rfl⟩
 (try refine gO ?_);conv=>whnf
 refine aD.callV (aIO y h') ?_;rintro v h' ⟨rfl,rfl⟩
 (try refine gO ?_);conv=>whnf
 refine ⟨fun h1=>?_,fun h1=>?_⟩<;>conv=>whnf
 ·refine aD.ret Tryz.func235 rfl rfl ⟨_,rfl,?_⟩;exact ⟨by simp [tup,lC,h1],rfl⟩
 refine ⟨fun h2=>?_,fun h2=>?_⟩<;>conv=>whnf
 ·refine aD.ret Tryz.func235 rfl rfl ⟨_,rfl,?_⟩;exact ⟨by simp [tup,lC,h1,h2],rfl⟩
 refine aD.ret Tryz.func235 rfl rfl ⟨_,rfl,?_⟩;exact ⟨by simp [tup,lC,h1,h2],rfl⟩
theorem aAI {h:Array Obj} {v:Value} {m V:Nat} (hw:Wr h v m V) (i:Nat):FnV Tryz.prog 223 #[v,.int .i64 i] h fun r h'=>r=.int .u64 (wdc V i:Nat)/\h'=h:=by
 obtain ⟨a,cap,rfl,hc,hV,hr⟩:=hw;by_cases hi:i<m
 ·obtain ⟨b,off,rfl,hrd⟩:=hr (by omega);refine Fn.of (args:=[.slice (some ⟨b,off,none⟩) m cap,.int .i64 i]) Tryz.func223 (by kernel_rfl) rfl Tryz.ntmps223 rfl fun w0 cs=>?_;refine gO ?_;conv=>whnf
  refine ⟨fun h1=>?_,fun h1=>?_⟩<;>conv=>whnf
  ·repeat (refine oL ?_;conv=>whnf)
   refine ⟨_,hrd i hi,?_⟩;conv=>whnf
   refine aD.ret Tryz.func223 rfl rfl ⟨_,rfl,?_⟩;exact ⟨rfl,rfl⟩
  omega
 refine Fn.of (args:=[.slice a m cap,.int .i64 i]) Tryz.func223 (by kernel_rfl) rfl Tryz.ntmps223 rfl fun w0 cs=>?_;refine gO ?_;conv=>whnf
 refine ⟨fun h1=>?_,fun h1=>?_⟩<;>conv=>whnf
 ·omega
 refine aD.ret Tryz.func223 rfl rfl ⟨_,rfl,?_⟩;exact ⟨by rw [aEM hV (by omega)];rfl,rfl⟩

theorem aVZ (s:ByteArray) (i:Nat):aY s i<=255:=by
 have:=(s.data.toList.getD i 0).toNat_lt;unfold aY;omega
theorem jJ {x q n:Nat} (hn:bl x=n+bl q) (hq:q<256) (T:ByteArray) (hT:∀j:Fin 256,aY T j=bl j) (z N:Int) (hz:z=q) (hN:N=n):(N+(aY T (z%256).toNat:Nat))=(bl x:Nat):=by
 have:(z%256).toNat=q:=by omega
 rw [this,hT ⟨q,hq⟩,hn,hN];rfl
theorem aNJ (x:Nat) (hx:x<B) (h:Array Obj):FnV Tryz.prog 282 #[.int .u64 x] h fun v h'=>v=.int .i64 (bl x:Nat)/\h'=h:=by
 rw [mA] at hx;refine Fn.of (args:=[.int .u64 x]) Tryz.func282 (by kernel_rfl) rfl Tryz.ntmps282 rfl fun w0 cs=>?_;refine gO ?_;conv=>whnf
 refine ⟨fun h1=>?_,fun h1=>?_⟩<;>conv=>whnf
 all_goals
  refine ⟨fun h2=>?_,fun h2=>?_⟩<;>conv=>whnf
 all_goals
  repeat (refine oL ?_;conv=>whnf)
  refine ⟨fun h3=>?_,fun h3=>?_⟩<;>conv=>whnf
 all_goals
  repeat (refine oL ?_;conv=>whnf)
  generalize hT:(ByteArray.mk _)=T
  have hsz:T.size=256:=by subst hT;rfl
  have hb:∀j:Fin 256,aY T j=bl j:=by subst hT;decide +kernel
  have hb8:∀j:Nat,j<256->bl j<=8:=fun j hj=>aJM (show j<=255 by omega);rw [hsz]
  generalize hnn:aY T _=nn
  have hle:nn<=255:=by rw [<-hnn];exact aVZ _ _
  repeat (refine oL ?_;conv=>whnf)
  refine aD.ret Tryz.func282 rfl rfl ⟨_,rfl,?_⟩;refine ⟨?_,rfl⟩;subst hnn;refine congrArg (Value.int .i64) ?_
  first
   |exact jJ (n:=56) (q:=x/2^32/2^16/2^8) (by rw [gC (V:=x) (s:=32) (by omega),gC (V:=x/2^32) (s:=16) (by omega),gC (V:=x/2^32/2^16) (s:=8) (by omega)];omega) (by omega) T hb _ _ (by omega) (by omega)
   |exact jJ (n:=48) (q:=x/2^32/2^16) (by rw [gC (V:=x) (s:=32) (by omega),gC (V:=x/2^32) (s:=16) (by omega)];omega) (by omega) T hb _ _ (by omega) (by omega)
   |exact jJ (n:=40) (q:=x/2^32/2^8) (by rw [gC (V:=x) (s:=32) (by omega),gC (V:=x/2^32) (s:=8) (by omega)];omega) (by omega) T hb _ _ (by omega) (by omega)
   |exact jJ (n:=32) (q:=x/2^32) (by rw [gC (V:=x) (s:=32) (by omega)]) (by omega) T hb _ _ (by omega) (by omega)
   |exact jJ (n:=24) (q:=x/2^16/2^8) (by rw [gC (V:=x) (s:=16) (by omega),gC (V:=x/2^16) (s:=8) (by omega)];omega) (by omega) T hb _ _ (by omega) (by omega)
   |exact jJ (n:=16) (q:=x/2^16) (by rw [gC (V:=x) (s:=16) (by omega)]) (by omega) T hb _ _ (by omega) (by omega)
   |exact jJ (n:=8) (q:=x/2^8) (by rw [gC (V:=x) (s:=8) (by omega)]) (by omega) T hb _ _ (by omega) (by omega)
   |exact jJ (n:=0) (q:=x) (by omega) (by omega) T hb _ _ (by omega) (by omega)
theorem gV {k:Nat} (h:0<k):((k:Int) - 1).toNat=k - 1:=by omega
theorem aSX {h:Array Obj} {a:Option Addr} {m cap V:Nat} (hw:Wr h (.slice a m cap) m V) (hm:m<=1099511627776):
  FnV Tryz.prog 231 #[.slice a m cap] h fun r h'=>r=.slice a (nw V) cap/\h'=h:=by
 obtain ⟨a',cap',e,hc,hV,hr⟩:=hw;cases e;refine Fn.of (args:=[.slice a m cap]) Tryz.func231 (by kernel_rfl) rfl Tryz.ntmps231 rfl fun w0 cs=>?_;refine gO ?_;conv=>whnf
 refine aD.loop (X:=Nat) (fun k=>[(0,.slice a k cap)]) (fun k h'=>h'=h/\k<=m/\V<B^k) (fun k=>k) m ⟨rfl,Nat.le_refl _,hV⟩ ⟨rfl,trivial⟩ ?_;rintro k h' ⟨rfl,hk,hVk⟩ ih;by_cases hk0:k=0
 ·subst hk0
  (try refine gO ?_);conv=>whnf
  refine ⟨fun h1=>?_,fun h1=>?_⟩<;>conv=>whnf
  ·omega
  refine aD.ret Tryz.func231 rfl rfl ⟨_,rfl,?_⟩;refine ⟨?_,rfl⟩;have:V=0:=by simp at hVk;omega
  subst this;rfl
 obtain ⟨b,off,rfl,hrd⟩:=hr (by omega);have hj:=hrd (k - 1) (by omega);rw [<-gV (by omega)] at hj
 (try refine gO ?_);conv=>whnf
 refine ⟨fun h1=>?_,fun h1=>?_⟩<;>conv=>whnf
 ·repeat (refine oL ?_;conv=>whnf)
  refine ⟨_,hj,?_⟩;conv=>whnf
  refine ⟨fun h2=>?_,fun h2=>?_⟩<;>conv=>whnf
  ·repeat (refine oL ?_;conv=>whnf)
   rw [gV (by omega)] at h2;rw [gV (by omega)];refine ih (k - 1) _ _ ⟨rfl,by omega,?_⟩ (by omega) ⟨rfl,trivial⟩;have:=iD V (k - 1);rw [Nat.sub_add_cancel (by omega),Nat.mod_eq_of_lt hVk] at this;have hz:wdc V (k - 1)=0:=by omega
   rw [hz] at this;have:=Nat.mod_lt V (eD (k - 1));omega
  refine aD.ret Tryz.func231 rfl rfl ⟨_,rfl,?_⟩;rw [gV (by omega)] at h2;have:=nw_eq hVk (fun _ e=>h2 (by rw [e];rfl));subst this;exact ⟨rfl,rfl⟩
 omega
theorem aUO {h:Array Obj} {v:Value} {V:Nat} (hw:Wr h v (nw V) V) (hm:nw V<=1099511627776):
  FnV Tryz.prog 229 #[v] h fun r h'=>r=.int .i64 (bl V:Nat)/\h'=h:=by
 obtain ⟨a,cap,rfl,hc,hV,hr⟩:=hw;by_cases h0:V=0
 ·subst h0;refine Fn.of (args:=[.slice a (nw 0) cap]) Tryz.func229 (by kernel_rfl) rfl Tryz.ntmps229 rfl fun w0 cs=>?_;refine gO ?_;conv=>whnf
  refine ⟨fun h1=>?_,fun h1=>?_⟩<;>conv=>whnf
  ·refine aD.ret Tryz.func229 rfl rfl ⟨_,rfl,?_⟩;exact ⟨rfl,rfl⟩
  exact absurd (by rw [nw_zero];rfl) h1
 have hp:=sO h0;obtain ⟨b,off,rfl,hrd⟩:=hr hp;have hj:=hrd (nw V - 1) (by omega);rw [<-gV (by omega)] at hj;have hb:=aAB h0;have hbl:=aJM (qA V (nw V - 1));rw [show bl 18446744073709551615=64 by decide +kernel] at hbl;refine Fn.of (args:=[.slice (some ⟨b,off,none⟩) (nw V) cap]) Tryz.func229 (by kernel_rfl) rfl Tryz.ntmps229 rfl fun w0 cs=>?_;refine gO ?_;conv=>whnf
 refine ⟨fun h1=>?_,fun h1=>?_⟩<;>conv=>whnf
 ·omega
 repeat (refine oL ?_;conv=>whnf)
 refine ⟨_,hj,?_⟩;conv=>whnf
 rw [gV (by omega)];refine aD.callV (aNJ _ (iB V (nw V - 1)) h) ?_;rintro _ h' ⟨rfl,rfl⟩
 (try refine gO ?_);conv=>whnf
 repeat (refine oL ?_;conv=>whnf)
 refine aD.ret Tryz.func229 rfl rfl ⟨_,rfl,?_⟩;refine ⟨congrArg (Value.int .i64) ?_,rfl⟩;omega
theorem cmpI_nw {V1 V2:Nat} (h:nw V1≠nw V2):lC (nw V1:Int) (nw V2:Int)=lC (V1:Int) (V2:Int):=by
 rcases Nat.lt_or_ge (nw V1) (nw V2) with hlt|hge
 ·have:=aTO hlt;simp only [lC];rw [if_pos (by omega),if_pos (by omega)]
 have:=aTO (show nw V2<nw V1 by omega);simp only [lC];rw [if_neg (by omega),if_pos (by omega),if_neg (by omega),if_pos (by omega)]
theorem aVS {V1 V2 j:Nat} (h:V1/B^(j+1)=V2/B^(j+1)) (hne:wdc V1 j≠wdc V2 j):lC (wdc V1 j:Int) (wdc V2 j:Int)=lC (V1:Int) (V2:Int):=by
 rcases Nat.lt_or_ge (wdc V1 j) (wdc V2 j) with hlt|hge
 ·have:=aTS h hlt;simp only [lC];rw [if_pos (by omega),if_pos (by omega)]
 have:=aTS h.symm (show wdc V2 j<wdc V1 j by omega);simp only [lC];rw [if_neg (by omega),if_pos (by omega),if_neg (by omega),if_pos (by omega)]
theorem mG {h:Array Obj} {v1 v2:Value} {V1 V2:Nat} (hw1:Wr h v1 (nw V1) V1) (hw2:Wr h v2 (nw V2) V2) (hm1:nw V1<=1099511627776):
  FnV Tryz.prog 129 #[v1,v2] h fun r h'=>r=.int .i64 (lC V1 V2)/\h'=h:=by
 obtain ⟨a1,cap1,rfl,hc1,hV1,hr1⟩:=hw1;obtain ⟨a2,cap2,rfl,hc2,hV2,hr2⟩:=hw2;refine Fn.of (args:=[.slice a1 (nw V1) cap1,.slice a2 (nw V2) cap2]) Tryz.func129 (by kernel_rfl) rfl Tryz.ntmps129 rfl fun w0 cs=>?_;refine gO ?_;conv=>whnf
 refine ⟨fun h1=>?_,fun h1=>?_⟩<;>conv=>whnf
 ·have hnw:nw V1=nw V2:=by omega
  repeat (refine oL ?_;conv=>whnf)
  refine aD.loop (X:=Nat) (fun k=>[(0,.slice a1 (nw V1) cap1),(1,.slice a2 (nw V2) cap2),(5,.int .i64 ((k:Int) - 1))]) (fun k h'=>h'=h/\k<=nw V1/\V1/B^k=V2/B^k) (fun k=>k) (nw V1)
   ⟨rfl,Nat.le_refl _,by rw [Nat.div_eq_of_lt (mV V1),hnw,Nat.div_eq_of_lt (mV V2)]⟩ ⟨rfl,rfl,rfl,trivial⟩ ?_
  rintro k h' ⟨rfl,hk,he⟩ ih;by_cases hk0:k=0
  ·subst hk0
   (try refine gO ?_);conv=>whnf
   refine ⟨fun h2=>?_,fun h2=>?_⟩<;>conv=>whnf
   ·omega
   (try refine gO ?_);conv=>whnf
   refine ⟨fun h3=>?_,fun h3=>?_⟩<;>conv=>whnf
   ·refine aD.ret Tryz.func129 rfl rfl ⟨_,rfl,?_⟩;have:V1=V2:=by simpa using he
    subst this;exact ⟨by simp [tup,lC],rfl⟩
   omega
  obtain ⟨b1,off1,rfl,hrd1⟩:=hr1 (by omega);obtain ⟨b2,off2,rfl,hrd2⟩:=hr2 (by omega);have hj1:=hrd1 (k - 1) (by omega);have hj2:=hrd2 (k - 1) (by omega);have ek:k - 1+1=k:=by omega
  rw [<-gV (by omega)] at hj1 hj2
  (try refine gO ?_);conv=>whnf
  refine ⟨fun h2=>?_,fun h2=>?_⟩<;>conv=>whnf
  ·refine aD.quiet tab (by kernel_rfl) ?_;conv=>whnf
   repeat (refine oL ?_;conv=>whnf)
   refine ⟨_,hj1,?_⟩;conv=>whnf
   repeat (refine oL ?_;conv=>whnf)
   refine ⟨_,hj2,?_⟩;conv=>whnf
   refine ⟨fun h3=>?_,fun h3=>?_⟩<;>conv=>whnf
   ·try refine gO ?_
    conv=>whnf
    repeat (refine oL ?_;conv=>whnf)
    refine ih (k - 1) _ _ ⟨rfl,by omega,?_⟩ (by omega) ⟨rfl,rfl,?_,trivial⟩
    ·rw [gV (by omega)] at h3;have d1:=kB V1 (k - 1);have d2:=kB V2 (k - 1);rw [ek,he] at d1;rw [ek] at d2;rw [d1,d2];omega
    refine congrArg (fun z=>some (Value.int .i64 z)) ?_;omega
   (try refine gO ?_);conv=>whnf
   refine ⟨fun h4=>?_,fun h4=>?_⟩<;>conv=>whnf
   ·omega
   refine aD.quiet tab (by kernel_rfl) ?_;conv=>whnf
   repeat (refine oL ?_;conv=>whnf)
   refine ⟨_,hj1,?_⟩;conv=>whnf
   repeat (refine oL ?_;conv=>whnf)
   refine ⟨_,hj2,?_⟩;conv=>whnf
   refine ⟨_,.inl (cmp_u64 _ _ h'),?_⟩;conv=>whnf
   (try refine gO ?_);conv=>whnf
   refine aD.ret Tryz.func129 rfl rfl ⟨_,rfl,?_⟩;rw [gV (by omega)] at h3 ⊢;refine ⟨congrArg (Value.int .i64) ?_,rfl⟩;exact aVS (by rw [ek];exact he) (by omega)
  omega
 refine aD.callV (aTQ _ _ h) ?_;rintro _ h' ⟨rfl,rfl⟩
 (try refine gO ?_);conv=>whnf
 refine aD.ret Tryz.func129 rfl rfl ⟨_,rfl,?_⟩;exact ⟨by rw [cmpI_nw (by omega)];rfl,rfl⟩

theorem bCA {g:FuncId} {fn:Func} {args:Array Value} {v:Value} {e:Array Value→Sem Value} (hf:Tryz.prog.funcs[g]? = some fn) (hname:(fn.name == "runtime.NumGoroutine")=false) (hb:fn.body=none)
  (h1:Extern.findNext fn=none) (h2:Extern.find fn=some e) (h3:∀w,(e args).run Tryz.prog w=.ok v w):Ext Tryz.prog g args v:=by
 intro w;have hp:(program:Sem Program).run Tryz.prog w=.ok Tryz.prog w:=rfl;have hm:(mark (.extern g):Sem Unit).run Tryz.prog w=.ok () w:=rfl;simp only [callFunc,Sem.run_bind,hp,Result.andThen,hf,hname,Bool.false_eq_true,if_false,hb,Option.isNone_none,if_true,hm,h1,h2,h3,Sem.run_pure]
theorem aII (x y c:Nat) (hc:c<=1):Ext Tryz.prog 222 #[.int .u64 x,.int .u64 y,.int .u64 c]
  (.tuple #[.int .u64 ((x+y+c)%18446744073709551616:Nat),.int .u64 ((x+y+c)/18446744073709551616:Nat)]):=by
 refine bCA Tryz.func222 (by kernel_rfl) rfl (by kernel_rfl) (e:=add64Entry) (by kernel_rfl) (fun w=>?_);have:=run_add64 (P:=Tryz.prog) x y c (by omega) (by omega) (by omega) (by omega) w;rw [this];rfl
def aGR:Array Value->Sem Value:=fun args=>do
 let (x,y,b) ←Extern.MathBitsCarry.three "Sub64" args
 pure (Extern.MathBitsCarry.pair ((x+Extern.MathBitsCarry.m64 - y - b)%Extern.MathBitsCarry.m64) (if x<y+b then 1 else 0))
theorem aXN (x y c:Nat) (hx:x<=18446744073709551615) (hy:y<=18446744073709551615) (hc:c<=1):Ext Tryz.prog 280 #[.int .u64 x,.int .u64 y,.int .u64 c]
  (.tuple #[.int .u64 (((x:Int) - y - c)%18446744073709551616),.int .u64 ((if (x:Int) - y - c<0 then 1 else 0:Nat):Int)]):=by
 refine bCA Tryz.func280 (by kernel_rfl) rfl (by kernel_rfl) (e:=aGR) (by kernel_rfl) (fun w=>?_)
 have key:∀k:Nat,k<=1->(aGR #[.int .u64 (x:Int),.int .u64 (y:Int),.int .u64 (k:Int)]).run Tryz.prog w =
   .ok (Extern.MathBitsCarry.pair (((x:Int).toNat+Extern.MathBitsCarry.m64 - (y:Int).toNat - k)%Extern.MathBitsCarry.m64) (if (x:Int).toNat<(y:Int).toNat+k then 1 else 0)) w:=by
  intro k hk;have:k=0\/k=1:=by omega
  rcases this with rfl|rfl<;>rfl
 rw [key c hc];simp only [Extern.MathBitsCarry.pair,Extern.MathBitsCarry.m64,Int.toNat_natCast];by_cases h:x<y+c
 ·rw [if_pos h,if_pos (by omega)]
  congr 4
  simp
  omega
 rw [if_neg h,if_neg (by omega)]
 congr 4
 simp
 omega
def lB (base:Nat) (h:Array Obj) (v:Value) (m V:Nat):Prop:=
 ∃g cap cur,v=.slice (some ⟨g,0,none⟩) m cap/\base<=g/\At h g cur 173/\cur.size=cap/\m<=cap/\V<B^m /\ ∀j,j<m->cur[j]? = some (.int .u64 (wdc V j:Nat))
theorem lB.wr {base:Nat} {h:Array Obj} {v:Value} {m V:Nat} (hw:lB base h v m V):Wr h v m V:=by
 obtain ⟨g,cap,cur,rfl,_,hat,_,hm,hV,hc⟩:=hw;exact Wr.of_at hat hm hV hc
theorem lB.keeps {base B':Nat} {h h':Array Obj} {v:Value} {m V:Nat} (hw:lB base h v m V) (hk:aH B' h h') (hB:h.size<=B'):lB base h' v m V:=by
 obtain ⟨g,cap,cur,e,hb,hat,r⟩:=hw;exact ⟨g,cap,cur,e,hb,hk.at hat (Nat.lt_of_lt_of_le hat.lt hB),r⟩
theorem lB.mono {base base':Nat} {h:Array Obj} {v:Value} {m V:Nat} (hw:lB base h v m V) (hb:base'<=base):lB base' h v m V:=by
 obtain ⟨g,cap,cur,e,h1,r⟩:=hw;exact ⟨g,cap,cur,e,by omega,r⟩
def Bld (h0 h:Array Obj) (g M i S:Nat):Prop:=
 ∃cur,At h g cur 173/\cur.size=M/\(∀j,j<i->cur[j]? = some (.int .u64 (wdc S j:Nat)))/\aH g h0 h
theorem Bld.set {h0 h:Array Obj} {g M i S:Nat} {cur:Array Value} (hat:At h g cur 173) (hsz:cur.size=M) (hc:∀j,j<i->cur[j]? = some (.int .u64 (wdc S j:Nat))) (hk:aH g h0 h) (hi:i<M) {z:Int} (hz:z=(wdc S i:Nat)):
  Bld h0 (setB h g (cur.setIfInBounds i (.int .u64 z)) 173) g M (i+1) S:=by
 subst hz;refine ⟨_,fQ hat.lt _ _,by simpa using hsz,fun j hj=>?_,hk.setB (Nat.le_refl _) _ _⟩;by_cases e:j=i
 ·subst e;rw [Array.getElem?_setIfInBounds_self_of_lt (by omega)]
 rw [Array.getElem?_setIfInBounds_ne (by omega)];exact hc j (by omega)
theorem Bld.own {h0 h:Array Obj} {g M S:Nat} (hb:Bld h0 h g M M S) (hS:S<B^M):lB g h (.slice (some ⟨g,0,none⟩) M M) M S:=by
 obtain ⟨cur,hat,hsz,hc,_⟩:=hb;exact ⟨g,M,cur,rfl,Nat.le_refl _,hat,hsz,Nat.le_refl _,hS,hc⟩
theorem plus_fn {h:Array Obj} {v1 v2:Value} {m1 m2 V1 V2:Nat} (hw1:Wr h v1 m1 V1) (hw2:Wr h v2 m2 V2) (hm1:m1<=1048576) (hm2:m2<=1048576):
  FnV Tryz.prog 115 #[v1,v2] h fun r h'=>lB h.size h' r (max m1 m2+1) (V1+V2)/\aH h.size h h':=by
 have hW1:=hw1;have hW2:=hw2;obtain ⟨a1,cap1,rfl,hc1,hV1,hr1⟩:=hw1;obtain ⟨a2,cap2,rfl,hc2,hV2,hr2⟩:=hw2;obtain ⟨M,hM⟩:∃M,M=max m1 m2+1:=⟨_,rfl⟩;have hS:V1+V2<B^M:=by
  have e1:=Nat.lt_of_lt_of_le hV1 (Nat.pow_le_pow_right rN (show m1<=max m1 m2 by omega));have e2:=Nat.lt_of_lt_of_le hV2 (Nat.pow_le_pow_right rN (show m2<=max m1 m2 by omega));rw [hM,Nat.pow_succ];have:=Nat.mul_le_mul_left (B^max m1 m2) (show 2<=B by decide);omega
 rw [<-hM];refine Fn.of (args:=[.slice a1 m1 cap1,.slice a2 m2 cap2]) Tryz.func115 (by kernel_rfl) rfl Tryz.ntmps115 rfl fun w0 cs=>?_;refine gO ?_;conv=>whnf
 repeat (refine oL ?_;conv=>whnf)
 refine aD.eff (qJ tab M M (hn:=⟨by omega,by omega,by omega,by dsimp only;omega,by omega⟩)) ?_;rintro _ _ ⟨rfl,rfl⟩
 (try refine gO ?_);conv=>whnf
 refine aD.loop (X:=Nat) (fun i=>[(0,.slice a1 m1 cap1),(1,.slice a2 m2 cap2),(5,.slice (some ⟨h.size,0,none⟩) M M),(6,.int .u64 (car V1 V2 i:Nat)),(16,.int .i64 M),(17,.int .i64 (i:Nat))])
  (fun i h'=>i<=M/\Bld h h' h.size M i (V1+V2)) (fun i=>M - i) 0
  ⟨Nat.zero_le _,_,gH _ _ _,by simp,fun j hj=>absurd hj (Nat.not_lt_zero _),(aH.refl _ _).push (Nat.le_refl _) _⟩ ⟨rfl,rfl,rfl,by rw [aYC];rfl,rfl,rfl,trivial⟩ ?_
 rintro i h' ⟨hi,cur,hat,hsz,hc,hk⟩ ih;have hX1:=hW1.keeps hk;have hX2:=hW2.keeps hk;obtain ⟨w1,w2⟩:=aZY V1 V2 i;have hcl:=car_le V1 V2 i
 (try refine gO ?_);conv=>whnf
 refine ⟨fun h1=>?_,fun h1=>?_⟩<;>conv=>whnf
 ·repeat (refine oL ?_;conv=>whnf)
  refine aD.callV (aAI hX1 i) ?_;rintro _ _ ⟨rfl,rfl⟩
  (try refine gO ?_);conv=>whnf
  refine aD.callV (aAI hX2 i) ?_;rintro _ _ ⟨rfl,rfl⟩
  (try refine gO ?_);conv=>whnf
  refine aD.eff (Eff.ext (aII (wdc V1 i) (wdc V2 i) (car V1 V2 i) hcl)) ?_;rintro _ _ ⟨rfl,rfl⟩
  (try refine gO ?_);conv=>whnf
  repeat (refine oL ?_;conv=>whnf)
  refine aD.eff (kN tab hat (hlt:=by omega)) ?_;rintro _ _ rfl
  (try refine gO ?_);conv=>whnf
  repeat (refine oL ?_;conv=>whnf)
  refine ih (i+1) _ _ ⟨by omega,?_⟩ (by omega) ⟨rfl,rfl,rfl,?_,rfl,rfl,trivial⟩
  ·rw [show 0+(i:Int).toNat=i by omega];exact Bld.set hat hsz hc hk (by omega) (by rw [w1];rfl)
  rw [w2];rfl
 (try refine gO ?_);conv=>whnf
 refine aD.ret Tryz.func115 rfl rfl ⟨_,rfl,?_⟩;have:i=M:=by omega
 subst this;exact ⟨Bld.own ⟨cur,hat,hsz,hc,hk⟩ hS,hk⟩

theorem aIH {h:Array Obj} {g:Nat} {cur:Array Value} {e:TypeId} (hat:At h g cur e):setB h g cur e=h:=by
 unfold setB;apply Array.ext
 ·simp
 intro i h1 h2;rw [Array.getElem_setIfInBounds];split
 ·rename_i hi
  subst hi;have:=(Array.getElem?_eq_some_iff.1 hat).2;exact this.symm
 rfl
theorem aJC (h:Array Obj) (g:Nat) (c1 c2:Array Value) (e:TypeId):setB (setB h g c1 e) g c2 e=setB h g c2 e:=by
 unfold setB
 simp
theorem Wr.setB {h:Array Obj} {v:Value} {m V g:Nat} {cs:Array Value} {e:TypeId} (hw:Wr h v m V) (hne:v.ownBlock≠some g):Wr (Fw.setB h g cs e) v m V:=
 hw.of_same fun b hb _=>bGC (fun e=>hne (by rw [hb,e])) _ _
theorem aBB {h:Array Obj} {g m cap m2 V1 V2:Nat} {cur:Array Value} {v2:Value} (hat:At h g cur 173) (hsz:cur.size=cap) (hmc:m<=cap) (hV1:V1<B^m)
  (hc:∀j,j<m->cur[j]? = some (.int .u64 (wdc V1 j:Nat))) (hw2:Wr h v2 m2 V2) (hne:v2.ownBlock≠some g) (hle:V2<=V1) (hm:m<=1048576):
  FnV Tryz.prog 227 #[.slice (some ⟨g,0,none⟩) m cap,v2] h fun r h'=>r=.tuple #[] /\ ∃cur',h'=setB h g cur' 173/\cur'.size=cap /\ ∀j,j<m->cur'[j]? = some (.int .u64 (wdc (V1 - V2) j:Nat)):=by
 refine Fn.of (args:=[.slice (some ⟨g,0,none⟩) m cap,v2]) Tryz.func227 (by kernel_rfl) rfl Tryz.ntmps227 rfl fun w0 cs=>?_;refine gO ?_;conv=>whnf
 refine aD.loop (X:=Nat) (fun i=>[(0,.slice (some ⟨g,0,none⟩) m cap),(1,v2),(4,.int .u64 (bor V1 V2 i:Nat)),(7,.int .i64 m),(8,.int .i64 (i:Nat))])
  (fun i h'=>i<=m /\ ∃cur',h'=setB h g cur' 173/\cur'.size=cap/\(∀j,j<i->cur'[j]? = some (.int .u64 (wdc (V1 - V2) j:Nat))) /\ ∀j,i<=j->j<m->cur'[j]? = some (.int .u64 (wdc V1 j:Nat)))
  (fun i=>m - i) 0
  ⟨Nat.zero_le _,cur,(aIH hat).symm,hsz,fun j hj=>absurd hj (Nat.not_lt_zero _),fun j _ hj=>hc j hj⟩ ⟨rfl,rfl,by rw [bBV];rfl,rfl,rfl,trivial⟩ ?_
 rintro i _ ⟨hi,cur',rfl,hsz',hc1,hc2⟩ ih;have hat':At (setB h g cur' 173) g cur' 173:=fQ hat.lt _ _;obtain ⟨w1,w2⟩:=aYM hle i;have w1':(wdc (V1 - V2) i:Int)=((wdc V1 i:Int) - wdc V2 i - bor V1 V2 i)%18446744073709551616:=w1;have hbl:=aYT V1 V2 i
 (try refine gO ?_);conv=>whnf
 refine ⟨fun h1=>?_,fun h1=>?_⟩<;>conv=>whnf
 ·have hcell:bL (setB h g cur' 173) g (0+(i:Int).toNat)=some (.int .u64 (wdc V1 i:Nat)):=by
   rw [hat'.cell,show 0+(i:Int).toNat=i by omega];exact hc2 i (Nat.le_refl _) (by omega)
  refine aD.drawn tab [0,1,2,3,4,5,6,7,8,9,10,11,12,13,14] [15,16] (by kernel_rfl) ?_;conv=>whnf
  repeat (refine oL ?_;conv=>whnf)
  refine ⟨_,hcell,?_⟩;conv=>whnf
  refine ⟨_,.inl (aAI (hw2.setB hne) i),?_⟩;conv=>whnf
  refine ⟨_,.inr (aXN (wdc V1 i) (wdc V2 i) (bor V1 V2 i) (qA _ _) (qA _ _) hbl),?_⟩;conv=>whnf
  repeat (refine oL ?_;conv=>whnf)
  refine ⟨rfl,_,kN tab hat' (hlt:=by omega),?_⟩;rintro _ _ rfl;conv=>whnf
  (try refine gO ?_);conv=>whnf
  repeat (refine oL ?_;conv=>whnf)
  rw [aJC,show 0+(i:Int).toNat=i by omega,<-w1'];refine ih (i+1) _ _ ⟨by omega,_,rfl,by simpa using hsz',fun j hj=>?_,fun j hj hjm=>?_⟩ (by omega) ⟨rfl,rfl,?_,rfl,rfl,trivial⟩
  ·by_cases e:j=i
   ·subst e;rw [Array.getElem?_setIfInBounds_self_of_lt (by omega)]
   rw [Array.getElem?_setIfInBounds_ne (by omega)];exact hc1 j (by omega)
  ·rw [Array.getElem?_setIfInBounds_ne (by omega)];exact hc2 j (by omega) hjm
  rw [w2];rfl
 (try refine gO ?_);conv=>whnf
 refine aD.fin Tryz.func227 rfl rfl ⟨_,rfl,?_⟩;have:i=m:=by omega
 subst this;exact ⟨rfl,cur',rfl,hsz',hc1⟩

theorem vJ {z:Int} (hz:0<=z):(((fun a b=>a&&&b) z.toNat (Int.toNat 4294967295):Nat):Int)=z%4294967296:=by
 have:z.toNat&&&4294967295=z.toNat%4294967296:=Nat.and_two_pow_sub_one_eq_mod z.toNat 32;show ((z.toNat&&&4294967295:Nat):Int)=_;rw [this];omega
theorem aWU (x y x0 x1 y0 y1:Int) (hx:x=4294967296*x1+x0) (hy:y=4294967296*y1+y0):
  x*y=x1*y1*18446744073709551616+x1*y0*4294967296+x0*y1*4294967296+x0*y0:=by
 subst hx hy
 grind
theorem oD {a b:Int} (h1:0<=a) (h2:a<=4294967295) (h3:0<=b) (h4:b<=4294967295):0<=a*b/\a*b<=18446744065119617025:=
 ⟨Int.mul_nonneg h1 h3,Int.mul_le_mul h2 h4 h3 (by omega)⟩
theorem bCM (x y:Int) (hx0:0<=x) (hx:x<18446744073709551616) (hy0:0<=y) (hy:y<18446744073709551616):
  (((x/4294967296*(y/4294967296)%18446744073709551616 +
    (x/4294967296*(y%4294967296)%18446744073709551616+x%4294967296*(y%4294967296)%18446744073709551616/4294967296)%18446744073709551616/4294967296)%18446744073709551616 +
    ((x/4294967296*(y%4294967296)%18446744073709551616+x%4294967296*(y%4294967296)%18446744073709551616/4294967296)%18446744073709551616%4294967296 +
      x%4294967296*(y/4294967296)%18446744073709551616)%18446744073709551616/4294967296)%18446744073709551616)=x*y/18446744073709551616:=by
 have e:=aWU x y (x%4294967296) (x/4294967296) (y%4294967296) (y/4294967296) (by omega) (by omega);have b1:=oD (a:=x/4294967296) (b:=y/4294967296) (by omega) (by omega) (by omega) (by omega);have b2:=oD (a:=x/4294967296) (b:=y%4294967296) (by omega) (by omega) (by omega) (by omega);have b3:=oD (a:=x%4294967296) (b:=y/4294967296) (by omega) (by omega) (by omega) (by omega);have b4:=oD (a:=x%4294967296) (b:=y%4294967296) (by omega) (by omega) (by omega) (by omega)
 generalize x/4294967296*(y/4294967296)=p11 at *
 generalize x/4294967296*(y%4294967296)=p10 at *
 generalize x%4294967296*(y/4294967296)=p01 at *
 generalize x%4294967296*(y%4294967296)=p00 at *
 rw [e];clear e hx0 hx hy0 hy;omega
theorem aZA {h:Array Obj} (x y:Nat) (hx:x<B) (hy:y<B):
  FnV Tryz.prog 233 #[.int .u64 x,.int .u64 y] h fun r h'=>(∃hi lo:Nat,r=.tuple #[.int .u64 hi,.int .u64 lo]/\hi=x*y/B/\lo=x*y%B)/\h'=h:=by
 rw [mA] at hx hy;refine Fn.of (args:=[.int .u64 x,.int .u64 y]) Tryz.func233 (by kernel_rfl) rfl Tryz.ntmps233 rfl fun w0 cs=>?_;refine gO ?_;conv=>whnf
 repeat (refine oL ?_;conv=>whnf)
 refine aD.ret Tryz.func233 rfl rfl ⟨_,rfl,?_⟩;refine ⟨⟨x*y/B,x*y%B,?_,rfl,rfl⟩,rfl⟩;rw [vJ (z:=(x:Int)) (by omega),vJ (z:=(y:Int)) (by omega),vJ (by omega),bCM _ _ (by omega) (by omega) (by omega) (by omega)];rfl
theorem aYK (p s g:Nat) (hp:p<=340282366920938463426481119284349108225) (hs:s<B) (hg:g<B):
  ((p%B+s)%B+g)%B=(p+s+g)%B/\p/B+(p%B+s)/B+((p%B+s)%B+g)/B=(p+s+g)/B/\(p+s+g)/B<B:=by
 rw [mA] at *;omega
def Blk (h0 h:Array Obj) (g M S:Nat):Prop:=
 ∃cur,At h g cur 173/\cur.size=M/\S<B^M/\(∀j,j<M->cur[j]? = some (.int .u64 (wdc S j:Nat)))/\aH g h0 h
theorem Blk.put {h0 h:Array Obj} {g M S x:Nat} {cur:Array Value} (hat:At h g cur 173) (hsz:cur.size=M) (hS:S<B^M) (hc:∀j,j<M->cur[j]? = some (.int .u64 (wdc S j:Nat)))
  (hk:aH g h0 h) {i:Nat} (hi:i<M) (hx:x<B) {z:Int} (hz:z=(x:Nat)):Blk h0 (setB h g (cur.setIfInBounds i (.int .u64 z)) 173) g M (aAV S i x):=by
 subst hz;refine ⟨_,fQ hat.lt _ _,by simpa using hsz,aAP hx hi hS,fun j hj=>?_,hk.setB (Nat.le_refl _) _ _⟩;rw [rY hx];by_cases e:j=i
 ·subst e;rw [Array.getElem?_setIfInBounds_self_of_lt (by omega),if_pos rfl]
 rw [Array.getElem?_setIfInBounds_ne (by omega),if_neg e];exact hc j hj
theorem Blk.own {h0 h:Array Obj} {g M S:Nat} (hb:Blk h0 h g M S):lB g h (.slice (some ⟨g,0,none⟩) M M) M S:=by
 obtain ⟨cur,hat,hsz,hS,hc,_⟩:=hb;exact ⟨g,M,cur,rfl,Nat.le_refl _,hat,hsz,Nat.le_refl _,hS,hc⟩
theorem Wr.rd {h:Array Obj} {v:Value} {m V:Nat} (hw:Wr h v m V) {a m' cap} (e:v=.slice a m' cap) (hm:0<m):∃b off,a=some ⟨b,off,none⟩/\Rdw h b off m V:=by
 obtain ⟨a',cap',e',_,_,hr⟩:=hw;rw [e'] at e;cases e;exact hr hm
theorem aAG (j:Nat):wdc 0 j=0:=by simp [wdc]
theorem add64_ext' (x y c:Nat) (hc:c<=1):∃s d:Nat,Ext Tryz.prog 222 #[.int .u64 x,.int .u64 y,.int .u64 c] (.tuple #[.int .u64 s,.int .u64 d])/\s=(x+y+c)%B/\d=(x+y+c)/B:=
 ⟨_,_,aII x y c hc,rfl,rfl⟩
theorem aXU {S0 S x V2 i j high hi p s:Nat} (hI:S+B^(i+j)*high=S0+x*(V2%B^j)*B^i) (hs:s=(p+wdc S (i+j)+high)%B) (hp:p=x*wdc V2 j) (hh:hi=(p+wdc S (i+j)+high)/B):
  aAV S (i+j) s+B^(i+(j+1))*hi=S0+x*(V2%B^(j+1))*B^i:=by
 have h1:=@aAN S (i+j) s;have h2:p+wdc S (i+j)+high=B*hi+s:=by rw [hs,hh];exact (Nat.div_add_mod _ _).symm
 rw [iD,hp] at *;have e1:B^(i+(j+1))*hi=B^(i+j)*(B*hi):=by rw [<-Nat.add_assoc,Nat.pow_succ,Nat.mul_assoc]
 have e2:B^(i+j)*(B*hi)+B^(i+j)*s=B^(i+j)*(x*wdc V2 j)+B^(i+j)*wdc S (i+j)+B^(i+j)*high:=by rw [<-Nat.mul_add,<-h2,Nat.mul_add,Nat.mul_add]
 have e3:x*(V2%B^j+B^j*wdc V2 j)*B^i=x*(V2%B^j)*B^i+B^(i+j)*(x*wdc V2 j):=by
  rw [Nat.pow_add];grind
 omega
theorem aVW {S0 S x V1 V2 m2 i high:Nat} (hI:S+B^(i+m2)*high=S0+x*V2*B^i) (h0:S0=V1%B^i*V2) (hx:x=wdc V1 i) (hS:S<B^(i+m2)):
  aAV S (i+m2) high=V1%B^(i+1)*V2:=by
 have h1:=@aAN S (i+m2) high;rw [aEM hS (Nat.le_refl _),Nat.mul_zero,Nat.add_zero] at h1;rw [h1,hI,h0,hx,iD]
 grind
theorem aFH {h:Array Obj} {v1 v2:Value} {m1 m2 V1 V2:Nat} (hw1:Wr h v1 m1 V1) (hw2:Wr h v2 m2 V2) (hm1:m1<=1048576) (hm2:m2<=1048576):
  FnV Tryz.prog 128 #[v1,v2] h fun r h'=>lB h.size h' r (m1+m2) (V1*V2)/\aH h.size h h':=by
 have hW1:=hw1;have hW2:=hw2;obtain ⟨a1,cap1,rfl,hc1,hV1,hr1⟩:=hw1;obtain ⟨a2,cap2,rfl,hc2,hV2,hr2⟩:=hw2;refine Fn.of (args:=[.slice a1 m1 cap1,.slice a2 m2 cap2]) Tryz.func128 (by kernel_rfl) rfl Tryz.ntmps128 rfl fun w0 cs=>?_;refine gO ?_;conv=>whnf
 repeat (refine oL ?_;conv=>whnf)
 refine aD.eff (qJ tab (m1+m2) (m1+m2) (hn:=⟨by omega,by omega,by omega,by dsimp only;omega,by omega⟩)) ?_;rintro _ _ ⟨rfl,rfl⟩
 (try refine gO ?_);conv=>whnf
 refine aD.loop (X:=Nat) (fun i=>[(1,.slice a2 m2 cap2),(5,.slice (some ⟨h.size,0,none⟩) ((m1:Int)+m2).toNat ((m1:Int)+m2).toNat),(21,.slice a1 m1 cap1),(22,.int .i64 m1),(23,.int .i64 (i:Nat))])
  (fun i h'=>i<=m1 /\ ∃S,Blk h h' h.size (m1+m2) S/\S=V1%B^i*V2) (fun i=>m1 - i) 0
  ⟨Nat.zero_le _,0,⟨_,gH _ _ _,by simp,eD _,fun j hj=>?_,(aH.refl _ _).push (Nat.le_refl _) _⟩,by simp [Nat.mod_one]⟩ ⟨rfl,rfl,rfl,rfl,rfl,trivial⟩ ?_
 ·rw [aAG,Array.getElem?_replicate,if_pos hj];rfl
 rintro i h' ⟨hi,S0,hB0,hS0⟩ ih;have hX1:=hW1.keeps hB0.choose_spec.2.2.2.2
 (try refine gO ?_);conv=>whnf
 refine ⟨fun h1=>?_,fun h1=>?_⟩<;>conv=>whnf
 ·repeat (refine oL ?_;conv=>whnf)
  obtain ⟨b1,off1,rfl,hrd1⟩:=hX1.rd rfl (by omega);conv=>whnf
  repeat (refine oL ?_;conv=>whnf)
  refine ⟨_,hrd1 i (by omega),?_⟩;conv=>whnf
  (try refine gO ?_);conv=>whnf
  refine aD.loop (X:=Nat×Nat) (fun q=>[(1,.slice a2 m2 cap2),(5,.slice (some ⟨h.size,0,none⟩) ((m1:Int)+m2).toNat ((m1:Int)+m2).toNat),(21,.slice (some ⟨b1,off1,none⟩) m1 cap1),(22,.int .i64 m1),(23,.int .i64 (i:Nat)),
   (6,.int .i64 (i:Nat)),(7,.int .u64 (wdc V1 i:Nat)),(8,.int .u64 (q.2:Nat)),(28,.slice a2 m2 cap2),(29,.int .i64 m2),(30,.int .i64 (q.1:Nat))])
   (fun q h''=>q.1<=m2/\q.2<B /\ ∃S,Blk h h'' h.size (m1+m2) S/\S<B^(i+m2)/\S+B^(i+q.1)*q.2=S0+wdc V1 i*(V2%B^q.1)*B^i) (fun q=>m2 - q.1) (0,0)
   ⟨Nat.zero_le _,rN,S0,hB0,?_,by simp [Nat.mod_one]⟩ ⟨rfl,rfl,rfl,rfl,rfl,rfl,rfl,rfl,rfl,rfl,rfl,trivial⟩ ?_
  ·rw [hS0,Nat.pow_add];exact Nat.mul_lt_mul'' (Nat.mod_lt _ (eD _)) hV2
  clear hB0;rintro ⟨j,high⟩ h'' ⟨hj,hhigh,S,⟨cur,hat,hsz,hS,hc,hk⟩,hSb,hI⟩ ihj;have hX2:=hW2.keeps hk;dsimp only at hj hhigh hI ⊢
  (try refine gO ?_);conv=>whnf
  refine ⟨fun h2=>?_,fun h2=>?_⟩<;>conv=>whnf
  ·repeat (refine oL ?_;conv=>whnf)
   obtain ⟨b2,off2,rfl,hrd2⟩:=hX2.rd rfl (by omega);conv=>whnf
   repeat (refine oL ?_;conv=>whnf)
   refine ⟨_,hrd2 j (by omega),?_⟩;conv=>whnf
   (try refine gO ?_);conv=>whnf
   refine aD.callV (aZA _ _ (iB V1 i) (iB V2 j)) ?_;rintro _ h'' ⟨⟨hi,lo,rfl,hhi,hlo⟩,rfl⟩
   (try refine gO ?_);conv=>whnf
   repeat (refine oL ?_;conv=>whnf)
   have hcell:bL h'' h.size (0+(i+j))=some (.int .u64 (wdc S (i+j):Nat)):=by
    rw [hat.cell,Nat.zero_add];exact hc (i+j) (by omega)
   refine ⟨_,hcell,?_⟩;conv=>whnf
   (try refine gO ?_);conv=>whnf
   obtain ⟨P,hP⟩:∃P,P=wdc V1 i*wdc V2 j:=⟨_,rfl⟩;have hPb:P<=340282366920938463426481119284349108225:=by
    rw [hP];exact Nat.mul_le_mul (qA V1 i) (qA V2 j)
   obtain ⟨k1,k2,k3⟩:=aYK P (wdc S (i+j)) high hPb (iB _ _) hhigh;have hrow:=aXU hI rfl hP rfl;rw [<-hP] at hhi hlo;rw [<-hlo,<-hhi] at k2;rw [<-hlo] at k1;obtain ⟨s1,c1,H1,hs1,hc1⟩:=add64_ext' lo (wdc S (i+j)) 0 (by omega);obtain ⟨s2,c2,H2,hs2,hc2⟩:=add64_ext' s1 high 0 (by omega);rw [Nat.add_zero] at hs1 hc1 hs2 hc2;rw [<-hs1,<-hs2] at k1;rw [<-hs1,<-hc1,<-hc2] at k2
   generalize (P+wdc S (i+j)+high)/B=high' at *
   rw [<-k1] at hrow;have hs2B:s2<B:=by rw [k1];exact Nat.mod_lt _ rN
   refine aD.eff (Eff.ext H1) ?_;rintro _ _ ⟨rfl,rfl⟩
   (try refine gO ?_);conv=>whnf
   repeat (refine oL ?_;conv=>whnf)
   refine aD.eff (Eff.ext H2) ?_;rintro _ _ ⟨rfl,rfl⟩
   (try refine gO ?_);conv=>whnf
   repeat (refine oL ?_;conv=>whnf)
   refine aD.eff (kN tab hat (hlt:=by omega)) ?_;rintro _ _ rfl
   (try refine gO ?_);conv=>whnf
   repeat (refine oL ?_;conv=>whnf)
   rw [show 0+((i:Int)+(j:Int)).toNat=i+j by omega]
   refine ihj (j+1,high') _ _ ⟨by omega,k3,_,Blk.put hat hsz hS hc hk (i:=i+j) (by omega) hs2B rfl,aAP hs2B (by omega) hSb,hrow⟩ (by dsimp only;omega)
    ⟨rfl,rfl,rfl,rfl,rfl,rfl,rfl,?_,rfl,rfl,rfl,trivial⟩
   have e8:(((hi:Int)+c1)%18446744073709551616+c2)%18446744073709551616=(high':Nat):=by
    rw [mA] at k3;omega
   rw [e8];rfl
  have hjm:j=m2:=by omega
  subst hjm;rw [aNR hV2] at hI;have hend:=aVW hI hS0 rfl hSb;conv=>whnf
  repeat (refine oL ?_;conv=>whnf)
  refine aD.eff (kN tab hat (hlt:=by omega)) ?_;rintro _ _ rfl
  (try refine gO ?_);conv=>whnf
  repeat (refine oL ?_;conv=>whnf)
  rw [show 0+((i:Int)+(j:Int)).toNat=i+j by omega];exact ih (i+1) _ _ ⟨by omega,_,Blk.put hat hsz hS hc hk (i:=i+j) (by omega) hhigh rfl,hend⟩ (by omega) ⟨rfl,rfl,rfl,rfl,rfl,trivial⟩
 (try refine gO ?_);conv=>whnf
 refine aD.ret Tryz.func128 rfl rfl ⟨_,rfl,?_⟩;have him:i=m1:=by omega
 rw [him,aNR hV1] at hS0;subst hS0;exact ⟨hB0.own,hB0.choose_spec.2.2.2.2⟩

theorem or_add {a b k:Nat} (ha:a<2^k):a|||(2^k*b)=2^k*b+a:=by
 rw [Nat.or_comm,Nat.two_pow_add_eq_or_of_lt ha]
theorem aRB (V n m i:Nat) (hm:m<64):wdc (V/2^(64*n+m)) i=wdc V (i+n)/2^m|||(wdc V (i+n+1)*2^(64 - m)%B):=by
 have hB:B=2^m*2^(64 - m):=by rw [<-Nat.pow_add,show m+(64 - m)=64 by omega];rfl
 have e1:wdc (V/2^(64*n+m)) i=V/B^(i+n)/2^m%B:=by
  unfold wdc;rw [Nat.pow_add,<-xJ,Nat.div_div_eq_div_mul,Nat.div_div_eq_div_mul,Nat.pow_add]
  congr 2
  grind
 have e2:wdc V (i+n+1)=V/B^(i+n)/B%B:=by
  unfold wdc;rw [Nat.pow_succ,Nat.div_div_eq_div_mul]
 rw [e1,e2];unfold wdc
 generalize V/B^(i+n)=X
 have h1:X%B/2^m<2^(64 - m):=Nat.div_lt_of_lt_mul (by rw [<-hB];exact Nat.mod_lt _ rN);have h2:X/B%B*2^(64 - m)%B=2^(64 - m)*(X/B%2^m):=by
  have:B=2^(64 - m)*2^m:=by rw [Nat.mul_comm,<-hB]
  rw [Nat.mul_comm (X/B%B),this,Nat.mul_mod_mul_left,<-this,hB,Nat.mod_mul_right_mod]
 rw [h2,or_add h1];have h3:X/2^m%B=X%(2^m*B)/2^m:=(Nat.mod_mul_right_div_self X (2^m) B).symm;rw [h3,Nat.mul_comm (2^m) B,Nat.mod_mul];rw [show B*(X/B%2^m)=2^m*(2^(64 - m)*(X/B%2^m)) by rw [<-Nat.mul_assoc,<-hB]];rw [Nat.add_mul_div_left _ _ (Nat.two_pow_pos m),Nat.add_comm]
theorem aOO (x s:Nat):((x:Int)/2^((s:Int).toNat):Int)=((x/2^s:Nat):Int):=by
 rw [Int.toNat_natCast];simp
theorem aZO (x s:Nat):((x:Int)*2^((64 - (s:Int)).toNat)%18446744073709551616:Int)=((x*2^(64 - s)%B:Nat):Int):=by
 rw [show (64 - (s:Int)).toNat=64 - s by omega,mA];simp
theorem bCB {x:Nat} (hx:x<=18446744073709551615) (s:Nat):x/2^s<=18446744073709551615:=Nat.le_trans (Nat.div_le_self _ _) hx
theorem aVC (x:Nat):x%B<=18446744073709551615:=by have:=Nat.mod_lt x rN;rw [mA] at *;omega
theorem aOW {h:Array Obj} {g m cap V:Nat} {cur:Array Value} (hat:At h g cur 173) (hsz:cur.size=cap) (hmc:m<=cap) (hV:V<B^m)
  (hc:∀j,j<m->cur[j]? = some (.int .u64 (wdc V j:Nat))) (hm:m<=1048576) (k:Nat) (hk:k<=67108864):
  FnV Tryz.prog 226 #[.slice (some ⟨g,0,none⟩) m cap,.int .i64 k] h fun r h'=>r=.slice (some ⟨g,0,none⟩) (nw (V/2^k)) cap /\
   ∃cur',h'=setB h g cur' 173/\cur'.size=cap /\ ∀j,j<m->cur'[j]? = some (.int .u64 (wdc (V/2^k) j:Nat)):=by
 obtain ⟨n,hn⟩:∃n,n=k/64:=⟨_,rfl⟩;obtain ⟨s,hs⟩:∃s,s=k%64:=⟨_,rfl⟩;have hk':k=64*n+s:=by omega
 have hs64:s<64:=by omega
 have e1:(k:Int)/64=n:=by omega
 have e2:(k:Int)%64=s:=by omega
 refine Fn.of (args:=[.slice (some ⟨g,0,none⟩) m cap,.int .i64 k]) Tryz.func226 (by kernel_rfl) rfl Tryz.ntmps226 rfl fun w0 cs=>?_;refine gO ?_;conv=>whnf
 repeat (refine oL ?_;conv=>whnf)
 refine aD.loop (X:=Nat) (fun i=>[(0,.slice (some ⟨g,0,none⟩) m cap),(5,.int .i64 n),(6,.int .i64 s),(13,.int .i64 m),(14,.int .i64 (i:Nat))])
  (fun i h'=>i<=m /\ ∃cur' S,h'=setB h g cur' 173/\cur'.size=cap/\S<B^m/\(∀j,j<m->cur'[j]? = some (.int .u64 (wdc S j:Nat)))/\(∀j,j<i->wdc S j=wdc (V/2^k) j) /\ ∀j,i<=j->wdc S j=wdc V j)
  (fun i=>m - i) 0
  ⟨Nat.zero_le _,cur,V,(aIH hat).symm,hsz,hV,hc,fun j hj=>absurd hj (Nat.not_lt_zero _),fun _ _=>rfl⟩ ⟨rfl,by rw [<-e1];rfl,by rw [<-e2];rfl,rfl,rfl,trivial⟩ ?_
 rintro i _ ⟨hi,cur',S,rfl,hsz',hS,hcc,hlo,hhi⟩ ih;have hat':At (setB h g cur' 173) g cur' 173:=fQ hat.lt _ _;have hw:Wr (setB h g cur' 173) (.slice (some ⟨g,0,none⟩) m cap) m S:=Wr.of_at hat' hmc hS hcc
 (try refine gO ?_);conv=>whnf
 refine ⟨fun h1=>?_,fun h1=>?_⟩<;>conv=>whnf
 ·try refine gO ?_
  conv=>whnf
  refine aD.drawn tab [0,1,2,3,4,5,6,7,8,9,10,11,12,13,14,15,16,17,18,19] [20] (by kernel_rfl) ?_;conv=>whnf
  repeat (refine oL ?_;conv=>whnf)
  refine ⟨_,.inl (aAI hw (i+n)),?_⟩;conv=>whnf
  repeat (refine oL ?_;conv=>whnf)
  refine ⟨_,.inl (aAI hw (i+n+1)),?_⟩;conv=>whnf
  repeat (refine oL ?_;conv=>whnf)
  rw [aOO,aZO];have b1:=bCB (qA S (i+n)) s;have b2:=aVC (wdc S (i+n+1)*2^(64 - s));have hx:=aRB V n s i hs64;rw [<-hk',<-hhi (i+n) (by omega),<-hhi (i+n+1) (by omega)] at hx;obtain ⟨x1,hx1⟩:∃x1,x1=wdc S (i+n)/2^s:=⟨_,rfl⟩;obtain ⟨x2,hx2⟩:∃x2,x2=wdc S (i+n+1)*2^(64 - s)%B:=⟨_,rfl⟩;rw [<-hx1] at hx b1 ⊢;rw [<-hx2] at hx b2 ⊢;repeat (refine oL ?_;conv=>whnf)
  refine ⟨rfl,_,kN tab hat' (hlt:=by omega),?_⟩;rintro _ _ rfl;conv=>whnf
  (try refine gO ?_);conv=>whnf
  repeat (refine oL ?_;conv=>whnf)
  have hz:wdc (V/2^k) i=((fun a b=>a|||b) (x1:Int).toNat (x2:Int).toNat:Nat):=by
   rw [Int.toNat_natCast,Int.toNat_natCast];exact hx
  rw [aJC,show 0+(i:Int).toNat=i by omega,<-hz];have hxb:=iB (V/2^k) i;refine ih (i+1) _ _ ⟨by omega,_,aAV S i (wdc (V/2^k) i),rfl,by simpa using hsz',aAP hxb (by omega) hS,fun j hj=>?_,fun j hj=>?_,fun j hj=>?_⟩ (by omega) ⟨rfl,rfl,rfl,rfl,rfl,trivial⟩
  ·rw [rY hxb];by_cases e:j=i
   ·subst e;rw [Array.getElem?_setIfInBounds_self_of_lt (by omega),if_pos rfl]
   rw [Array.getElem?_setIfInBounds_ne (by omega),if_neg e];exact hcc j hj
  ·rw [rY hxb];by_cases e:j=i
   ·rw [if_pos e,e]
   rw [if_neg e];exact hlo j (by omega)
  rw [rY hxb,if_neg (by omega)];exact hhi j (by omega)
 (try refine gO ?_);conv=>whnf
 refine aD.callV (aSX hw (by omega)) ?_;rintro _ _ ⟨rfl,rfl⟩
 (try refine gO ?_);conv=>whnf
 refine aD.ret Tryz.func226 rfl rfl ⟨_,rfl,?_⟩;have him:i=m:=by omega
 subst him;have hSV:S=V/2^k:=aYB hS (Nat.lt_of_le_of_lt (Nat.div_le_self _ _) hV) hlo;subst hSV;exact ⟨rfl,cur',rfl,hsz',hcc⟩
end Go.Proofs.YthjedpdedjhndaaGreatDoor

namespace Go.NatM
open Go Go.Fw
def byc (V k:Nat):Nat:=V/256^k%256
theorem byc_lt (V k:Nat):byc V k<256:=Nat.mod_lt _ (by decide)
theorem bFR (j:Nat):0<256^j:=Nat.pow_pos (by decide)
theorem aAK (V j:Nat):V%256^(j+1)=V%256^j+256^j*byc V j:=by
 rw [Nat.pow_succ,Nat.mod_mul];rfl
theorem bBX {V m j:Nat} (h:V<256^m) (hj:m<=j):byc V j=0:=by
 unfold byc;rw [Nat.div_eq_of_lt (Nat.lt_of_lt_of_le h (Nat.pow_le_pow_right (by decide) hj))]
theorem oY (j:Nat):256^j=2^(8*j):=by
 rw [show 256=2^8 from rfl,<-Nat.pow_mul]
def nb (V:Nat):Nat:=if V=0 then 0 else Nat.log2 V/8+1
theorem aGH (V:Nat):V<256^nb V:=by
 unfold nb;split
 ·rename_i h;subst h;decide
 rw [oY,<-Nat.log2_lt (by assumption)];omega
theorem bFC {V:Nat} (h:V≠0):256^(nb V - 1)<=V:=by
 unfold nb;rw [if_neg h,Nat.add_sub_cancel,oY,<-Nat.le_log2 h];omega
theorem aTV:nb 0=0:=rfl
theorem aRV {V:Nat} (h:V≠0):0<nb V:=by unfold nb;rw [if_neg h];omega
theorem aFJ {V m:Nat} (h:V<256^m):nb V<=m:=by
 unfold nb;split
 ·omega
 rename_i h0
 rw [oY,<-Nat.log2_lt h0] at h;omega
theorem aSW {V:Nat} (h:V≠0):byc V (nb V - 1)≠0:=by
 have hle:=bFC h;have hlt:=aGH V;have hp:=aRV h;have:=aAK V (nb V - 1);rw [show nb V - 1+1=nb V by omega,Nat.mod_eq_of_lt hlt] at this;intro h0;rw [h0,Nat.mul_zero,Nat.add_zero] at this;have:=Nat.mod_lt V (bFR (nb V - 1));omega
theorem bEH {V m:Nat} (h:V<256^m) (ht:m≠0->byc V (m - 1)≠0):m=nb V:=by
 have h1:=aFJ h;rcases Nat.lt_or_ge (nb V) m with hlt|hge
 ·exfalso
  exact ht (by omega) (bBX (aGH V) (by omega))
 omega
theorem bGN {V V':Nat} (h:V<=V'):nb V<=nb V':=aFJ (Nat.lt_of_le_of_lt h (aGH V'))
theorem bCN (V i:Nat):wdc V (i/8)/2^(8*(i%8))%256=byc V i:=by
 unfold wdc byc;have hi:i=8*(i/8)+i%8:=by omega
 have h8:i%8<8:=Nat.mod_lt _ (by decide)
 generalize i/8=q at *
 generalize i%8=r at *
 subst hi;rw [Nat.pow_add,oY,oY,xJ,<-Nat.mul_assoc 8 8 q,<-Nat.div_div_eq_div_mul];rw [show 8*8*q=64*q by omega]
 generalize V/2^(64*q)=X
 rw [show B=2^(8*r)*2^(64 - 8*r) by rw [<-Nat.pow_add,show 8*r+(64 - 8*r)=64 by omega];rfl,Nat.mod_mul_right_div_self];rw [show 2^(64 - 8*r)=256*2^(56 - 8*r) by rw [show 64 - 8*r=8+(56 - 8*r) by omega,Nat.pow_add],Nat.mod_mul_right_mod]
def nv (s:ByteArray):Nat->Nat
 |0=>0
 |i+1=>nv s i+aY s (s.size - 1 - i)*256^i
def eJ (s:ByteArray):Nat:=nv s s.size
theorem oE (s:ByteArray) (i:Nat):aY s i<256:=by
 have:=(s.data.toList.getD i 0).toNat_lt;unfold aY;omega
theorem nv_lt (s:ByteArray) (i:Nat):nv s i<256^i:=by
 induction i with
 |zero=>simp [nv]
 |succ i ih=>
  have h1:=oE s (s.size - 1 - i);have h2:=Nat.mul_le_mul_right (256^i) (show aY s (s.size - 1 - i)<=255 by omega);simp only [nv,Nat.pow_succ];omega
theorem aTR (s:ByteArray):eJ s<256^s.size:=nv_lt s _
theorem aYE (s:ByteArray) (i j:Nat) (h:i<=j):nv s j%256^i=nv s i:=by
 induction j with
 |zero=>
  have:i=0:=by omega
  subst this;rfl
 |succ j ih=>
  by_cases e:i=j+1
  ·subst e;exact Nat.mod_eq_of_lt (nv_lt s _)
  simp only [nv];rw [show 256^j=256^i*256^(j - i) by rw [<-Nat.pow_add,show i+(j - i)=j by omega]];rw [<-Nat.mul_assoc,Nat.mul_comm (aY s (s.size - 1 - j)),Nat.mul_assoc,Nat.add_mul_mod_self_left];exact ih (by omega)
theorem aEO (s:ByteArray) {i:Nat} (hi:i<s.size):byc (eJ s) i=aY s (s.size - 1 - i):=by
 have h1:=aAK (eJ s) i;unfold eJ at *;rw [aYE s (i+1) _ (by omega),aYE s i _ (by omega)] at h1;simp only [nv] at h1;have h2:256^i*aY s (s.size - 1 - i)=256^i*byc (nv s s.size) i:=by
  rw [Nat.mul_comm];omega
 exact (Nat.eq_of_mul_eq_mul_left (bFR i) h2).symm
def vX (s:ByteArray):Prop:=s.size=0\/aY s 0≠0
theorem aEP {s:ByteArray} (hc:vX s):nb (eJ s)=s.size:=by
 refine (bEH (aTR s) fun h=>?_).symm;rw [aEO s (by omega),show s.size - 1 - (s.size - 1)=0 by omega];rcases hc with h0|h0
 ·exact absurd h0 h
 exact h0
def dn (V n:Nat):Nat->List Nat
 |0=>[]
 |j+1=>dn V n j++[byc V (n - 1 - j)]
theorem kT (V n j:Nat):(dn V n j).length=j:=by
 induction j with
 |zero=>rfl
 |succ j ih=>simp [dn,ih]
theorem bEX (V n:Nat) {i j:Nat} (h:i<j):(dn V n j)[i]? = some (byc V (n - 1 - i)):=by
 induction j with
 |zero=>omega
 |succ j ih=>
  simp only [dn];by_cases e:i=j
  ·subst e;rw [List.getElem?_append_right (by rw [kT];exact Nat.le_refl _),kT,Nat.sub_self];rfl
  rw [List.getElem?_append_left (by rw [kT];omega)];exact ih (by omega)
def enc (V:Nat):ByteArray:=xI (dn V (nb V) (nb V))
theorem aQO (l:List Nat):(xI l).size=l.length:=by
 show (l.map UInt8.ofNat).toArray.size=_
 simp
theorem iU (V:Nat):(enc V).size=nb V:=by rw [enc,aQO,kT]
theorem aRZ {l:List Nat} {i x:Nat} (h:l[i]? = some x) (hx:x<256):aY (xI l) i=x:=by
 unfold aY xI;simp only [List.getD_eq_getElem?_getD,List.getElem?_map,h,Option.map_some,Option.getD_some];exact UInt8.toNat_ofNat_of_lt' hx
theorem yG {V i:Nat} (h:i<nb V):aY (enc V) i=byc V (nb V - 1 - i):=
 aRZ (bEX _ _ h) (byc_lt _ _)
theorem aJH {s t:ByteArray} (h:s.size=t.size) (hb:∀i,i<s.size->aY s i=aY t i):s=t:=by
 obtain ⟨⟨a⟩⟩:=s;obtain ⟨⟨b⟩⟩:=t;have h:a.length=b.length:=h;have:a=b:=by
  apply List.ext_getElem h;intro i h1 h2;have:=hb i h1;simp only [aY,List.getD_eq_getElem?_getD,List.getElem?_eq_getElem h1,List.getElem?_eq_getElem h2,Option.getD_some] at this;exact UInt8.toNat_inj.1 this
 rw [this]
theorem bFT {s:ByteArray} (hc:vX s):enc (eJ s)=s:=by
 have hn:=aEP hc;refine aJH (by rw [iU,hn]) fun i hi=>?_;rw [iU] at hi;rw [yG hi,hn,aEO s (by omega)]
 congr 1
 omega
theorem aCI (V:Nat):vX (enc V):=by
 by_cases h:V=0
 ·subst h;exact .inl rfl
 refine .inr ?_;rw [yG (aRV h)];exact aSW h
theorem aWJ {m:Nat}:∀ {V V':Nat},V<256^m->V'<256^m->(∀j,j<m->byc V j=byc V' j)->V=V':=by
 induction m with
 |zero=>intro V V' h h' _;simp at h h';omega
 |succ m ih=>
  intro V V' h h' hw;have h1:=aAK V m;have h2:=aAK V' m;rw [Nat.mod_eq_of_lt h] at h1;rw [Nat.mod_eq_of_lt h'] at h2;have e:V%256^m=V'%256^m:=ih (Nat.mod_lt _ (bFR m)) (Nat.mod_lt _ (bFR m)) fun j hj=>by
   have hm:∀X:Nat,byc (X%256^m) j=byc X j:=fun X=>by
    unfold byc;rw [show 256^m=256^j*(256*256^(m - j - 1)) by rw [<-Nat.pow_succ',<-Nat.pow_add,show j+(m - j - 1+1)=m by omega],Nat.mod_mul_right_div_self,Nat.mod_mul_right_mod]
   rw [hm,hm];exact hw j (by omega)
  rw [h1,h2,e,hw m (by omega)]
theorem eA (V:Nat):eJ (enc V)=V:=by
 refine aWJ (m:=nb V) (by have:=aTR (enc V);rwa [iU] at this) (aGH V) fun j hj=>?_;rw [aEO _ (by rw [iU];exact hj),iU,yG (by omega)]
 congr 1
 omega
theorem nv_word {s:ByteArray} {i S:Nat} (hS:S=nv s i):
  aAV S (i/8) (wdc S (i/8)|||(aY s (s.size - 1 - i)*2^(8*(i%8))%B))=nv s (i+1)/\(wdc S (i/8)|||(aY s (s.size - 1 - i)*2^(8*(i%8))%B))<B:=by
 have hb:=oE s (s.size - 1 - i);have hnv:nv s (i+1)=nv s i+aY s (s.size - 1 - i)*256^i:=rfl;obtain ⟨b,hbb⟩:∃b,b=aY s (s.size - 1 - i):=⟨_,rfl⟩;rw [<-hbb] at hb hnv ⊢;have hlt:=nv_lt s i;rw [<-hS] at hlt;have h8:i%8<8:=Nat.mod_lt _ (by decide);have e256:256^i=B^(i/8)*2^(8*(i%8)):=by
  rw [xJ,oY,<-Nat.pow_add];congr 1;omega
 have hw:wdc S (i/8)<2^(8*(i%8)):=by
  unfold wdc;exact Nat.lt_of_le_of_lt (Nat.mod_le _ _) (Nat.div_lt_of_lt_mul (by rw [<-e256];exact hlt))
 have hB:256*2^(8*(i%8))<=B:=by
  rw [show 256=2^8 from rfl,<-Nat.pow_add,show B=2^64 from rfl];exact Nat.pow_le_pow_right (by decide) (by omega)
 have hm:b*2^(8*(i%8))+2^(8*(i%8))<=256*2^(8*(i%8)):=by
  rw [<-Nat.succ_mul];exact Nat.mul_le_mul_right _ (by omega)
 have hp:=Nat.two_pow_pos (8*(i%8));rw [Nat.mod_eq_of_lt (by omega)];have hor:wdc S (i/8)|||(b*2^(8*(i%8)))=2^(8*(i%8))*b+wdc S (i/8):=by
  rw [Nat.mul_comm b,Nat.or_comm,Nat.two_pow_add_eq_or_of_lt hw]
 rw [hor];refine ⟨?_,by rw [Nat.mul_comm];omega⟩;have h1:=@aAN S (i/8) (2^(8*(i%8))*b+wdc S (i/8));rw [Nat.mul_add] at h1;have h2:nv s (i+1)=S+B^(i/8)*(2^(8*(i%8))*b):=by
  rw [hnv,<-hS,e256,Nat.mul_comm b,Nat.mul_assoc]
 omega
end Go.NatM

namespace Go.Proofs.YthjedpdedjhndaaGreatDoor
open Go Go.Fw Go.NatM
theorem aVG (b i:Nat) (hb:b<256):((b:Int)%18446744073709551616*2^((8*((i:Int)%8)).toNat)%18446744073709551616:Int)=((b*2^(8*(i%8))%B:Nat):Int):=by
 rw [show (8*((i:Int)%8)).toNat=8*(i%8) by omega,mA,show (b:Int)%18446744073709551616=b by omega];simp
theorem iH {h:Array Obj} {s:ByteArray} (hs:s.size<=1048576):
  FnV Tryz.prog 116 #[.string s] h fun r h'=>lB h.size h' r ((s.size+7)/8) (eJ s)/\aH h.size h h':=by
 obtain ⟨M,hM⟩:∃M,M=(s.size+7)/8:=⟨_,rfl⟩;have hMM:(((s.size:Int)+7)/8)=(M:Int):=by omega
 rw [<-hM];refine Fn.of (args:=[.string s]) Tryz.func116 (by kernel_rfl) rfl Tryz.ntmps116 rfl fun w0 cs=>?_;refine gO ?_;conv=>whnf
 repeat (refine oL ?_;conv=>whnf)
 refine aD.eff (qJ tab M M (hn:=⟨hMM,hMM,by omega,by dsimp only;omega,by omega⟩)) ?_;rintro _ _ ⟨rfl,rfl⟩
 (try refine gO ?_);conv=>whnf
 refine aD.loop (X:=Nat) (fun i=>[(0,.string s),(3,.slice (some ⟨h.size,0,none⟩) M M),(11,.int .i64 s.size),(12,.int .i64 (i:Nat))])
  (fun i h'=>i<=s.size/\Blk h h' h.size M (nv s i)) (fun i=>s.size - i) 0
  ⟨Nat.zero_le _,⟨_,gH _ _ _,by simp,eD _,fun j hj=>?_,(aH.refl _ _).push (Nat.le_refl _) _⟩⟩ ⟨rfl,rfl,rfl,rfl,trivial⟩ ?_
 ·rw [show nv s 0=0 from rfl,aAG,Array.getElem?_replicate,if_pos hj];rfl
 rintro i h' ⟨hi,cur,hat,hsz,hS,hc,hk⟩ ih
 (try refine gO ?_);conv=>whnf
 refine ⟨fun h1=>?_,fun h1=>?_⟩<;>conv=>whnf
 ·repeat (refine oL ?_;conv=>whnf)
  have hcell:bL h' h.size (0+(((i:Int)/8).toNat))=some (.int .u64 (wdc (nv s i) (i/8):Nat)):=by
   rw [hat.cell,show 0+((i:Int)/8).toNat=i/8 by omega];exact hc (i/8) (by omega)
  refine aD.drawn tab [0,1,2,3,4,5,6,7,8,9,10,11,12,13,14,15,16,17,18] [19] (by kernel_rfl) ?_;conv=>whnf
  repeat (refine oL ?_;conv=>whnf)
  refine ⟨_,hcell,?_⟩;conv=>whnf
  repeat (refine oL ?_;conv=>whnf)
  rw [show (((s.size:Int) - 1 - (i:Int)).toNat)=s.size - 1 - i by omega];have hb:=oE s (s.size - 1 - i);obtain ⟨k1,k2⟩:=nv_word (s:=s) (i:=i) rfl;rw [aVG _ _ hb];have b1:=qA (nv s i) (i/8);have b2:=aVC (aY s (s.size - 1 - i)*2^(8*(i%8)));obtain ⟨x2,hx2⟩:∃x2,x2=aY s (s.size - 1 - i)*2^(8*(i%8))%B:=⟨_,rfl⟩;obtain ⟨x1,hx1⟩:∃x1,x1=wdc (nv s i) (i/8):=⟨_,rfl⟩;rw [<-hx2] at k1 k2 b2 ⊢;rw [<-hx1] at k1 k2 b1 ⊢;repeat (refine oL ?_;conv=>whnf)
  refine ⟨rfl,_,kN tab hat (hlt:=by omega),?_⟩;rintro _ _ rfl;conv=>whnf
  (try refine gO ?_);conv=>whnf
  repeat (refine oL ?_;conv=>whnf)
  have hz:((fun a b=>a|||b) (x1:Int).toNat (x2:Int).toNat:Nat)=x1|||x2:=by
   rw [Int.toNat_natCast,Int.toNat_natCast]
  rw [hz,show 0+((i:Int)/8).toNat=i/8 by omega];obtain ⟨x3,hx3⟩:∃x3,x3=x1|||x2:=⟨_,rfl⟩;rw [<-hx3] at k1 k2 ⊢;have hB:=Blk.put hat hsz hS hc hk (i:=i/8) (by omega) k2 rfl;rw [k1] at hB;exact ih (i+1) _ _ ⟨by omega,hB⟩ (by omega) ⟨rfl,rfl,rfl,rfl,trivial⟩
 (try refine gO ?_);conv=>whnf
 refine aD.ret Tryz.func116 rfl rfl ⟨_,rfl,?_⟩;have him:i=s.size:=by omega
 subst him;exact ⟨Blk.own ⟨cur,hat,hsz,hS,hc,hk⟩,hk⟩

def Buf (base:Nat) (h:Array Obj) (v:Value) (l:List Nat):Prop:=Own base h 5 1 v l.length (l.map fun (x:Nat)=>Value.int .u8 (x:Int))
theorem aXE (V i:Nat):((wdc V (i/8):Int)/2^((8*((i:Int)%8)).toNat)%256:Int)=((byc V i:Nat):Int):=by
 rw [show (8*((i:Int)%8)).toNat=8*(i%8) by omega,<-bCN];simp
theorem wD {h:Array Obj} {v:Value} {m V:Nat} (hw:Wr h v m V) (hm:m<=1048576):
  FV 112 #[v] h (.string (enc V)):=by
 have hW:=hw;obtain ⟨a,cap,rfl,hcap,hV,hr⟩:=hw;have hn:nb V<=8*m:=aFJ (by rw [oY];rw [xJ] at hV;rwa [show 8*(8*m)=64*m by omega]);refine Fn.of (args:=[.slice a m cap]) Tryz.func112 (by kernel_rfl) rfl Tryz.ntmps112 rfl fun w0 cs=>?_;refine gO ?_;conv=>whnf
 repeat (refine oL ?_;conv=>whnf)
 refine aD.eff (qJ tab 0 (8*m) (hn:=⟨rfl,by omega,by omega,by dsimp only;omega,by omega⟩)) ?_;rintro _ _ ⟨rfl,rfl⟩
 (try refine gO ?_);conv=>whnf
 repeat (refine oL ?_;conv=>whnf)
 refine aD.loop (X:=Nat×Value) (fun q=>[(0,.slice a m cap),(3,q.2),(4,.int .i64 ((q.1:Int) - 1))])
  (fun q h'=>q.1<=8*m/\Buf h.size h' q.2 (dn V (nb V) (nb V - q.1))/\aH h.size h h') (fun q=>q.1) (8*m,.slice (some ⟨h.size,0,none⟩) 0 (8*m))
  ⟨Nat.le_refl _,?_,(aH.refl _ _).push (Nat.le_refl _) _⟩ ⟨rfl,rfl,?_,trivial⟩ ?_
 ·show Buf _ _ _ (dn V (nb V) (nb V - 8*m));rw [show nb V - 8*m=0 by omega];exact ⟨rfl,.inr ⟨h.size,8*m,_,rfl,Nat.le_refl _,gH _ _ _,Nat.zero_le _,by unfold maxLen;omega,by simp,by simp [dn]⟩⟩
 ·show some (Value.int .i64 _)=some (Value.int .i64 _)
  congr 2
 rintro ⟨k,buf⟩ h' ⟨hk,hbuf,hkp⟩ ih;dsimp only at hk hbuf ⊢;have hX:=hW.keeps hkp;obtain ⟨ab,capb,hbv⟩:=Own.shape hbuf;rw [kT] at hbv;subst hbv;by_cases hk0:k=0
 ·subst hk0
  (try refine gO ?_);conv=>whnf
  refine ⟨fun h1=>?_,fun h1=>?_⟩<;>conv=>whnf
  ·omega
  refine aD.eff (aHN tab (base:=h.size) (ns:=dn V (nb V) (nb V - 0)) (by unfold Buf at hbuf;rw [kT] at hbuf;exact hbuf)) ?_;rintro _ _ ⟨rfl,rfl⟩
  (try refine gO ?_);conv=>whnf
  refine aD.ret Tryz.func112 rfl rfl ⟨_,rfl,?_⟩;exact ⟨rfl,hkp⟩
 obtain ⟨i,rfl⟩:∃i,k=i+1:=⟨k - 1,by omega⟩;rw [show (((i+1:Nat):Int) - 1)=(i:Int) by omega];obtain ⟨b,off,rfl,hrd⟩:=hX.rd rfl (by omega);have hcell:bL h' b (off+((i:Int)/8).toNat)=some (.int .u64 (wdc V (i/8):Nat)):=by
  rw [show ((i:Int)/8).toNat=i/8 by omega];exact hrd (i/8) (by omega)
 (try refine gO ?_);conv=>whnf
 refine ⟨fun h1=>?_,fun h1=>?_⟩<;>conv=>whnf
 ·repeat (refine oL ?_;conv=>whnf)
  refine ⟨_,hcell,?_⟩;conv=>whnf
  repeat (refine oL ?_;conv=>whnf)
  rw [aXE];have app:i<nb V -> ∀(v':Value) (h2:Array Obj),Own h.size h2 5 1 v' (nb V - (i+1)+1) ((dn V (nb V) (nb V - (i+1))).map (fun (x:Nat)=>Value.int .u8 (x:Int))++[.int .u8 (byc V i:Nat)])->Buf h.size h2 v' (dn V (nb V) (nb V - i)):=fun hi v' h2 H=>by
   unfold Buf;rw [kT,show nb V - i=nb V - (i+1)+1 by omega,dn,List.map_append];rw [show nb V - 1 - (nb V - (i+1))=i by omega];exact H
  have hbuf':Own h.size h' 5 1 (.slice ab (nb V - (i+1)) capb) (nb V - (i+1)) ((dn V (nb V) (nb V - (i+1))).map fun (x:Nat)=>Value.int .u8 (x:Int)):=by
   unfold Buf at hbuf;rw [kT] at hbuf;exact hbuf
  have hsz':=hkp.size;have hnews:∀i j u,[Value.int .u8 (byc V i:Nat)][j]? = some u->bL (h'.push (.cells #[Value.int .u8 (byc V i:Nat)] 5 (0,0))) h'.size (0+j)=some u:=fun i j u hu=>by
   rw [(gH _ _ _).cell,Nat.zero_add]
   cases j with
   |zero=>simpa using hu
   |succ j=>simp at hu
  refine ⟨fun hz=>?_,fun hz=>?_⟩<;>conv=>whnf
  ·refine ⟨fun hl=>?_,fun hl=>?_⟩<;>conv=>whnf
   ·have hi:i<nb V:=by omega
    refine aD.eff (iN tab [Value.int .u8 (byc V i:Nat)] (h1:=by simp [Value.cells])) ?_;rintro _ _ ⟨rfl,rfl⟩
    (try refine gO ?_);conv=>whnf
    refine aD.eff (xT tab (base:=h.size) (m:=nb V - (i+1)) (m2:=1) (news:=[Value.int .u8 (byc V i:Nat)]) (Own.push hbuf' _) rfl (hnews i) (by simp [Value.oneCell']) (h63:=by unfold maxLen;omega) (hbytes:=by dsimp only;omega) (hbase:=by simp;omega)) ?_;rintro v' h2 ⟨H1,H2,H3,_⟩
    (try refine gO ?_);conv=>whnf
    repeat (refine oL ?_;conv=>whnf)
    refine ih (i,v') _ _ ⟨by dsimp only;omega,app hi _ _ H1,(hkp.push hkp.size _).trans ((Own.push hbuf' _).keeps (by simp;omega) H2 H3)⟩ (by dsimp only;omega) ⟨rfl,rfl,rfl,trivial⟩
   have hi:nb V<=i:=by
    rcases Nat.lt_or_ge i (nb V) with h|h
    ·exfalso
     have hV0:V≠0:=fun e=>by subst e;simp [aTV] at h
     have:=aSW hV0;rw [show nb V - 1=i by omega] at this;omega
    exact h
   conv=>whnf
   repeat (refine oL ?_;conv=>whnf)
   refine ih (i,_) _ _ ⟨by dsimp only;omega,?_,hkp⟩ (by dsimp only;omega) ⟨rfl,rfl,rfl,trivial⟩;dsimp only;rw [show nb V - i=nb V - (i+1) by omega];exact hbuf
  have hi:i<nb V:=by
   rcases Nat.lt_or_ge i (nb V) with h|h
   ·exact h
   exact absurd (by rw [bBX (aGH V) h];rfl) hz
  refine aD.eff (iN tab [Value.int .u8 (byc V i:Nat)] (h1:=by simp [Value.cells])) ?_;rintro _ _ ⟨rfl,rfl⟩
  (try refine gO ?_);conv=>whnf
  refine aD.eff (xT tab (base:=h.size) (m:=nb V - (i+1)) (m2:=1) (news:=[Value.int .u8 (byc V i:Nat)]) (Own.push hbuf' _) rfl (hnews i) (by simp [Value.oneCell']) (h63:=by unfold maxLen;omega) (hbytes:=by dsimp only;omega) (hbase:=by simp;omega)) ?_;rintro v' h2 ⟨H1,H2,H3,_⟩
  (try refine gO ?_);conv=>whnf
  repeat (refine oL ?_;conv=>whnf)
  refine ih (i,v') _ _ ⟨by dsimp only;omega,app hi _ _ H1,(hkp.push hkp.size _).trans ((Own.push hbuf' _).keeps (by simp;omega) H2 H3)⟩ (by dsimp only;omega) ⟨rfl,rfl,rfl,trivial⟩
 omega
end Go.Proofs.YthjedpdedjhndaaGreatDoor

namespace Go.NatM
open Go Go.Fw
def oK (s:ByteArray):Bool:=Nat.beq s.size 0 || !Nat.beq (aY s 0) 0
theorem pJ {s:ByteArray}:oK s=true↔vX s:=by
 unfold oK vX;rw [Bool.or_eq_true,Bool.not_eq_true',Nat.beq_eq,<-Bool.not_eq_true,Nat.beq_eq]
def chk (l:List ByteArray):Int:=if l.all oK then (if l.all fun s=>Nat.ble s.size 256 then 0 else 2) else 60
theorem eV {l:List ByteArray} (h:chk l=0) {s:ByteArray} (hs:s∈l):vX s/\s.size<=256:=by
 unfold chk at h;split at h
 ·rename_i h1
  split at h
  ·rename_i h2
   exact ⟨pJ.1 (List.all_eq_true.1 h1 s hs),Nat.le_of_ble_eq_true (List.all_eq_true.1 h2 s hs)⟩
  omega
 omega
abbrev mt:ByteArray:=⟨#[]⟩
def oW (V:Nat):ByteArray×Int:=if nb V<=256 then (enc V,0) else (mt,2)
def bCC (a b:ByteArray):ByteArray×Int:=if chk [a,b]=0 then oW (eJ a+eJ b) else (mt,chk [a,b])
def mulS (a b:ByteArray):ByteArray×Int:=if chk [a,b]=0 then oW (eJ a*eJ b) else (mt,chk [a,b])
def bDV (a b:ByteArray):ByteArray×Int:=if chk [a,b]=0 then (if eJ a<eJ b then (mt,1) else (enc (eJ a - eJ b),0)) else (mt,chk [a,b])
def aHG (x y:Nat):Int:=if x<y then -1 else if y<x then 1 else 0
def bDA (a b:ByteArray):Int×Int:=if chk [a,b]=0 then (aHG (eJ a) (eJ b),0) else (0,chk [a,b])
def ofS (n:Int):ByteArray×Int:=if n<0 then (mt,1) else (enc n.toNat,0)
def aVI (a b:ByteArray):ByteArray×ByteArray×Int:=if chk [a,b]=0 then (if b.size=0 then (mt,mt,71) else (enc (eJ a/eJ b),enc (eJ a%eJ b),0)) else (mt,mt,chk [a,b])
def gcdS (a b:ByteArray):ByteArray×Int:=if chk [a,b]=0 then (enc (Nat.gcd (eJ a) (eJ b)),0) else (mt,chk [a,b])
theorem nw_nb (V:Nat):nw V=(nb V+7)/8:=by
 unfold nw nb;split<;>omega
theorem jQ {s:ByteArray} (hc:vX s):(s.size+7)/8=nw (eJ s):=by
 rw [nw_nb,aEP hc]
theorem aIS (V j:Nat):V/256^j=byc V j+256*(V/256^(j+1)):=by
 unfold byc;rw [Nat.pow_succ,<-Nat.div_div_eq_div_mul];omega
theorem bDI {V1 V2 j:Nat} (h:V1/256^(j+1)=V2/256^(j+1)) (hne:byc V1 j<byc V2 j):V1<V2:=by
 have h1:=aIS V1 j;have h2:=aIS V2 j;have:V1/256^j<V2/256^j:=by rw [h1,h2,h];omega
 rcases Nat.lt_or_ge V1 V2 with hlt|hge
 ·exact hlt
 have:=Nat.div_le_div_right (c:=256^j) hge;omega
theorem bDF {a b:ByteArray} (ha:vX a) (hb:vX b) (h:a.size<b.size):eJ a<eJ b:=by
 rcases Nat.lt_or_ge (eJ a) (eJ b) with h1|h1
 ·exact h1
 have:=bGN h1;rw [aEP ha,aEP hb] at this;omega
end Go.NatM

namespace Go.Proofs.YthjedpdedjhndaaGreatDoor
open Go Go.Fw Go.NatM
def sev (p:ByteArray×Int):Value:=.tuple #[.string p.1,.int .i64 p.2]
theorem aPS {h:Array Obj} {v:Value} {m V:Nat} (hw:Wr h v m V) (hm:m<=1048576):
  FV 114 #[v] h (sev (oW V)):=by
 have hW:=hw;obtain ⟨a,cap,rfl,hcap,hV,hr⟩:=hw;refine Fn.of (args:=[.slice a m cap]) Tryz.func114 (by kernel_rfl) rfl Tryz.ntmps114 rfl fun w0 cs=>?_;refine gO ?_;conv=>whnf
 refine aD.callV (wD hW hm) ?_;rintro _ h1 ⟨rfl,hk⟩
 (try refine gO ?_);conv=>whnf
 have hs:=iU V;refine ⟨fun ht=>?_,fun ht=>?_⟩<;>conv=>whnf
 ·refine aD.ret Tryz.func114 rfl rfl ⟨_,rfl,?_⟩;refine ⟨?_,hk⟩;unfold oW;rw [if_neg (by omega)];rfl
 refine aD.ret Tryz.func114 rfl rfl ⟨_,rfl,?_⟩;refine ⟨?_,hk⟩;unfold oW;rw [if_pos (by omega)];rfl
def Strs (h:Array Obj) (b off:Nat) (ss:List ByteArray):Prop:=∀(j:Nat) (s:ByteArray),ss[j]? = some s->bL h b (off+j)=some (.string s)
theorem pE {h:Array Obj} {b off cap:Nat} {ss:List ByteArray} (hss:Strs h b off ss) (hlen:ss.length<=1048576):
  FnV Tryz.prog 113 #[.slice (some ⟨b,off,none⟩) ss.length cap] h fun r h'=>r=.int .i64 (chk ss)/\h'=h:=by
 refine Fn.of (args:=[.slice (some ⟨b,off,none⟩) ss.length cap]) Tryz.func113 (by kernel_rfl) rfl Tryz.ntmps113 rfl fun w0 cs=>?_;refine gO ?_;conv=>whnf
 refine aD.loop (X:=Nat) (fun i=>[(0,.slice (some ⟨b,off,none⟩) ss.length cap),(7,.slice (some ⟨b,off,none⟩) ss.length cap),(8,.int .i64 ss.length),(9,.int .i64 (i:Nat))])
  (fun i h'=>h'=h/\i<=ss.length/\(ss.take i).all oK=true) (fun i=>ss.length - i) 0 ⟨rfl,Nat.zero_le _,rfl⟩ ⟨rfl,rfl,rfl,rfl,trivial⟩ ?_
 rintro i h ⟨rfl,hi,hc⟩ ih
 (try refine gO ?_);conv=>whnf
 refine ⟨fun h1=>?_,fun h1=>?_⟩<;>conv=>whnf
 ·repeat (refine oL ?_;conv=>whnf)
  obtain ⟨s,hs⟩:∃s,ss[i]? = some s:=⟨ss[i]'(by omega),List.getElem?_eq_getElem _⟩;have htk:ss.take (i+1)=ss.take i++[s]:=by rw [List.take_add_one,hs];rfl
  refine ⟨_,hss i s hs,?_⟩;conv=>whnf
  refine ⟨fun h2=>?_,fun h2=>?_⟩<;>conv=>whnf
  ·repeat (refine oL ?_;conv=>whnf)
   refine ⟨fun h3=>?_,fun h3=>?_⟩<;>conv=>whnf
   ·refine aD.ret Tryz.func113 rfl rfl ⟨_,rfl,?_⟩;refine ⟨?_,rfl⟩;rw [show Int.toNat 0=0 from rfl] at h3;have:ss.all oK=false:=by
     rw [List.all_eq_false];refine ⟨s,List.mem_of_getElem? hs,?_⟩;rw [pJ];rintro (h0|h0)
     ·omega
     exact h0 (by omega)
    unfold chk;rw [this];rfl
   (try refine gO ?_);conv=>whnf
   repeat (refine oL ?_;conv=>whnf)
   refine ih (i+1) _ _ ⟨rfl,by omega,?_⟩ (by omega) ⟨rfl,rfl,rfl,rfl,trivial⟩;rw [show Int.toNat 0=0 from rfl] at h3;rw [htk,List.all_append,hc];show (true&&(oK s&&true))=true;rw [pJ.2 (.inr (by omega))];rfl
  (try refine gO ?_);conv=>whnf
  repeat (refine oL ?_;conv=>whnf)
  refine ih (i+1) _ _ ⟨rfl,by omega,?_⟩ (by omega) ⟨rfl,rfl,rfl,rfl,trivial⟩;rw [htk,List.all_append,hc];show (true&&(oK s&&true))=true;rw [pJ.2 (.inl (by omega))];rfl
 have him:i=ss.length:=by omega
 subst him;rw [List.take_length] at hc
 (try refine gO ?_);conv=>whnf
 refine aD.loop (X:=Nat) (fun i=>[(22,.slice (some ⟨b,off,none⟩) ss.length cap),(23,.int .i64 ss.length),(24,.int .i64 (i:Nat))])
  (fun i h'=>h'=h/\i<=ss.length/\((ss.take i).all fun s=>Nat.ble s.size 256)=true) (fun i=>ss.length - i) 0 ⟨rfl,Nat.zero_le _,rfl⟩ ⟨rfl,rfl,rfl,trivial⟩ ?_
 rintro i h ⟨rfl,hi,hl⟩ ih
 (try refine gO ?_);conv=>whnf
 refine ⟨fun h1=>?_,fun h1=>?_⟩<;>conv=>whnf
 ·repeat (refine oL ?_;conv=>whnf)
  obtain ⟨s,hs⟩:∃s,ss[i]? = some s:=⟨ss[i]'(by omega),List.getElem?_eq_getElem _⟩;have htk:ss.take (i+1)=ss.take i++[s]:=by rw [List.take_add_one,hs];rfl
  refine ⟨_,hss i s hs,?_⟩;conv=>whnf
  refine ⟨fun h2=>?_,fun h2=>?_⟩<;>conv=>whnf
  ·refine aD.ret Tryz.func113 rfl rfl ⟨_,rfl,?_⟩;refine ⟨?_,rfl⟩;have:(ss.all fun s=>Nat.ble s.size 256)=false:=by
    rw [List.all_eq_false];refine ⟨s,List.mem_of_getElem? hs,fun hb=>?_⟩;have:=Nat.le_of_ble_eq_true hb;omega
   unfold chk;rw [hc,this];rfl
  (try refine gO ?_);conv=>whnf
  repeat (refine oL ?_;conv=>whnf)
  refine ih (i+1) _ _ ⟨rfl,by omega,?_⟩ (by omega) ⟨rfl,rfl,rfl,trivial⟩;rw [htk,List.all_append,hl]
  simp
  omega
 refine aD.ret Tryz.func113 rfl rfl ⟨_,rfl,?_⟩;have him:i=ss.length:=by omega
 subst him;rw [List.take_length] at hl;refine ⟨?_,rfl⟩;unfold chk;rw [hc,hl];rfl
theorem rS (h:Array Obj) (ss:List ByteArray):Strs (h.push (.cells (ss.map Value.string).toArray 9 (0,0))) h.size 0 ss:=by
 intro j s hs;rw [(gH _ _ _).cell,Nat.zero_add]
 simp [hs]
theorem aMR {h:Array Obj} (s:ByteArray):FV 77 #[.string s] h (.int .i64 (chk [s])):=by
 refine Fn.of (args:=[.string s]) Tryz.func77 (by kernel_rfl) rfl Tryz.ntmps77 rfl fun w0 cs=>?_;refine gO ?_;conv=>whnf
 refine aD.eff (iN tab [.string s] (h1:=by simp [Value.cells])) ?_;rintro _ _ ⟨rfl,rfl⟩
 (try refine gO ?_);conv=>whnf
 refine aD.callV (pE (rS h [s]) (by simp)) ?_;rintro _ _ ⟨rfl,rfl⟩
 (try refine gO ?_);conv=>whnf
 refine aD.ret Tryz.func77 rfl rfl ⟨_,rfl,?_⟩;exact ⟨rfl,(aH.refl _ _).push (Nat.le_refl _) _⟩
theorem aRX {h:Array Obj} (s t:ByteArray):FV 70 #[.string s,.string t] h (sev (bCC s t)):=by
 refine Fn.of (args:=[.string s,.string t]) Tryz.func70 (by kernel_rfl) rfl Tryz.ntmps70 rfl fun w0 cs=>?_;refine gO ?_;conv=>whnf
 refine aD.eff (iN tab [.string s,.string t] (h1:=by simp [Value.cells])) ?_;rintro _ _ ⟨rfl,rfl⟩
 (try refine gO ?_);conv=>whnf
 refine aD.callV (pE (rS h [s,t]) (by simp)) ?_;rintro _ h1 ⟨rfl,e1⟩;have hk1:aH h.size h h1:=by rw [e1];exact (aH.refl _ _).push (Nat.le_refl _) _
 clear e1
 (try refine gO ?_);conv=>whnf
 refine ⟨fun hc=>?_,fun hc=>?_⟩<;>conv=>whnf
 ·have c1:=eV hc (s:=s) (by simp);have c2:=eV hc (s:=t) (by simp);refine aD.callV (iH (s:=s) (by omega)) ?_;rintro v2 h2 ⟨o2,k2⟩
  (try refine gO ?_);conv=>whnf
  refine aD.callV (iH (s:=t) (by omega)) ?_;rintro v3 h3 ⟨o3,k3⟩
  (try refine gO ?_);conv=>whnf
  refine aD.callV (plus_fn (o2.keeps k3 (Nat.le_refl _)).wr o3.wr (by omega) (by omega)) ?_;rintro v4 h4 ⟨o4,k4⟩
  (try refine gO ?_);conv=>whnf
  refine aD.callV (aPS o4.wr (by omega)) ?_;rintro _ h5 ⟨rfl,k5⟩
  (try refine gO ?_);conv=>whnf
  refine aD.ret Tryz.func70 rfl rfl ⟨_,rfl,?_⟩;refine ⟨?_,?_⟩
  ·unfold bCC;rw [if_pos hc];rfl
  have:=hk1.size;have:=k2.size;have:=k3.size;have:=k4.size;exact (((hk1.trans (k2.mono (by omega))).trans (k3.mono (by omega))).trans (k4.mono (by omega))).trans (k5.mono (by omega))
 refine aD.ret Tryz.func70 rfl rfl ⟨_,rfl,?_⟩;refine ⟨?_,hk1⟩;unfold bCC;rw [if_neg hc];rfl

theorem bAQ (x y:Nat):lC (x:Int) (y:Int)=aHG x y:=by
 unfold lC aHG;by_cases h1:x<y
 ·rw [if_pos h1,if_pos (by omega)]
 rw [if_neg h1,if_neg (by omega)];by_cases h2:y<x
 ·rw [if_pos h2,if_pos (by omega)]
 rw [if_neg h2,if_neg (by omega)]
theorem Of_fn {h:Array Obj} (n:Int) (hn:n<=9223372036854775807):FV 69 #[.int .i64 n] h (sev (ofS n)):=by
 refine Fn.of (args:=[.int .i64 n]) Tryz.func69 (by kernel_rfl) rfl Tryz.ntmps69 rfl fun w0 cs=>?_;refine gO ?_;conv=>whnf
 refine ⟨fun h1=>?_,fun h1=>?_⟩<;>conv=>whnf
 ·refine aD.ret Tryz.func69 rfl rfl ⟨_,rfl,?_⟩;refine ⟨?_,aH.refl _ _⟩;unfold ofS;rw [if_pos h1];rfl
 rw [show n%18446744073709551616=(n.toNat:Int) by omega];refine aD.eff (iN tab [.int .u64 (n.toNat:Int)] (h1:=by simp [Value.cells])) ?_;rintro _ _ ⟨rfl,rfl⟩
 (try refine gO ?_);conv=>whnf
 have hat:=gH h #[.int .u64 (n.toNat:Int)] 173;have hw:Wr (h.push (.cells #[.int .u64 (n.toNat:Int)] 173 (0,0))) (.slice (some ⟨h.size,0,none⟩) 1 1) 1 n.toNat:=Wr.of_at hat (Nat.le_refl _) (by rw [mA];omega) fun j hj=>by
  have:j=0:=by omega
  subst this;rw [show wdc n.toNat 0=n.toNat by unfold wdc;rw [Nat.pow_zero,Nat.div_one];exact Nat.mod_eq_of_lt (by rw [mA];omega)];rfl
 refine aD.callV (wD hw (by decide)) ?_;rintro _ h5 ⟨rfl,k5⟩
 (try refine gO ?_);conv=>whnf
 refine aD.ret Tryz.func69 rfl rfl ⟨_,rfl,?_⟩;refine ⟨?_,((aH.refl _ _).push (Nat.le_refl _) _).trans (k5.mono (by simp))⟩;unfold ofS;rw [if_neg h1];rfl
theorem qE {h:Array Obj} (s t:ByteArray):FV 78 #[.string s,.string t] h (sev (mulS s t)):=by
 refine Fn.of (args:=[.string s,.string t]) Tryz.func78 (by kernel_rfl) rfl Tryz.ntmps78 rfl fun w0 cs=>?_;refine gO ?_;conv=>whnf
 refine aD.eff (iN tab [.string s,.string t] (h1:=by simp [Value.cells])) ?_;rintro _ _ ⟨rfl,rfl⟩
 (try refine gO ?_);conv=>whnf
 refine aD.callV (pE (rS h [s,t]) (by simp)) ?_;rintro _ h1 ⟨rfl,e1⟩;have hk1:aH h.size h h1:=by rw [e1];exact (aH.refl _ _).push (Nat.le_refl _) _
 clear e1
 (try refine gO ?_);conv=>whnf
 refine ⟨fun hc=>?_,fun hc=>?_⟩<;>conv=>whnf
 ·have c1:=eV hc (s:=s) (by simp);have c2:=eV hc (s:=t) (by simp);refine aD.callV (iH (s:=s) (by omega)) ?_;rintro v2 h2 ⟨o2,k2⟩
  (try refine gO ?_);conv=>whnf
  refine aD.callV (iH (s:=t) (by omega)) ?_;rintro v3 h3 ⟨o3,k3⟩
  (try refine gO ?_);conv=>whnf
  refine aD.callV (aFH (o2.keeps k3 (Nat.le_refl _)).wr o3.wr (by omega) (by omega)) ?_;rintro v4 h4 ⟨o4,k4⟩
  (try refine gO ?_);conv=>whnf
  refine aD.callV (aPS o4.wr (by omega)) ?_;rintro _ h5 ⟨rfl,k5⟩
  (try refine gO ?_);conv=>whnf
  refine aD.ret Tryz.func78 rfl rfl ⟨_,rfl,?_⟩;refine ⟨?_,?_⟩
  ·unfold mulS;rw [if_pos hc];rfl
  have:=hk1.size;have:=k2.size;have:=k3.size;have:=k4.size;exact (((hk1.trans (k2.mono (by omega))).trans (k3.mono (by omega))).trans (k4.mono (by omega))).trans (k5.mono (by omega))
 refine aD.ret Tryz.func78 rfl rfl ⟨_,rfl,?_⟩;refine ⟨?_,hk1⟩;unfold mulS;rw [if_neg hc];rfl
theorem aZS {h:Array Obj} (s t:ByteArray):FV 232 #[.string s,.string t] h (sev (bDV s t)):=by
 refine Fn.of (args:=[.string s,.string t]) Tryz.func232 (by kernel_rfl) rfl Tryz.ntmps232 rfl fun w0 cs=>?_;refine gO ?_;conv=>whnf
 refine aD.eff (iN tab [.string s,.string t] (h1:=by simp [Value.cells])) ?_;rintro _ _ ⟨rfl,rfl⟩
 (try refine gO ?_);conv=>whnf
 refine aD.callV (pE (rS h [s,t]) (by simp)) ?_;rintro _ h1 ⟨rfl,e1⟩;have hk1:aH h.size h h1:=by rw [e1];exact (aH.refl _ _).push (Nat.le_refl _) _
 clear e1
 (try refine gO ?_);conv=>whnf
 refine ⟨fun hc=>?_,fun hc=>?_⟩<;>conv=>whnf
 ·have c1:=eV hc (s:=s) (by simp);have c2:=eV hc (s:=t) (by simp);refine aD.callV (iH (s:=s) (by omega)) ?_;rintro v2 h2 ⟨o2,k2⟩
  (try refine gO ?_);conv=>whnf
  refine aD.callV (iH (s:=t) (by omega)) ?_;rintro v3 h3 ⟨o3,k3⟩
  (try refine gO ?_);conv=>whnf
  have l2:=jQ c1.1;have l3:=jQ c2.1;have q2:=o2.keeps k3 (Nat.le_refl _);refine aD.callV (mG (l2▸q2.wr) (l3▸o3.wr) (by omega)) ?_;rintro _ h3 ⟨rfl,rfl⟩
  (try refine gO ?_);conv=>whnf
  have s1:=hk1.size;have s2:=k2.size;have s3:=k3.size;have kk:=(hk1.trans (k2.mono (by omega))).trans (k3.mono (by omega));have lt_iff:lC (eJ s) (eJ t)<0↔eJ s<eJ t:=by
   unfold lC
   constructor
   ·intro h;split at h
    ·omega
    split at h<;>omega
   intro h;rw [if_pos (by omega)];decide
  refine ⟨fun h4=>?_,fun h4=>?_⟩<;>conv=>whnf
  ·refine aD.ret Tryz.func232 rfl rfl ⟨_,rfl,?_⟩;refine ⟨?_,kk⟩;unfold bDV;rw [if_pos hc,if_pos (lt_iff.1 h4)];rfl
  have hge:eJ t<=eJ s:=by
   rcases Nat.lt_or_ge (eJ s) (eJ t) with h|h
   ·exact absurd (lt_iff.2 h) h4
   exact h
  obtain ⟨g2,cap2,cur2,rfl,hb2,hat2,hsz2,hm2,hV2,hcc2⟩:=q2;have ho3:v3.ownBlock≠some g2:=by
   obtain ⟨g3,cap3,cur3,rfl,hb3,_⟩:=o3;intro e;have e:g3=g2:=by simpa [Value.ownBlock] using e
   have:=(o2:lB _ _ _ _ _);obtain ⟨g2',_,_,e',_,hat2',_⟩:=this;cases e';have:=hat2'.lt;omega
  refine aD.callV (aBB hat2 hsz2 hm2 hV2 hcc2 o3.wr ho3 hge (by omega)) ?_;rintro _ _ ⟨rfl,cur4,rfl,hsz4,hcc4⟩
  (try refine gO ?_);conv=>whnf
  have hat4:At (setB h3 g2 cur4 173) g2 cur4 173:=fQ hat2.lt _ _;refine aD.callV (wD (Wr.of_at hat4 hm2 (Nat.lt_of_le_of_lt (Nat.sub_le _ _) hV2) hcc4) (by omega)) ?_;rintro _ h5 ⟨rfl,k5⟩
  (try refine gO ?_);conv=>whnf
  refine aD.ret Tryz.func232 rfl rfl ⟨_,rfl,?_⟩;refine ⟨?_,?_⟩
  ·unfold bDV;rw [if_pos hc,if_neg (by omega)];rfl
  exact (kk.setB (by omega) cur4 173).trans (k5.mono (by simp;omega))
 refine aD.ret Tryz.func232 rfl rfl ⟨_,rfl,?_⟩;refine ⟨?_,hk1⟩;unfold bDV;rw [if_neg hc];rfl
theorem aRR {h:Array Obj} (s t:ByteArray):FV 79 #[.string s,.string t] h (.tuple #[.int .i64 (bDA s t).1,.int .i64 (bDA s t).2]):=by
 refine Fn.of (args:=[.string s,.string t]) Tryz.func79 (by kernel_rfl) rfl Tryz.ntmps79 rfl fun w0 cs=>?_;refine gO ?_;conv=>whnf
 refine aD.eff (iN tab [.string s,.string t] (h1:=by simp [Value.cells])) ?_;rintro _ _ ⟨rfl,rfl⟩
 (try refine gO ?_);conv=>whnf
 refine aD.callV (pE (rS h [s,t]) (by simp)) ?_;rintro _ h1 ⟨rfl,e1⟩;have hk1:aH h.size h h1:=by rw [e1];exact (aH.refl _ _).push (Nat.le_refl _) _
 clear e1
 (try refine gO ?_);conv=>whnf
 refine ⟨fun hc=>?_,fun hc=>?_⟩<;>conv=>whnf
 ·have c1:=eV hc (s:=s) (by simp);have c2:=eV hc (s:=t) (by simp);refine aD.callV (iH (s:=s) (by omega)) ?_;rintro v2 h2 ⟨o2,k2⟩
  (try refine gO ?_);conv=>whnf
  refine aD.callV (iH (s:=t) (by omega)) ?_;rintro v3 h3 ⟨o3,k3⟩
  (try refine gO ?_);conv=>whnf
  have l2:=jQ c1.1;have l3:=jQ c2.1;have q2:=o2.keeps k3 (Nat.le_refl _);refine aD.callV (mG (l2▸q2.wr) (l3▸o3.wr) (by omega)) ?_;rintro _ h3 ⟨rfl,rfl⟩
  (try refine gO ?_);conv=>whnf
  have s1:=hk1.size;have s2:=k2.size;have s3:=k3.size;have kk:=(hk1.trans (k2.mono (by omega))).trans (k3.mono (by omega));refine aD.ret Tryz.func79 rfl rfl ⟨_,rfl,?_⟩;refine ⟨?_,kk⟩;rw [bAQ];unfold bDA;rw [if_pos hc];rfl
 refine aD.ret Tryz.func79 rfl rfl ⟨_,rfl,?_⟩;refine ⟨?_,hk1⟩;unfold bDA;rw [if_neg hc];rfl


theorem bCZ {s:ByteArray} (h:s.size≠0) (h2:aY s 0=0):oK s=false:=by
 cases hb:oK s with
 |false=>rfl
 |true=>
  rcases pJ.1 hb with h3|h3
  ·exact absurd h3 h
  exact absurd h2 h3
theorem mt_of {s:ByteArray} (h:s.size=0):s=NatM.mt:=aJH (by rw [h];rfl) fun i hi=>by omega
theorem bDM {h:Array Obj} (s:ByteArray):FnV Tryz.prog 275 #[.string s] h fun r h'=>r=.bool (oK s)/\h'=h:=by
 refine Fn.of (args:=[.string s]) Tryz.func275 (by kernel_rfl) rfl Tryz.ntmps275 rfl fun w0 cs=>?_;refine gO ?_;conv=>whnf
 refine ⟨fun h1=>?_,fun h1=>?_⟩<;>conv=>whnf
 ·refine aD.ret Tryz.func275 rfl rfl ⟨_,rfl,?_⟩;subst h1;exact ⟨rfl,rfl⟩
 have hs0:s.size≠0:=fun e=>h1 (mt_of e);repeat (refine oL ?_;conv=>whnf)
 refine aD.ret Tryz.func275 rfl rfl ⟨_,rfl,?_⟩;refine ⟨?_,rfl⟩;rw [show Int.toNat 0=0 from rfl];show Value.bool _=Value.bool _
 congr 1
 by_cases h0:aY s 0=0
 ·rw [bCZ hs0 h0,h0];rfl
 rw [pJ.2 (.inr h0)]
 simp [h0]
theorem bDR {h:Array Obj} {a b:ByteArray} (ha:vX a) (hb:vX b) (hsa:a.size<=1099511627776) (_hsb:b.size<=1099511627776):
  FnV Tryz.prog 221 #[.string a,.string b] h fun r h'=>r=.bool (decide (eJ a<eJ b))/\h'=h:=by
 refine Fn.of (args:=[.string a,.string b]) Tryz.func221 (by kernel_rfl) rfl Tryz.ntmps221 rfl fun w0 cs=>?_;refine gO ?_;conv=>whnf
 refine ⟨fun h1=>?_,fun h1=>?_⟩<;>conv=>whnf
 ·have hs:a.size=b.size:=by omega
  refine aD.loop (X:=Nat) (fun i=>[(0,.string a),(1,.string b),(5,.int .i64 (i:Nat))]) (fun i h'=>h'=h/\i<=a.size/\eJ a/256^(a.size - i)=eJ b/256^(a.size - i)) (fun i=>a.size - i) 0
   ⟨rfl,Nat.zero_le _,by rw [Nat.sub_zero,Nat.div_eq_of_lt (aTR a),hs,Nat.div_eq_of_lt (aTR b)]⟩ ⟨rfl,rfl,rfl,trivial⟩ ?_
  rintro i h ⟨rfl,hi,he⟩ ih
  (try refine gO ?_);conv=>whnf
  refine ⟨fun h2=>?_,fun h2=>?_⟩<;>conv=>whnf
  ·have ek:a.size - 1 - i+1=a.size - i:=by omega
   have d1:=aIS (eJ a) (a.size - 1 - i);have d2:=aIS (eJ b) (a.size - 1 - i);have b1:=aEO a (i:=a.size - 1 - i) (by omega);have b2:=aEO b (i:=a.size - 1 - i) (by omega);rw [show a.size - 1 - (a.size - 1 - i)=i by omega] at b1;rw [show b.size - 1 - (a.size - 1 - i)=i by omega] at b2;rw [ek] at d1 d2;refine aD.quiet tab (by kernel_rfl) ?_;conv=>whnf
   repeat (refine oL ?_;conv=>whnf)
   refine ⟨fun h3=>?_,fun h3=>?_⟩<;>conv=>whnf
   ·try refine gO ?_
    conv=>whnf
    repeat (refine oL ?_;conv=>whnf)
    refine ih (i+1) _ _ ⟨rfl,by omega,?_⟩ (by omega) ⟨rfl,rfl,rfl,trivial⟩;rw [show a.size - (i+1)=a.size - 1 - i by omega,d1,d2,he,b1,b2]
    congr 1
    have h3:((aY a i:Nat):Int)=aY b i:=h3;omega
   (try refine gO ?_);conv=>whnf
   refine aD.quiet tab (by kernel_rfl) ?_;conv=>whnf
   repeat (refine oL ?_;conv=>whnf)
   (try refine gO ?_);conv=>whnf
   refine aD.ret Tryz.func221 rfl rfl ⟨_,rfl,?_⟩;refine ⟨?_,rfl⟩;have h3:¬((aY a i:Nat):Int)=aY b i:=h3;rw [<-ek] at he;have key:(decide ((aY a i:Int)<aY b i))=decide (eJ a<eJ b):=by
    rw [decide_eq_decide]
    constructor
    ·intro h;exact bDI he (by omega)
    intro h;rcases Nat.lt_or_ge (aY a i) (aY b i) with h5|h5
    ·omega
    have:=bDI he.symm (by omega);omega
   rw [<-key];rfl
  refine aD.ret Tryz.func221 rfl rfl ⟨_,rfl,?_⟩;refine ⟨?_,rfl⟩;have:a.size - i=0:=by omega
  rw [this] at he
  simp at he
  rw [he]
  simp [tup]
 refine aD.ret Tryz.func221 rfl rfl ⟨_,rfl,?_⟩;refine ⟨?_,rfl⟩;have key:(decide ((a.size:Int)<b.size))=decide (eJ a<eJ b):=by
  rw [decide_eq_decide]
  constructor
  ·intro h;exact bDF ha hb (by omega)
  intro h;rcases Nat.lt_or_ge a.size b.size with h5|h5
  ·omega
  have:=bDF hb ha (by omega);omega
 rw [<-key];rfl

theorem rNat {h:Array Obj} (s:ByteArray) {b:Bool} (hb:oK s=b):FnV Tryz.prog 275 #[.string s] h fun r h'=>r=.bool b/\h'=h:=by
 subst hb;exact bDM s
theorem bEU (a b:ByteArray):chk [a,b]=if oK a=true/\oK b=true then (if a.size<=256/\b.size<=256 then 0 else 2) else 60:=by
 unfold chk;have e1:([a,b].all oK=true)↔(oK a=true/\oK b=true):=by simp
 have e2:(([a,b].all fun s=>Nat.ble s.size 256)=true)↔(a.size<=256/\b.size<=256):=by simp
 by_cases h1:oK a=true/\oK b=true
 ·rw [if_pos (e1.2 h1),if_pos h1];by_cases h2:a.size<=256/\b.size<=256
  ·rw [if_pos (e2.2 h2),if_pos h2]
  rw [if_neg (fun h=>h2 (e2.1 h)),if_neg h2]
 rw [if_neg (fun h=>h1 (e1.1 h)),if_neg h1]
theorem chk_one (a:ByteArray):chk [a]=if oK a=true then (if a.size<=256 then 0 else 2) else 60:=by
 unfold chk;have e1:([a].all oK=true)↔(oK a=true):=by simp
 have e2:(([a].all fun s=>Nat.ble s.size 256)=true)↔(a.size<=256):=by simp
 by_cases h1:oK a=true
 ·rw [if_pos (e1.2 h1),if_pos h1];by_cases h2:a.size<=256
  ·rw [if_pos (e2.2 h2),if_pos h2]
  rw [if_neg (fun h=>h2 (e2.1 h)),if_neg h2]
 rw [if_neg (fun h=>h1 (e1.1 h)),if_neg h1]
theorem aJQ {h:Array Obj} (a b:ByteArray):FnV Tryz.prog 216 #[.string a,.string b] h fun r h'=>r=.int .i64 (chk [a,b])/\h'=h:=by
 rw [bEU];cases ha:oK a
 ·refine Fn.of (args:=[.string a,.string b]) Tryz.func216 (by kernel_rfl) rfl Tryz.ntmps216 rfl fun w0 cs=>?_;refine gO ?_;conv=>whnf
  refine aD.callV (rNat a ha) ?_;rintro _ h ⟨rfl,rfl⟩
  (try refine gO ?_);conv=>whnf
  refine aD.ret Tryz.func216 rfl rfl ⟨_,rfl,?_⟩;exact ⟨rfl,rfl⟩
 cases hb:oK b
 ·refine Fn.of (args:=[.string a,.string b]) Tryz.func216 (by kernel_rfl) rfl Tryz.ntmps216 rfl fun w0 cs=>?_;refine gO ?_;conv=>whnf
  refine aD.callV (rNat a ha) ?_;rintro _ h ⟨rfl,rfl⟩
  (try refine gO ?_);conv=>whnf
  refine aD.callV (rNat b hb) ?_;rintro _ h ⟨rfl,rfl⟩
  (try refine gO ?_);conv=>whnf
  refine aD.ret Tryz.func216 rfl rfl ⟨_,rfl,?_⟩;exact ⟨rfl,rfl⟩
 rw [if_pos ⟨rfl,rfl⟩];refine Fn.of (args:=[.string a,.string b]) Tryz.func216 (by kernel_rfl) rfl Tryz.ntmps216 rfl fun w0 cs=>?_;refine gO ?_;conv=>whnf
 refine aD.callV (rNat a ha) ?_;rintro _ h ⟨rfl,rfl⟩
 (try refine gO ?_);conv=>whnf
 refine aD.callV (rNat b hb) ?_;rintro _ h ⟨rfl,rfl⟩
 (try refine gO ?_);conv=>whnf
 refine ⟨fun h1=>?_,fun h1=>?_⟩<;>conv=>whnf
 ·refine aD.ret Tryz.func216 rfl rfl ⟨_,rfl,?_⟩;rw [if_neg (by omega)];exact ⟨rfl,rfl⟩
 refine ⟨fun h2=>?_,fun h2=>?_⟩<;>conv=>whnf
 ·refine aD.ret Tryz.func216 rfl rfl ⟨_,rfl,?_⟩;rw [if_neg (by omega)];exact ⟨rfl,rfl⟩
 refine aD.ret Tryz.func216 rfl rfl ⟨_,rfl,?_⟩;rw [if_pos (by omega)];exact ⟨rfl,rfl⟩
theorem aXK {h:Array Obj} (a:ByteArray):FnV Tryz.prog 212 #[.string a] h fun r h'=>r=.int .i64 (chk [a])/\h'=h:=by
 rw [chk_one];cases ha:oK a
 ·refine Fn.of (args:=[.string a]) Tryz.func212 (by kernel_rfl) rfl Tryz.ntmps212 rfl fun w0 cs=>?_;refine gO ?_;conv=>whnf
  refine aD.callV (rNat a ha) ?_;rintro _ h ⟨rfl,rfl⟩
  (try refine gO ?_);conv=>whnf
  refine aD.ret Tryz.func212 rfl rfl ⟨_,rfl,?_⟩;exact ⟨rfl,rfl⟩
 rw [if_pos rfl];refine Fn.of (args:=[.string a]) Tryz.func212 (by kernel_rfl) rfl Tryz.ntmps212 rfl fun w0 cs=>?_;refine gO ?_;conv=>whnf
 refine aD.callV (rNat a ha) ?_;rintro _ h ⟨rfl,rfl⟩
 (try refine gO ?_);conv=>whnf
 refine ⟨fun h1=>?_,fun h1=>?_⟩<;>conv=>whnf
 ·refine aD.ret Tryz.func212 rfl rfl ⟨_,rfl,?_⟩;rw [if_neg (by omega)];exact ⟨rfl,rfl⟩
 refine aD.ret Tryz.func212 rfl rfl ⟨_,rfl,?_⟩;rw [if_pos (by omega)];exact ⟨rfl,rfl⟩
theorem aZI {h:Array Obj} (V:Nat):FnV Tryz.prog 218 #[.string (enc V)] h fun r h'=>r=sev (oW V)/\h'=h:=by
 have hs:=iU V;unfold oW;refine Fn.of (args:=[.string (enc V)]) Tryz.func218 (by kernel_rfl) rfl Tryz.ntmps218 rfl fun w0 cs=>?_;refine gO ?_;conv=>whnf
 refine ⟨fun h1=>?_,fun h1=>?_⟩<;>conv=>whnf
 ·refine aD.ret Tryz.func218 rfl rfl ⟨_,rfl,?_⟩;rw [if_neg (by omega)];exact ⟨rfl,rfl⟩
 refine aD.ret Tryz.func218 rfl rfl ⟨_,rfl,?_⟩;rw [if_pos (by omega)];exact ⟨rfl,rfl⟩
theorem aZB {h:Array Obj} {a b:ByteArray} (ha:vX a) (hb:vX b) (hsa:a.size<=1099511627776) (hsb:b.size<=1099511627776) {q:Bool} (hq:decide (eJ a<eJ b)=q):
  FnV Tryz.prog 221 #[.string a,.string b] h fun r h'=>r=.bool q/\h'=h:=by
 subst hq;exact bDR ha hb hsa hsb
theorem aIA {h:Array Obj} (a b:ByteArray):FnV Tryz.prog 111 #[.string a,.string b] h fun r h'=>r=.tuple #[.int .i64 (bDA a b).1,.int .i64 (bDA a b).2]/\h'=h:=by
 unfold bDA;refine Fn.of (args:=[.string a,.string b]) Tryz.func111 (by kernel_rfl) rfl Tryz.ntmps111 rfl fun w0 cs=>?_;refine gO ?_;conv=>whnf
 refine aD.callV (aJQ a b) ?_;rintro _ h ⟨rfl,rfl⟩
 (try refine gO ?_);conv=>whnf
 refine ⟨fun hc=>?_,fun hc=>?_⟩<;>conv=>whnf
 ·have c1:=eV hc (s:=a) (by simp);have c2:=eV hc (s:=b) (by simp);rw [if_pos hc];by_cases h1:eJ a<eJ b
  ·refine aD.callV (aZB c1.1 c2.1 (by omega) (by omega) (q:=true) (by simp [h1])) ?_;rintro _ h ⟨rfl,rfl⟩
   (try refine gO ?_);conv=>whnf
   refine aD.ret Tryz.func111 rfl rfl ⟨_,rfl,?_⟩;unfold aHG;rw [if_pos h1];exact ⟨rfl,rfl⟩
  refine aD.callV (aZB c1.1 c2.1 (by omega) (by omega) (q:=false) (by simp [h1])) ?_;rintro _ h ⟨rfl,rfl⟩
  (try refine gO ?_);conv=>whnf
  by_cases h2:eJ b<eJ a
  ·refine aD.callV (aZB c2.1 c1.1 (by omega) (by omega) (q:=true) (by simp [h2])) ?_;rintro _ h ⟨rfl,rfl⟩
   (try refine gO ?_);conv=>whnf
   refine aD.ret Tryz.func111 rfl rfl ⟨_,rfl,?_⟩;unfold aHG;rw [if_neg h1,if_pos h2];exact ⟨rfl,rfl⟩
  refine aD.callV (aZB c2.1 c1.1 (by omega) (by omega) (q:=false) (by simp [h2])) ?_;rintro _ h ⟨rfl,rfl⟩
  (try refine gO ?_);conv=>whnf
  refine aD.ret Tryz.func111 rfl rfl ⟨_,rfl,?_⟩;unfold aHG;rw [if_neg h1,if_neg h2];exact ⟨rfl,rfl⟩
 refine aD.ret Tryz.func111 rfl rfl ⟨_,rfl,?_⟩;rw [if_neg hc];exact ⟨rfl,rfl⟩

theorem bDG (l1 l2:List Nat):xI l1++xI l2=xI (l1++l2):=by
 apply ByteArray.ext
 simp [xI,ByteArray.data_append]
def upL (V:Nat):Nat->List Nat
 |0=>[]
 |k+1=>byc V k::upL V k
theorem aUX (V k:Nat):(upL V k).length=k:=by
 induction k with
 |zero=>rfl
 |succ k ih=>simp [upL,ih]
theorem upL_get (V:Nat) {i k:Nat} (h:i<k):(upL V k)[i]? = some (byc V (k - 1 - i)):=by
 induction k generalizing i with
 |zero=>omega
 |succ k ih=>
  cases i with
  |zero=>simp [upL]
  |succ i=>
   simp only [upL,List.getElem?_cons_succ];rw [ih (by omega)]
   congr 2
   omega
theorem upL_enc (V:Nat):xI (upL V (nb V))=enc V:=by
 unfold enc
 congr 1
 apply List.ext_getElem?;intro i;rcases Nat.lt_or_ge i (nb V) with h|h
 ·rw [upL_get V h,bEX V _ h]
 rw [List.getElem?_eq_none (by rw [aUX];exact h),List.getElem?_eq_none (by rw [kT];exact h)]
theorem bET (V k:Nat):(((V/256^k:Nat):Int)%256%256)=((byc V k:Nat):Int):=by
 unfold byc;omega
theorem lt_nb {V k:Nat}:k<nb V↔0<V/256^k:=by
 constructor
 ·intro h;have h0:V≠0:=fun e=>by subst e;rw [aTV] at h;omega
  have h1:=bFC h0;have h2:=Nat.pow_le_pow_right (show 0<256 by decide) (show k<=nb V - 1 by omega);exact Nat.div_pos (by omega) (bFR k)
 intro h;rcases Nat.lt_or_ge k (nb V) with h1|h1
 ·exact h1
 have h2:=Nat.pow_le_pow_right (show 0<256 by decide) h1;rw [Nat.div_eq_of_lt (Nat.lt_of_lt_of_le (aGH V) h2)] at h;omega
theorem bFF {h:Array Obj} (n:Int) (hn:n<=9223372036854775807):FV 274 #[.int .i64 n] h (sev (ofS n)):=by
 by_cases hneg:n<0
 ·refine Fn.of (args:=[.int .i64 n]) Tryz.func274 (by kernel_rfl) rfl Tryz.ntmps274 rfl fun w0 cs=>?_;refine gO ?_;conv=>whnf
  refine ⟨fun h1=>?_,fun h1=>?_⟩<;>conv=>whnf
  ·refine aD.ret Tryz.func274 rfl rfl ⟨_,rfl,?_⟩;unfold ofS;rw [if_pos hneg];exact ⟨rfl,aH.refl _ _⟩
  omega
 obtain ⟨V,rfl⟩:∃V:Nat,n=V:=⟨n.toNat,by omega⟩;have hnb:nb V<=8:=aFJ (by have:256^8=18446744073709551616:=(by decide);omega);refine Fn.of (args:=[.int .i64 (V:Int)]) Tryz.func274 (by kernel_rfl) rfl Tryz.ntmps274 rfl fun w0 cs=>?_;refine gO ?_;conv=>whnf
 refine ⟨fun h1=>?_,fun h1=>?_⟩<;>conv=>whnf
 ·omega
 refine aD.loop (X:=Nat) (fun k=>[(0,.int .i64 (V/256^k:Nat)),(4,.string (xI (upL V k)))]) (fun k h'=>k<=nb V/\aH h.size h h') (fun k=>nb V - k) 0
  ⟨Nat.zero_le _,aH.refl _ _⟩ ⟨by rw [Nat.pow_zero,Nat.div_one];rfl,rfl,trivial⟩ ?_
 rintro k h' ⟨hk,hkp⟩ ih;have hle:V/256^k<=V:=Nat.div_le_self _ _
 (try refine gO ?_);conv=>whnf
 refine ⟨fun h2=>?_,fun h2=>?_⟩<;>conv=>whnf
 ·have hlt:=lt_nb.2 (show 0<V/256^k by omega);repeat (refine oL ?_;conv=>whnf)
  rw [bET];refine aD.eff (iN tab [.int .u8 (byc V k:Nat)] (h1:=by simp [Value.cells])) ?_;rintro _ _ ⟨rfl,rfl⟩
  (try refine gO ?_);conv=>whnf
  have hcells:∀(j u:Nat),[byc V k][j]? = some u->bL (h'.push (.cells #[Value.int .u8 (byc V k:Nat)] 5 (0,0))) h'.size (0+j)=some (.int .u8 (u:Nat)):=fun j u hu=>by
   rw [(gH _ _ _).cell,Nat.zero_add]
   cases j with
   |zero=>simp at hu;subst hu;rfl
   |succ j=>simp at hu
  refine aD.eff (tP tab (ns:=[byc V k]) rfl hcells) ?_;rintro _ _ ⟨rfl,rfl⟩
  (try refine gO ?_);conv=>whnf
  have z1:=aQO [byc V k];have z2:=aQO (upL V k);rw [aUX] at z2;rw [List.length_singleton] at z1;repeat (refine oL ?_;conv=>whnf)
  rw [bDG];refine ih (k+1) _ _ ⟨by omega,hkp.push hkp.size _⟩ (by omega) ⟨?_,rfl,trivial⟩;show some (Value.int .i64 _)=some (Value.int .i64 _);rw [Nat.pow_succ,<-Nat.div_div_eq_div_mul];rfl
 have hge:¬k<nb V:=fun h=>h2 (by have:=lt_nb.1 h;omega);have:k=nb V:=by omega
 subst this;rw [upL_enc]
 (try refine gO ?_);conv=>whnf
 refine aD.ret Tryz.func274 rfl rfl ⟨_,rfl,?_⟩;unfold ofS;rw [if_neg hneg];exact ⟨rfl,hkp⟩
end Go.Proofs.YthjedpdedjhndaaGreatDoor

namespace Go.NatM
open Go Go.Fw
def lv:List Int->Int
 | []=>0
 |x::xs=>x+256*lv xs
theorem aJN (xs ys:List Int):lv (xs++ys)=lv xs+(256^xs.length:Nat)*lv ys:=by
 induction xs with
 |nil=>simp [lv]
 |cons x xs ih=>
  simp only [List.cons_append,lv,ih,List.length_cons,Nat.pow_succ]
  grind
def Dig (ys:List Int):Prop:=∀y∈ys,0<=y/\y<256
theorem aTT {ys:List Int} (h:Dig ys):0<=lv ys/\lv ys<(256^ys.length:Nat):=by
 induction ys with
 |nil=>simp [lv]
 |cons y ys ih=>
  have h1:=h y (by simp);have h2:=ih (fun z hz=>h z (by simp [hz]));simp only [lv,List.length_cons,Nat.pow_succ];omega
theorem bDZ {ys:List Int} (h:Dig ys) {i:Nat} {y:Int} (hy:ys[i]? = some y):byc (lv ys).toNat i=y.toNat:=by
 induction ys generalizing i with
 |nil=>simp at hy
 |cons x ys ih=>
  have h1:=h x (by simp);have h2:=aTT (ys:=ys) (fun z hz=>h z (by simp [hz]));simp only [lv]
  cases i with
  |zero=>
   simp at hy
   subst hy;unfold byc;rw [Nat.pow_zero,Nat.div_one];omega
  |succ i=>
   simp at hy
   have:=ih (fun z hz=>h z (by simp [hz])) hy;rw [<-this];unfold byc;rw [Nat.pow_succ',<-Nat.div_div_eq_div_mul]
   congr 2
   omega
def dgs (s:ByteArray):Nat->List Int
 |0=>[]
 |i+1=>dgs s i++[(aY s (s.size - 1 - i):Int)]
theorem nU (s:ByteArray) (i:Nat):(dgs s i).length=i:=by
 induction i with
 |zero=>rfl
 |succ i ih=>simp [dgs,ih]
theorem aQS (s:ByteArray) (i:Nat):lv (dgs s i)=(nv s i:Nat):=by
 induction i with
 |zero=>rfl
 |succ i ih=>
  show lv (dgs s i++[(aY s (s.size - 1 - i):Int)])=((nv s i+aY s (s.size - 1 - i)*256^i:Nat):Int);rw [aJN,ih,nU,Int.natCast_add,Int.natCast_mul];show _+_*(_+256*(0:Int))=_;rw [Int.mul_zero,Int.add_zero,Int.mul_comm]
theorem aLO (s:ByteArray) (i:Nat):Dig (dgs s i):=by
 induction i with
 |zero=>intro y hy;simp [dgs] at hy
 |succ i ih=>
  intro y hy;simp only [dgs,List.mem_append,List.mem_singleton] at hy;rcases hy with hy|rfl
  ·exact ih y hy
  have:=oE s (s.size - 1 - i);omega
def dAt (xs:List Int) (i:Nat):Int:=xs.getD i 0
theorem aPF (xs:List Int) (i:Nat):lv (xs.take (i+1))=lv (xs.take i)+(256^i:Nat)*dAt xs i:=by
 unfold dAt;rw [List.take_add_one,List.getD_eq_getElem?_getD]
 cases h:xs[i]? with
 |none=>
  simp
 |some x=>
  have hi:i<xs.length:=(List.getElem?_eq_some_iff.1 h).1;simp only [Option.toList,Option.getD_some];rw [aJN,List.length_take,Nat.min_eq_left (by omega)]
  simp [lv]
theorem aED {xs:List Int} {i:Nat} (h:xs.length<=i):lv (xs.take i)=lv xs:=by
 rw [List.take_of_length_le h]
theorem bEY {ys:List Int} (h:Dig ys) {n:Nat} (hn:n<=ys.length) (hv:lv (ys.take n)=lv ys) (ht:n≠0 -> ∀y,ys[n - 1]? = some y->y≠0):n=nb (lv ys).toNat:=by
 have hd:Dig (ys.take n):=fun y hy=>h y (List.mem_of_mem_take hy);have hb:=aTT hd;rw [hv,List.length_take,Nat.min_eq_left hn] at hb;refine bEH (by omega) fun h0=>?_;have hl:=bDZ h (List.getElem?_eq_getElem (show n - 1<ys.length by omega));have h2:=h ys[n - 1] (List.getElem_mem (by omega));have h3:=ht h0 _ (List.getElem?_eq_getElem (show n - 1<ys.length by omega));omega
def mkL (f:Nat->Int):Nat->List Int
 |0=>[]
 |n+1=>mkL f n++[f n]
theorem aDR (f:Nat->Int) (n:Nat):(mkL f n).length=n:=by
 induction n with
 |zero=>rfl
 |succ n ih=>simp [mkL,ih]
theorem bEG {f:Nat->Int} {n:Nat} {x:Int} (h:x∈mkL f n):∃i,i<n/\x=f i:=by
 induction n with
 |zero=>simp [mkL] at h
 |succ n ih=>
  simp only [mkL,List.mem_append,List.mem_singleton] at h;rcases h with h|h
  ·obtain ⟨i,hi,e⟩:=ih h;exact ⟨i,by omega,e⟩
  exact ⟨n,by omega,h⟩
theorem bEZ (xs ys:List Int) (c:Int) (n:Nat):lv (mkL (fun i=>dAt xs i+c*dAt ys i) n)=lv (xs.take n)+c*lv (ys.take n):=by
 induction n with
 |zero=>simp [mkL,lv]
 |succ n ih=>
  simp only [mkL];rw [aJN,ih,aDR,aPF,aPF];show _+_*(_+256*(0:Int))=_
  grind
theorem aLN {ys:List Int} (h:Dig ys) (i:Nat):0<=dAt ys i/\dAt ys i<256:=by
 unfold dAt;rw [List.getD_eq_getElem?_getD]
 cases e:ys[i]? with
 |none=>simp
 |some y=>exact h y (List.mem_of_getElem? e)
theorem lv_set {xs:List Int} {j:Nat} (hj:j<xs.length) (z:Int):lv (xs.set j z)=lv xs+(256^j:Nat)*(z - dAt xs j):=by
 induction xs generalizing j with
 |nil=>simp at hj
 |cons x xs ih=>
  cases j with
  |zero=>simp [lv,dAt];omega
  |succ j=>
   have:=ih (j:=j) (by simpa using hj);simp only [List.set_cons_succ,lv,this];have e:dAt (x::xs) (j+1)=dAt xs j:=by simp [dAt]
   rw [e,Nat.pow_succ,Int.natCast_mul]
   grind
theorem bFA (n:Nat):lv (List.replicate n 0)=0:=by
 induction n with
 |zero=>rfl
 |succ n ih=>simp [List.replicate_succ,lv,ih]
theorem dAt_set {xs:List Int} {j:Nat} (hj:j<xs.length) (z:Int) (m:Nat):dAt (xs.set j z) m=if m=j then z else dAt xs m:=by
 unfold dAt;rw [List.getD_eq_getElem?_getD,List.getD_eq_getElem?_getD,List.getElem?_set];by_cases e:j=m
 ·rw [if_pos e,if_pos e.symm,if_pos hj];rfl
 rw [if_neg e,if_neg (fun h=>e h.symm)]
end Go.NatM

namespace Go.Proofs.YthjedpdedjhndaaGreatDoor
open Go Go.Fw Go.NatM
def Ir (h:Array Obj) (v:Value) (n:Nat) (xs:List Int):Prop:=
 xs.length=n /\ ∃a cap,v=.slice a n cap/\(0<n -> ∃b off,a=some ⟨b,off,none⟩ /\ ∀(j:Nat) (x:Int),xs[j]? = some x->bL h b (off+j)=some (.int .i64 x))
theorem Ir.of_same {h h':Array Obj} {v:Value} {n:Nat} {xs:List Int} (hw:Ir h v n xs) (hs:∀b,v.ownBlock=some b->b<h.size->h'[b]? = h[b]?):Ir h' v n xs:=by
 obtain ⟨hl,a,cap,rfl,hr⟩:=hw;refine ⟨hl,a,cap,rfl,fun hm=>?_⟩;obtain ⟨b,off,rfl,hrd⟩:=hr hm;refine ⟨b,off,rfl,fun j x hx=>?_⟩;rw [aQK (hs b rfl (tY (hrd j x hx)))];exact hrd j x hx
theorem Ir.keeps {h h':Array Obj} {v:Value} {n:Nat} {xs:List Int} (hw:Ir h v n xs) (hk:aH h.size h h'):Ir h' v n xs:=
 hw.of_same fun b _ hb=>hk.same b hb
def aEK (base:Nat) (h:Array Obj) (v:Value) (xs:List Int):Prop:=Own base h 3 1 v xs.length (xs.map fun (x:Int)=>Value.int .i64 x)
theorem aEK.ir {base:Nat} {h:Array Obj} {v:Value} {xs:List Int} (H:aEK base h v xs):Ir h v xs.length xs:=by
 unfold aEK at H;obtain ⟨a,cap,hv⟩:=H.shape;refine ⟨rfl,a,cap,hv,fun hm=>?_⟩;obtain ⟨g,hg,hc⟩:=H.cells hv hm;exact ⟨g,0,hg,fun j x hx=>hc j _ (by rw [List.getElem?_map,hx];rfl)⟩
theorem aEK.at_keeps {base B':Nat} {h h':Array Obj} {v:Value} {xs:List Int} (H:aEK base h v xs) (hk:aH B' h h') (hB:h.size<=B'):aEK base h' v xs:=by
 obtain ⟨hl,H⟩:=H;refine ⟨hl,?_⟩;rcases H with H|⟨g,cap,cur,h1,h2,h3,h4⟩
 ·exact .inl H
 exact .inr ⟨g,cap,cur,h1,h2,hk.at h3 (Nat.lt_of_lt_of_le h3.lt hB),h4⟩
theorem aES {h:Array Obj} (s:ByteArray) (hs:s.size<=1048576):
  FnV Tryz.prog 217 #[.string s] h fun r h'=>aEK h.size h' r (dgs s s.size)/\aH h.size h h':=by
 refine Fn.of (args:=[.string s]) Tryz.func217 (by kernel_rfl) rfl Tryz.ntmps217 rfl fun w0 cs=>?_;refine gO ?_;conv=>whnf
 refine aD.eff (iN tab [] (h1:=by simp)) ?_;rintro _ _ ⟨rfl,rfl⟩
 (try refine gO ?_);conv=>whnf
 repeat (refine oL ?_;conv=>whnf)
 refine aD.loop (X:=Nat×Value) (fun q=>[(0,.string s),(3,q.2),(4,.int .i64 ((q.1:Int) - 1))])
  (fun q h'=>q.1<=s.size/\aEK h.size h' q.2 (dgs s (s.size - q.1))/\aH h.size h h') (fun q=>q.1) (s.size,.slice (some ⟨h.size,0,none⟩) 0 0)
  ⟨Nat.le_refl _,?_,(aH.refl _ _).push (Nat.le_refl _) _⟩ ⟨rfl,rfl,rfl,trivial⟩ ?_
 ·show aEK _ _ _ (dgs s (s.size - s.size));rw [Nat.sub_self];exact ⟨rfl,.inr ⟨h.size,0,_,rfl,Nat.le_refl _,gH _ _ _,Nat.zero_le _,by unfold maxLen;omega,by simp,by simp [dgs]⟩⟩
 rintro ⟨k,buf⟩ h' ⟨hk,hbuf,hkp⟩ ih;dsimp only at hk hbuf ⊢;by_cases hk0:k=0
 ·subst hk0
  (try refine gO ?_);conv=>whnf
  refine ⟨fun h1=>?_,fun h1=>?_⟩<;>conv=>whnf
  ·omega
  refine aD.ret Tryz.func217 rfl rfl ⟨_,rfl,?_⟩;exact ⟨hbuf,hkp⟩
 obtain ⟨i,rfl⟩:∃i,k=i+1:=⟨k - 1,by omega⟩;rw [show (((i+1:Nat):Int) - 1)=(i:Int) by omega]
 (try refine gO ?_);conv=>whnf
 refine ⟨fun h1=>?_,fun h1=>?_⟩<;>conv=>whnf
 ·repeat (refine oL ?_;conv=>whnf)
  have hb:=oE s i;rw [show ((i:Int).toNat)=i by omega];repeat (refine oL ?_;conv=>whnf)
  unfold aEK at hbuf;rw [nU] at hbuf;have hsz':=hkp.size;refine aD.eff (iN tab [.int .i64 (aY s i:Nat)] (h1:=by simp [Value.cells])) ?_;rintro _ _ ⟨rfl,rfl⟩
  (try refine gO ?_);conv=>whnf
  have hnews:∀j u,[Value.int .i64 (aY s i:Nat)][j]? = some u->bL (h'.push (.cells #[Value.int .i64 (aY s i:Nat)] 3 (0,0))) h'.size (0+j)=some u:=fun j u hu=>by
   rw [(gH _ _ _).cell,Nat.zero_add]
   cases j with
   |zero=>simpa using hu
   |succ j=>simp at hu
  refine aD.eff (xT tab (base:=h.size) (m:=s.size - (i+1)) (m2:=1) (news:=[Value.int .i64 (aY s i:Nat)]) (Own.push hbuf _) rfl hnews (by simp [Value.oneCell']) (h63:=by unfold maxLen;omega) (hbytes:=by dsimp only;omega) (hbase:=by simp;omega)) ?_;rintro v' h2 ⟨H1,H2,H3,_⟩
  (try refine gO ?_);conv=>whnf
  repeat (refine oL ?_;conv=>whnf)
  refine ih (i,v') _ _ ⟨by dsimp only;omega,?_,(hkp.push hkp.size _).trans ((Own.push hbuf _).keeps (by simp;omega) H2 H3)⟩ (by dsimp only;omega) ⟨rfl,rfl,rfl,trivial⟩;show aEK _ _ _ (dgs s (s.size - i));unfold aEK;rw [nU,show s.size - i=s.size - (i+1)+1 by omega,dgs,List.map_append,show s.size - 1 - (s.size - (i+1))=i by omega];exact H1
 omega
theorem bDC {h:Array Obj} {v:Value} {n:Nat} {xs:List Int} (hw:Ir h v n xs) (i:Nat):
  FnV Tryz.prog 277 #[v,.int .i64 i] h fun r h'=>r=.int .i64 (dAt xs i)/\h'=h:=by
 obtain ⟨hl,a,cap,rfl,hr⟩:=hw;by_cases hi:i<n
 ·obtain ⟨b,off,rfl,hrd⟩:=hr (by omega);have hx:xs[i]? = some (dAt xs i):=by
   unfold dAt;rw [List.getD_eq_getElem?_getD,List.getElem?_eq_getElem (by omega)];rfl
  refine Fn.of (args:=[.slice (some ⟨b,off,none⟩) n cap,.int .i64 i]) Tryz.func277 (by kernel_rfl) rfl Tryz.ntmps277 rfl fun w0 cs=>?_;refine gO ?_;conv=>whnf
  refine ⟨fun h1=>?_,fun h1=>?_⟩<;>conv=>whnf
  ·repeat (refine oL ?_;conv=>whnf)
   refine ⟨_,hrd i _ hx,?_⟩;conv=>whnf
   refine aD.ret Tryz.func277 rfl rfl ⟨_,rfl,?_⟩;exact ⟨rfl,rfl⟩
  omega
 refine Fn.of (args:=[.slice a n cap,.int .i64 i]) Tryz.func277 (by kernel_rfl) rfl Tryz.ntmps277 rfl fun w0 cs=>?_;refine gO ?_;conv=>whnf
 refine ⟨fun h1=>?_,fun h1=>?_⟩<;>conv=>whnf
 ·omega
 refine aD.ret Tryz.func277 rfl rfl ⟨_,rfl,?_⟩;refine ⟨?_,rfl⟩;unfold dAt;rw [List.getD_eq_getElem?_getD,List.getElem?_eq_none (by omega)];rfl

theorem aSE {h:Array Obj} {v:Value} {n:Nat} {xs:List Int} (hw:Ir h v n xs) (hn:n<=1048576) (hx:∀x∈xs,-1099511627776<=x/\x<=1099511627776) (h0:0<=lv xs):
  FnV Tryz.prog 220 #[v] h fun r h'=>∃ys,aEK h.size h' r ys/\Dig ys/\lv ys=lv xs/\ys.length<=2199024304128/\aH h.size h h':=by
 have hW:=hw;obtain ⟨hl,a,cap,hv,hr⟩:=hw;obtain ⟨v0,hv0⟩:∃v0,v0=v:=⟨v,rfl⟩;subst hv0;rw [hv];refine Fn.of (args:=[.slice a n cap]) Tryz.func220 (by kernel_rfl) rfl Tryz.ntmps220 rfl fun w0 cs=>?_;refine gO ?_;conv=>whnf
 refine aD.eff (iN tab [] (h1:=by simp)) ?_;rintro _ _ ⟨rfl,rfl⟩
 (try refine gO ?_);conv=>whnf
 rw [<-hv]
 refine aD.loop (X:=Nat×Int×Value) (fun q=>[(0,v0),(3,q.2.2),(4,.int .i64 q.2.1),(5,.int .i64 (q.1:Nat))])
  (fun q h'=>∃ys,aEK h.size h' q.2.2 ys/\Dig ys/\ys.length=q.1/\lv ys+(256^q.1:Nat)*(q.2.1+lv (xs.drop q.1))=lv xs/\(-2199023255552<=q.2.1/\q.2.1<=2199023255552)/\(q.1<=n\/(q.1:Int)+q.2.1<=n+2199023255552)/\aH h.size h h')
  (fun q=>(n - q.1)*8796093022208+q.2.1.toNat) (0,0,.slice (some ⟨h.size,0,none⟩) 0 0)
  ⟨[],?_,(fun _ hz=>by simp at hz),rfl,by simp [lv],⟨by dsimp only;omega,by dsimp only;omega⟩,.inl (Nat.zero_le _),(aH.refl _ _).push (Nat.le_refl _) _⟩ ⟨rfl,rfl,rfl,rfl,trivial⟩ ?_
 ·exact ⟨rfl,.inr ⟨h.size,0,_,rfl,Nat.le_refl _,gH _ _ _,Nat.zero_le _,by unfold maxLen;omega,by simp,by simp⟩⟩
 rintro ⟨i,over,buf⟩ h' ⟨ys,hbuf,hdig,hlen,hval,hov1,hov2,hkp⟩ ih;dsimp only at hbuf hlen hval hov1 hov2 ⊢;have hX:=hW.keeps hkp;obtain ⟨ab,capb,hbv⟩:=Own.shape hbuf;rw [hlen] at hbv;subst hbv;have hbuf':Own h.size h' 3 1 (.slice ab i capb) i (ys.map fun (x:Int)=>Value.int .i64 x):=by
  unfold aEK at hbuf;rw [hlen] at hbuf;exact hbuf
 rw [hv] at hX ⊢
 (try refine gO ?_);conv=>whnf
 refine ⟨fun h1=>?_,fun h1=>?_⟩<;>conv=>whnf
 ·obtain ⟨x,hxi⟩:∃x,xs[i]? = some x:=⟨xs[i]'(by omega),List.getElem?_eq_getElem _⟩;have hxb:=hx x (List.mem_of_getElem? hxi);have hdrop:lv (xs.drop i)=x+256*lv (xs.drop (i+1)):=by
   rw [List.drop_eq_getElem_cons (by omega)];have:xs[i]=x:=by rw [List.getElem?_eq_getElem (by omega)] at hxi;simpa using hxi
   rw [this];rfl
  obtain ⟨_,a',cap',e',hr'⟩:=hX;cases e';obtain ⟨b,off,rfl,hrd⟩:=hr' (by omega);refine ⟨fun h4=>?_,fun h4=>?_⟩<;>conv=>whnf
  ·repeat (refine oL ?_;conv=>whnf)
   refine ⟨_,hrd i x hxi,?_⟩;conv=>whnf
   repeat (refine oL ?_;conv=>whnf)
   conv=>whnf
   (try refine gO ?_);conv=>whnf
   rw [<-hv]
   refine aD.loop (X:=Nat) (fun k=>[(0,v0),(3,.slice ab i capb),(5,.int .i64 (i:Nat)),(6,.int .i64 ((over+x)+256*(k:Int))),(4,.int .i64 (0 - (k:Int)))])
    (fun k h2=>h2=h'/\(k=0\/(over+x)+256*(k:Int)<256)) (fun k=>(-((over+x)+256*(k:Int))).toNat) 0 ⟨rfl,.inl rfl⟩ ⟨rfl,rfl,rfl,by rw [show (over+x)+256*((0:Nat):Int)=(over+x) by omega];rfl,rfl,trivial⟩ ?_
   rintro k h' ⟨rfl,hkd⟩ ih2
   (try refine gO ?_);conv=>whnf
   refine ⟨fun h3=>?_,fun h3=>?_⟩<;>conv=>whnf
   ·repeat (refine oL ?_;conv=>whnf)
    refine ih2 (k+1) _ _ ⟨rfl,.inr (by omega)⟩ (by omega) ⟨rfl,rfl,rfl,?_,?_,trivial⟩
    ·show some (Value.int .i64 _)=some (Value.int .i64 _)
     congr 2
     omega
    show some (Value.int .i64 _)=some (Value.int .i64 _)
    congr 2
    omega
   (try refine gO ?_);conv=>whnf
   repeat (refine oL ?_;conv=>whnf)
   obtain ⟨d,hd⟩:∃d,d=(over+x)+256*(k:Int):=⟨_,rfl⟩;rw [<-hd] at hkd h3 ⊢;obtain ⟨y,hy⟩:∃y,y=d%256:=⟨_,rfl⟩;obtain ⟨ov,hov⟩:∃ov,ov=0 - (k:Int)+d/256:=⟨_,rfl⟩;rw [<-hy,<-hov];have hy2:0<=y/\y<256:=by omega
   have hsz':=hkp.size;refine aD.eff (iN tab [.int .i64 y] (h1:=by simp [Value.cells])) ?_;rintro _ _ ⟨rfl,rfl⟩
   (try refine gO ?_);conv=>whnf
   have hnews:∀j u,[Value.int .i64 y][j]? = some u->bL (h'.push (.cells #[Value.int .i64 y] 3 (0,0))) h'.size (0+j)=some u:=fun j u hu=>by
    rw [(gH _ _ _).cell,Nat.zero_add]
    cases j with
    |zero=>simpa using hu
    |succ j=>simp at hu
   refine aD.eff (xT tab (base:=h.size) (m:=i) (m2:=1) (news:=[Value.int .i64 y]) (Own.push hbuf' _) rfl hnews (by simp [Value.oneCell']) (h63:=by unfold maxLen;omega) (hbytes:=by dsimp only;omega) (hbase:=by simp;omega)) ?_;rintro v' h2 ⟨H1,H2,H3,_⟩
   (try refine gO ?_);conv=>whnf
   repeat (refine oL ?_;conv=>whnf)
   refine ih (i+1,ov,v') _ _ ⟨ys++[y],?_,?_,by simp [hlen],?_,by dsimp only;omega,by dsimp only;omega,(hkp.push hkp.size _).trans ((Own.push hbuf' _).keeps (by simp;omega) H2 H3)⟩ (by dsimp only;omega) ⟨rfl,rfl,rfl,rfl,trivial⟩
   ·show aEK _ _ _ (ys++[y]);unfold aEK;rw [List.map_append,List.length_append,hlen];exact H1
   ·intro z hz;rcases List.mem_append.1 hz with hz|hz
    ·exact hdig z hz
    simp at hz;subst hz;exact hy2
   show lv (ys++[y])+(256^(i+1):Nat)*(ov+lv (xs.drop (i+1)))=lv xs;rw [aJN,hlen,<-hval,Nat.pow_succ];show _+_*(y+256*0)+_=_;rw [hdrop];have e1:(over+x)=256*ov+y:=by omega
   rw [Int.natCast_mul,show over+(x+256*lv (xs.drop (i+1)))=(256*ov+y)+256*lv (xs.drop (i+1)) by omega]
   grind
  omega
 refine ⟨fun h2=>?_,fun h2=>?_⟩<;>conv=>whnf
 ·have hdrop:lv (xs.drop i)=256*lv (xs.drop (i+1)):=by
   rw [List.drop_of_length_le (by omega),List.drop_of_length_le (by omega)];rfl
  refine ⟨fun h4=>?_,fun h4=>?_⟩<;>conv=>whnf
  ·omega
  (try refine gO ?_);conv=>whnf
  rw [<-hv]
  refine aD.loop (X:=Nat) (fun k=>[(0,v0),(3,.slice ab i capb),(5,.int .i64 (i:Nat)),(6,.int .i64 (over+256*(k:Int))),(4,.int .i64 (0 - (k:Int)))])
   (fun k h2=>h2=h'/\(k=0\/over+256*(k:Int)<256)) (fun k=>(-(over+256*(k:Int))).toNat) 0 ⟨rfl,.inl rfl⟩ ⟨rfl,rfl,rfl,by rw [show over+256*((0:Nat):Int)=over by omega];rfl,rfl,trivial⟩ ?_
  rintro k h' ⟨rfl,hkd⟩ ih2
  (try refine gO ?_);conv=>whnf
  refine ⟨fun h3=>?_,fun h3=>?_⟩<;>conv=>whnf
  ·repeat (refine oL ?_;conv=>whnf)
   refine ih2 (k+1) _ _ ⟨rfl,.inr (by omega)⟩ (by omega) ⟨rfl,rfl,rfl,?_,?_,trivial⟩
   ·show some (Value.int .i64 _)=some (Value.int .i64 _)
    congr 2
    omega
   show some (Value.int .i64 _)=some (Value.int .i64 _)
   congr 2
   omega
  (try refine gO ?_);conv=>whnf
  repeat (refine oL ?_;conv=>whnf)
  obtain ⟨d,hd⟩:∃d,d=over+256*(k:Int):=⟨_,rfl⟩;rw [<-hd] at hkd h3 ⊢;obtain ⟨y,hy⟩:∃y,y=d%256:=⟨_,rfl⟩;obtain ⟨ov,hov⟩:∃ov,ov=0 - (k:Int)+d/256:=⟨_,rfl⟩;rw [<-hy,<-hov];have hy2:0<=y/\y<256:=by omega
  have hsz':=hkp.size;refine aD.eff (iN tab [.int .i64 y] (h1:=by simp [Value.cells])) ?_;rintro _ _ ⟨rfl,rfl⟩
  (try refine gO ?_);conv=>whnf
  have hnews:∀j u,[Value.int .i64 y][j]? = some u->bL (h'.push (.cells #[Value.int .i64 y] 3 (0,0))) h'.size (0+j)=some u:=fun j u hu=>by
   rw [(gH _ _ _).cell,Nat.zero_add]
   cases j with
   |zero=>simpa using hu
   |succ j=>simp at hu
  refine aD.eff (xT tab (base:=h.size) (m:=i) (m2:=1) (news:=[Value.int .i64 y]) (Own.push hbuf' _) rfl hnews (by simp [Value.oneCell']) (h63:=by unfold maxLen;omega) (hbytes:=by dsimp only;omega) (hbase:=by simp;omega)) ?_;rintro v' h2 ⟨H1,H2,H3,_⟩
  (try refine gO ?_);conv=>whnf
  repeat (refine oL ?_;conv=>whnf)
  refine ih (i+1,ov,v') _ _ ⟨ys++[y],?_,?_,by simp [hlen],?_,by dsimp only;omega,by dsimp only;omega,(hkp.push hkp.size _).trans ((Own.push hbuf' _).keeps (by simp;omega) H2 H3)⟩ (by dsimp only;omega) ⟨rfl,rfl,rfl,rfl,trivial⟩
  ·show aEK _ _ _ (ys++[y]);unfold aEK;rw [List.map_append,List.length_append,hlen];exact H1
  ·intro z hz;rcases List.mem_append.1 hz with hz|hz
   ·exact hdig z hz
   simp at hz;subst hz;exact hy2
  show lv (ys++[y])+(256^(i+1):Nat)*(ov+lv (xs.drop (i+1)))=lv xs;rw [aJN,hlen,<-hval,Nat.pow_succ];show _+_*(y+256*0)+_=_;rw [hdrop];have e1:over=256*ov+y:=by omega
  rw [Int.natCast_mul,show over+256*lv (xs.drop (i+1))=(256*ov+y)+256*lv (xs.drop (i+1)) by omega]
  grind
 refine aD.ret Tryz.func220 rfl rfl ⟨_,rfl,?_⟩;have hb:=aTT hdig;rw [List.drop_of_length_le (by omega)] at hval;rw [hlen] at hb;have h256:=bFR i;have hz:over=0:=by
  rcases (show over<0\/0<=over by omega) with h|h
  ·exfalso
   have:=Int.mul_le_mul_of_nonneg_left (a:=over+lv []) (b:= -1) (c:=((256^i:Nat):Int)) (by simp [lv];omega) (by omega);omega
  omega
 subst hz;refine ⟨ys,hbuf,hdig,?_,by omega,hkp⟩
 simp [lv] at hval
 exact hval

theorem aOV {h:Array Obj} {v:Value} {n:Nat} {ys:List Int} (hw:Ir h v n ys) (hd:Dig ys) (hn:n<=2199024304128):
  FV 219 #[v] h (.string (enc (lv ys).toNat)):=by
 have hW:=hw;obtain ⟨hl,a,cap,rfl,hr⟩:=hw;obtain ⟨V,hV⟩:∃V,V=(lv ys).toNat:=⟨_,rfl⟩;rw [<-hV];refine Fn.of (args:=[.slice a n cap]) Tryz.func219 (by kernel_rfl) rfl Tryz.ntmps219 rfl fun w0 cs=>?_;refine gO ?_;conv=>whnf
 refine aD.loop (X:=Nat) (fun k=>[(0,.slice a n cap),(3,.int .i64 (k:Nat))]) (fun k h'=>h'=h/\k<=n/\lv (ys.take k)=lv ys) (fun k=>k) n
  ⟨rfl,Nat.le_refl _,aED (by omega)⟩ ⟨rfl,rfl,trivial⟩ ?_
 rintro k h ⟨rfl,hk,hv⟩ ih
 (try refine gO ?_);conv=>whnf
 refine ⟨fun h1=>?_,fun h1=>?_⟩<;>conv=>whnf
 ·obtain ⟨b,off,rfl,hrd⟩:=hr (by omega);have hyk:ys[k - 1]? = some (ys[k - 1]'(by omega)):=List.getElem?_eq_getElem _
  generalize ys[k - 1]'(by omega)=y at hyk
  have hcell:=hrd (k - 1) y hyk;rw [<-gV (by omega)] at hcell;repeat (refine oL ?_;conv=>whnf)
  conv=>whnf
  refine ⟨_,hcell,?_⟩;conv=>whnf
  refine ⟨fun h2=>?_,fun h2=>?_⟩<;>conv=>whnf
  ·repeat (refine oL ?_;conv=>whnf)
   refine ih (k - 1) _ _ ⟨rfl,by omega,?_⟩ (by omega) ⟨rfl,?_,trivial⟩
   ·have:=aPF ys (k - 1);rw [show k - 1+1=k by omega,hv] at this;unfold dAt at this;rw [List.getD_eq_getElem?_getD,hyk] at this
    simp [h2] at this
    exact this.symm
   show some (Value.int .i64 _)=some (Value.int .i64 _)
   congr 2
   omega
  have hcut:k=nb V:=by
   rw [hV];refine bEY hd (by omega) hv fun _ y' hy'=>?_;rw [hyk] at hy';cases hy';exact h2
  refine aD.eff (iN tab [] (h1:=by simp)) ?_;rintro _ _ ⟨rfl,rfl⟩
  (try refine gO ?_);conv=>whnf
  repeat (refine oL ?_;conv=>whnf)
  refine aD.loop (X:=Nat×Value) (fun q=>[(0,.slice (some ⟨b,off,none⟩) n cap),(4,q.2),(5,.int .i64 ((q.1:Int) - 1))])
   (fun q h'=>q.1<=k/\Buf h.size h' q.2 (dn V k (k - q.1))/\aH h.size h h') (fun q=>q.1) (k,.slice (some ⟨h.size,0,none⟩) 0 0)
   ⟨Nat.le_refl _,?_,(aH.refl _ _).push (Nat.le_refl _) _⟩ ⟨rfl,rfl,rfl,trivial⟩ ?_
  ·show Buf _ _ _ (dn V k (k - k));rw [Nat.sub_self];exact ⟨rfl,.inr ⟨h.size,0,_,rfl,Nat.le_refl _,gH _ _ _,Nat.zero_le _,by unfold maxLen;omega,by simp,by simp [dn]⟩⟩
  rintro ⟨q,buf⟩ h' ⟨hq,hbuf,hkp⟩ ih3;dsimp only at hq hbuf ⊢;have hX:=hW.keeps hkp;obtain ⟨ab,capb,hbv⟩:=Own.shape hbuf;rw [kT] at hbv;subst hbv;have hbuf':Own h.size h' 5 1 (.slice ab (k - q) capb) (k - q) ((dn V k (k - q)).map fun (x:Nat)=>Value.int .u8 (x:Int)):=by
   unfold Buf at hbuf;rw [kT] at hbuf;exact hbuf
  by_cases hq0:q=0
  ·subst hq0
   (try refine gO ?_);conv=>whnf
   refine ⟨fun h8=>?_,fun h8=>?_⟩<;>conv=>whnf
   ·omega
   refine aD.eff (aHN tab (base:=h.size) (ns:=dn V k (k - 0)) hbuf') ?_;rintro _ _ ⟨rfl,rfl⟩
   (try refine gO ?_);conv=>whnf
   refine aD.ret Tryz.func219 rfl rfl ⟨_,rfl,?_⟩;refine ⟨?_,hkp⟩;rw [Nat.sub_zero,hcut];rfl
  obtain ⟨i,rfl⟩:∃i,q=i+1:=⟨q - 1,by omega⟩;rw [show (((i+1:Nat):Int) - 1)=(i:Int) by omega];obtain ⟨_,a9,cap9,e9,hr9⟩:=hX;cases e9;obtain ⟨b9,off9,hb9,hrd9⟩:=hr9 (by omega);cases hb9;have hyi:ys[i]? = some (ys[i]'(by omega)):=List.getElem?_eq_getElem _;have hyd:=hd _ (List.getElem_mem (show i<ys.length by omega));have hyb:=bDZ hd hyi;rw [<-hV] at hyb;have hcell9:=hrd9 i _ hyi
  generalize ys[i]'(by omega)=y at hyd hyb hcell9
  have hy9:y%256=(byc V i:Nat):=by omega
  (try refine gO ?_);conv=>whnf
  refine ⟨fun h8=>?_,fun h8=>?_⟩<;>conv=>whnf
  ·repeat (refine oL ?_;conv=>whnf)
   refine ⟨_,hcell9,?_⟩;conv=>whnf
   rw [hy9];have hsz':=hkp.size;refine aD.eff (iN tab [.int .u8 (byc V i:Nat)] (h1:=by simp [Value.cells])) ?_;rintro _ _ ⟨rfl,rfl⟩
   (try refine gO ?_);conv=>whnf
   have hnews:∀j u,[Value.int .u8 (byc V i:Nat)][j]? = some u->bL (h'.push (.cells #[Value.int .u8 (byc V i:Nat)] 5 (0,0))) h'.size (0+j)=some u:=fun j u hu=>by
    rw [(gH _ _ _).cell,Nat.zero_add]
    cases j with
    |zero=>simpa using hu
    |succ j=>simp at hu
   refine aD.eff (xT tab (base:=h.size) (m:=k - (i+1)) (m2:=1) (news:=[Value.int .u8 (byc V i:Nat)]) (Own.push hbuf' _) rfl hnews (by simp [Value.oneCell']) (h63:=by unfold maxLen;omega) (hbytes:=by dsimp only;omega) (hbase:=by simp;omega)) ?_;rintro v' h2 ⟨H1,H2,H3,_⟩
   (try refine gO ?_);conv=>whnf
   repeat (refine oL ?_;conv=>whnf)
   refine ih3 (i,v') _ _ ⟨by dsimp only;omega,?_,(hkp.push hkp.size _).trans ((Own.push hbuf' _).keeps (by simp;omega) H2 H3)⟩ (by dsimp only;omega) ⟨rfl,rfl,rfl,trivial⟩;show Buf _ _ _ (dn V k (k - i));unfold Buf;rw [kT,show k - i=k - (i+1)+1 by omega,dn,List.map_append,show k - 1 - (k - (i+1))=i by omega];exact H1
  omega
 have hk0:k=0:=by omega
 have hcut:k=nb V:=by
  rw [hV];exact bEY hd (by omega) hv fun hne=>absurd hk0 hne
 refine aD.eff (iN tab [] (h1:=by simp)) ?_;rintro _ _ ⟨rfl,rfl⟩
 (try refine gO ?_);conv=>whnf
 repeat (refine oL ?_;conv=>whnf)
 refine aD.loop (X:=Nat×Value) (fun q=>[(0,.slice a n cap),(4,q.2),(5,.int .i64 ((q.1:Int) - 1))])
  (fun q h'=>q.1<=k/\Buf h.size h' q.2 (dn V k (k - q.1))/\aH h.size h h') (fun q=>q.1) (k,.slice (some ⟨h.size,0,none⟩) 0 0)
  ⟨Nat.le_refl _,?_,(aH.refl _ _).push (Nat.le_refl _) _⟩ ⟨rfl,rfl,rfl,trivial⟩ ?_
 ·show Buf _ _ _ (dn V k (k - k));rw [Nat.sub_self];exact ⟨rfl,.inr ⟨h.size,0,_,rfl,Nat.le_refl _,gH _ _ _,Nat.zero_le _,by unfold maxLen;omega,by simp,by simp [dn]⟩⟩
 rintro ⟨q,buf⟩ h' ⟨hq,hbuf,hkp⟩ ih3;dsimp only at hq hbuf ⊢;have hX:=hW.keeps hkp;obtain ⟨ab,capb,hbv⟩:=Own.shape hbuf;rw [kT] at hbv;subst hbv;have hbuf':Own h.size h' 5 1 (.slice ab (k - q) capb) (k - q) ((dn V k (k - q)).map fun (x:Nat)=>Value.int .u8 (x:Int)):=by
  unfold Buf at hbuf;rw [kT] at hbuf;exact hbuf
 by_cases hq0:q=0
 ·subst hq0
  (try refine gO ?_);conv=>whnf
  refine ⟨fun h8=>?_,fun h8=>?_⟩<;>conv=>whnf
  ·omega
  refine aD.eff (aHN tab (base:=h.size) (ns:=dn V k (k - 0)) hbuf') ?_;rintro _ _ ⟨rfl,rfl⟩
  (try refine gO ?_);conv=>whnf
  refine aD.ret Tryz.func219 rfl rfl ⟨_,rfl,?_⟩;refine ⟨?_,hkp⟩;rw [Nat.sub_zero,hcut];rfl
 obtain ⟨i,rfl⟩:∃i,q=i+1:=⟨q - 1,by omega⟩;rw [show (((i+1:Nat):Int) - 1)=(i:Int) by omega];obtain ⟨_,a9,cap9,e9,hr9⟩:=hX;cases e9;obtain ⟨b9,off9,hb9,hrd9⟩:=hr9 (by omega);cases hb9;have hyi:ys[i]? = some (ys[i]'(by omega)):=List.getElem?_eq_getElem _;have hyd:=hd _ (List.getElem_mem (show i<ys.length by omega));have hyb:=bDZ hd hyi;rw [<-hV] at hyb;have hcell9:=hrd9 i _ hyi
 generalize ys[i]'(by omega)=y at hyd hyb hcell9
 have hy9:y%256=(byc V i:Nat):=by omega
 (try refine gO ?_);conv=>whnf
 refine ⟨fun h8=>?_,fun h8=>?_⟩<;>conv=>whnf
 ·repeat (refine oL ?_;conv=>whnf)
  refine ⟨_,hcell9,?_⟩;conv=>whnf
  rw [hy9];have hsz':=hkp.size;refine aD.eff (iN tab [.int .u8 (byc V i:Nat)] (h1:=by simp [Value.cells])) ?_;rintro _ _ ⟨rfl,rfl⟩
  (try refine gO ?_);conv=>whnf
  have hnews:∀j u,[Value.int .u8 (byc V i:Nat)][j]? = some u->bL (h'.push (.cells #[Value.int .u8 (byc V i:Nat)] 5 (0,0))) h'.size (0+j)=some u:=fun j u hu=>by
   rw [(gH _ _ _).cell,Nat.zero_add]
   cases j with
   |zero=>simpa using hu
   |succ j=>simp at hu
  refine aD.eff (xT tab (base:=h.size) (m:=k - (i+1)) (m2:=1) (news:=[Value.int .u8 (byc V i:Nat)]) (Own.push hbuf' _) rfl hnews (by simp [Value.oneCell']) (h63:=by unfold maxLen;omega) (hbytes:=by dsimp only;omega) (hbase:=by simp;omega)) ?_;rintro v' h2 ⟨H1,H2,H3,_⟩
  (try refine gO ?_);conv=>whnf
  repeat (refine oL ?_;conv=>whnf)
  refine ih3 (i,v') _ _ ⟨by dsimp only;omega,?_,(hkp.push hkp.size _).trans ((Own.push hbuf' _).keeps (by simp;omega) H2 H3)⟩ (by dsimp only;omega) ⟨rfl,rfl,rfl,trivial⟩;show Buf _ _ _ (dn V k (k - i));unfold Buf;rw [kT,show k - i=k - (i+1)+1 by omega,dn,List.map_append,show k - 1 - (k - (i+1))=i by omega];exact H1
 omega
end Go.Proofs.YthjedpdedjhndaaGreatDoor
