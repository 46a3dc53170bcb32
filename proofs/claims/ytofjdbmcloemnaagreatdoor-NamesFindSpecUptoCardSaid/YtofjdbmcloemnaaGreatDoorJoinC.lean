/- Texts of this seat, joined: The symbolic walk: calls by FnT in regions that draw their order; a block of one's own that is handed over only to be read -/
import Derived.Test.YtofjdbmcloemnaaGreatDoorJoinB
import Derived.Test.YtofjdbmcloemnaaGreatDoorChecked
import Derived.Lib.TrailingZeros
import Derived.Laws.Externs
set_option linter.unusedVariables false
set_option linter.unusedSimpArgs false
namespace Go.Fw
open Go
variable {P:Program}
set_option maxHeartbeats 8000000
section
variable {s:SCx P} {ds:List SDef} {all:List Oper} {st:List SI} {t:Tr} {taken:List Nat} {ps:List (Nat×SPin)} {nx kk:Nat} {keep:List Nat} {l:SFr} {H:SH} {o:Oper} {cl:Call} {x:Operand} {g:FuncId} {first captured vs:List SV}
theorem EffR.callT {T:(Nat→Prop)→Array Obj→Prop} (ok:TOk T) (hT:T s.F s.h0) {k:Nat} {args:List SV} {W:SH} {X:Type} {J:X→Prop} {out:X→OutS} (C:FnT P T g k args W J out) (ren:List Nat)
  (hr:∀y,J y→afterNR s ds all st t taken ps keep k nx ren (restH (ownN (nthN ren) W) H) o.dst l (out y))
  (hH:SubH (nthN ren) H W) (ha:SV.rens (nthN ren) args=first++(vs++captured))
  (hlen:ren.length=k:=by rfl) (hren:bdN nx ren=true:=by rfl) (hfr:fresh s.n0 nx l H ds=true:=by rfl) (hn:nodupH (nthN ren) W []=true:=by rfl) (hps:bdPs nx ps=true:=by rfl)
  (ho:all[kk]? = some o:=by rfl) (hop:o.op=.call cl:=by rfl) (hcal:cl.callee=.value x:=by rfl) (hx:calleeS l x=some (g,first,captured):=by rfl) (hargs:evAll l cl.args.toList=some vs:=by rfl)
  (hgd:guardS l all.toArray o=some true:=by rfl) (hdn:dstOk s.c.n o.dst=true:=by rfl):EffR s ds all st kk keep t taken ps nx l H:=by
 obtain ⟨f1,f2,f3,f4⟩:=fresh_of hfr
 refine EffR.of ho (floatO_call hop hcal) hdn hgd (V:=fun E h v h'=>EndS k (fun b=>E (nthN ren b)) (keptF s.F E (restH (ownN (nthN ren) W) H)) h J out (.returned v) h')
  (PN:=fun E h ch h'=>EndS k (fun b=>E (nthN ren b)) (keptF s.F E (restH (ownN (nthN ren) W) H)) h J out (.panicked ch) h') ?_ ?_ ?_
 ·intro E h hA S K
  have:=C.call (fun b=>E (nthN ren b)) (keptF s.F E (restH (ownN (nthN ren) W) H)) h (fun i hi=>by
   rcases hi with hi|⟨q,hq,hw,hg⟩
   ·have:=K.lt i hi;have:=K.size;omega
   exact (Blk.lt (S.ok q ((restH_sub _ _).subset hq)) hw hg).1) (ok.mono _ _ _ (fun i hi=>.inl hi) (ok.at hT K)) (S.hand (nthN ren) hH hn)
  rw [←SV.gs_ren,ha] at this
  refine EffP.callE (first:=(SV.gs E first).toArray) (captured:=(SV.gs E captured).toArray) (vs:=SV.gs E vs) (by rw [args_eq];exact this) ?_ hop hcal (calleeS_of hx) (allEv_gF hargs)
  rintro h' ⟨y,E',_,_,_,_,he⟩
  cases ho:out y<;>rw [ho] at he<;>cases he
 ·rintro E h hA S K ch h' ⟨y,E',hJ,hA',S',K',he⟩
  have hr:=hr y hJ
  cases ho:out y with
  |ret v n H'=>rw [ho] at he;cases he
  |pan ch' n H'=>
   rw [ho] at he hr S'
   cases he
   obtain ⟨E'',a1,_,a3,a4⟩:=S.takeBack K hlen hren f3 hA' S' K'
   have:=hr.run E'' h' (hA.trans (a1.mono f1)) a3 a4
   rw [gD_ag a1 ds f4,gF_cutS,gF_ag a1 l f2] at this
   exact this
 rintro E h hA S K v h' ⟨y,E',hJ,hA',S',K',he⟩
 have hr:=hr y hJ
 cases ho:out y with
 |pan ch n H'=>rw [ho] at he;cases he
 |ret v' n H'=>
  rw [ho] at he hr S'
  cases he
  obtain ⟨E'',a1,a2,a3,a4⟩:=S.takeBack K hlen hren f3 hA' S' K'
  simp only [afterNR,updK_eq] at hr
  exact ⟨E'',_,_,_,a1,f1,hps,gD_ag a1 ds f4,by rw [gF_updS,gF_ag a1 l f2,a2],a3,a4,hr.1,hr.2⟩
end
theorem Blk.ok_wr {E:Env} {F F':Nat→Prop} {h:Array Obj} {x:Value} {b:Blk} (hw:wr b=true) (hF:∀i,F i→F' i) (H:b.ok E F' h x):b.ok E F h x:=by
 cases b with
 |cells t cs=>
  obtain ⟨g,h1,h2,h3⟩:=H
  exact ⟨g,h1,h2,fun hf=>h3 (hF g hf)⟩
 |own e sz rows=>
  obtain ⟨h1,h2,h3⟩:=H
  exact ⟨h1,h2,fun g hg hf=>h3 g hg (hF g hf)⟩
 |ro sz rows=>cases hw
 |map d es=>
  obtain ⟨g,h1,h2,h3⟩:=H
  exact ⟨g,h1,h2,fun hf=>h3 (hF g hf)⟩
theorem appOb2 {n m k b b2:Nat} (hn:n+m≤1000000) (hk:k≤1000:=by decide) (hb:b≠b2:=by decide):0<1∧n+m≤9223372036854775807∧(n+m)*k≤140737488355328∧b≠b2:=
 ⟨Nat.one_pos,by omega,Nat.le_trans (Nat.mul_le_mul hn hk) (by decide),hb⟩
end Go.Fw

namespace Go.Fw
open Go
variable {P:Program}
set_option maxHeartbeats 8000000
def RoF (G:Nat→Prop) (h:Array Obj) (v:Value) (sz:Nat) (rows:List (List Value)):Prop:=
 RowsOk sz rows∧(rows.length≤9223372036854775807∧capOk v) ∧ ∃a cap,v=.slice a rows.length cap∧CellsAt G h a rows
structure Up (G:Nat→Prop) (h:Array Obj) (G':Nat→Prop) (h':Array Obj):Prop where
 sub:∀i,G i→G' i
 same:∀i,G i→h'[i]? = h[i]?
theorem Up.refl (G:Nat→Prop) (h:Array Obj):Up G h G h:=⟨fun _ x=>x,fun _ _=>rfl⟩
theorem Up.trans {G G' G'':Nat→Prop} {h h' h'':Array Obj} (U:Up G h G' h') (V:Up G' h' G'' h''):Up G h G'' h'':=⟨fun i hi=>V.sub i (U.sub i hi),fun i hi=>(V.same i (U.sub i hi)).trans (U.same i hi)⟩
theorem RoF.up {G G':Nat→Prop} {h h':Array Obj} {v:Value} {sz:Nat} {rows:List (List Value)} (U:Up G h G' h') (H:RoF G h v sz rows):RoF G' h' v sz rows:=by
 obtain ⟨h1,h0,a,cap,h2,h3⟩:=H
 refine ⟨h1,h0,a,cap,h2,h3.imp id fun ⟨g,o,e1,e2,e3⟩=>⟨g,o,e1,U.sub g e2,fun j v hj=>?_⟩⟩
 have:=e3 j v hj
 unfold cellH at this ⊢
 rw [U.same g e2];exact this
theorem Ro.rof {h:Array Obj} {v:Value} {sz:Nat} {rows:List (List Value)} (H:Ro h v sz rows):RoF (fun k=>k<h.size) h v sz rows:=H
theorem RoF.len {G:Nat→Prop} {h:Array Obj} {v:Value} {sz:Nat} {rows:List (List Value)} (H:RoF G h v sz rows):rows.length≤9223372036854775807:=H.2.1.1
theorem RoF.nil {G:Nat→Prop} {h:Array Obj} {sz:Nat}:RoF G h (.slice none 0 0) sz []:=⟨fun _ h=>(by cases h),⟨by simp,Nat.le_refl 0⟩,none,0,rfl,.inl rfl⟩
theorem RoF.blk {E:Env} {F:Nat→Prop} {h:Array Obj} {v:Value} {sz:Nat} {rows:List (List Value)} (H:RoF F h v sz rows):(Blk.ro sz rows).ok E F h v:=H
theorem RoF.ownB {G:Nat→Prop} {h:Array Obj} {v:Value} {sz:Nat} {rows:List (List Value)} (H:RoF G h v sz rows):∃a cap,v=.slice a rows.length cap:=by
 obtain ⟨_,_,a,cap,h2,_⟩:=H;exact ⟨a,cap,h2⟩
structure Now (F0 G0:Nat→Prop) (hh:Array Obj) (F G:Nat→Prop) (h:Array Obj):Prop where
 conv:∀hf,Kp F h hf→Kp F0 hh hf
 sub:∀i,F0 i→F i
 gsub:∀i,G i→F i
 lt:∀i,F i→i<h.size
 ginc:∀i,G0 i→G i
 gnew:∀i,G i→G0 i ∨ ¬F0 i
section
variable {F0 G0 F G F' G':Nat→Prop} {hh h h':Array Obj}
theorem Now.start (hG:∀i,G i→F i) (hF:∀i,F i→i<h.size):Now F G h F G h:=⟨fun _ K=>K,fun _ x=>x,hG,hF,fun _ x=>x,fun _ x=>.inl x⟩
theorem Now.kp (N:Now F0 G0 hh F G h):Kp F0 hh h:=N.conv h ⟨Nat.le_refl _,fun _ _=>rfl,N.lt⟩
theorem Now.trans (N:Now F0 G0 hh F G h) (M:Now F G h F' G' h'):Now F0 G0 hh F' G' h':=
 ⟨fun hf K=>N.conv hf (M.conv hf K),fun i hi=>M.sub i (N.sub i hi),M.gsub,M.lt,fun i hi=>M.ginc i (N.ginc i hi),fun i hi=>(M.gnew i hi).elim (N.gnew i) fun h=>.inr fun hf=>h (N.sub i hf)⟩
theorem Now.later (N:Now F0 G0 hh F G h) (K:Kp F h h'):Now F0 G0 hh F G h':=
 ⟨fun hf K'=>N.conv hf (K.trans K'),N.sub,N.gsub,fun i hi=>Nat.lt_of_lt_of_le (N.lt i hi) K.size,N.ginc,N.gnew⟩
theorem Now.up (N:Now F0 G0 hh F G h) (K:Kp F h h'):Up G h G h':=⟨fun _ x=>x,fun i hi=>K.same i (N.gsub i hi)⟩
theorem Now.step (hG:∀i,G i→F i) (M:Now F G h F' G' h'):Up G h G' h':=⟨M.ginc,fun i hi=>M.kp.same i (hG i hi)⟩
end
theorem Runs.looks {c:Ctx P} {ds:List Deferred} {st:List SI} {l l':Fr} {h:Array Obj} (hs:∀d v,look l' d=some v→look l d=some v) (hr:Runs c ds st l' h):Runs c ds st l h:=
 by
 unfold Runs at hr ⊢
 exact fun hwf a w ha hd hh hw=>hr hwf a w ⟨ha.size,fun d v hv=>ha.get d v (hs d v hv)⟩ hd hh hw
section
variable {s:SCx P} {ds:List SDef} {nx:Nat} {st:List SI} {l:SFr} {H:SH}
theorem RunsS.nameAt {G:Nat→Prop} (hG:∀i,G i→s.F i) (k:Nat) {v:Value} {sz:Nat} {rows:List (List Value)} (hv:RoF G s.h0 v sz rows) (hr:RunsS s ds (nx+1) st ((k,.buf nx)::l) ((nx,.ro sz rows)::H))
  (hl:lookS l k=some (.v v):=by rfl) (hfr:fresh s.n0 nx l H ds=true:=by rfl):RunsS s ds nx st l H:=.mk fun E h hA S K=>by
 obtain ⟨f1,f2,f3,f4⟩:=fresh_of hfr
 have hv':RoF s.F h v sz rows:=hv.up ⟨hG,fun i hi=>K.same i (hG i hi)⟩
 have S':=S.add (n:=nx) (x:=v) (b:=.ro sz rows) f3 hv'.blk (fun hw=>by cases hw)
 have A:=push_ag E nx v
 have:=hr.run _ h (hA.trans (A.mono f1)) S' K
 rw [gD_ag A ds f4] at this
 refine Runs.looks (l':=gF (push E nx v) ((k,.buf nx)::l)) (fun d u hd=>?_) this
 simp only [gF,look,SV.g] at hd
 cases hb:Nat.beq k d with
 |true=>
  simp only [hb,Option.some.injEq] at hd
  have:=Nat.eq_of_beq_eq_true hb
  subst this
  rw [look_gF_of hl,←hd,push_at];rfl
 |false=>
  simp only [hb] at hd
  rw [gF_ag A l f2] at hd
  exact hd
theorem gs_set (E:Env):∀(cs:List SV) (k:Nat) (x:SV),SV.gs E (cs.set k x)=(SV.gs E cs).set k (x.g E)
 | [],_,_=>rfl
 |c::cs,0,x=>rfl
 |c::cs,k+1,x=>by simp only [List.set_cons_succ,SV.gs,gs_set E cs k x]
def setSV:List SV→Nat→SV→List SV
 | [],_,_=>[]
 |c::cs,k,x=>match k with
  |0=>x::cs
  |k+1=>c::setSV cs k x
theorem setSV_eq:∀(cs:List SV) (k:Nat) (x:SV),setSV cs k x=cs.set k x
 | [],_,_=>rfl
 |c::cs,0,x=>rfl
 |c::cs,k+1,x=>by simp only [setSV,List.set_cons_succ,setSV_eq cs k x]
def setSK:List SV→Nat→SV→(List SV→Prop)→Prop
 | [],_,_,K=>K []
 |c::cs,k,x,K=>match k with
  |0=>K (x::cs)
  |k+1=>setSK cs k x fun l=>K (c::l)
theorem setSK_eq:∀(cs:List SV) (k:Nat) (x:SV) (K:List SV→Prop),setSK cs k x K=K (setSV cs k x)
 | [],_,_,_=>rfl
 |c::cs,0,x,_=>rfl
 |c::cs,k+1,x,K=>by simp only [setSK,setSV,setSK_eq cs k x]
theorem mem_setH_ne' {x:Blk}:∀ {H:SH} {b:Nat} {seen:List Nat} {p:Nat×Blk},nodupH (rn []) H seen=true→p∈setH H b x→p=(b,x)∨(p∈H∧p.1≠b)
 | [],_,_,_,_,h=>by cases h
 |(s,v)::l,d,seen,p,hn,h=>by
  simp only [nodupH] at hn
  cases hm:memB (rn [] s) seen with
  |true=>simp [hm] at hn
  |false=>
   simp only [hm] at hn
   simp only [setH] at h
   cases hb:Nat.beq s d with
   |true=>
    simp only [hb] at h
    have:=Nat.eq_of_beq_eq_true hb
    subst this
    rcases List.mem_cons.1 h with rfl|h
    ·exact .inl rfl
    refine .inr ⟨List.mem_cons_of_mem _ h,fun e=>?_⟩
    have h1:=nodupH_seen hn p h
    rw [e] at h1
    exact h1 (List.mem_cons_self ..)
   |false=>
    simp only [hb] at h
    rcases List.mem_cons.1 h with rfl|h
    ·exact .inr ⟨List.mem_cons_self ..,fun e=>by simp only at e;subst e;simp at hb⟩
    exact (mem_setH_ne' hn h).imp id fun ⟨h1,h2⟩=>⟨List.mem_cons_of_mem _ h1,h2⟩
theorem setH_apart' {E:Env} {t:TypeId} {cs cs':List SV}:∀ {H:SH} {b:Nat},lookH H b=some (.cells t cs)→H.Pairwise (Apart E)→(setH H b (.cells t cs')).Pairwise (Apart E)
 | [],_,h,_=>by cases h
 |(s,v)::l,d,h,hp=>by
  obtain ⟨h1,h2⟩:=List.pairwise_cons.1 hp
  simp only [lookH] at h
  simp only [setH]
  cases hb:Nat.beq s d with
  |true=>
   simp only [hb,Option.some.injEq] at h
   subst h
   exact List.pairwise_cons.2 ⟨fun q hq _ hw g e1 e2=>h1 q hq rfl hw g e1 e2,h2⟩
  |false=>
   simp only [hb] at h
   refine List.pairwise_cons.2 ⟨fun q hq=>?_,setH_apart' h h2⟩
   rcases mem_setH hq with rfl|hq
   ·intro hw _ g e1 e2
    exact h1 _ (lookH_mem h) hw rfl g e1 e2
   exact h1 q hq
theorem RunsS.nameCell {G:Nat→Prop} (hG:∀i,G i→s.F i) (b k:Nat) {v:Value} {sz:Nat} {rows:List (List Value)} {t:TypeId} {cs:List SV} (hv:RoF G s.h0 v sz rows)
  (hr:setSK cs k (.buf nx) fun cs=>setK H b (.cells t cs) fun H=>RunsS s ds (nx+1) st l ((nx,.ro sz rows)::H))
  (hb:lookH H b=some (.cells t cs):=by rfl) (hk:nth cs k=some (.v v):=by rfl) (hn:nodupH (rn []) H []=true:=by rfl) (hfr:fresh s.n0 nx l H ds=true:=by rfl):RunsS s ds nx st l H:=.mk fun E h hA S K=>by
 obtain ⟨f1,f2,f3,f4⟩:=fresh_of hfr
 rw [setSK_eq,setK_eq] at hr
 have hv':RoF s.F h v sz rows:=hv.up ⟨hG,fun i hi=>K.same i (hG i hi)⟩
 have S1:=S.add (n:=nx) (x:=v) (b:=.ro sz rows) f3 hv'.blk (fun hw=>by cases hw)
 have A:=push_ag E nx v
 have hlt:=bdH_mem f3 (lookH_mem hb)
 have hne:b≠nx:=by have:=hlt.1;simp only at this;omega
 have hgs:SV.gs (push E nx v) (setSV cs k (.buf nx))=SV.gs E cs:=by
  rw [setSV_eq,gs_set]
  show (SV.gs (push E nx v) cs).set k (push E nx v nx)=_
  rw [push_at,SV.gs_ag A cs hlt.2]
  refine List.ext_getElem? fun j=>?_
  rw [List.getElem?_set]
  split
  ·rename_i e
   subst e
   rw [nth_eq] at hk
   rw [gs_get,hk]
   split
   ·rfl
   rename_i h1
   have:=(List.getElem?_eq_some_iff.1 hk).1
   rw [gs_len] at h1
   exact absurd this h1
  rfl
 have S':Sat (push E nx v) s.F ((nx,.ro sz rows)::setH H b (.cells t (setSV cs k (.buf nx)))) h:=by
  have Sr:Sat (push E nx v) s.F H h:=⟨fun p hp=>S1.ok p (List.mem_cons_of_mem _ hp),(List.pairwise_cons.1 S1.apart).2⟩
  refine ⟨fun p hp=>?_,List.pairwise_cons.2 ⟨fun q hq hw=>(by cases hw),setH_apart' hb Sr.apart⟩⟩
  rcases List.mem_cons.1 hp with rfl|hp
  ·exact S1.ok _ (List.mem_cons_self ..)
  rcases mem_setH_ne' hn hp with rfl|⟨hp,_⟩
  ·obtain ⟨g,h1,h2,h3⟩:=S.ok _ (lookH_mem hb)
   refine ⟨g,?_,?_,h3⟩
   ·show push E nx v b=_
    rw [A b hlt.1];exact h1
   rw [hgs];exact h2
  exact Sr.ok p hp
 have:=hr.run _ h (hA.trans (A.mono f1)) S' K
 rw [gD_ag A ds f4,gF_ag A l f2] at this
 exact this
end
end Go.Fw

namespace Go.Fw
open Go
variable {P:Program}
set_option maxHeartbeats 8000000
end Go.Fw

namespace Go.Fw
open Go
variable {P:Program}
set_option maxHeartbeats 8000000
def instFK (n:Nat) (v:Value):SFr→(SFr→Prop)→Prop
 | [],K=>K []
 |(s,x)::l,K=>instFK n v l fun l=>K ((s,x.inst n v)::l)
theorem instFK_eq (n:Nat) (v:Value):∀(l:SFr) (K:SFr→Prop),instFK n v l K=K (instF n v l)
 | [],_=>rfl
 |(s,x)::l,K=>by simp only [instFK,instF,instFK_eq n v l]
def instHK (n:Nat) (v:Value):SH→(SH→Prop)→Prop
 | [],K=>K []
 |(b,x)::H,K=>instHK n v H fun H=>K ((b,instB n v x)::H)
theorem instHK_eq (n:Nat) (v:Value):∀(H:SH) (K:SH→Prop),instHK n v H K=K (instH n v H)
 | [],_=>rfl
 |(b,x)::H,K=>by simp only [instHK,instH,instHK_eq n v H]
def instDs (n:Nat) (v:Value):List SDef→List SDef
 | []=>[]
 |d::l=>⟨d.g,SV.insts n v d.captured,SV.insts n v d.args⟩::instDs n v l
theorem push_self (E:Env) (n:Nat):push E n (E n)=E:=by
 funext b
 rw [push_beq]
 cases hb:Nat.beq b n with
 |true=>have:=Nat.eq_of_beq_eq_true hb;subst this;rfl
 |false=>rfl
theorem instB_mk {n:Nat} {v:Value} {E:Env} {F:Nat→Prop} {h:Array Obj} {x:Value} {b:Blk} (H:b.ok (push E n v) F h x):(instB n v b).ok E F h x:=by
 cases b with
 |cells t cs=>
  obtain ⟨g,h1,h2,h3⟩:=H
  exact ⟨g,h1,by rw [SV.gs_inst];exact h2,h3⟩
 |own=>exact H
 |ro=>exact H
 |map=>exact H
theorem Blk.more {E:Env} {F F':Nat→Prop} {h:Array Obj} {x:Value} {b:Blk} (H:b.ok E F h x) (hF:∀i,F i→F' i) (hn:wr b=true → ∀g,ownB x=some g → ¬F' g):b.ok E F' h x:=by
 cases b with
 |cells t cs=>
  obtain ⟨g,h1,h2,h3⟩:=H
  exact ⟨g,h1,h2,hn rfl g (by rw [h1];rfl)⟩
 |own e sz rows=>
  obtain ⟨h1,h2,h3⟩:=H
  exact ⟨h1,h2,fun g hg=>hn rfl g hg⟩
 |ro sz rows=>
  obtain ⟨e1,e0,a,cap,e2,e3⟩:=H
  exact ⟨e1,e0,a,cap,e2,e3.mono hF⟩
 |map d es=>
  obtain ⟨g,h1,h2,h3⟩:=H
  exact ⟨g,h1,h2,hn rfl g (by rw [h1];rfl)⟩
section
variable {s:SCx P} {ds:List SDef} {nx:Nat} {st:List SI} {l:SFr} {H:SH}
theorem RunsS.conc {G:Nat→Prop} (hG:∀i,G i→s.F i) (b:Nat) {e sz:Nat} {rows:List (List Value)} {n:Nat}
  (hr:∀(a:Option Addr) (c:Nat) (G':Nat→Prop) (h':Array Obj),Now s.F G s.h0 (fun i=>s.F i∨G' i) G' h'→RoF G' h' (.slice a n c) sz rows →
   instFK b (.slice a n c) l fun l=>remK H b fun H=>instHK b (.slice a n c) H fun H=>RunsS ⟨s.c,fun i=>s.F i∨G' i,h',s.E0,s.n0⟩ ds nx st l H)
  (hb:lookH H b=some (.own e sz rows):=by rfl) (hlen:rows.length=n:=by rfl) (hn:nodupH (rn []) H []=true:=by rfl) (hds:∀v,instDs b v ds=ds:=by exact fun _=>rfl):RunsS s ds nx st l H:=.mk fun E h hA S K=>by
 subst hlen
 have hmem:=lookH_mem hb
 have hrow:rowsAt H b=some (sz,rows):=by unfold rowsAt;rw [hb]
 have hbo:=S.ok _ hmem
 have hlt:∀k,ownB (E b)=some k→k<h.size ∧ ¬s.F k:=fun k hk=>Blk.lt hbo rfl hk
 obtain ⟨g1,a,c,g2,g3⟩:=S.rowsAt hrow
 have N:Now s.F G s.h0 (fun i=>s.F i∨(G i∨ownB (E b)=some i)) (fun i=>G i∨ownB (E b)=some i) h:=
  ⟨fun hf K'=>K.trans ⟨K'.size,fun i hi=>K'.same i (.inl hi),fun i hi=>K'.lt i (.inl hi)⟩,fun i hi=>.inl hi,fun i hi=>.inr hi,
   fun i hi=>hi.elim (fun hi=>Nat.lt_of_lt_of_le (K.lt i hi) K.size) (fun hi=>hi.elim (fun hi=>Nat.lt_of_lt_of_le (K.lt i (hG i hi)) K.size) (fun hi=>(hlt i hi).1)),
   fun i hi=>.inl hi,fun i hi=>hi.elim .inl (fun hi=>.inr (hlt i hi).2)⟩
 have R:RoF (fun i=>G i∨ownB (E b)=some i) h (.slice a rows.length c) sz rows:=by
  refine ⟨g1,⟨S.rowsLen hrow,?_⟩,a,c,rfl,g3.imp id fun ⟨g,o,e1,e2⟩=>⟨g,o,e1,.inr ?_,e2⟩⟩
  ·have:=S.rowsCap hrow
   rw [g2] at this
   exact this
  show ownB (E b)=some g
  rw [g2,e1];rfl
 have hr:=hr a c _ h N R
 rw [instFK_eq,remK_eq,instHK_eq] at hr
 have hv:E b=.slice a rows.length c:=g2
 have hpush:push E b (.slice a rows.length c)=E:=by rw [←hv];exact push_self E b
 have S':Sat E (fun i=>s.F i∨(G i∨ownB (E b)=some i)) (instH b (.slice a rows.length c) (remH H b)) h:=by
  refine ⟨fun p hp=>?_,?_⟩
  ·rw [instH_map] at hp
   obtain ⟨q,hq,rfl⟩:=List.mem_map.1 hp
   have hq1:=(remH_sub H b).subset hq
   have hq2:=remH_ne hq
   refine instB_mk ?_
   rw [hpush]
   refine Blk.more (S.ok q hq1) (fun i hi=>.inl hi) fun hw g hg hF=>?_
   have h1:=(Blk.lt (S.ok q hq1) hw hg).2
   rcases hF with hF|hF|hF
   ·exact h1 hF
   ·exact h1 (hG _ hF)
   exact apart_of S.apart hq1 hmem hq2 hw rfl g hg hF
  rw [instH_map,List.pairwise_map]
  refine List.Pairwise.imp (fun {p q} hA=>?_) (S.apart.sublist (remH_sub H b))
  intro hw1 hw2 g e1 e2
  exact hA (by rw [←wr_inst b (.slice a rows.length c)];exact hw1) (by rw [←wr_inst b (.slice a rows.length c)];exact hw2) g e1 e2
 have:=hr.run E h hA S' ⟨Nat.le_refl _,fun _ _=>rfl,N.lt⟩
 rw [gF_inst,hpush] at this
 exact this
end
def EndX {X:Type} (k:Nat) (E:Env) (F G:Nat→Prop) (h:Array Obj) (J:X→(Nat→Prop)→Array Obj→Prop) (out:X→OutS) (e:Ending) (h':Array Obj):Prop:=
 ∃x E' F' G',Now F G h F' G' h'∧J x G' h'∧Ag k E E'∧Sat E' F' (out x).heap h'∧(out x).ok E' e
structure FnX (P:Program) (g:FuncId) (k:Nat) (args:List SV) (W:SH) (Pre:(Nat→Prop)→Array Obj→Prop) {X:Type} (J:X→(Nat→Prop)→Array Obj→Prop) (out:X→OutS):Prop where
 call:∀(E:Env) (F G:Nat→Prop) (h:Array Obj),(∀i,G i→F i)→(∀i,F i→i<h.size)→Pre G h→Sat E F W h→Fn P g (SV.gs E args).toArray h (EndX k E F G h J out)
theorem FnX.of {f:FuncId} {fn:Func} {code:Code} {k:Nat} {args:List SV} {W:SH} {Pre:(Nat→Prop)→Array Obj→Prop} {X:Type} {J:X→(Nat→Prop)→Array Obj→Prop} {out:X→OutS} (hf:P.funcs[f]? = some fn) (hname:(fn.name == "runtime.NumGoroutine")=false) (hb:fn.body=some code) {n:Nat} (hnt:fn.ntmps=n)
  (hargs:Nat.ble args.length n=true)
  (H:∀E0 F G h,Now F G h F G h→Pre G h → ∀w0 cs,argGK 0 args fun l=>RunsS ⟨callCtx P f n w0 cs (EndX k E0 F G h J out),F,h,E0,k⟩ [] k [.code code] l W):FnX P f k args W Pre J out:=
 ⟨fun E F G h hG hF hP S=>Fn.ofG E k args W F hf hname hb hnt hargs hF S fun w0 cs=>H E F G h (Now.start hG hF) hP w0 cs⟩
theorem EndX.mk {X:Type} {k:Nat} {E0:Env} {F G F' G':Nat→Prop} {h0 hb:Array Obj} {J:X→(Nat→Prop)→Array Obj→Prop} {out:X→OutS} (N:Now F G h0 F' G' hb) (x:X) (hJ:∀h',Up G' hb G' h'→J x G' h') (m:List (Nat×Nat)) {H:SH}
  (hH:SubH (rn m) H (out x).heap) (hm:rnOk k m=true) (hn:nodupH (rn m) (out x).heap []=true) {e:Env→Ending} (he:∀E,(out x).ok (fun b=>E (rn m b)) (e E)):
  ∀E h,Ag k E0 E→Sat E F' H h→Kp F' hb h→EndX k E0 F G h0 J out (e E) h:=fun E h hA S K=>
 ⟨x,fun b=>E (rn m b),F',G',N.later K,hJ h (N.up K),fun b hb=>by show E (rn m b)=_;rw [rnOk_of hm b hb];exact hA b hb,S.ren hH hn,he E⟩
theorem backH_filter (f:Nat→Nat) (R:SH):∀H:SH,backH f R (H.filter fun p=>wr p.2)=backH f R H
 | []=>rfl
 |(b,x)::H=>by
  simp only [backH,List.filter_cons]
  cases hw:wr x with
  |true=>simp only [if_true,backH,hw,backH_filter f R H]
  |false=>simp [backH_filter f R H]
theorem Sat.takeBackX {k nx:Nat} {E E':Env} {F F' G G':Nat→Prop} {H W H':SH} {h h' h0:Array Obj} {ren:List Nat} (S:Sat E F H h) (K:Kp F h0 h) (hG:∀i,G i→F i) (hlen:ren.length=k) (hren:bdN nx ren=true) (hbd:bdH nx H=true)
  (A:Ag k (fun b=>E (nthN ren b)) E') (N:Now (keptF F E (restH (ownN (nthN ren) W) H)) G h F' G' h') (S':Sat E' F' H' h'):
  ∃E'':Env,Ag nx E E''∧(∀x:SV,(x.ren (nmC ren k nx)).g E''=x.g E')∧Sat E'' (fun i=>F i∨G' i) (backH (nmC ren k nx) (restH (ownN (nthN ren) W) H) H') h'∧Kp (fun i=>F i∨G' i) h' h'∧Now F G h0 (fun i=>F i∨G' i) G' h':=by
 have K':Kp (keptF F E (restH (ownN (nthN ren) W) H)) h h':=N.kp
 have Sf:Sat E' (keptF F E (restH (ownN (nthN ren) W) H)) (H'.filter fun p=>wr p.2) h':=
  ⟨fun p hp=>Blk.ok_wr (List.mem_filter.1 hp).2 N.sub (S'.ok p (List.mem_filter.1 hp).1),S'.apart.sublist List.filter_sublist⟩
 obtain ⟨E'',a1,a2,a3,a4⟩:=S.takeBack K hlen hren hbd A Sf K'
 rw [backH_filter] at a3
 have lt:∀i,F i∨G' i→i<h'.size:=fun i hi=>hi.elim (fun hi=>N.lt i (N.sub i (.inl hi))) (fun hi=>N.lt i (N.gsub i hi))
 refine ⟨E'',a1,a2,⟨fun p hp=>Blk.more (a3.ok p hp) (fun i hi=>.inl hi) fun hw g hg hF=>?_,a3.apart⟩,⟨Nat.le_refl _,fun _ _=>rfl,lt⟩,?_⟩
 ·rcases hF with hF|hF
  ·exact (Blk.lt (a3.ok p hp) hw hg).2 hF
  rcases backH_mem hp with hp|⟨q,hq,hwq,rfl⟩
  ·have hpH:=(restH_sub _ _).subset hp
   rw [a1 p.1 (bdH_mem hbd hpH).1] at hg
   rcases N.gnew g hF with h1|h1
   ·exact (Blk.lt (S.ok p hpH) hw hg).2 (hG g h1)
   exact h1 (.inr ⟨p,hp,hw,hg⟩)
  have e:E'' (nmC ren k nx q.1)=E' q.1:=a2 (.buf q.1)
  have hg:ownB (E'' (nmC ren k nx q.1))=some g:=hg
  rw [e] at hg
  exact (Blk.lt (S'.ok q hq) hwq hg).2 (N.gsub g hF)
 exact ⟨fun hf K2=>K.trans (Kp.trans ⟨K'.size,fun i hi=>K'.same i (.inl hi),fun i hi=>K'.lt i (.inl hi)⟩ ⟨K2.size,fun i hi=>K2.same i (.inl hi),fun i hi=>lt i (.inl hi)⟩),fun i hi=>.inl hi,fun i hi=>.inr hi,lt,N.ginc,
  fun i hi=>(N.gnew i hi).imp id (fun hn hf=>hn (.inl hf))⟩
section
variable {s:SCx P} {ds:List SDef} {nx:Nat} {kk:List SI} {l:SFr} {H:SH}
variable {all:Array Oper} {rest:List Oper} {o:Oper} {cl:Call} {x:Operand} {g:FuncId} {first captured vs:List SV}
theorem RunsS.callX {G:Nat→Prop} (hG:∀i,G i→s.F i) {k:Nat} {args:List SV} {W:SH} {Pre:(Nat→Prop)→Array Obj→Prop} {X:Type} {J:X→(Nat→Prop)→Array Obj→Prop} {out:X→OutS} (C:FnX P g k args W Pre J out) (hpre:∀h,Up G s.h0 G h→Pre G h) (ren:List Nat)
  (hH:SubH (nthN ren) H W) (ha:SV.rens (nthN ren) args=first++(vs++captured))
  (hr:∀y G' h',Now s.F G s.h0 (fun i=>s.F i∨G' i) G' h'→J y G' h'→afterN ⟨s.c,fun i=>s.F i∨G' i,h',s.E0,s.n0⟩ ds k nx ren (restH (ownN (nthN ren) W) H) o.dst l (.ops all rest::kk) (out y))
  (hlen:ren.length=k:=by rfl) (hren:bdN nx ren=true:=by rfl) (hfr:fresh s.n0 nx l H ds=true:=by rfl) (hn:nodupH (nthN ren) W []=true:=by rfl)
  (hop:o.op=.call cl:=by rfl) (hcal:cl.callee=.value x:=by rfl) (hx:calleeS l x=some (g,first,captured):=by rfl) (hargs:evAll l cl.args.toList=some vs:=by rfl)
  (hgd:guardS l all o=some true:=by rfl) (hdn:dstOk s.c.n o.dst=true:=by rfl):RunsS s ds nx (.ops all (o::rest)::kk) l H:=by
 obtain ⟨f1,f2,f3,f4⟩:=fresh_of hfr
 refine RunsS.callE (R:=fun E h=>EndX k (fun b=>E (nthN ren b)) (keptF s.F E (restH (ownN (nthN ren) W) H)) G h J out) ?_ ?_ ?_ ?_ hop hcal hx hargs hgd hdn
 ·intro E h hA S K
  have:=C.call (fun b=>E (nthN ren b)) (keptF s.F E (restH (ownN (nthN ren) W) H)) G h (fun i hi=>.inl (hG i hi)) (fun i hi=>?_) (hpre h ⟨fun _ x=>x,fun i hi=>K.same i (hG i hi)⟩) (S.hand (nthN ren) hH hn)
  ·rw [←ha,SV.gs_ren];exact this
  rcases hi with hi|⟨q,hq,hw,hg⟩
  ·have:=K.lt i hi;have:=K.size;omega
  exact (Blk.lt (S.ok q ((restH_sub _ _).subset hq)) hw hg).1
 ·rintro E h h' ⟨y,E',_,_,_,_,_,_,he⟩
  cases ho:out y<;>rw [ho] at he<;>cases he
 ·rintro E h hA S K ch h' ⟨y,E',F',G',N,hJ,hA',S',he⟩
  obtain ⟨E'',a1,a2,a3,a4,a5⟩:=S.takeBackX K hG hlen hren f3 hA' N S'
  have hr:=hr y G' h' a5 hJ
  cases ho:out y with
  |ret v n H'=>rw [ho] at he;cases he
  |pan ch' n H'=>
   rw [ho] at he hr a3
   cases he
   have:=hr.run E'' h' (hA.trans (a1.mono f1)) a3 a4
   rw [gD_ag a1 ds f4,gF_ag a1 l f2] at this
   exact this
 rintro E h hA S K v h' ⟨y,E',F',G',N,hJ,hA',S',he⟩
 obtain ⟨E'',a1,a2,a3,a4,a5⟩:=S.takeBackX K hG hlen hren f3 hA' N S'
 have hr:=hr y G' h' a5 hJ
 cases ho:out y with
 |pan ch n H'=>rw [ho] at he;cases he
 |ret v' n H'=>
  rw [ho] at he hr a3
  cases he
  simp only [afterN,updK_eq] at hr
  have:=hr.run E'' h' (hA.trans (a1.mono f1)) a3 a4
  rw [gD_ag a1 ds f4,gF_updS,gF_ag a1 l f2,a2] at this
  exact this
end
end Go.Fw

namespace Go.Fw
open Go
variable {P:Program}
set_option maxHeartbeats 8000000
def MapGet (es:List (Value×Value)) (key:Value):Option Value→Prop
 |some v=>(∃p∈es,p.1=key) ∧ ∀p∈es,p.1=key→p.2=v
 |none=>∀p∈es,p.1≠key
theorem run_lookupM {w:World} {t kt et g clock:Nat} {d:TypeDesc} {en:Array MapEntry} {es:List (Value×Value)} {key z:Value} {r:Option Value} (ht:P.underlying t=some (.map kt et)) (hk:P.underlying kt=some d)
  (hb:w.heap[g]? = some (.map en clock)) (hes:en.toList.map (fun e=>(e.key,e.val))=es) (hks:∀p∈es,MapKept.IsKey d p.1) (hkey:MapKept.IsKey d key) (hg:MapGet es key r) (hz:(zeroValue et).run P w=.ok z w) (ok:Bool):
  (Instr.lookup t (.map (some g)) key ok).run P w=.ok (if ok then .tuple #[r.getD z,.bool r.isSome] else r.getD z) w:=by
 have hks':∀x∈en.toList,MapKept.IsKey d x.key:=fun x hx=>hks (x.key,x.val) (by rw [←hes];exact List.mem_map.2 ⟨x,hx,rfl⟩)
 have hck:=MapKept.run_checkKey (P:=P) (w:=w) hk hkey en.isEmpty 9999
 rcases MapKept.findNow_spec hkey en.toList 0 hks' with ⟨h1,h2⟩|⟨j,e,h1,h2,h3⟩
 ·have hr:r=none:=by
   cases r with
   |none=>rfl
   |some v=>
    obtain ⟨⟨p,hp,hp1⟩,_⟩:=hg
    rw [←hes] at hp
    obtain ⟨x,hx,rfl⟩:=List.mem_map.1 hp
    exact absurd hp1 (h2 x hx)
  subst hr
  have hf:=MapKept.run_findKey (P:=P) (w:=w) hk h1
  simp only [Instr.lookup,Sem.run_bind,run_underlying ht,Result.andThen_ok,MapKept.run_getObj_map hb,Sem.run_pure,hck,hf,hz,Option.getD_none,Option.isSome_none]
 have hm:(e.key,e.val)∈es:=by rw [←hes];exact List.mem_map.2 ⟨e,List.mem_of_getElem? h2,rfl⟩
 have hr:r=some e.val:=by
  cases r with
  |none=>exact absurd h3 (hg _ hm)
  |some v=>exact congrArg some (hg.2 _ hm h3).symm
 subst hr
 have hf:=MapKept.run_findKey (P:=P) (w:=w) hk h1
 simp only [Instr.lookup,Sem.run_bind,run_underlying ht,Result.andThen_ok,MapKept.run_getObj_map hb,Sem.run_pure,hck,hf,Option.getD_some,Option.isSome_some]
theorem run_insertM {w:World} {t kt et g clock:Nat} {d:TypeDesc} {en:Array MapEntry} {es:List (Value×Value)} {key val:Value} (ht:P.underlying t=some (.map kt et)) (hk:P.underlying kt=some d)
  (hb:w.heap[g]? = some (.map en clock)) (hes:en.toList.map (fun e=>(e.key,e.val))=es) (hks:∀p∈es,MapKept.IsKey d p.1) (hkey:MapKept.IsKey d key) (hg:MapGet es key none):
  (Instr.mapUpdate t (.map (some g)) key val).run P w=.ok () (w.putObj g (.map (en.push {key,val,born:=clock}) (clock+1))):=by
 have hks':∀x∈en.toList,MapKept.IsKey d x.key:=fun x hx=>hks (x.key,x.val) (by rw [←hes];exact List.mem_map.2 ⟨x,hx,rfl⟩)
 have hck:=MapKept.run_checkKey (P:=P) (w:=w) hk hkey false 9999
 have e2:∀o',(setObj g o').run P w=.ok () (w.putObj g o'):=fun o'=>by simp [setObj,Sem.run,hb,World.putObj]
 rcases MapKept.findNow_spec hkey en.toList 0 hks' with ⟨h1,h2⟩|⟨j,e,h1,h2,h3⟩
 ·have hf:=MapKept.run_findKey (P:=P) (w:=w) hk h1
  simp only [Instr.mapUpdate,Sem.run_bind,run_underlying ht,Result.andThen_ok,MapKept.run_getObj_map hb,hck,hf,e2]
 have hm:(e.key,e.val)∈es:=by rw [←hes];exact List.mem_map.2 ⟨e,List.mem_of_getElem? h2,rfl⟩
 exact absurd h3 (hg _ hm)
theorem Sat.mapAt {F:Nat→Prop} {H:SH} {E:Env} {h:Array Obj} (S:Sat E F H h) {b:Nat} {d:TypeDesc} {es:List (Value×Value)} (hl:lookH H b=some (.map d es)):∃g,E b=.map (some g)∧MapAt h g d es ∧ ¬F g:=S.ok _ (lookH_mem hl)
def MapF (G:Nat→Prop) (h:Array Obj) (v:Value) (d:TypeDesc) (es:List (Value×Value)):Prop:=∃g,v=.map (some g)∧G g∧MapAt h g d es
theorem MapF.up {G G':Nat→Prop} {h h':Array Obj} {v:Value} {d:TypeDesc} {es:List (Value×Value)} (U:Up G h G' h') (H:MapF G h v d es):MapF G' h' v d es:=by
 obtain ⟨g,h1,h2,h3⟩:=H
 exact ⟨g,h1,U.sub g h2,h3.same (U.same g h2)⟩
section
variable {n:Nat} {F:Nat→Prop} {h0:Array Obj} {nx:Nat} {l:SFr} {H:SH} {o:Oper} {t kt et:Nat} {d:TypeDesc} {es:List (Value×Value)} {key z:Value} {r:Option Value} {x y:Operand} {ok:Bool}
theorem effK_lookup {b:Nat} (ht:P.underlying t=some (.map kt et)) (hk:P.underlying kt=some d) (hz:∀w,(zeroValue et).run P w=.ok z w) (hb:lookH H b=some (.map d es)) (hg:MapGet es key r) (hkey:MapKept.IsKey d key)
  (hop:o.op=.lookup t x y ok) (hx:evS l x=some (.buf b)) (hy:evS l y=some (.v key)):EffK P n F h0 l H o (.v (if ok then .tuple #[r.getD z,.bool r.isSome] else r.getD z)) H:=
 EffK.of_eff (by simp [plainO,floatO,pureO,hop]) fun E h S K=>by
  obtain ⟨g,g1,⟨⟨en,clock,g2,g3⟩,g4⟩,_⟩:=S.mapAt hb
  refine Eff.of_value fun a w ha hh=>⟨_,w,?_,Like.refl w,rfl,hh▸S,hh▸K⟩
  have e1:=ha.ev (ev_gF (E:=E) hx)
  have e2:=ha.ev (ev_gF (E:=E) hy)
  simp only [SV.g] at e1 e2
  rw [g1] at e1
  simp [execOp,hop,e1,e2,SV.g,run_lookupM ht hk (by rw [hh];exact g2) g3 g4 hkey hg (hz w) ok]
theorem effK_lookupF {v:Value} (hv:MapF F h0 v d es) (ht:P.underlying t=some (.map kt et)) (hk:P.underlying kt=some d) (hz:∀w,(zeroValue et).run P w=.ok z w) (hg:MapGet es key r) (hkey:MapKept.IsKey d key)
  (hop:o.op=.lookup t x y ok) (hx:evS l x=some (.v v)) (hy:evS l y=some (.v key)):EffK P n F h0 l H o (.v (if ok then .tuple #[r.getD z,.bool r.isSome] else r.getD z)) H:=
 EffK.of_eff (by simp [plainO,floatO,pureO,hop]) fun E h S K=>by
  obtain ⟨g,g1,g5,⟨en,clock,g2,g3⟩,g4⟩:=hv
  refine Eff.of_value fun a w ha hh=>⟨_,w,?_,Like.refl w,rfl,hh▸S,hh▸K⟩
  have e1:=ha.ev (ev_gF (E:=E) hx)
  have e2:=ha.ev (ev_gF (E:=E) hy)
  simp only [SV.g] at e1 e2
  rw [g1] at e1
  simp [execOp,hop,e1,e2,SV.g,run_lookupM ht hk (by rw [hh,K.same g g5];exact g2) g3 g4 hkey hg (hz w) ok]
theorem effK_insert {b:Nat} {val:Value} {u:SV} (ht:P.underlying t=some (.map kt et)) (hk:P.underlying kt=some d) {m:Operand} (hb:lookH H b=some (.map d es)) (hg:MapGet es key none) (hkey:MapKept.IsKey d key)
  (hop:o.op=.insert t m x y∨o.op=.mapUpdate t m x y) (hm:evS l m=some (.buf b)) (hx:evS l x=some (.v key)) (hy:evS l y=some u) (hu:∀E,u.g E=val):EffK P n F h0 l H o (.v undef) (setH H b (.map d (es++[(key,val)]))):=
 EffK.of_eff (by rcases hop with hop|hop<;>simp [plainO,floatO,pureO,hop]) fun E h S K=>by
  obtain ⟨g,g1,⟨⟨en,clock,g2,g3⟩,g4⟩,g5⟩:=S.mapAt hb
  refine Eff.of_skip fun a w ha hh=>?_
  have e1:=ha.ev (ev_gF (E:=E) hm)
  have e2:=ha.ev (ev_gF (E:=E) hx)
  have e3:=ha.ev (ev_gF (E:=E) hy)
  simp only [SV.g,hu] at e1 e2 e3
  rw [g1] at e1
  have hb':w.heap[g]? = some (.map en clock):=by rw [hh];exact g2
  have hrun:=run_insertM (val:=val) ht hk hb' g3 g4 hkey hg
  refine ⟨w.putObj g (.map (en.push {key,val,born:=clock}) (clock+1)),by rcases hop with hop|hop<;>simp [execOp,hop,e1,e2,e3,hrun],⟨rfl,rfl,rfl⟩,rfl,?_⟩
  have hlt:g<h.size:=(Array.getElem?_eq_some_iff.1 g2).1
  have hh':(w.putObj g (.map (en.push {key,val,born:=clock}) (clock+1))).heap=h.setIfInBounds g (.map (en.push {key,val,born:=clock}) (clock+1)):=by simp [World.putObj,hh]
  rw [hh']
  have hsame:∀k,k≠g→(h.setIfInBounds g (.map (en.push {key,val,born:=clock}) (clock+1)))[k]? = h[k]? :=fun k hk=>by simp [Ne.symm hk]
  have hF:∀k,F k→(h.setIfInBounds g (.map (en.push {key,val,born:=clock}) (clock+1)))[k]? = h[k]? :=fun k hk=>hsame k (fun e=>g5 (e▸hk))
  have hy:(Blk.map d (es++[(key,val)])).ok E F (h.setIfInBounds g (.map (en.push {key,val,born:=clock}) (clock+1))) (E b):=by
   refine ⟨g,g1,⟨⟨_,_,by simp [hlt];exact ⟨rfl,rfl⟩,by simp [g3]⟩,fun p hp=>?_⟩,g5⟩
   rcases List.mem_append.1 hp with hp|hp
   ·exact g4 p hp
   rw [List.mem_singleton.1 hp];exact hkey
  exact ⟨Sat.set (x:=.map d es) rfl rfl hy hF (fun k hk=>.inl (hsame k (fun e=>hk (by rw [g1,e];rfl)))) S hb,⟨by simpa using K.size,fun k hk=>(hF k hk).trans (K.same k hk),K.lt⟩⟩
theorem effS_makeMap (d:TypeDesc) (hop:o.op=.makeMap t none) (hb:bdH nx H=true):EffS P n F h0 nx l H o (.buf nx) ((nx,.map d [])::H):=fun E h S K=>by
 refine Eff.of_value fun a w ha hh=>?_
 refine ⟨.map (some h.size),w.alloc (.map #[] 0),by simp [execOp,hop,Instr.makeMap,hh],⟨rfl,rfl,rfl⟩,push E nx (.map (some h.size)),push_ag E nx _,by simp [SV.g,push_at],?_⟩
 have hh':(w.alloc (.map #[] 0)).heap=h.push (.map #[] 0):=by simp [World.alloc,hh]
 rw [hh']
 obtain ⟨S',K'⟩:=S.pushB K (.map #[] 0)
 refine ⟨S'.add hb ⟨h.size,rfl,⟨⟨#[],0,by simp,rfl⟩,fun p hp=>by cases hp⟩,K.ge (Nat.le_refl _)⟩ (fun _ p hp hw g hg e=>?_),K'⟩
 have:=(Blk.lt (S.ok p hp) hw hg).1
 simp only [ownB,Option.some.injEq] at e
 omega
end
section
variable {s:SCx P} {ds:List SDef} {nx:Nat} {st:List SI} {l:SFr} {H:SH} {all:Array Oper} {rest:List Oper} {o:Oper} {t kt et:Nat} {d:TypeDesc} {es:List (Value×Value)} {key z:Value} {x y:Operand} {ok:Bool}
theorem RunsS.makeMap (d:TypeDesc) (hr:updK l o.dst (.buf nx) fun l=>RunsS s ds (nx+1) (.ops all rest::st) l ((nx,.map d [])::H)) (hop:o.op=.makeMap t none:=by rfl) (hfr:fresh s.n0 nx l H ds=true:=by rfl)
  (hgd:guardS l all o=some true:=by rfl) (hdn:dstOk s.c.n o.dst=true:=by rfl) (hnd:noDefer1 o=true:=by rfl):RunsS s ds nx (.ops all (o::rest)::st) l H:=by
 rw [updK_eq] at hr
 obtain ⟨f1,f2,f3,f4⟩:=fresh_of hfr
 exact RunsS.eff (effS_makeMap d hop f3) (fun E=>guardS_of hgd) hdn hnd f1 f2 f4 hr
theorem RunsS.lookup {b:Nat} (r:Option Value) (ht:P.underlying t=some (.map kt et)) (hk:P.underlying kt=some d) (hz:∀w,(zeroValue et).run P w=.ok z w) (hg:MapGet es key r)
  (hr:updK l o.dst (.v (if ok then .tuple #[r.getD z,.bool r.isSome] else r.getD z)) fun l=>RunsS s ds nx (.ops all rest::st) l H)
  (hop:o.op=.lookup t x y ok:=by rfl) (hx:evS l x=some (.buf b):=by rfl) (hy:evS l y=some (.v key):=by rfl) (hb:lookH H b=some (.map d es):=by rfl) (hkey:MapKept.IsKey d key:=by first|exact rfl|exact trivial)
  (hgd:guardS l all o=some true:=by rfl) (hdn:dstOk s.c.n o.dst=true:=by rfl) (hnd:noDefer1 o=true:=by rfl):RunsS s ds nx (.ops all (o::rest)::st) l H:=by
 rw [updK_eq] at hr
 exact RunsS.effK (effK_lookup ht hk hz hb hg hkey hop hx hy) (fun E=>guardS_of hgd) hdn hnd hr
theorem RunsS.lookupF {v:Value} (hv:MapF s.F s.h0 v d es) (r:Option Value) (ht:P.underlying t=some (.map kt et)) (hk:P.underlying kt=some d) (hz:∀w,(zeroValue et).run P w=.ok z w) (hg:MapGet es key r)
  (hr:updK l o.dst (.v (if ok then .tuple #[r.getD z,.bool r.isSome] else r.getD z)) fun l=>RunsS s ds nx (.ops all rest::st) l H)
  (hop:o.op=.lookup t x y ok:=by rfl) (hx:evS l x=some (.v v):=by rfl) (hy:evS l y=some (.v key):=by rfl) (hkey:MapKept.IsKey d key:=by first|exact rfl|exact trivial)
  (hgd:guardS l all o=some true:=by rfl) (hdn:dstOk s.c.n o.dst=true:=by rfl) (hnd:noDefer1 o=true:=by rfl):RunsS s ds nx (.ops all (o::rest)::st) l H:=by
 rw [updK_eq] at hr
 exact RunsS.effK (effK_lookupF hv ht hk hz hg hkey hop hx hy) (fun E=>guardS_of hgd) hdn hnd hr
theorem RunsS.insert {b:Nat} {val:Value} {u:SV} {m:Operand} (ht:P.underlying t=some (.map kt et)) (hk:P.underlying kt=some d) (hg:MapGet es key none) {es':List (Value×Value)} (he:es++[(key,val)]=es')
  (hr:setK H b (.map d es') fun H=>updK l o.dst (.v undef) fun l=>RunsS s ds nx (.ops all rest::st) l H)
  (hop:o.op=.insert t m x y∨o.op=.mapUpdate t m x y:=by first|exact .inl rfl|exact .inr rfl)
  (hm:evS l m=some (.buf b):=by rfl) (hx:evS l x=some (.v key):=by rfl) (hy:evS l y=some u:=by rfl) (hb:lookH H b=some (.map d es):=by rfl) (hkey:MapKept.IsKey d key:=by first|exact rfl|exact trivial) (hu:∀E,u.g E=val:=by exact fun _=>rfl)
  (hgd:guardS l all o=some true:=by rfl) (hdn:dstOk s.c.n o.dst=true:=by rfl) (hnd:noDefer1 o=true:=by rfl):RunsS s ds nx (.ops all (o::rest)::st) l H:=by
 subst he
 rw [setK_eq,updK_eq] at hr
 exact RunsS.effK (effK_insert ht hk hb hg hkey hop hm hx hy hu) (fun E=>guardS_of hgd) hdn hnd hr
end
section
variable {s:SCx P} {ds:List SDef} {nx:Nat} {st:List SI} {l:SFr} {H:SH} {all:List Oper} {o:Oper} {t kt et:Nat} {d:TypeDesc} {es:List (Value×Value)} {key z:Value} {x y:Operand} {ok:Bool}
variable {k:Nat} {keep:List Nat} {tr:Tr} {taken:List Nat} {ps:List (Nat×SPin)}
theorem EffR.rput (T:Tab P) {b e sz:Nat} {rows:List (List Value)} {i:Int} {off:Nat} {vals:List Value} (row:List Value) (hrow:rows[i.toNat]? = some row)
  (hr:setK H b (.own e sz (rows.set i.toNat (splV row off vals))) fun H=>pinsIn H keep ps∧updK l o.dst (.v undef) fun l=>RunsR s ds all st tr taken ps nx l H)
  (ho:all[k]? = some o:=by rfl) (hev:evO T l H nx o.op=.rput b e sz rows i off vals:=by rfl) (hgd:guardS l all.toArray o=some true:=by rfl) (hdn:dstOk s.c.n o.dst=true:=by rfl) (hf:floatO o=false:=by rfl):EffR s ds all st k keep tr taken ps nx l H:=by
 have hk:=evO_ok (P:=P) (n:=s.c.n) (F:=s.F) (h0:=s.h0) (nx:=nx) (l:=l) (H:=H) (o:=o) T o.op rfl
 rw [hev] at hk
 rw [setK_eq,updK_eq] at hr
 exact EffR.ofK ho hf hdn hgd (hk row hrow) hr.1 hr.2
end
end Go.Fw

namespace Go.Fw
open Go
variable {P:Program}
set_option maxHeartbeats 8000000
section
variable {s:SCx P} {ds:List SDef} {nx:Nat} {st:List SI} {l:SFr} {H:SH} {all:Array Oper} {rest:List Oper} {o:Oper}
theorem RunsS.isNil (T:Tab P) {k b sz:Nat} {rows:List (List Value)} (hr1:rows=[]→updK l o.dst (.v (.bool true)) fun l=>RunsS s ds nx (.ops all rest::st) l H) (hr0:updK l o.dst (.v (.bool false)) fun l=>RunsS s ds nx (.ops all rest::st) l H)
  (hx:lookS l k=some (.buf b)) (hev:∀a n c,ev1 T [(k,.slice a n c)] o.op=.val (.bool a.isNone):=by exact fun a _ _=>by cases a<;>rfl) (hb:lookH H b=some (.ro sz rows):=by rfl)
  (hgd:guardS l all o=some true:=by rfl) (hdn:dstOk s.c.n o.dst=true:=by rfl) (hnd:noDefer1 o=true:=by rfl):RunsS s ds nx (.ops all (o::rest)::st) l H:=.mk fun E h hA S K=>by
 rw [updK_eq] at hr1 hr0
 obtain ⟨g1,g2,ad,cap,g3,g4⟩:=S.ok _ (lookH_mem hb)
 simp only at g3
 have hl:look (gF E l) k=some (.slice ad rows.length cap):=by rw [look_gF_of hx];simp only [SV.g];rw [g3]
 have key:Eff P s.c.n (gF E l) h o (fun v h'=>v=.bool ad.isNone∧h'=h):=Eff.of_value fun a w ha hh=>by
  refine ⟨.bool ad.isNone,w,?_,Like.refl w,rfl,hh⟩
  have:=ev1_ok T s.c.n [(k,.slice ad rows.length cap)] o.op a w o (ha.sub ⟨hl,trivial⟩) rfl
  rw [hev] at this
  exact this
 refine Runs.eff key (fun v h' ⟨e1,e2⟩=>?_) (guardS_of hgd) hdn hnd
 subst e1 e2
 cases ad with
 |none=>
  have hn:rows=[]:=by
   rcases g4 with g4|⟨g,o,g4,_⟩
   ·exact g4
   cases g4
  have:=(hr1 hn).run E h' hA S K
  rw [gF_updS] at this
  exact this
 |some _=>
  have:=hr0.run E h' hA S K
  rw [gF_updS] at this
  exact this
theorem RunsS.build0 {t:TypeId} {parts:Array (Nat×Operand)} (hr:updK l o.dst (.agg []) fun l=>RunsS s ds nx (.ops all rest::st) l H) (hop:o.op=.build t parts:=by rfl) (hp:partsS l parts.toList=some []:=by rfl) (hb:P.built t []=some #[]:=by rfl)
  (hgd:guardS l all o=some true:=by rfl) (hdn:dstOk s.c.n o.dst=true:=by rfl) (hnd:noDefer1 o=true:=by rfl):RunsS s ds nx (.ops all (o::rest)::st) l H:=by
 rw [updK_eq] at hr
 exact RunsS.effK (okS_build (ps:=[]) (cs:=[]) hop hp (fun _ _ _=>hb)) (fun E=>guardS_of hgd) hdn hnd hr
theorem RunsS.iface0 {t:TypeId} {x:Operand} {y:SV} {fs:Array Field} (hr:updK l o.dst (.ifc t y) fun l=>RunsS s ds nx (.ops all rest::st) l H) (hu:P.underlying t=some (.struct fs)) (hop:o.op=.makeInterface t x:=by rfl) (hx:evS l x=some y:=by rfl)
  (hgd:guardS l all o=some true:=by rfl) (hdn:dstOk s.c.n o.dst=true:=by rfl) (hnd:noDefer1 o=true:=by rfl):RunsS s ds nx (.ops all (o::rest)::st) l H:=by
 rw [updK_eq] at hr
 refine RunsS.effK (EffK.of_plain fun E h S K a w ha=>?_) (fun E=>guardS_of hgd) hdn hnd hr
 have h1:=ha.ev (ev_gF (E:=E) hx)
 simp [execOp,hop,h1,Instr.makeInterface,SV.g,run_underlying hu]
theorem RunsS.mapEq {d:TypeDesc} {es es':List (Value×Value)} (b:Nat) (he:es=es') (hr:setK H b (.map d es') fun H=>RunsS s ds nx st l H) (hl:lookH H b=some (.map d es):=by rfl):RunsS s ds nx st l H:=by
 subst he
 rw [setK_eq,setH_same hl] at hr
 exact hr
theorem RunsS.concM {G:Nat→Prop} (hG:∀i,G i→s.F i) (b:Nat) {d:TypeDesc} {es:List (Value×Value)}
  (hr:∀(r:Nat) (G':Nat→Prop) (h':Array Obj),Now s.F G s.h0 (fun i=>s.F i∨G' i) G' h'→MapF G' h' (.map (some r)) d es →
   instFK b (.map (some r)) l fun l=>remK H b fun H=>instHK b (.map (some r)) H fun H=>RunsS ⟨s.c,fun i=>s.F i∨G' i,h',s.E0,s.n0⟩ ds nx st l H)
  (hb:lookH H b=some (.map d es):=by rfl) (hn:nodupH (rn []) H []=true:=by rfl) (hds:∀v,instDs b v ds=ds:=by exact fun _=>rfl):RunsS s ds nx st l H:=.mk fun E h hA S K=>by
 have hmem:=lookH_mem hb
 obtain ⟨r,g2,g3,g4⟩:=S.mapAt hb
 have hbo:=S.ok _ hmem
 have hlt:∀k,ownB (E b)=some k→k<h.size ∧ ¬s.F k:=fun k hk=>Blk.lt hbo rfl hk
 have N:Now s.F G s.h0 (fun i=>s.F i∨(G i∨ownB (E b)=some i)) (fun i=>G i∨ownB (E b)=some i) h:=
  ⟨fun hf K'=>K.trans ⟨K'.size,fun i hi=>K'.same i (.inl hi),fun i hi=>K'.lt i (.inl hi)⟩,fun i hi=>.inl hi,fun i hi=>.inr hi,
   fun i hi=>hi.elim (fun hi=>Nat.lt_of_lt_of_le (K.lt i hi) K.size) (fun hi=>hi.elim (fun hi=>Nat.lt_of_lt_of_le (K.lt i (hG i hi)) K.size) (fun hi=>(hlt i hi).1)),
   fun i hi=>.inl hi,fun i hi=>hi.elim .inl (fun hi=>.inr (hlt i hi).2)⟩
 have R:MapF (fun i=>G i∨ownB (E b)=some i) h (.map (some r)) d es:=⟨r,rfl,.inr (by rw [g2];rfl),g3⟩
 have hr:=hr r _ h N R
 rw [instFK_eq,remK_eq,instHK_eq] at hr
 have hpush:push E b (.map (some r))=E:=by rw [←g2];exact push_self E b
 have S':Sat E (fun i=>s.F i∨(G i∨ownB (E b)=some i)) (instH b (.map (some r)) (remH H b)) h:=by
  refine ⟨fun p hp=>?_,?_⟩
  ·rw [instH_map] at hp
   obtain ⟨q,hq,rfl⟩:=List.mem_map.1 hp
   have hq1:=(remH_sub H b).subset hq
   have hq2:=remH_ne hq
   refine instB_mk ?_
   rw [hpush]
   refine Blk.more (S.ok q hq1) (fun i hi=>.inl hi) fun hw g hg hF=>?_
   have h1:=(Blk.lt (S.ok q hq1) hw hg).2
   rcases hF with hF|hF|hF
   ·exact h1 hF
   ·exact h1 (hG _ hF)
   exact apart_of S.apart hq1 hmem hq2 hw rfl g hg hF
  rw [instH_map,List.pairwise_map]
  refine List.Pairwise.imp (fun {p q} hA=>?_) (S.apart.sublist (remH_sub H b))
  intro hw1 hw2 g e1 e2
  exact hA (by rw [←wr_inst b (.map (some r))];exact hw1) (by rw [←wr_inst b (.map (some r))];exact hw2) g e1 e2
 have:=hr.run E h hA S' ⟨Nat.le_refl _,fun _ _=>rfl,N.lt⟩
 rw [gF_inst,hpush] at this
 exact this
end
end Go.Fw

namespace Go.Fw
open Go
variable {P:Program}
set_option maxHeartbeats 8000000
theorem SPin.at_conv {F F':Nat→Prop} {h0 h0':Array Obj} (conv:∀hf,Kp F' h0' hf→Kp F h0 hf) {E:Env} {h:Array Obj} {p:SPin} (H:p.at F' h0' E h):p.at F h0 E h:=by
 cases p with
 |cell=>exact H
 |cells=>exact H
 |rws=>exact H
 |none=>exact conv _ H
theorem PinR.conv {F F':Nat→Prop} {h0 h0':Array Obj} (conv:∀hf,Kp F' h0' hf→Kp F h0 hf) {E:Env} {taken:List Nat} {ps:List (Nat×SPin)} {G:PinL} (R:PinR F h0 E taken ps G):PinR F' h0' E taken ps G:=
 ⟨fun q hq=>(R.full q hq).imp id fun ⟨h1,p,h2,h3⟩=>⟨h1,p,h2,fun w hw=>h3 w (SPin.at_conv conv hw)⟩,R.tk⟩
section
variable {s:SCx P} {ds:List SDef} {all:List Oper} {st:List SI} {t:Tr} {taken:List Nat} {ps:List (Nat×SPin)} {nx kk:Nat} {keep:List Nat} {l:SFr} {H:SH} {o:Oper} {cl:Call} {x:Operand} {g:FuncId} {first captured vs:List SV}
theorem EffR.ofB {k:Nat} (ho:all[k]? = some o) (hf:floatO o=false) (hdst:dstOk s.c.n o.dst=true)
  {V:Env→Array Obj→Value→Array Obj→Prop} {PN:Env→Array Obj→List PanicEntry→Array Obj→Prop} (hgd:guardS l all.toArray o=some true)
  (hE:∀E h,Ag s.n0 s.E0 E→Sat E s.F H h→Kp s.F s.h0 h→EffP P s.c.n (gF E l) h o (V E h) (PN E h))
  (hpan:∀E h,Ag s.n0 s.E0 E→Sat E s.F H h→Kp s.F s.h0 h → ∀ch h',PN E h ch h'→Unw s.c (gD E ds) (.panicking ch) (cutF (dsts all) (gF E l)) h')
  (hr:∀E h,Ag s.n0 s.E0 E→Sat E s.F H h→Kp s.F s.h0 h → ∀v h',V E h v h' → ∃(F':Nat→Prop) (hb:Array Obj) (E':Env) (nx':Nat) (l':SFr) (H':SH),(∀hf,Kp F' hb hf→Kp s.F s.h0 hf)∧Ag nx E E'∧s.n0≤nx∧bdPs nx ps=true∧gD E' ds=gD E ds∧gF E' l'=upd (gF E l) o.dst v∧Sat E' F' H' h'∧Kp F' hb h'∧pinsIn H' keep ps∧RunsR ⟨s.c,F',hb,s.E0,s.n0⟩ ds all st t taken ps nx' l' H'):
  EffR s ds all st k keep t taken ps nx l H:=by
 refine ⟨fun E h hA S K Q D hD hN hP G hG hk f listed hc a w ha hd hh hw=>?_⟩
 have hfa:floatAt all.toArray k=false:=by
  have ho':all.toArray[k]? = some o:=by simpa using ho
  unfold floatAt;rw [ho'];exact hf
 refine ⟨hfa,?_⟩
 have hwn:=wanted_of ha (guardS_of hgd)
 have ho':all.toArray[k]? = some o:=by simpa using ho
 unfold wpOp
 simp only [ho',hwn,if_true]
 refine .inl (hE E h hA S K a w ha hh _ _ (fun v w' hlk hV=>?_) fun ch w' hlk hPN=>hP (gF E l) ch w'.heap a w' (hD▸hpan E h hA S K ch _ hPN) ha hd rfl (hw.trans hlk))
 obtain ⟨F',hb,E',nx',l',H',conv,hag,hn,hbp,hgD,hgF,S',K',hpi,hrr⟩:=hr E h hA S K v _ hV
 have hG':=(hG.ag hag hbp).conv conv
 refine ⟨fun q hq=>?_,hrr.run E' w'.heap (hA.trans (hag.mono hn)) S' K' Q D (hgD.trans hD) hN hP G hG' f _ hc (a.put o.dst v) w' (by rw [hgF];exact holds_upd ha (dstOk_lt hdst) v) (by cases o.dst<;>simpa [Act.put] using hd) rfl (hw.trans hlk)⟩
 rcases hG'.full q hq with h1|⟨h1,p,h2,h3⟩
 ·exact .inr (h1 w')
 have:=List.all_eq_true.1 hk q.1 h1
 simp only [Bool.or_eq_true,memN_iff] at this
 rcases this with h4|h4
 ·exact .inr (h3 w' (SPin.at_of S' K' (pinsIn_mem hpi q.1 p h2 h4)))
 exact .inl (by simpa using h4)
theorem EffR.callX {G:Nat→Prop} (hG:∀i,G i→s.F i) {k:Nat} {args:List SV} {W:SH} {Pre:(Nat→Prop)→Array Obj→Prop} {X:Type} {J:X→(Nat→Prop)→Array Obj→Prop} {out:X→OutS} (C:FnX P g k args W Pre J out) (hpre:∀h,Up G s.h0 G h→Pre G h) (ren:List Nat)
  (hH:SubH (nthN ren) H W) (ha:SV.rens (nthN ren) args=first++(vs++captured))
  (hr:∀y G' h',Now s.F G s.h0 (fun i=>s.F i∨G' i) G' h'→J y G' h'→afterNR ⟨s.c,fun i=>s.F i∨G' i,h',s.E0,s.n0⟩ ds all st t taken ps keep k nx ren (restH (ownN (nthN ren) W) H) o.dst l (out y))
  (hlen:ren.length=k:=by rfl) (hren:bdN nx ren=true:=by rfl) (hfr:fresh s.n0 nx l H ds=true:=by rfl) (hn:nodupH (nthN ren) W []=true:=by rfl) (hps:bdPs nx ps=true:=by rfl)
  (ho:all[kk]? = some o:=by rfl) (hop:o.op=.call cl:=by rfl) (hcal:cl.callee=.value x:=by rfl) (hx:calleeS l x=some (g,first,captured):=by rfl) (hargs:evAll l cl.args.toList=some vs:=by rfl)
  (hgd:guardS l all.toArray o=some true:=by rfl) (hdn:dstOk s.c.n o.dst=true:=by rfl):EffR s ds all st kk keep t taken ps nx l H:=by
 obtain ⟨f1,f2,f3,f4⟩:=fresh_of hfr
 refine EffR.ofB ho (floatO_call hop hcal) hdn hgd (V:=fun E h v h'=>EndX k (fun b=>E (nthN ren b)) (keptF s.F E (restH (ownN (nthN ren) W) H)) G h J out (.returned v) h')
  (PN:=fun E h ch h'=>EndX k (fun b=>E (nthN ren b)) (keptF s.F E (restH (ownN (nthN ren) W) H)) G h J out (.panicked ch) h') ?_ ?_ ?_
 ·intro E h hA S K
  have:=C.call (fun b=>E (nthN ren b)) (keptF s.F E (restH (ownN (nthN ren) W) H)) G h (fun i hi=>.inl (hG i hi)) (fun i hi=>by
   rcases hi with hi|⟨q,hq,hw,hg⟩
   ·have:=K.lt i hi;have:=K.size;omega
   exact (Blk.lt (S.ok q ((restH_sub _ _).subset hq)) hw hg).1) (hpre h ⟨fun _ x=>x,fun i hi=>K.same i (hG i hi)⟩) (S.hand (nthN ren) hH hn)
  rw [←SV.gs_ren,ha] at this
  refine EffP.callE (first:=(SV.gs E first).toArray) (captured:=(SV.gs E captured).toArray) (vs:=SV.gs E vs) (by rw [args_eq];exact this) ?_ hop hcal (calleeS_of hx) (allEv_gF hargs)
  rintro h' ⟨y,E',_,_,_,_,_,_,he⟩
  cases ho:out y<;>rw [ho] at he<;>cases he
 ·rintro E h hA S K ch h' ⟨y,E',F',G',N,hJ,hA',S',he⟩
  obtain ⟨E'',a1,a2,a3,a4,a5⟩:=S.takeBackX K hG hlen hren f3 hA' N S'
  have hr:=hr y G' h' a5 hJ
  cases ho:out y with
  |ret v n H'=>rw [ho] at he;cases he
  |pan ch' n H'=>
   rw [ho] at he hr a3
   cases he
   have:=hr.run E'' h' (hA.trans (a1.mono f1)) a3 a4
   rw [gD_ag a1 ds f4,gF_cutS,gF_ag a1 l f2] at this
   exact this
 rintro E h hA S K v h' ⟨y,E',F',G',N,hJ,hA',S',he⟩
 obtain ⟨E'',a1,a2,a3,a4,a5⟩:=S.takeBackX K hG hlen hren f3 hA' N S'
 have hr:=hr y G' h' a5 hJ
 cases ho:out y with
 |pan ch n H'=>rw [ho] at he;cases he
 |ret v' n H'=>
  rw [ho] at he hr a3
  cases he
  simp only [afterNR,updK_eq] at hr
  exact ⟨_,_,E'',_,_,_,a5.conv,a1,f1,hps,gD_ag a1 ds f4,by rw [gF_updS,gF_ag a1 l f2,a2],a3,a4,hr.1,hr.2⟩
end
end Go.Fw

namespace Go.Fw
open Go
variable {P:Program}
set_option maxHeartbeats 8000000
theorem flat_single {α:Type}:∀l:List α,(l.map fun m=>[m]).flatten=l
 | []=>rfl
 |a::l=>congrArg (a :: ·) (flat_single l)
theorem gs_toV' (E:Env) (vs:List Value):SV.gs E (vs.map SV.v)=vs:=by
 induction vs with
 |nil=>rfl
 |cons v vs ih=>simp only [List.map_cons,SV.gs,SV.g,ih]
section
variable {s:SCx P} {ds:List SDef} {nx:Nat} {st:List SI} {l:SFr} {H:SH} {all:Array Oper} {rest:List Oper} {o:Oper}
theorem RunsS.concA {G:Nat→Prop} (hG:∀i,G i→s.F i) (b:Nat) {t:TypeId} {vs:List Value} {n:Nat} (h1:∀v∈vs,v.oneCell'=true)
  (hr:∀(g:Nat) (G':Nat→Prop) (h':Array Obj),Now s.F G s.h0 (fun i=>s.F i∨G' i) G' h'→RoF G' h' (.slice (some ⟨g,0,none⟩) n n) 1 (vs.map fun m=>[m]) →
   instFK b (.pointer (some ⟨g,0,none⟩)) l fun l=>remK H b fun H=>instHK b (.pointer (some ⟨g,0,none⟩)) H fun H=>RunsS ⟨s.c,fun i=>s.F i∨G' i,h',s.E0,s.n0⟩ ds nx st l H)
  (hb:lookH H b=some (.cells t (vs.map SV.v)):=by rfl) (hlen:vs.length=n:=by rfl) (hsm:n≤9223372036854775807:=by decide) (hn:nodupH (rn []) H []=true:=by rfl) (hds:∀v,instDs b v ds=ds:=by exact fun _=>rfl):RunsS s ds nx st l H:=.mk fun E h hA S K=>by
 subst hlen
 have hmem:=lookH_mem hb
 have hbo:=S.ok _ hmem
 have hlt:∀k,ownB (E b)=some k→k<h.size ∧ ¬s.F k:=fun k hk=>Blk.lt hbo rfl hk
 obtain ⟨g,g2,g3,g4⟩:=hbo
 have N:Now s.F G s.h0 (fun i=>s.F i∨(G i∨ownB (E b)=some i)) (fun i=>G i∨ownB (E b)=some i) h:=
  ⟨fun hf K'=>K.trans ⟨K'.size,fun i hi=>K'.same i (.inl hi),fun i hi=>K'.lt i (.inl hi)⟩,fun i hi=>.inl hi,fun i hi=>.inr hi,
   fun i hi=>hi.elim (fun hi=>Nat.lt_of_lt_of_le (K.lt i hi) K.size) (fun hi=>hi.elim (fun hi=>Nat.lt_of_lt_of_le (K.lt i (hG i hi)) K.size) (fun hi=>(hlt i hi).1)),
   fun i hi=>.inl hi,fun i hi=>hi.elim .inl (fun hi=>.inr (hlt i hi).2)⟩
 simp only at g2
 have R:RoF (fun i=>G i∨ownB (E b)=some i) h (.slice (some ⟨g,0,none⟩) vs.length vs.length) 1 (vs.map fun m=>[m]):=by
  refine ⟨fun r hr=>?_,⟨by rw [List.length_map];exact hsm,Nat.le_refl _⟩,some ⟨g,0,none⟩,vs.length,by rw [List.length_map],.inr ⟨g,0,rfl,.inr (by rw [g2];rfl),fun j v hj=>?_⟩⟩
  ·obtain ⟨m,hm,rfl⟩:=List.mem_map.1 hr;exact ⟨rfl,fun u hu=>by rw [List.mem_singleton.1 hu];exact h1 m hm⟩
  rw [flat_single] at hj
  rw [At.cell g3,gs_toV',Nat.zero_add]
  rw [List.getElem?_toArray]
  exact hj
 have hr:=hr g _ h N R
 rw [instFK_eq,remK_eq,instHK_eq] at hr
 have hpush:push E b (.pointer (some ⟨g,0,none⟩))=E:=by rw [←g2];exact push_self E b
 have S':Sat E (fun i=>s.F i∨(G i∨ownB (E b)=some i)) (instH b (.pointer (some ⟨g,0,none⟩)) (remH H b)) h:=by
  refine ⟨fun p hp=>?_,?_⟩
  ·rw [instH_map] at hp
   obtain ⟨q,hq,rfl⟩:=List.mem_map.1 hp
   have hq1:=(remH_sub H b).subset hq
   have hq2:=remH_ne hq
   refine instB_mk ?_
   rw [hpush]
   refine Blk.more (S.ok q hq1) (fun i hi=>.inl hi) fun hw g hg hF=>?_
   have h1:=(Blk.lt (S.ok q hq1) hw hg).2
   rcases hF with hF|hF|hF
   ·exact h1 hF
   ·exact h1 (hG _ hF)
   exact apart_of S.apart hq1 hmem hq2 hw rfl g hg hF
  rw [instH_map,List.pairwise_map]
  refine List.Pairwise.imp (fun {p q} hA=>?_) (S.apart.sublist (remH_sub H b))
  intro hw1 hw2 g e1 e2
  exact hA (by rw [←wr_inst b (.pointer (some ⟨_,0,none⟩))];exact hw1) (by rw [←wr_inst b (.pointer (some ⟨_,0,none⟩))];exact hw2) g e1 e2
 have:=hr.run E h hA S' ⟨Nat.le_refl _,fun _ _=>rfl,N.lt⟩
 rw [gF_inst,hpush] at this
 exact this
theorem RunsS.sliceArr {t e sz:Nat} {x:Operand} {g n:Nat} (hr:updK l o.dst (.v (.slice (some ⟨g,0,none⟩) n n)) fun l=>RunsS s ds nx (.ops all rest::st) l H) (hu:P.underlying t=some (.array n e)) (hs:(P.info? e).map (·.size)=some sz) (hpos:n≠0)
  (hop:o.op=.slice t x none none none:=by rfl) (hx:evS l x=some (.v (.pointer (some ⟨g,0,none⟩))):=by rfl)
  (hgd:guardS l all o=some true:=by rfl) (hdn:dstOk s.c.n o.dst=true:=by rfl) (hnd:noDefer1 o=true:=by rfl):RunsS s ds nx (.ops all (o::rest)::st) l H:=by
 rw [updK_eq] at hr
 refine RunsS.effK (EffK.of_plain fun E h S K b w ha=>?_) (fun E=>guardS_of hgd) hdn hnd hr
 have h1:=ha.ev (ev_gF (E:=E) hx)
 simp only [SV.g] at h1
 simp [execOp,hop,h1,Instr.sliceAt,run_underlying hu,Instr.sureAddr,Instr.sliceBounds,run_sizeOf hs,hpos,SV.g,add_none]
end
end Go.Fw

namespace Go.Fw
open Go
variable {P:Program}
set_option maxHeartbeats 8000000
end Go.Fw

namespace Go.Fw
open Go
variable {P:Program}
set_option maxHeartbeats 8000000
section
variable {cc:Ctx P} {F:Nat→Prop} {h0:Array Obj} {E0:Env} {n0:Nat} {ds:List SDef} {nx:Nat} {st:List SI} {l:SFr} {H:SH}
theorem RunsS.concY {G:Nat→Prop} (hG:∀i,G i→F i) (b:Nat) {e sz:Nat} {rows:List (List Value)} {n:Nat}
  (hr:∀(F':Nat→Prop) (a:Option Addr) (c:Nat) (G':Nat→Prop) (h':Array Obj),Now F G h0 F' G' h'→RoF G' h' (.slice a n c) sz rows →
   instFK b (.slice a n c) l fun l=>remK H b fun H=>instHK b (.slice a n c) H fun H=>RunsS ⟨cc,F',h',E0,n0⟩ ds nx st l H)
  (hb:lookH H b=some (.own e sz rows):=by rfl) (hlen:rows.length=n:=by rfl) (hn:nodupH (rn []) H []=true:=by rfl) (hds:∀v,instDs b v ds=ds:=by exact fun _=>rfl):RunsS ⟨cc,F,h0,E0,n0⟩ ds nx st l H:=
 RunsS.conc hG b (fun a c G' h' N R=>hr _ a c G' h' N R) hb hlen hn hds
variable {all:Array Oper} {rest:List Oper} {o:Oper} {cl:Call} {x:Operand} {g:FuncId} {first captured vs:List SV}
theorem RunsS.callY {G:Nat→Prop} (hG:∀i,G i→F i) {k:Nat} {args:List SV} {W:SH} {Pre:(Nat→Prop)→Array Obj→Prop} {X:Type} {J:X→(Nat→Prop)→Array Obj→Prop} {out:X→OutS} (C:FnX P g k args W Pre J out) (hpre:∀h,Up G h0 G h→Pre G h) (ren:List Nat)
  (hH:SubH (nthN ren) H W) (ha:SV.rens (nthN ren) args=first++(vs++captured))
  (hr:∀F' y G' h',Now F G h0 F' G' h'→J y G' h'→afterN ⟨cc,F',h',E0,n0⟩ ds k nx ren (restH (ownN (nthN ren) W) H) o.dst l (.ops all rest::st) (out y))
  (hlen:ren.length=k:=by rfl) (hren:bdN nx ren=true:=by rfl) (hfr:fresh n0 nx l H ds=true:=by rfl) (hn:nodupH (nthN ren) W []=true:=by rfl)
  (hop:o.op=.call cl:=by rfl) (hcal:cl.callee=.value x:=by rfl) (hx:calleeS l x=some (g,first,captured):=by rfl) (hargs:evAll l cl.args.toList=some vs:=by rfl)
  (hgd:guardS l all o=some true:=by rfl) (hdn:dstOk cc.n o.dst=true:=by rfl):RunsS ⟨cc,F,h0,E0,n0⟩ ds nx (.ops all (o::rest)::st) l H:=
 RunsS.callX hG C hpre ren hH ha (fun y G' h' N J=>hr _ y G' h' N J) hlen hren hfr hn hop hcal hx hargs hgd hdn
end
end Go.Fw

namespace Go.Fw
open Go
variable {P:Program}
set_option maxHeartbeats 8000000
theorem RoF.up' {F:Nat→Prop} {h0 h:Array Obj} {v:Value} {sz:Nat} {rows:List (List Value)} (H:RoF F h v sz rows) (K:Kp F h0 h):RoF F h0 v sz rows:=
 RoF.up ⟨fun _ x=>x,fun i hi=>(K.same i hi).symm⟩ H
section
variable {s:SCx P} {ds:List SDef} {nx:Nat} {st:List SI} {l:SFr} {H:SH}
theorem RunsS.unro (b:Nat) {sz:Nat} {rows:List (List Value)} (hr:∀v,RoF s.F s.h0 v sz rows→instFK b v l fun l=>remK H b fun H=>instHK b v H fun H=>RunsS s ds nx st l H)
  (hb:lookH H b=some (.ro sz rows):=by rfl):RunsS s ds nx st l H:=.mk fun E h hA S K=>by
 have hbo:RoF s.F h (E b) sz rows:=S.ok _ (lookH_mem hb)
 have hr:=hr (E b) (hbo.up' K)
 rw [instFK_eq,remK_eq,instHK_eq] at hr
 have hpush:push E b (E b)=E:=push_self E b
 have S':Sat E s.F (instH b (E b) (remH H b)) h:=by
  refine ⟨fun p hp=>?_,?_⟩
  ·rw [instH_map] at hp
   obtain ⟨q,hq,rfl⟩:=List.mem_map.1 hp
   refine instB_mk ?_
   rw [hpush]
   exact S.ok q ((remH_sub H b).subset hq)
  rw [instH_map,List.pairwise_map]
  refine List.Pairwise.imp (fun {p q} hA=>?_) (S.apart.sublist (remH_sub H b))
  intro hw1 hw2 g e1 e2
  exact hA (by rw [←wr_inst b (E b)];exact hw1) (by rw [←wr_inst b (E b)];exact hw2) g e1 e2
 have:=hr.run E h hA S' K
 rw [gF_inst,hpush] at this
 exact this
end
end Go.Fw

namespace Go.Proofs.YtofjdbmcloemnaaGreatDoor
open Go Go.Fw
set_option maxRecDepth 100000
def tabU:List (Nat×UD):=[(1,.func),
(2,.int .i64),
(3,.int .i64),
(4,.bool),
(5,.int .u8),
(6,.int .u8),
(7,.struct [(0,1,false),(1,1,false),(2,1,false),(3,1,false)]),
(8,.struct [(0,1,false),(1,1,false),(2,1,false),(3,1,false)]),
(9,.str),
(10,.str),
(11,.str),
(12,.int .u64),
(13,.struct [(0,1,false),(1,1,false)]),
(14,.struct [(0,1,false),(1,1,false)]),
(15,.ptr),
(16,.ptr),
(17,.ptr),
(18,.struct [(0,1,false)]),
(19,.struct [(0,1,false)]),
(20,.iface),
(22,.slice 59 8),
(23,.slice 41 6),
(24,.slice 9 1),
(25,.slice 43 4),
(26,.slice 61 2),
(27,.slice 45 1),
(28,.slice 49 17),
(29,.slice 54 4),
(30,.struct [(0,1,false),(1,1,false),(2,1,false),(3,1,false),(4,1,false),(5,1,false),(6,1,false),(7,1,false)]),
(31,.struct [(0,1,false),(1,1,false),(2,1,false),(3,1,false),(4,1,false),(5,1,false),(6,1,false),(7,1,false)]),
(34,.int .i64),
(39,.func),
(41,.struct [(0,1,false),(1,1,false),(2,1,false),(3,1,false),(4,1,false),(5,1,false)]),
(43,.struct [(0,1,false),(1,1,false),(2,1,false),(3,1,false)]),
(45,.slice 64 4),
(46,.slice 71 7),
(47,.slice 52 3),
(49,.struct [(0,1,false),(1,1,false),(2,1,false),(3,1,false),(4,1,false),(5,1,false),(6,1,false),(7,1,false),(8,1,false),(9,1,false),(10,1,false),(11,1,false),(12,1,false),(13,1,false),(14,1,false),(15,1,false),(16,1,false)]),
(52,.struct [(0,1,false),(1,1,false),(2,1,false)]),
(54,.struct [(0,1,false),(1,1,false),(2,1,false),(3,1,false)]),
(56,.struct [(0,1,false),(1,1,false),(2,1,false)]),
(57,.struct [(0,1,false),(1,1,false),(2,1,false)]),
(59,.struct [(0,1,false),(1,1,false),(2,1,false),(3,1,false),(4,1,false),(5,3,true)]),
(60,.struct [(0,1,false),(1,1,false)]),
(61,.struct [(0,1,false),(1,1,false)]),
(62,.func),
(64,.struct [(0,1,false),(1,1,false),(2,1,false),(3,1,false)]),
(65,.slice 3 1),
(67,.func),
(71,.struct [(0,1,false),(1,1,false),(2,1,false),(3,1,false),(4,1,false),(5,1,false),(6,1,false)]),
(72,.map),
(73,.slice 72 1),
(75,.struct [(0,1,false),(1,1,false),(2,1,false),(3,1,false),(4,1,false),(5,1,false)]),
(81,.func),
(83,.func),
(92,.func),
(94,.func),
(95,.func),
(96,.func),
(97,.array 5 4 1),
(99,.func),
(100,.func),
(104,.func),
(106,.func),
(108,.slice 4 1),
(113,.func),
(114,.func),
(115,.slice 57 3),
(118,.func),
(120,.ptr),
(122,.func),
(125,.ptr),
(126,.func),
(128,.ptr),
(129,.func),
(131,.ptr),
(132,.func),
(134,.ptr),
(136,.ptr),
(137,.func),
(138,.func),
(140,.ptr),
(141,.func),
(148,.func),
(150,.func),
(156,.struct [(0,1,false),(1,1,false),(2,1,false)]),
(166,.ptr),
(167,.func),
(170,.ptr),
(171,.func),
(179,.struct [(0,1,false)]),
(184,.func),
(185,.func),
(186,.map),
(195,.int .u64),
(196,.slice 195 1),
(207,.slice 5 1),
(217,.func),
(218,.func),
(220,.int .u64),
(230,.iface),
(231,.func),
(234,.array 64 5 1)]
theorem tabU_ok:AllU Tryz.prog tabU:=allU_of (by kernel_rfl)
def tabI:List (Nat×Inf):=[(1,⟨.nilFunc,1,8⟩),
(2,⟨.int .i64 0,1,8⟩),
(3,⟨.int .i64 0,1,8⟩),
(4,⟨.bool false,1,1⟩),
(5,⟨.int .u8 0,1,1⟩),
(6,⟨.int .u8 0,1,1⟩),
(7,⟨.agg #[.int .i64 0,.int .i64 0,.bool false,.int .u8 0],4,24⟩),
(8,⟨.agg #[.int .i64 0,.int .i64 0,.bool false,.int .u8 0],4,24⟩),
(9,⟨.string ⟨#[]⟩,1,16⟩),
(10,⟨.string ⟨#[]⟩,1,16⟩),
(11,⟨.string ⟨#[]⟩,1,16⟩),
(12,⟨.int .u64 0,1,8⟩),
(13,⟨.agg #[.string ⟨#[]⟩,.int .u64 0],2,24⟩),
(14,⟨.agg #[.string ⟨#[]⟩,.int .u64 0],2,24⟩),
(15,⟨.pointer none,1,8⟩),
(16,⟨.pointer none,1,8⟩),
(17,⟨.pointer none,1,8⟩),
(18,⟨.agg #[.pointer none],1,8⟩),
(19,⟨.agg #[.pointer none],1,8⟩),
(20,⟨.nilIface,1,16⟩),
(22,⟨.slice none 0 0,1,24⟩),
(23,⟨.slice none 0 0,1,24⟩),
(24,⟨.slice none 0 0,1,24⟩),
(25,⟨.slice none 0 0,1,24⟩),
(26,⟨.slice none 0 0,1,24⟩),
(27,⟨.slice none 0 0,1,24⟩),
(28,⟨.slice none 0 0,1,24⟩),
(29,⟨.slice none 0 0,1,24⟩),
(30,⟨.agg #[.slice none 0 0,.slice none 0 0,.slice none 0 0,.slice none 0 0,.slice none 0 0,.slice none 0 0,.slice none 0 0,.slice none 0 0],8,192⟩),
(31,⟨.agg #[.slice none 0 0,.slice none 0 0,.slice none 0 0,.slice none 0 0,.slice none 0 0,.slice none 0 0,.slice none 0 0,.slice none 0 0],8,192⟩),
(34,⟨.int .i64 0,1,8⟩),
(39,⟨.nilFunc,1,8⟩),
(41,⟨.agg #[.string ⟨#[]⟩,.string ⟨#[]⟩,.int .i64 0,.int .i64 0,.int .i64 0,.int .i64 0],6,64⟩),
(43,⟨.agg #[.string ⟨#[]⟩,.string ⟨#[]⟩,.int .i64 0,.int .i64 0],4,48⟩),
(45,⟨.slice none 0 0,1,24⟩),
(46,⟨.slice none 0 0,1,24⟩),
(47,⟨.slice none 0 0,1,24⟩),
(49,⟨.agg #[.string ⟨#[]⟩,.string ⟨#[]⟩,.int .i64 0,.int .i64 0,.slice none 0 0,.slice none 0 0,.slice none 0 0,.int .i64 0,.int .i64 0,.int .i64 0,.int .i64 0,.int .i64 0,.int .i64 0,.int .i64 0,.slice none 0 0,.int .i64 0,.int .i64 0],17,216⟩),
(52,⟨.agg #[.string ⟨#[]⟩,.int .i64 0,.int .i64 0],3,32⟩),
(54,⟨.agg #[.string ⟨#[]⟩,.string ⟨#[]⟩,.int .i64 0,.int .i64 0],4,48⟩),
(56,⟨.agg #[.bool false,.string ⟨#[]⟩,.string ⟨#[]⟩],3,40⟩),
(57,⟨.agg #[.bool false,.string ⟨#[]⟩,.string ⟨#[]⟩],3,40⟩),
(59,⟨.agg #[.string ⟨#[]⟩,.string ⟨#[]⟩,.int .i64 0,.int .i64 0,.int .i64 0,.bool false,.string ⟨#[]⟩,.string ⟨#[]⟩],8,96⟩),
(60,⟨.agg #[.string ⟨#[]⟩,.slice none 0 0],2,40⟩),
(61,⟨.agg #[.string ⟨#[]⟩,.slice none 0 0],2,40⟩),
(62,⟨.nilFunc,1,8⟩),
(64,⟨.agg #[.string ⟨#[]⟩,.string ⟨#[]⟩,.int .i64 0,.int .i64 0],4,48⟩),
(65,⟨.slice none 0 0,1,24⟩),
(67,⟨.nilFunc,1,8⟩),
(71,⟨.agg #[.int .i64 0,.int .i64 0,.string ⟨#[]⟩,.string ⟨#[]⟩,.bool false,.int .i64 0,.int .i64 0],7,72⟩),
(72,⟨.map none,1,8⟩),
(73,⟨.slice none 0 0,1,24⟩),
(75,⟨.agg #[.map none,.map none,.map none,.map none,.map none,.slice none 0 0],6,64⟩),
(81,⟨.nilFunc,1,8⟩),
(83,⟨.nilFunc,1,8⟩),
(92,⟨.nilFunc,1,8⟩),
(94,⟨.nilFunc,1,8⟩),
(95,⟨.nilFunc,1,8⟩),
(96,⟨.nilFunc,1,8⟩),
(97,⟨.agg #[.bool false,.bool false,.bool false,.bool false,.bool false],5,5⟩),
(99,⟨.nilFunc,1,8⟩),
(100,⟨.nilFunc,1,8⟩),
(104,⟨.nilFunc,1,8⟩),
(106,⟨.nilFunc,1,8⟩),
(108,⟨.slice none 0 0,1,24⟩),
(113,⟨.nilFunc,1,8⟩),
(114,⟨.nilFunc,1,8⟩),
(115,⟨.slice none 0 0,1,24⟩),
(118,⟨.nilFunc,1,8⟩),
(120,⟨.pointer none,1,8⟩),
(122,⟨.nilFunc,1,8⟩),
(125,⟨.pointer none,1,8⟩),
(126,⟨.nilFunc,1,8⟩),
(128,⟨.pointer none,1,8⟩),
(129,⟨.nilFunc,1,8⟩),
(131,⟨.pointer none,1,8⟩),
(132,⟨.nilFunc,1,8⟩),
(134,⟨.pointer none,1,8⟩),
(136,⟨.pointer none,1,8⟩),
(137,⟨.nilFunc,1,8⟩),
(138,⟨.nilFunc,1,8⟩),
(140,⟨.pointer none,1,8⟩),
(141,⟨.nilFunc,1,8⟩),
(148,⟨.nilFunc,1,8⟩),
(150,⟨.nilFunc,1,8⟩),
(156,⟨.agg #[.bool false,.string ⟨#[]⟩,.string ⟨#[]⟩],3,40⟩),
(166,⟨.pointer none,1,8⟩),
(167,⟨.nilFunc,1,8⟩),
(170,⟨.pointer none,1,8⟩),
(171,⟨.nilFunc,1,8⟩),
(179,⟨.agg #[.int .i64 0],1,8⟩),
(184,⟨.nilFunc,1,8⟩),
(185,⟨.nilFunc,1,8⟩),
(186,⟨.map none,1,8⟩),
(195,⟨.int .u64 0,1,8⟩),
(196,⟨.slice none 0 0,1,24⟩),
(207,⟨.slice none 0 0,1,24⟩),
(217,⟨.nilFunc,1,8⟩),
(218,⟨.nilFunc,1,8⟩),
(220,⟨.int .u64 0,1,8⟩),
(230,⟨.nilIface,1,16⟩),
(231,⟨.nilFunc,1,8⟩),
(234,⟨.agg #[.int .u8 0,.int .u8 0,.int .u8 0,.int .u8 0,.int .u8 0,.int .u8 0,.int .u8 0,.int .u8 0,.int .u8 0,.int .u8 0,.int .u8 0,.int .u8 0,.int .u8 0,.int .u8 0,.int .u8 0,.int .u8 0,.int .u8 0,.int .u8 0,.int .u8 0,.int .u8 0,.int .u8 0,.int .u8 0,.int .u8 0,.int .u8 0,.int .u8 0,.int .u8 0,.int .u8 0,.int .u8 0,.int .u8 0,.int .u8 0,.int .u8 0,.int .u8 0,.int .u8 0,.int .u8 0,.int .u8 0,.int .u8 0,.int .u8 0,.int .u8 0,.int .u8 0,.int .u8 0,.int .u8 0,.int .u8 0,.int .u8 0,.int .u8 0,.int .u8 0,.int .u8 0,.int .u8 0,.int .u8 0,.int .u8 0,.int .u8 0,.int .u8 0,.int .u8 0,.int .u8 0,.int .u8 0,.int .u8 0,.int .u8 0,.int .u8 0,.int .u8 0,.int .u8 0,.int .u8 0,.int .u8 0,.int .u8 0,.int .u8 0,.int .u8 0],64,64⟩)]
theorem tabI_ok:AllI Tryz.prog tabI:=allI_of (by kernel_rfl)
def tabE:List (Nat×List Nat):=[(41,[2,2,1,1,1,1]),(43,[2,2,1,1]),(52,[2,1,1]),(54,[2,2,1,1]),(57,[0,2,2]),(59,[2,2,1,1,1,0,2,2]),(64,[2,2,1,1]),(71,[1,1,2,2,0,1,1]),(156,[0,2,2]),(179,[1])]
theorem tabE_ok:AllE Tryz.prog tabE:=allE_of (by kernel_rfl)
def tab:Tab Tryz.prog where
 und:=tabU
 okU:=tabU_ok
 inf:=tabI
 okI:=tabI_ok
 eqs:=tabE
 okE:=tabE_ok
 mixed:=by kernel_rfl
theorem eN {X:Type} {k:Nat} {E0:Env} {F:Nat→Prop} {h0:Array Obj} {J:X→Prop} {out:X→OutS} {H H':SH} {w v:SV} {n:Nat} (x:X) (hJ:J x) (hH:SubH (rn []) H (out x).heap:=by repeat (first|exact trivial|refine ⟨by rfl,?_⟩)) (hn:nodupH (rn []) (out x).heap []=true:=by rfl) (ho:out x=.ret v n H':=by rfl) (hv:w=v.ren (rn []):=by rfl):∀E h,Ag k E0 E→Sat E F H h→Kp F h0 h→EndS k E0 F h0 J out (.returned (w.g E)) h:=EndS.mk x hJ [] hH rfl hn (okRet ho hv)
theorem eX {X:Type} {k:Nat} {E0:Env} {F G F' G':Nat→Prop} {h0 hb:Array Obj} {J:X→(Nat→Prop)→Array Obj→Prop} {out:X→OutS} {H H':SH} {w v:SV} {n:Nat} (N:Now F G h0 F' G' hb) (x:X) (hJ:∀h',Up G' hb G' h'→J x G' h') (hH:SubH (rn []) H (out x).heap:=by repeat (first|exact trivial|refine ⟨by rfl,?_⟩)) (hn:nodupH (rn []) (out x).heap []=true:=by rfl) (ho:out x=.ret v n H':=by rfl) (hv:w=v.ren (rn []):=by rfl):∀E h,Ag k E0 E→Sat E F' H h→Kp F' hb h→EndX k E0 F G h0 J out (.returned (w.g E)) h:=EndX.mk N x hJ [] hH rfl hn (okRet ho hv)
theorem gS {s:SCx Tryz.prog} {ds:List SDef} {nx:Nat} {st:List SI} {l:SFr} {H:SH} (h:goS tab s.c.n s.n0 s.F s.h0 ds (fun nx st l H=>RunsS s ds nx st l H) 1000 nx st l H):RunsS s ds nx st l H:=goS_run tab 1000 nx st l H h
theorem gO {c:Ctx Tryz.prog} {ds:List Deferred} {h:Array Obj} {st:List SI} {l:Fr} (g:go tab c.n h (fun st l=>Runs c ds st l h) 1000 st l):Runs c ds st l h:=go_run tab 1000 st l g
theorem gR {s:SCx Tryz.prog} {ds:List SDef} {all:List Oper} {st:List SI} {t:Tr} {taken:List Nat} {ps:List (Nat×SPin)} {nx:Nat} {l:SFr} {H:SH} (g:goR tab s.c.n s.n0 s.F s.h0 ds all st all.toArray (fun k keep t taken ps nx l H=>EffR s ds all st k keep t taken ps nx l H) (fun nx l H=>RunsS s ds nx st l H) t taken ps nx l H):RunsR s ds all st t taken ps nx l H:=goR_run tab t taken ps nx l H g
end Go.Proofs.YtofjdbmcloemnaaGreatDoor

namespace Go.NatM
def B:Nat:=18446744073709551616
theorem B_eq:B=18446744073709551616:=rfl
theorem B_pos:0<B:=by decide
theorem Bp_pos (j:Nat):0<B^j:=Nat.pow_pos B_pos
def wdc (V j:Nat):Nat:=V/B^j%B
theorem wdc_lt (V j:Nat):wdc V j<B:=Nat.mod_lt _ B_pos
theorem wdc_le (V j:Nat):wdc V j≤18446744073709551615:=by have:=wdc_lt V j;rw [B_eq] at this;omega
theorem wdc_ge {V m j:Nat} (h:V<B^m) (hj:m≤j):wdc V j=0:=by
 unfold wdc
 rw [Nat.div_eq_of_lt (Nat.lt_of_lt_of_le h (Nat.pow_le_pow_right B_pos hj))]
 rfl
theorem mod_succ (V j:Nat):V%B^(j+1)=V%B^j+B^j*wdc V j:=by
 unfold wdc
 rw [Nat.pow_succ,Nat.mod_mul]
theorem div_step (V j:Nat):V/B^j=wdc V j+B*(V/B^(j+1)):=by
 unfold wdc
 rw [Nat.pow_succ,←Nat.div_div_eq_div_mul,Nat.mod_add_div]
theorem mod_self {V m:Nat} (h:V<B^m):V%B^m=V:=Nat.mod_eq_of_lt h
def car (V1 V2 j:Nat):Nat:=(V1%B^j+V2%B^j)/B^j
theorem car_zero (V1 V2:Nat):car V1 V2 0=0:=by simp [car,Nat.mod_one]
theorem car_le (V1 V2 j:Nat):car V1 V2 j≤1:=by
 have h1:=Nat.mod_lt V1 (Bp_pos j)
 have h2:=Nat.mod_lt V2 (Bp_pos j)
 have:car V1 V2 j<2:=by
  unfold car
  exact Nat.div_lt_of_lt_mul (by omega)
 omega
theorem add_word (V1 V2 j:Nat):wdc (V1+V2) j=(wdc V1 j+wdc V2 j+car V1 V2 j)%B∧car V1 V2 (j+1)=(wdc V1 j+wdc V2 j+car V1 V2 j)/B:=by
 have hB:=Bp_pos j
 have e:(V1+V2)/B^j=V1/B^j+V2/B^j+car V1 V2 j:=by
  unfold car
  have h1:=Nat.div_add_mod V1 (B^j)
  have h2:=Nat.div_add_mod V2 (B^j)
  have:V1+V2=(V1%B^j+V2%B^j)+B^j*(V1/B^j+V2/B^j):=by rw [Nat.mul_add];omega
  rw [this,Nat.add_mul_div_left _ _ hB]
  omega
 constructor
 ·unfold wdc
  rw [e,Nat.add_mod (V1/B^j+V2/B^j),Nat.add_mod (V1/B^j)]
  simp [Nat.add_mod]
 have h1:=mod_succ V1 j
 have h2:=mod_succ V2 j
 show (V1%B^(j+1)+V2%B^(j+1))/B^(j+1)=_
 rw [h1,h2,Nat.pow_succ,←Nat.div_div_eq_div_mul]
 have:V1%B^j+B^j*wdc V1 j+(V2%B^j+B^j*wdc V2 j)=(V1%B^j+V2%B^j)+B^j*(wdc V1 j+wdc V2 j):=by rw [Nat.mul_add];omega
 rw [this,Nat.add_mul_div_left _ _ hB]
 unfold car
 congr 1
 omega
def bor (V1 V2 j:Nat):Nat:=if V1%B^j<V2%B^j then 1 else 0
theorem bor_zero (V1 V2:Nat):bor V1 V2 0=0:=by simp [bor,Nat.mod_one]
theorem bor_le (V1 V2 j:Nat):bor V1 V2 j≤1:=by unfold bor;split<;>omega
theorem div_sub {N V1 V2 q1 q2 r1 r2:Nat} (hN:0<N) (h1:V1=N*q1+r1) (h2:V2=N*q2+r2) (l1:r1<N) (l2:r2<N) (h:V2≤V1):
  q1=(V1 - V2)/N+q2+(if r1<r2 then 1 else 0):=by
 have hq:q2≤q1:=by
  rcases Nat.lt_or_ge q1 q2 with hh|hh
  ·exfalso
   have:=Nat.mul_le_mul_left N (show q1+1≤q2 by omega)
   rw [Nat.mul_add,Nat.mul_one] at this
   omega
  exact hh
 split
 ·rename_i hlt
  have hq':q2+1≤q1:=by
   rcases Nat.lt_or_ge q2 q1 with hh|hh
   ·exact hh
   exfalso
   have:q1=q2:=by omega
   subst this
   omega
  obtain ⟨q,rfl⟩:∃q,q1=q2+1+q:=⟨q1 - (q2+1),by omega⟩
  have e1:N*(q2+1+q)=N*q2+N+N*q:=by rw [Nat.mul_add,Nat.mul_add,Nat.mul_one]
  have e2:V1 - V2=N*q+(r1+N - r2):=by omega
  rw [e2,Nat.mul_add_div hN,Nat.div_eq_of_lt (by omega)]
  omega
 rename_i hge
 obtain ⟨q,rfl⟩:∃q,q1=q2+q:=⟨q1 - q2,by omega⟩
 have e1:N*(q2+q)=N*q2+N*q:=by rw [Nat.mul_add]
 have e2:V1 - V2=N*q+(r1 - r2):=by omega
 rw [e2,Nat.mul_add_div hN,Nat.div_eq_of_lt (by omega)]
 omega
theorem sub_word {V1 V2:Nat} (h:V2≤V1) (j:Nat):
  (wdc (V1 - V2) j:Int)=((wdc V1 j:Int) - wdc V2 j - bor V1 V2 j)%B ∧
  bor V1 V2 (j+1)=if (wdc V1 j:Int) - wdc V2 j - bor V1 V2 j<0 then 1 else 0:=by
 have hB:=Bp_pos j
 have d1:=Nat.div_add_mod V1 (B^j)
 have d2:=Nat.div_add_mod V2 (B^j)
 have m1:=Nat.mod_lt V1 hB
 have m2:=Nat.mod_lt V2 hB
 have w1:=div_step V1 j
 have w2:=div_step V2 j
 have l1:=wdc_lt V1 j
 have l2:=wdc_lt V2 j
 have hb:=bor_le V1 V2 j
 have z1:=Nat.zero_le (V1%B^j)
 have z2:=Nat.zero_le (V2%B^j)
 have e:V1/B^j=(V1 - V2)/B^j+V2/B^j+bor V1 V2 j:=div_sub hB d1.symm d2.symm m1 m2 h
 have w3:=div_step (V1 - V2) j
 have l3:=wdc_lt (V1 - V2) j
 constructor
 ·have:(wdc V1 j:Int) - wdc V2 j - bor V1 V2 j=wdc (V1 - V2) j+B*(((V1 - V2)/B^(j+1):Nat)+((V2/B^(j+1):Nat):Int) - ((V1/B^(j+1):Nat):Int)):=by
   have e':((V1/B^j:Nat):Int)=((V1 - V2)/B^j:Nat)+((V2/B^j:Nat):Int)+(bor V1 V2 j:Nat):=by exact_mod_cast e
   rw [w1,w2,w3] at e'
   simp only [Int.natCast_add,Int.natCast_mul] at e'
   rw [Int.mul_sub,Int.mul_add]
   omega
  rw [this,Int.add_mul_emod_self_left]
  exact (Int.emod_eq_of_lt (by omega) (by omega)).symm
 have s1:=mod_succ V1 j
 have s2:=mod_succ V2 j
 unfold bor
 rw [s1,s2]
 by_cases hlt:V1%B^j<V2%B^j
 ·rw [if_pos hlt]
  by_cases hw:wdc V1 j≤wdc V2 j
  ·have:=Nat.mul_le_mul_left (B^j) hw
   rw [if_pos (by omega),if_pos (by omega)]
  have:=Nat.mul_le_mul_left (B^j) (show wdc V2 j+1≤wdc V1 j by omega)
  rw [Nat.mul_add,Nat.mul_one] at this
  rw [if_neg (by omega),if_neg (by omega)]
 rw [if_neg hlt]
 by_cases hw:wdc V1 j<wdc V2 j
 ·have:=Nat.mul_le_mul_left (B^j) (show wdc V1 j+1≤wdc V2 j by omega)
  rw [Nat.mul_add,Nat.mul_one] at this
  rw [if_pos (by omega),if_pos (by omega)]
 have:=Nat.mul_le_mul_left (B^j) (show wdc V2 j≤wdc V1 j by omega)
 rw [if_neg (by omega),if_neg (by omega)]
def putw (V k x:Nat):Nat:=V%B^k+B^k*(x+B*(V/B^(k+1)))
theorem wdc_putw {V k x:Nat} (hx:x<B) (j:Nat):wdc (putw V k x) j=if j=k then x else wdc V j:=by
 have hm:=Nat.mod_lt V (Bp_pos k)
 unfold putw
 by_cases h:j=k
 ·subst h
  rw [if_pos rfl]
  unfold wdc
  rw [Nat.add_mul_div_left _ _ (Bp_pos j),Nat.div_eq_of_lt hm,Nat.zero_add,Nat.add_mul_mod_self_left,Nat.mod_eq_of_lt hx]
 rw [if_neg h]
 rcases Nat.lt_or_ge j k with hlt|hge
 ·obtain ⟨d,rfl⟩:∃d,k=j+1+d:=⟨k - j - 1,by omega⟩
  have e:∀Y,wdc (V%B^(j+1+d)+B^(j+1+d)*Y) j=wdc V j:=by
   intro Y
   unfold wdc
   have a1:∀Z:Nat,Z/B^j%B=Z%B^(j+1)/B^j:=by
    intro Z
    rw [Nat.pow_succ,Nat.mod_mul_right_div_self]
   rw [a1,a1]
   congr 1
   rw [Nat.pow_add,Nat.mul_assoc,Nat.add_mul_mod_self_left,Nat.mod_mul_right_mod]
  exact e _
 obtain ⟨d,rfl⟩:∃d,j=k+1+d:=⟨j - k - 1,by omega⟩
 unfold wdc
 have e:(V%B^k+B^k*(x+B*(V/B^(k+1))))/B^(k+1)=V/B^(k+1):=by
  rw [Nat.pow_succ,←Nat.div_div_eq_div_mul,Nat.add_mul_div_left _ _ (Bp_pos k),Nat.div_eq_of_lt hm,Nat.zero_add,Nat.add_mul_div_left _ _ B_pos,Nat.div_eq_of_lt hx,Nat.zero_add]
 have e2:∀Z:Nat,Z/B^(k+1+d)=Z/B^(k+1)/B^d:=fun Z=>by rw [Nat.pow_add,Nat.div_div_eq_div_mul]
 rw [e2,e,e2]
theorem putw_eq {V k x:Nat}:putw V k x+B^k*wdc V k=V+B^k*x:=by
 have h1:=Nat.div_add_mod V (B^k)
 have h2:=div_step V k
 unfold putw
 rw [Nat.mul_add]
 have h3:B^k*(V/B^k)=B^k*wdc V k+B^k*(B*(V/B^(k+1))):=by rw [h2,Nat.mul_add]
 omega
theorem putw_lt {V k x m:Nat} (hx:x<B) (hk:k<m) (hV:V<B^m):putw V k x<B^m:=by
 obtain ⟨d,rfl⟩:∃d,m=k+1+d:=⟨m - k - 1,by omega⟩
 have h1:V/B^(k+1)<B^d:=Nat.div_lt_of_lt_mul (by rw [←Nat.pow_add];exact hV)
 have h2:x+B*(V/B^(k+1))<B*B^d:=by
  have:=Nat.mul_le_mul_left B (show V/B^(k+1)+1≤B^d by omega)
  rw [Nat.mul_add,Nat.mul_one] at this
  omega
 unfold putw
 have hm:=Nat.mod_lt V (Bp_pos k)
 have:=Nat.mul_le_mul_left (B^k) (show x+B*(V/B^(k+1))+1≤B*B^d by omega)
 rw [Nat.mul_add,Nat.mul_one] at this
 have e:B^(k+1+d)=B^k*(B*B^d):=by rw [Nat.pow_add,Nat.pow_succ,Nat.mul_assoc]
 rw [e]
 omega
theorem ext_words {m:Nat}:∀ {V V':Nat},V<B^m→V'<B^m→(∀j,j<m→wdc V j=wdc V' j)→V=V':=by
 induction m with
 |zero=>intro V V' h h' _;simp at h h';omega
 |succ m ih=>
  intro V V' h h' hw
  have e:V%B^m=V'%B^m:=by
   refine ih (Nat.mod_lt _ (Bp_pos m)) (Nat.mod_lt _ (Bp_pos m)) (fun j hj=>?_)
   have a:∀Z,wdc (Z%B^m) j=wdc Z j:=by
    intro Z
    obtain ⟨d,rfl⟩:∃d,m=j+1+d:=⟨m - j - 1,by omega⟩
    unfold wdc
    have a1:∀Z:Nat,Z/B^j%B=Z%B^(j+1)/B^j:=by
     intro Z
     rw [Nat.pow_succ,Nat.mod_mul_right_div_self]
    rw [a1,a1,Nat.pow_add,Nat.mod_mul_right_mod]
   rw [a,a]
   exact hw j (by omega)
  have h1:=mod_succ V m
  have h2:=mod_succ V' m
  rw [Nat.mod_eq_of_lt h] at h1
  rw [Nat.mod_eq_of_lt h'] at h2
  rw [h1,h2,e,hw m (by omega)]
def nw (V:Nat):Nat:=if V=0 then 0 else Nat.log2 V/64+1
theorem B_pow (j:Nat):B^j=2^(64*j):=by
 rw [show B=2^64 from rfl,←Nat.pow_mul]
theorem nw_lt (V:Nat):V<B^nw V:=by
 unfold nw
 split
 ·rename_i h;subst h;decide
 rw [B_pow]
 rw [←Nat.log2_lt (by assumption)]
 have:=Nat.div_add_mod (Nat.log2 V) 64
 have:=Nat.mod_lt (Nat.log2 V) (show 0<64 by omega)
 omega
theorem nw_top {V:Nat} (h:V≠0):wdc V (nw V - 1)≠0∧B^(nw V - 1)≤V:=by
 have hle:B^(nw V - 1)≤V:=by
  unfold nw
  rw [if_neg h,Nat.add_sub_cancel,B_pow]
  rw [←Nat.le_log2 h]
  have:=Nat.div_add_mod (Nat.log2 V) 64
  omega
 refine ⟨?_,hle⟩
 have hlt:=nw_lt V
 have hpos:nw V=nw V - 1+1:=by unfold nw;rw [if_neg h];omega
 have:=mod_succ V (nw V - 1)
 rw [←hpos,Nat.mod_eq_of_lt hlt] at this
 intro h0
 rw [h0,Nat.mul_zero,Nat.add_zero] at this
 have:=Nat.mod_lt V (Bp_pos (nw V - 1))
 omega
theorem nw_le {V m:Nat} (h:V<B^m):nw V≤m:=by
 unfold nw
 split
 ·omega
 rename_i h0
 rw [B_pow,←Nat.log2_lt h0] at h
 have:=Nat.div_add_mod (Nat.log2 V) 64
 omega
theorem nw_eq {V m:Nat} (h:V<B^m) (ht:m≠0→wdc V (m - 1)≠0):m=nw V:=by
 have h1:=nw_le h
 rcases Nat.lt_or_ge (nw V) m with hlt|hge
 ·exfalso
  exact ht (by omega) (wdc_ge (nw_lt V) (by omega))
 omega
theorem nw_zero:nw 0=0:=rfl
theorem nw_pos {V:Nat} (h:V≠0):0<nw V:=by unfold nw;rw [if_neg h];omega
theorem nw_mono {V V':Nat} (h:V≤V'):nw V≤nw V':=nw_le (Nat.lt_of_le_of_lt h (nw_lt V'))
theorem cmp_top {V1 V2 j:Nat} (h:V1/B^(j+1)=V2/B^(j+1)) (hne:wdc V1 j<wdc V2 j):V1<V2:=by
 have h1:=div_step V1 j
 have h2:=div_step V2 j
 have:V1/B^j<V2/B^j:=by rw [h1,h2,h];omega
 rcases Nat.lt_or_ge V1 V2 with hlt|hge
 ·exact hlt
 have:=Nat.div_le_div_right (c:=B^j) hge
 omega
theorem cmp_len {V1 V2:Nat} (h:nw V1<nw V2):V1<V2:=by
 rcases Nat.lt_or_ge V1 V2 with hlt|hge
 ·exact hlt
 have:=nw_mono hge
 omega
def bl (V:Nat):Nat:=if V=0 then 0 else Nat.log2 V+1
theorem log2_unique {V k:Nat} (h1:2^k≤V) (h2:V<2^(k+1)):Nat.log2 V=k:=by
 have h0:V≠0:=by
  intro e;subst e
  have:=Nat.pow_pos (n:=k) (show 0<2 by omega)
  omega
 have a:=(Nat.le_log2 h0).2 h1
 have b:=(Nat.log2_lt h0).2 h2
 omega
theorem bl_lt (V:Nat):V<2^bl V:=by
 unfold bl
 split
 ·rename_i h;subst h;decide
 rename_i h;exact (Nat.log2_lt h).1 (by omega)
theorem bl_le {V:Nat} (h:V≠0):2^(bl V - 1)≤V:=by
 unfold bl
 rw [if_neg h,Nat.add_sub_cancel]
 exact (Nat.le_log2 h).1 (Nat.le_refl _)
theorem bl_pos {V:Nat} (h:V≠0):0<bl V:=by unfold bl;rw [if_neg h];omega
theorem bl_unique {V k:Nat} (h0:V≠0) (h1:V<2^k) (h2:2^(k - 1)≤V):bl V=k:=by
 have hk:k≠0:=by intro e;subst e;simp at h1;omega
 unfold bl
 rw [if_neg h0,log2_unique h2 (by rw [Nat.sub_add_cancel (by omega)];exact h1)]
 omega
theorem bl_shift {V s:Nat} (h:2^s≤V):bl V=s+bl (V/2^s):=by
 have hp:=Nat.pow_pos (n:=s) (show 0<2 by omega)
 have hq:V/2^s≠0:=by
  have:=Nat.div_pos h hp
  omega
 have h1:=bl_lt (V/2^s)
 have h2:=bl_le hq
 have h3:=bl_pos hq
 have d:=Nat.div_add_mod V (2^s)
 have m:=Nat.mod_lt V hp
 refine bl_unique (by omega) ?_ ?_
 ·rw [Nat.pow_add]
  have:=Nat.mul_le_mul_left (2^s) (show V/2^s+1≤2^bl (V/2^s) by omega)
  rw [Nat.mul_add,Nat.mul_one] at this
  omega
 rw [show s+bl (V/2^s) - 1=s+(bl (V/2^s) - 1) by omega,Nat.pow_add]
 have:=Nat.mul_le_mul_left (2^s) h2
 omega
theorem bl_word {V:Nat} (h:V≠0):bl V=64*(nw V - 1)+bl (wdc V (nw V - 1)):=by
 obtain ⟨_,hle⟩:=nw_top h
 have hlt:=nw_lt V
 have e:wdc V (nw V - 1)=V/B^(nw V - 1):=by
  unfold wdc
  refine Nat.mod_eq_of_lt (Nat.div_lt_of_lt_mul ?_)
  rw [←Nat.pow_succ,Nat.succ_eq_add_one,Nat.sub_add_cancel (nw_pos h)]
  exact hlt
 rw [e,B_pow] at *
 exact bl_shift hle
theorem bl_mono {a b:Nat} (h:a≤b):bl a≤bl b:=by
 rcases Nat.lt_or_ge (bl b) (bl a) with hlt|hge
 ·exfalso
  have ha:a≠0:=by intro e;subst e;simp [bl] at hlt
  have h1:=bl_lt b
  have h2:=bl_le ha
  have:=Nat.pow_le_pow_right (show 0<2 by omega) (show bl b≤bl a - 1 by omega)
  omega
 exact hge
end Go.NatM

namespace Go.Proofs.YtofjdbmcloemnaaGreatDoor
open Go Go.Fw Go.NatM
set_option maxRecDepth 100000
def Rdw (h:Array Obj) (b off m V:Nat):Prop:=∀j,j<m→cellH h b (off+j)=some (.int .u64 (wdc V j:Nat))
def Wr (h:Array Obj) (v:Value) (m V:Nat):Prop:=
 ∃a cap,v=.slice a m cap∧m≤cap∧V<B^m∧(0<m → ∃b off,a=some ⟨b,off,none⟩∧Rdw h b off m V)
theorem cellH_lt {h:Array Obj} {b o:Nat} {v:Value} (H:cellH h b o=some v):b<h.size:=by
 unfold cellH at H
 split at H
 ·rename_i hb;exact (Array.getElem?_eq_some_iff.1 hb).1
 cases H
theorem cellH_same {h h':Array Obj} {b:Nat} (hb:h'[b]? = h[b]?) (o:Nat):cellH h' b o=cellH h b o:=by
 unfold cellH;rw [hb]
theorem Wr.of_same {h h':Array Obj} {v:Value} {m V:Nat} (hw:Wr h v m V) (hs:∀b,v.ownBlock=some b→b<h.size→h'[b]? = h[b]?):Wr h' v m V:=by
 obtain ⟨a,cap,rfl,hc,hV,hr⟩:=hw
 refine ⟨a,cap,rfl,hc,hV,fun hm=>?_⟩
 obtain ⟨b,off,rfl,hrd⟩:=hr hm
 refine ⟨b,off,rfl,fun j hj=>?_⟩
 rw [cellH_same (hs b rfl (cellH_lt (hrd j hj)))]
 exact hrd j hj
theorem Wr.keeps {h h':Array Obj} {v:Value} {m V:Nat} (hw:Wr h v m V) (hk:Keeps h.size h h'):Wr h' v m V:=
 hw.of_same fun b _ hb=>hk.same b hb
theorem Wr.lt {h:Array Obj} {v:Value} {m V:Nat} (hw:Wr h v m V):V<B^m:=by
 obtain ⟨_,_,_,_,h,_⟩:=hw;exact h
theorem Wr.of_at {h:Array Obj} {g m cap V:Nat} {cur:Array Value} (hat:At h g cur 195) (hm:m≤cap) (hV:V<B^m) (hc:∀j,j<m→cur[j]? = some (.int .u64 (wdc V j:Nat))):
  Wr h (.slice (some ⟨g,0,none⟩) m cap) m V:=
 ⟨_,cap,rfl,hm,hV,fun _=>⟨g,0,rfl,fun j hj=>by rw [Nat.zero_add,hat.cell];exact hc j hj⟩⟩
theorem isNaN_int (x:Int) (h:Array Obj):FnV Tryz.prog 186 #[.int .i64 x] h fun v h'=>v=.bool false∧h'=h:=by
 refine Fn.of (args:=[.int .i64 x]) Tryz.func186 (by kernel_rfl) rfl Tryz.ntmps186 rfl fun w0 cs=>?_
 refine gO ?_;conv=>whnf
 refine Runs.ret Tryz.func186 rfl rfl ⟨_,rfl,?_⟩
 exact ⟨by simp [tup],rfl⟩
theorem isNaN_u64 (x:Int) (h:Array Obj):FnV Tryz.prog 187 #[.int .u64 x] h fun v h'=>v=.bool false∧h'=h:=by
 refine Fn.of (args:=[.int .u64 x]) Tryz.func187 (by kernel_rfl) rfl Tryz.ntmps187 rfl fun w0 cs=>?_
 refine gO ?_;conv=>whnf
 refine Runs.ret Tryz.func187 rfl rfl ⟨_,rfl,?_⟩
 exact ⟨by simp [tup],rfl⟩
def cmpI (x y:Int):Int:=if x<y then -1 else if y<x then 1 else 0
theorem cmp_int (x y:Int) (h:Array Obj):FnV Tryz.prog 178 #[.int .i64 x,.int .i64 y] h fun v h'=>v=.int .i64 (cmpI x y)∧h'=h:=by
 refine Fn.of (args:=[.int .i64 x,.int .i64 y]) Tryz.func178 (by kernel_rfl) rfl Tryz.ntmps178 rfl fun w0 cs=>?_
 refine gO ?_;conv=>whnf
 refine Runs.callV (isNaN_int x h) ?_
 rintro v h' ⟨rfl,rfl⟩
 try refine gO ?_;conv=>whnf
 refine Runs.callV (isNaN_int y h') ?_
 rintro v h' ⟨rfl,rfl⟩
 try refine gO ?_;conv=>whnf
 refine ⟨fun h1=>?_,fun h1=>?_⟩<;>conv=>whnf
 ·refine Runs.ret Tryz.func178 rfl rfl ⟨_,rfl,?_⟩
  exact ⟨by simp [tup,cmpI,h1],rfl⟩
 refine ⟨fun h2=>?_,fun h2=>?_⟩<;>conv=>whnf
 ·refine Runs.ret Tryz.func178 rfl rfl ⟨_,rfl,?_⟩
  exact ⟨by simp [tup,cmpI,h1,h2],rfl⟩
 refine Runs.ret Tryz.func178 rfl rfl ⟨_,rfl,?_⟩
 exact ⟨by simp [tup,cmpI,h1,h2],rfl⟩
theorem cmp_u64 (x y:Int) (h:Array Obj):FnV Tryz.prog 179 #[.int .u64 x,.int .u64 y] h fun v h'=>v=.int .i64 (cmpI x y)∧h'=h:=by
 refine Fn.of (args:=[.int .u64 x,.int .u64 y]) Tryz.func179 (by kernel_rfl) rfl Tryz.ntmps179 rfl fun w0 cs=>?_
 refine gO ?_;conv=>whnf
 refine Runs.callV (isNaN_u64 x h) ?_
 rintro v h' ⟨rfl,rfl⟩
 try refine gO ?_;conv=>whnf
 refine Runs.callV (isNaN_u64 y h') ?_
 rintro v h' ⟨rfl,rfl⟩
 try refine gO ?_;conv=>whnf
 refine ⟨fun h1=>?_,fun h1=>?_⟩<;>conv=>whnf
 ·refine Runs.ret Tryz.func179 rfl rfl ⟨_,rfl,?_⟩
  exact ⟨by simp [tup,cmpI,h1],rfl⟩
 refine ⟨fun h2=>?_,fun h2=>?_⟩<;>conv=>whnf
 ·refine Runs.ret Tryz.func179 rfl rfl ⟨_,rfl,?_⟩
  exact ⟨by simp [tup,cmpI,h1,h2],rfl⟩
 refine Runs.ret Tryz.func179 rfl rfl ⟨_,rfl,?_⟩
 exact ⟨by simp [tup,cmpI,h1,h2],rfl⟩
theorem word_fn {h:Array Obj} {v:Value} {m V:Nat} (hw:Wr h v m V) (i:Nat):FnV Tryz.prog 160 #[v,.int .i64 i] h fun r h'=>r=.int .u64 (wdc V i:Nat)∧h'=h:=by
 obtain ⟨a,cap,rfl,hc,hV,hr⟩:=hw
 by_cases hi:i<m
 ·obtain ⟨b,off,rfl,hrd⟩:=hr (by omega)
  refine Fn.of (args:=[.slice (some ⟨b,off,none⟩) m cap,.int .i64 i]) Tryz.func160 (by kernel_rfl) rfl Tryz.ntmps160 rfl fun w0 cs=>?_
  refine gO ?_;conv=>whnf
  refine ⟨fun h1=>?_,fun h1=>?_⟩<;>conv=>whnf
  ·repeat (refine oL ?_;conv=>whnf)
   refine ⟨_,hrd i hi,?_⟩;conv=>whnf
   refine Runs.ret Tryz.func160 rfl rfl ⟨_,rfl,?_⟩
   exact ⟨rfl,rfl⟩
  omega
 refine Fn.of (args:=[.slice a m cap,.int .i64 i]) Tryz.func160 (by kernel_rfl) rfl Tryz.ntmps160 rfl fun w0 cs=>?_
 refine gO ?_;conv=>whnf
 refine ⟨fun h1=>?_,fun h1=>?_⟩<;>conv=>whnf
 ·omega
 refine Runs.ret Tryz.func160 rfl rfl ⟨_,rfl,?_⟩
 exact ⟨by rw [wdc_ge hV (by omega)];rfl,rfl⟩

theorem byteAt_le (s:ByteArray) (i:Nat):byteAt s i≤255:=by
 have:=(s.data.toList.getD i 0).toNat_lt
 unfold byteAt
 omega
theorem len64_leaf {x q n:Nat} (hn:bl x=n+bl q) (hq:q<256) (T:ByteArray) (hT:∀j:Fin 256,byteAt T j=bl j) (z N:Int) (hz:z=q) (hN:N=n):(N+(byteAt T (z%256).toNat:Nat))=(bl x:Nat):=by
 have:(z%256).toNat=q:=by omega
 rw [this,hT ⟨q,hq⟩,hn,hN]
 rfl
theorem len64_fn (x:Nat) (hx:x<B) (h:Array Obj):FnV Tryz.prog 183 #[.int .u64 x] h fun v h'=>v=.int .i64 (bl x:Nat)∧h'=h:=by
 rw [B_eq] at hx
 refine Fn.of (args:=[.int .u64 x]) Tryz.func183 (by kernel_rfl) rfl Tryz.ntmps183 rfl fun w0 cs=>?_
 refine gO ?_;conv=>whnf
 refine ⟨fun h1=>?_,fun h1=>?_⟩<;>conv=>whnf
 all_goals
  refine ⟨fun h2=>?_,fun h2=>?_⟩<;>conv=>whnf
 all_goals
  repeat (refine oL ?_;conv=>whnf)
  refine ⟨fun h3=>?_,fun h3=>?_⟩<;>conv=>whnf
 all_goals
  repeat (refine oL ?_;conv=>whnf)
  generalize hT:(ByteArray.mk _)=T
  have hsz:T.size=256:=by subst hT;rfl
  have hb:∀j:Fin 256,byteAt T j=bl j:=by subst hT;decide +kernel
  have hb8:∀j:Nat,j<256→bl j≤8:=fun j hj=>bl_mono (show j≤255 by omega)
  rw [hsz]
  generalize hnn:byteAt T _=nn
  have hle:nn≤255:=by rw [←hnn];exact byteAt_le _ _
  repeat (refine oL ?_;conv=>whnf)
  refine Runs.ret Tryz.func183 rfl rfl ⟨_,rfl,?_⟩
  refine ⟨?_,rfl⟩
  subst hnn
  refine congrArg (Value.int .i64) ?_
  first
   |exact len64_leaf (n:=56) (q:=x/2^32/2^16/2^8) (by rw [bl_shift (V:=x) (s:=32) (by omega),bl_shift (V:=x/2^32) (s:=16) (by omega),bl_shift (V:=x/2^32/2^16) (s:=8) (by omega)];omega) (by omega) T hb _ _ (by omega) (by omega)
   |exact len64_leaf (n:=48) (q:=x/2^32/2^16) (by rw [bl_shift (V:=x) (s:=32) (by omega),bl_shift (V:=x/2^32) (s:=16) (by omega)];omega) (by omega) T hb _ _ (by omega) (by omega)
   |exact len64_leaf (n:=40) (q:=x/2^32/2^8) (by rw [bl_shift (V:=x) (s:=32) (by omega),bl_shift (V:=x/2^32) (s:=8) (by omega)];omega) (by omega) T hb _ _ (by omega) (by omega)
   |exact len64_leaf (n:=32) (q:=x/2^32) (by rw [bl_shift (V:=x) (s:=32) (by omega)]) (by omega) T hb _ _ (by omega) (by omega)
   |exact len64_leaf (n:=24) (q:=x/2^16/2^8) (by rw [bl_shift (V:=x) (s:=16) (by omega),bl_shift (V:=x/2^16) (s:=8) (by omega)];omega) (by omega) T hb _ _ (by omega) (by omega)
   |exact len64_leaf (n:=16) (q:=x/2^16) (by rw [bl_shift (V:=x) (s:=16) (by omega)]) (by omega) T hb _ _ (by omega) (by omega)
   |exact len64_leaf (n:=8) (q:=x/2^8) (by rw [bl_shift (V:=x) (s:=8) (by omega)]) (by omega) T hb _ _ (by omega) (by omega)
   |exact len64_leaf (n:=0) (q:=x) (by omega) (by omega) T hb _ _ (by omega) (by omega)
theorem sub1_toNat {k:Nat} (h:0<k):((k:Int) - 1).toNat=k - 1:=by omega
theorem trim_fn {h:Array Obj} {a:Option Addr} {m cap V:Nat} (hw:Wr h (.slice a m cap) m V) (hm:m≤1099511627776):
  FnV Tryz.prog 170 #[.slice a m cap] h fun r h'=>r=.slice a (nw V) cap∧h'=h:=by
 obtain ⟨a',cap',e,hc,hV,hr⟩:=hw
 cases e
 refine Fn.of (args:=[.slice a m cap]) Tryz.func170 (by kernel_rfl) rfl Tryz.ntmps170 rfl fun w0 cs=>?_
 refine gO ?_;conv=>whnf
 refine Runs.loop (X:=Nat) (fun k=>[(0,.slice a k cap)]) (fun k h'=>h'=h∧k≤m∧V<B^k) (fun k=>k) m ⟨rfl,Nat.le_refl _,hV⟩ ⟨rfl,trivial⟩ ?_
 rintro k h' ⟨rfl,hk,hVk⟩ ih
 by_cases hk0:k=0
 ·subst hk0
  try refine gO ?_;conv=>whnf
  refine ⟨fun h1=>?_,fun h1=>?_⟩<;>conv=>whnf
  ·omega
  refine Runs.ret Tryz.func170 rfl rfl ⟨_,rfl,?_⟩
  refine ⟨?_,rfl⟩
  have:V=0:=by simp at hVk;omega
  subst this
  rfl
 obtain ⟨b,off,rfl,hrd⟩:=hr (by omega)
 have hj:=hrd (k - 1) (by omega)
 rw [←sub1_toNat (by omega)] at hj
 try refine gO ?_;conv=>whnf
 refine ⟨fun h1=>?_,fun h1=>?_⟩<;>conv=>whnf
 ·repeat (refine oL ?_;conv=>whnf)
  refine ⟨_,hj,?_⟩;conv=>whnf
  refine ⟨fun h2=>?_,fun h2=>?_⟩<;>conv=>whnf
  ·repeat (refine oL ?_;conv=>whnf)
   rw [sub1_toNat (by omega)] at h2
   rw [sub1_toNat (by omega)]
   refine ih (k - 1) _ _ ⟨rfl,by omega,?_⟩ (by omega) ⟨rfl,trivial⟩
   have:=mod_succ V (k - 1)
   rw [Nat.sub_add_cancel (by omega),Nat.mod_eq_of_lt hVk] at this
   have hz:wdc V (k - 1)=0:=by omega
   rw [hz] at this
   have:=Nat.mod_lt V (Bp_pos (k - 1))
   omega
  refine Runs.ret Tryz.func170 rfl rfl ⟨_,rfl,?_⟩
  rw [sub1_toNat (by omega)] at h2
  have:=nw_eq hVk (fun _ e=>h2 (by rw [e];rfl))
  subst this
  exact ⟨rfl,rfl⟩
 omega
theorem size_fn {h:Array Obj} {v:Value} {V:Nat} (hw:Wr h v (nw V) V) (hm:nw V≤1099511627776):
  FnV Tryz.prog 168 #[v] h fun r h'=>r=.int .i64 (bl V:Nat)∧h'=h:=by
 obtain ⟨a,cap,rfl,hc,hV,hr⟩:=hw
 by_cases h0:V=0
 ·subst h0
  refine Fn.of (args:=[.slice a (nw 0) cap]) Tryz.func168 (by kernel_rfl) rfl Tryz.ntmps168 rfl fun w0 cs=>?_
  refine gO ?_;conv=>whnf
  refine ⟨fun h1=>?_,fun h1=>?_⟩<;>conv=>whnf
  ·refine Runs.ret Tryz.func168 rfl rfl ⟨_,rfl,?_⟩
   exact ⟨rfl,rfl⟩
  exact absurd (by rw [nw_zero];rfl) h1
 have hp:=nw_pos h0
 obtain ⟨b,off,rfl,hrd⟩:=hr hp
 have hj:=hrd (nw V - 1) (by omega)
 rw [←sub1_toNat (by omega)] at hj
 have hb:=bl_word h0
 have hbl:=bl_mono (wdc_le V (nw V - 1))
 rw [show bl 18446744073709551615=64 by decide +kernel] at hbl
 refine Fn.of (args:=[.slice (some ⟨b,off,none⟩) (nw V) cap]) Tryz.func168 (by kernel_rfl) rfl Tryz.ntmps168 rfl fun w0 cs=>?_
 refine gO ?_;conv=>whnf
 refine ⟨fun h1=>?_,fun h1=>?_⟩<;>conv=>whnf
 ·omega
 repeat (refine oL ?_;conv=>whnf)
 refine ⟨_,hj,?_⟩;conv=>whnf
 rw [sub1_toNat (by omega)]
 refine Runs.callV (len64_fn _ (wdc_lt V (nw V - 1)) h) ?_
 rintro _ h' ⟨rfl,rfl⟩
 try refine gO ?_;conv=>whnf
 repeat (refine oL ?_;conv=>whnf)
 refine Runs.ret Tryz.func168 rfl rfl ⟨_,rfl,?_⟩
 refine ⟨congrArg (Value.int .i64) ?_,rfl⟩
 omega
theorem cmpI_nw {V1 V2:Nat} (h:nw V1≠nw V2):cmpI (nw V1:Int) (nw V2:Int)=cmpI (V1:Int) (V2:Int):=by
 rcases Nat.lt_or_ge (nw V1) (nw V2) with hlt|hge
 ·have:=cmp_len hlt
  simp only [cmpI]
  rw [if_pos (by omega),if_pos (by omega)]
 have:=cmp_len (show nw V2<nw V1 by omega)
 simp only [cmpI]
 rw [if_neg (by omega),if_pos (by omega),if_neg (by omega),if_pos (by omega)]
theorem cmpI_word {V1 V2 j:Nat} (h:V1/B^(j+1)=V2/B^(j+1)) (hne:wdc V1 j≠wdc V2 j):cmpI (wdc V1 j:Int) (wdc V2 j:Int)=cmpI (V1:Int) (V2:Int):=by
 rcases Nat.lt_or_ge (wdc V1 j) (wdc V2 j) with hlt|hge
 ·have:=cmp_top h hlt
  simp only [cmpI]
  rw [if_pos (by omega),if_pos (by omega)]
 have:=cmp_top h.symm (show wdc V2 j<wdc V1 j by omega)
 simp only [cmpI]
 rw [if_neg (by omega),if_pos (by omega),if_neg (by omega),if_pos (by omega)]
theorem compare_fn {h:Array Obj} {v1 v2:Value} {V1 V2:Nat} (hw1:Wr h v1 (nw V1) V1) (hw2:Wr h v2 (nw V2) V2) (hm1:nw V1≤1099511627776):
  FnV Tryz.prog 164 #[v1,v2] h fun r h'=>r=.int .i64 (cmpI V1 V2)∧h'=h:=by
 obtain ⟨a1,cap1,rfl,hc1,hV1,hr1⟩:=hw1
 obtain ⟨a2,cap2,rfl,hc2,hV2,hr2⟩:=hw2
 refine Fn.of (args:=[.slice a1 (nw V1) cap1,.slice a2 (nw V2) cap2]) Tryz.func164 (by kernel_rfl) rfl Tryz.ntmps164 rfl fun w0 cs=>?_
 refine gO ?_;conv=>whnf
 refine ⟨fun h1=>?_,fun h1=>?_⟩<;>conv=>whnf
 ·have hnw:nw V1=nw V2:=by omega
  repeat (refine oL ?_;conv=>whnf)
  refine Runs.loop (X:=Nat) (fun k=>[(0,.slice a1 (nw V1) cap1),(1,.slice a2 (nw V2) cap2),(5,.int .i64 ((k:Int) - 1))]) (fun k h'=>h'=h∧k≤nw V1∧V1/B^k=V2/B^k) (fun k=>k) (nw V1)
   ⟨rfl,Nat.le_refl _,by rw [Nat.div_eq_of_lt (nw_lt V1),hnw,Nat.div_eq_of_lt (nw_lt V2)]⟩ ⟨rfl,rfl,rfl,trivial⟩ ?_
  rintro k h' ⟨rfl,hk,he⟩ ih
  by_cases hk0:k=0
  ·subst hk0
   try refine gO ?_;conv=>whnf
   refine ⟨fun h2=>?_,fun h2=>?_⟩<;>conv=>whnf
   ·omega
   try refine gO ?_;conv=>whnf
   refine ⟨fun h3=>?_,fun h3=>?_⟩<;>conv=>whnf
   ·refine Runs.ret Tryz.func164 rfl rfl ⟨_,rfl,?_⟩
    have:V1=V2:=by simpa using he
    subst this
    exact ⟨by simp [tup,cmpI],rfl⟩
   omega
  obtain ⟨b1,off1,rfl,hrd1⟩:=hr1 (by omega)
  obtain ⟨b2,off2,rfl,hrd2⟩:=hr2 (by omega)
  have hj1:=hrd1 (k - 1) (by omega)
  have hj2:=hrd2 (k - 1) (by omega)
  have ek:k - 1+1=k:=by omega
  rw [←sub1_toNat (by omega)] at hj1 hj2
  try refine gO ?_;conv=>whnf
  refine ⟨fun h2=>?_,fun h2=>?_⟩<;>conv=>whnf
  ·refine Runs.quiet tab (by kernel_rfl) ?_
   conv=>whnf
   repeat (refine oL ?_;conv=>whnf)
   refine ⟨_,hj1,?_⟩;conv=>whnf
   repeat (refine oL ?_;conv=>whnf)
   refine ⟨_,hj2,?_⟩;conv=>whnf
   refine ⟨fun h3=>?_,fun h3=>?_⟩<;>conv=>whnf
   ·try refine gO ?_
    conv=>whnf
    repeat (refine oL ?_;conv=>whnf)
    refine ih (k - 1) _ _ ⟨rfl,by omega,?_⟩ (by omega) ⟨rfl,rfl,?_,trivial⟩
    ·rw [sub1_toNat (by omega)] at h3
     have d1:=div_step V1 (k - 1)
     have d2:=div_step V2 (k - 1)
     rw [ek,he] at d1
     rw [ek] at d2
     rw [d1,d2]
     omega
    refine congrArg (fun z=>some (Value.int .i64 z)) ?_
    omega
   try refine gO ?_;conv=>whnf
   refine ⟨fun h4=>?_,fun h4=>?_⟩<;>conv=>whnf
   ·omega
   refine Runs.quiet tab (by kernel_rfl) ?_;conv=>whnf
   repeat (refine oL ?_;conv=>whnf)
   refine ⟨_,hj1,?_⟩;conv=>whnf
   repeat (refine oL ?_;conv=>whnf)
   refine ⟨_,hj2,?_⟩;conv=>whnf
   refine ⟨_,.inl (cmp_u64 _ _ h'),?_⟩;conv=>whnf
   try refine gO ?_;conv=>whnf
   refine Runs.ret Tryz.func164 rfl rfl ⟨_,rfl,?_⟩
   rw [sub1_toNat (by omega)] at h3 ⊢
   refine ⟨congrArg (Value.int .i64) ?_,rfl⟩
   exact cmpI_word (by rw [ek];exact he) (by omega)
  omega
 refine Runs.callV (cmp_int _ _ h) ?_
 rintro _ h' ⟨rfl,rfl⟩
 try refine gO ?_;conv=>whnf
 refine Runs.ret Tryz.func164 rfl rfl ⟨_,rfl,?_⟩
 exact ⟨by rw [cmpI_nw (by omega)];rfl,rfl⟩

theorem ext_of {g:FuncId} {fn:Func} {args:Array Value} {v:Value} {e:Array Value→Sem Value} (hf:Tryz.prog.funcs[g]? = some fn) (hname:(fn.name == "runtime.NumGoroutine")=false) (hb:fn.body=none)
  (h1:Extern.findNext fn=none) (h2:Extern.find fn=some e) (h3:∀w,(e args).run Tryz.prog w=.ok v w):Ext Tryz.prog g args v:=by
 intro w
 have hp:(program:Sem Program).run Tryz.prog w=.ok Tryz.prog w:=rfl
 have hm:(mark (.extern g):Sem Unit).run Tryz.prog w=.ok () w:=rfl
 simp only [callFunc,Sem.run_bind,hp,Result.andThen,hf,hname,Bool.false_eq_true,if_false,hb,Option.isNone_none,if_true,hm,h1,h2,h3,Sem.run_pure]
theorem add64_ext (x y c:Nat) (hc:c≤1):Ext Tryz.prog 159 #[.int .u64 x,.int .u64 y,.int .u64 c]
  (.tuple #[.int .u64 ((x+y+c)%18446744073709551616:Nat),.int .u64 ((x+y+c)/18446744073709551616:Nat)]):=by
 refine ext_of Tryz.func159 (by kernel_rfl) rfl (by kernel_rfl) (e:=add64Entry) (by kernel_rfl) (fun w=>?_)
 have:=run_add64 (P:=Tryz.prog) x y c (by omega) (by omega) (by omega) (by omega) w
 rw [this]
 rfl
def sub64Entry:Array Value→Sem Value:=fun args=>do
 let (x,y,b) ←Extern.MathBitsCarry.three "Sub64" args
 pure (Extern.MathBitsCarry.pair ((x+Extern.MathBitsCarry.m64 - y - b)%Extern.MathBitsCarry.m64) (if x<y+b then 1 else 0))
theorem sub64_ext (x y c:Nat) (hx:x≤18446744073709551615) (hy:y≤18446744073709551615) (hc:c≤1):Ext Tryz.prog 180 #[.int .u64 x,.int .u64 y,.int .u64 c]
  (.tuple #[.int .u64 (((x:Int) - y - c)%18446744073709551616),.int .u64 ((if (x:Int) - y - c<0 then 1 else 0:Nat):Int)]):=by
 refine ext_of Tryz.func180 (by kernel_rfl) rfl (by kernel_rfl) (e:=sub64Entry) (by kernel_rfl) (fun w=>?_)
 have key:∀k:Nat,k≤1→(sub64Entry #[.int .u64 (x:Int),.int .u64 (y:Int),.int .u64 (k:Int)]).run Tryz.prog w =
   .ok (Extern.MathBitsCarry.pair (((x:Int).toNat+Extern.MathBitsCarry.m64 - (y:Int).toNat - k)%Extern.MathBitsCarry.m64) (if (x:Int).toNat<(y:Int).toNat+k then 1 else 0)) w:=by
  intro k hk
  have:k=0∨k=1:=by omega
  rcases this with rfl|rfl<;>rfl
 rw [key c hc]
 simp only [Extern.MathBitsCarry.pair,Extern.MathBitsCarry.m64,Int.toNat_natCast]
 by_cases h:x<y+c
 ·rw [if_pos h,if_pos (by omega)]
  congr 4
  simp
  omega
 rw [if_neg h,if_neg (by omega)]
 congr 4
 simp
 omega
def Wown (base:Nat) (h:Array Obj) (v:Value) (m V:Nat):Prop:=
 ∃g cap cur,v=.slice (some ⟨g,0,none⟩) m cap∧base≤g∧At h g cur 195∧cur.size=cap∧m≤cap∧V<B^m ∧ ∀j,j<m→cur[j]? = some (.int .u64 (wdc V j:Nat))
theorem Wown.wr {base:Nat} {h:Array Obj} {v:Value} {m V:Nat} (hw:Wown base h v m V):Wr h v m V:=by
 obtain ⟨g,cap,cur,rfl,_,hat,_,hm,hV,hc⟩:=hw
 exact Wr.of_at hat hm hV hc
theorem Wown.keeps {base B':Nat} {h h':Array Obj} {v:Value} {m V:Nat} (hw:Wown base h v m V) (hk:Keeps B' h h') (hB:h.size≤B'):Wown base h' v m V:=by
 obtain ⟨g,cap,cur,e,hb,hat,r⟩:=hw
 exact ⟨g,cap,cur,e,hb,hk.at hat (Nat.lt_of_lt_of_le hat.lt hB),r⟩
theorem Wown.mono {base base':Nat} {h:Array Obj} {v:Value} {m V:Nat} (hw:Wown base h v m V) (hb:base'≤base):Wown base' h v m V:=by
 obtain ⟨g,cap,cur,e,h1,r⟩:=hw
 exact ⟨g,cap,cur,e,by omega,r⟩
def Bld (h0 h:Array Obj) (g M i S:Nat):Prop:=
 ∃cur,At h g cur 195∧cur.size=M∧(∀j,j<i→cur[j]? = some (.int .u64 (wdc S j:Nat)))∧Keeps g h0 h
theorem Bld.set {h0 h:Array Obj} {g M i S:Nat} {cur:Array Value} (hat:At h g cur 195) (hsz:cur.size=M) (hc:∀j,j<i→cur[j]? = some (.int .u64 (wdc S j:Nat))) (hk:Keeps g h0 h) (hi:i<M) {z:Int} (hz:z=(wdc S i:Nat)):
  Bld h0 (setB h g (cur.setIfInBounds i (.int .u64 z)) 195) g M (i+1) S:=by
 subst hz
 refine ⟨_,setB_same hat.lt _ _,by simpa using hsz,fun j hj=>?_,hk.setB (Nat.le_refl _) _ _⟩
 by_cases e:j=i
 ·subst e
  rw [Array.getElem?_setIfInBounds_self_of_lt (by omega)]
 rw [Array.getElem?_setIfInBounds_ne (by omega)]
 exact hc j (by omega)
theorem Bld.own {h0 h:Array Obj} {g M S:Nat} (hb:Bld h0 h g M M S) (hS:S<B^M):Wown g h (.slice (some ⟨g,0,none⟩) M M) M S:=by
 obtain ⟨cur,hat,hsz,hc,_⟩:=hb
 exact ⟨g,M,cur,rfl,Nat.le_refl _,hat,hsz,Nat.le_refl _,hS,hc⟩
theorem plus_fn {h:Array Obj} {v1 v2:Value} {m1 m2 V1 V2:Nat} (hw1:Wr h v1 m1 V1) (hw2:Wr h v2 m2 V2) (hm1:m1≤1048576) (hm2:m2≤1048576):
  FnV Tryz.prog 143 #[v1,v2] h fun r h'=>Wown h.size h' r (max m1 m2+1) (V1+V2)∧Keeps h.size h h':=by
 have hW1:=hw1
 have hW2:=hw2
 obtain ⟨a1,cap1,rfl,hc1,hV1,hr1⟩:=hw1
 obtain ⟨a2,cap2,rfl,hc2,hV2,hr2⟩:=hw2
 obtain ⟨M,hM⟩:∃M,M=max m1 m2+1:=⟨_,rfl⟩
 have hS:V1+V2<B^M:=by
  have e1:=Nat.lt_of_lt_of_le hV1 (Nat.pow_le_pow_right B_pos (show m1≤max m1 m2 by omega))
  have e2:=Nat.lt_of_lt_of_le hV2 (Nat.pow_le_pow_right B_pos (show m2≤max m1 m2 by omega))
  rw [hM,Nat.pow_succ]
  have:=Nat.mul_le_mul_left (B^max m1 m2) (show 2≤B by decide)
  omega
 rw [←hM]
 refine Fn.of (args:=[.slice a1 m1 cap1,.slice a2 m2 cap2]) Tryz.func143 (by kernel_rfl) rfl Tryz.ntmps143 rfl fun w0 cs=>?_
 refine gO ?_;conv=>whnf
 repeat (refine oL ?_;conv=>whnf)
 refine Runs.eff (eff_make1 tab M M (hn:=⟨by omega,by omega,by omega,by dsimp only;omega,by omega⟩)) ?_
 rintro _ _ ⟨rfl,rfl⟩
 try refine gO ?_;conv=>whnf
 refine Runs.loop (X:=Nat) (fun i=>[(0,.slice a1 m1 cap1),(1,.slice a2 m2 cap2),(5,.slice (some ⟨h.size,0,none⟩) M M),(6,.int .u64 (car V1 V2 i:Nat)),(16,.int .i64 M),(17,.int .i64 (i:Nat))])
  (fun i h'=>i≤M∧Bld h h' h.size M i (V1+V2)) (fun i=>M - i) 0
  ⟨Nat.zero_le _,_,push_new _ _ _,by simp,fun j hj=>absurd hj (Nat.not_lt_zero _),(Keeps.refl _ _).push (Nat.le_refl _) _⟩ ⟨rfl,rfl,rfl,by rw [car_zero];rfl,rfl,rfl,trivial⟩ ?_
 rintro i h' ⟨hi,cur,hat,hsz,hc,hk⟩ ih
 have hX1:=hW1.keeps hk
 have hX2:=hW2.keeps hk
 obtain ⟨w1,w2⟩:=add_word V1 V2 i
 have hcl:=car_le V1 V2 i
 try refine gO ?_;conv=>whnf
 refine ⟨fun h1=>?_,fun h1=>?_⟩<;>conv=>whnf
 ·repeat (refine oL ?_;conv=>whnf)
  refine Runs.callV (word_fn hX1 i) ?_
  rintro _ _ ⟨rfl,rfl⟩
  try refine gO ?_;conv=>whnf
  refine Runs.callV (word_fn hX2 i) ?_
  rintro _ _ ⟨rfl,rfl⟩
  try refine gO ?_;conv=>whnf
  refine Runs.eff (Eff.ext (add64_ext (wdc V1 i) (wdc V2 i) (car V1 V2 i) hcl)) ?_
  rintro _ _ ⟨rfl,rfl⟩
  try refine gO ?_;conv=>whnf
  repeat (refine oL ?_;conv=>whnf)
  refine Runs.eff (eff_store1 tab hat (hlt:=by omega)) ?_
  rintro _ _ rfl
  try refine gO ?_;conv=>whnf
  repeat (refine oL ?_;conv=>whnf)
  refine ih (i+1) _ _ ⟨by omega,?_⟩ (by omega) ⟨rfl,rfl,rfl,?_,rfl,rfl,trivial⟩
  ·rw [show 0+(i:Int).toNat=i by omega]
   exact Bld.set hat hsz hc hk (by omega) (by rw [w1];rfl)
  rw [w2];rfl
 try refine gO ?_;conv=>whnf
 refine Runs.ret Tryz.func143 rfl rfl ⟨_,rfl,?_⟩
 have:i=M:=by omega
 subst this
 exact ⟨Bld.own ⟨cur,hat,hsz,hc,hk⟩ hS,hk⟩

theorem setB_self {h:Array Obj} {g:Nat} {cur:Array Value} {e:TypeId} (hat:At h g cur e):setB h g cur e=h:=by
 unfold setB
 apply Array.ext
 ·simp
 intro i h1 h2
 rw [Array.getElem_setIfInBounds]
 split
 ·rename_i hi
  subst hi
  have:=(Array.getElem?_eq_some_iff.1 hat).2
  exact this.symm
 rfl
theorem setB_setB (h:Array Obj) (g:Nat) (c1 c2:Array Value) (e:TypeId):setB (setB h g c1 e) g c2 e=setB h g c2 e:=by
 unfold setB
 simp
theorem Wr.setB {h:Array Obj} {v:Value} {m V g:Nat} {cs:Array Value} {e:TypeId} (hw:Wr h v m V) (hne:v.ownBlock≠some g):Wr (Fw.setB h g cs e) v m V:=
 hw.of_same fun b hb _=>setB_ne (fun e=>hne (by rw [hb,e])) _ _
theorem reduce_fn {h:Array Obj} {g m cap m2 V1 V2:Nat} {cur:Array Value} {v2:Value} (hat:At h g cur 195) (hsz:cur.size=cap) (hmc:m≤cap) (hV1:V1<B^m)
  (hc:∀j,j<m→cur[j]? = some (.int .u64 (wdc V1 j:Nat))) (hw2:Wr h v2 m2 V2) (hne:v2.ownBlock≠some g) (hle:V2≤V1) (hm:m≤1048576):
  FnV Tryz.prog 165 #[.slice (some ⟨g,0,none⟩) m cap,v2] h fun r h'=>r=.tuple #[] ∧ ∃cur',h'=setB h g cur' 195∧cur'.size=cap ∧ ∀j,j<m→cur'[j]? = some (.int .u64 (wdc (V1 - V2) j:Nat)):=by
 refine Fn.of (args:=[.slice (some ⟨g,0,none⟩) m cap,v2]) Tryz.func165 (by kernel_rfl) rfl Tryz.ntmps165 rfl fun w0 cs=>?_
 refine gO ?_;conv=>whnf
 refine Runs.loop (X:=Nat) (fun i=>[(0,.slice (some ⟨g,0,none⟩) m cap),(1,v2),(4,.int .u64 (bor V1 V2 i:Nat)),(7,.int .i64 m),(8,.int .i64 (i:Nat))])
  (fun i h'=>i≤m ∧ ∃cur',h'=setB h g cur' 195∧cur'.size=cap∧(∀j,j<i→cur'[j]? = some (.int .u64 (wdc (V1 - V2) j:Nat))) ∧ ∀j,i≤j→j<m→cur'[j]? = some (.int .u64 (wdc V1 j:Nat)))
  (fun i=>m - i) 0
  ⟨Nat.zero_le _,cur,(setB_self hat).symm,hsz,fun j hj=>absurd hj (Nat.not_lt_zero _),fun j _ hj=>hc j hj⟩ ⟨rfl,rfl,by rw [bor_zero];rfl,rfl,rfl,trivial⟩ ?_
 rintro i _ ⟨hi,cur',rfl,hsz',hc1,hc2⟩ ih
 have hat':At (setB h g cur' 195) g cur' 195:=setB_same hat.lt _ _
 obtain ⟨w1,w2⟩:=sub_word hle i
 have w1':(wdc (V1 - V2) i:Int)=((wdc V1 i:Int) - wdc V2 i - bor V1 V2 i)%18446744073709551616:=w1
 have hbl:=bor_le V1 V2 i
 try refine gO ?_;conv=>whnf
 refine ⟨fun h1=>?_,fun h1=>?_⟩<;>conv=>whnf
 ·have hcell:cellH (setB h g cur' 195) g (0+(i:Int).toNat)=some (.int .u64 (wdc V1 i:Nat)):=by
   rw [hat'.cell,show 0+(i:Int).toNat=i by omega]
   exact hc2 i (Nat.le_refl _) (by omega)
  refine Runs.drawn tab [0,1,2,3,4,5,6,7,8,9,10,11,12,13,14] [15,16] (by kernel_rfl) ?_;conv=>whnf
  repeat (refine oL ?_;conv=>whnf)
  refine ⟨_,hcell,?_⟩;conv=>whnf
  refine ⟨_,.inl (word_fn (hw2.setB hne) i),?_⟩;conv=>whnf
  refine ⟨_,.inr (sub64_ext (wdc V1 i) (wdc V2 i) (bor V1 V2 i) (wdc_le _ _) (wdc_le _ _) hbl),?_⟩;conv=>whnf
  repeat (refine oL ?_;conv=>whnf)
  refine ⟨rfl,_,eff_store1 tab hat' (hlt:=by omega),?_⟩
  rintro _ _ rfl
  conv=>whnf
  try refine gO ?_;conv=>whnf
  repeat (refine oL ?_;conv=>whnf)
  rw [setB_setB,show 0+(i:Int).toNat=i by omega,←w1']
  refine ih (i+1) _ _ ⟨by omega,_,rfl,by simpa using hsz',fun j hj=>?_,fun j hj hjm=>?_⟩ (by omega) ⟨rfl,rfl,?_,rfl,rfl,trivial⟩
  ·by_cases e:j=i
   ·subst e
    rw [Array.getElem?_setIfInBounds_self_of_lt (by omega)]
   rw [Array.getElem?_setIfInBounds_ne (by omega)]
   exact hc1 j (by omega)
  ·rw [Array.getElem?_setIfInBounds_ne (by omega)]
   exact hc2 j (by omega) hjm
  rw [w2];rfl
 try refine gO ?_;conv=>whnf
 refine Runs.fin Tryz.func165 rfl rfl ⟨_,rfl,?_⟩
 have:i=m:=by omega
 subst this
 exact ⟨rfl,cur',rfl,hsz',hc1⟩
end Go.Proofs.YtofjdbmcloemnaaGreatDoor

namespace Go.Proofs.YtofjdbmcloemnaaGreatDoor
open Go Go.Fw Go.NatM
set_option maxRecDepth 100000
set_option maxHeartbeats 4000000
theorem and_mask {z:Int} (hz:0≤z):(((fun a b=>a&&&b) z.toNat (Int.toNat 4294967295):Nat):Int)=z%4294967296:=by
 have:z.toNat&&&4294967295=z.toNat%4294967296:=Nat.and_two_pow_sub_one_eq_mod z.toNat 32
 show ((z.toNat&&&4294967295:Nat):Int)=_
 rw [this]
 omega
theorem mul_parts (x y x0 x1 y0 y1:Int) (hx:x=4294967296*x1+x0) (hy:y=4294967296*y1+y0):
  x*y=x1*y1*18446744073709551616+x1*y0*4294967296+x0*y1*4294967296+x0*y0:=by
 subst hx hy
 grind
theorem mul_bound {a b:Int} (h1:0≤a) (h2:a≤4294967295) (h3:0≤b) (h4:b≤4294967295):0≤a*b∧a*b≤18446744065119617025:=
 ⟨Int.mul_nonneg h1 h3,Int.mul_le_mul h2 h4 h3 (by omega)⟩
theorem mul_high (x y:Int) (hx0:0≤x) (hx:x<18446744073709551616) (hy0:0≤y) (hy:y<18446744073709551616):
  (((x/4294967296*(y/4294967296)%18446744073709551616 +
    (x/4294967296*(y%4294967296)%18446744073709551616+x%4294967296*(y%4294967296)%18446744073709551616/4294967296)%18446744073709551616/4294967296)%18446744073709551616 +
    ((x/4294967296*(y%4294967296)%18446744073709551616+x%4294967296*(y%4294967296)%18446744073709551616/4294967296)%18446744073709551616%4294967296 +
      x%4294967296*(y/4294967296)%18446744073709551616)%18446744073709551616/4294967296)%18446744073709551616)=x*y/18446744073709551616:=by
 have e:=mul_parts x y (x%4294967296) (x/4294967296) (y%4294967296) (y/4294967296) (by omega) (by omega)
 have b1:=mul_bound (a:=x/4294967296) (b:=y/4294967296) (by omega) (by omega) (by omega) (by omega)
 have b2:=mul_bound (a:=x/4294967296) (b:=y%4294967296) (by omega) (by omega) (by omega) (by omega)
 have b3:=mul_bound (a:=x%4294967296) (b:=y/4294967296) (by omega) (by omega) (by omega) (by omega)
 have b4:=mul_bound (a:=x%4294967296) (b:=y%4294967296) (by omega) (by omega) (by omega) (by omega)
 generalize x/4294967296*(y/4294967296)=p11 at *
 generalize x/4294967296*(y%4294967296)=p10 at *
 generalize x%4294967296*(y/4294967296)=p01 at *
 generalize x%4294967296*(y%4294967296)=p00 at *
 rw [e]
 clear e hx0 hx hy0 hy
 omega
theorem mul64_fn {h:Array Obj} (x y:Nat) (hx:x<B) (hy:y<B):
  FnV Tryz.prog 181 #[.int .u64 x,.int .u64 y] h fun r h'=>(∃hi lo:Nat,r=.tuple #[.int .u64 hi,.int .u64 lo]∧hi=x*y/B∧lo=x*y%B)∧h'=h:=by
 rw [B_eq] at hx hy
 refine Fn.of (args:=[.int .u64 x,.int .u64 y]) Tryz.func181 (by kernel_rfl) rfl Tryz.ntmps181 rfl fun w0 cs=>?_
 refine gO ?_;conv=>whnf
 repeat (refine oL ?_;conv=>whnf)
 refine Runs.ret Tryz.func181 rfl rfl ⟨_,rfl,?_⟩
 refine ⟨⟨x*y/B,x*y%B,?_,rfl,rfl⟩,rfl⟩
 rw [and_mask (z:=(x:Int)) (by omega),and_mask (z:=(y:Int)) (by omega),and_mask (by omega),mul_high _ _ (by omega) (by omega) (by omega) (by omega)]
 rfl
theorem mul_step (p s g:Nat) (hp:p≤340282366920938463426481119284349108225) (hs:s<B) (hg:g<B):
  ((p%B+s)%B+g)%B=(p+s+g)%B∧p/B+(p%B+s)/B+((p%B+s)%B+g)/B=(p+s+g)/B∧(p+s+g)/B<B:=by
 rw [B_eq] at *
 omega
def Blk (h0 h:Array Obj) (g M S:Nat):Prop:=
 ∃cur,At h g cur 195∧cur.size=M∧S<B^M∧(∀j,j<M→cur[j]? = some (.int .u64 (wdc S j:Nat)))∧Keeps g h0 h
theorem Blk.put {h0 h:Array Obj} {g M S x:Nat} {cur:Array Value} (hat:At h g cur 195) (hsz:cur.size=M) (hS:S<B^M) (hc:∀j,j<M→cur[j]? = some (.int .u64 (wdc S j:Nat)))
  (hk:Keeps g h0 h) {i:Nat} (hi:i<M) (hx:x<B) {z:Int} (hz:z=(x:Nat)):Blk h0 (setB h g (cur.setIfInBounds i (.int .u64 z)) 195) g M (putw S i x):=by
 subst hz
 refine ⟨_,setB_same hat.lt _ _,by simpa using hsz,putw_lt hx hi hS,fun j hj=>?_,hk.setB (Nat.le_refl _) _ _⟩
 rw [wdc_putw hx]
 by_cases e:j=i
 ·subst e
  rw [Array.getElem?_setIfInBounds_self_of_lt (by omega),if_pos rfl]
 rw [Array.getElem?_setIfInBounds_ne (by omega),if_neg e]
 exact hc j hj
theorem Blk.own {h0 h:Array Obj} {g M S:Nat} (hb:Blk h0 h g M S):Wown g h (.slice (some ⟨g,0,none⟩) M M) M S:=by
 obtain ⟨cur,hat,hsz,hS,hc,_⟩:=hb
 exact ⟨g,M,cur,rfl,Nat.le_refl _,hat,hsz,Nat.le_refl _,hS,hc⟩
theorem Wr.rd {h:Array Obj} {v:Value} {m V:Nat} (hw:Wr h v m V) {a m' cap} (e:v=.slice a m' cap) (hm:0<m):∃b off,a=some ⟨b,off,none⟩∧Rdw h b off m V:=by
 obtain ⟨a',cap',e',_,_,hr⟩:=hw
 rw [e'] at e
 cases e
 exact hr hm
theorem wdc_zero (j:Nat):wdc 0 j=0:=by simp [wdc]
theorem add64_ext' (x y c:Nat) (hc:c≤1):∃s d:Nat,Ext Tryz.prog 159 #[.int .u64 x,.int .u64 y,.int .u64 c] (.tuple #[.int .u64 s,.int .u64 d])∧s=(x+y+c)%B∧d=(x+y+c)/B:=
 ⟨_,_,add64_ext x y c hc,rfl,rfl⟩
theorem times_row {S0 S x V2 i j high hi p s:Nat} (hI:S+B^(i+j)*high=S0+x*(V2%B^j)*B^i) (hs:s=(p+wdc S (i+j)+high)%B) (hp:p=x*wdc V2 j) (hh:hi=(p+wdc S (i+j)+high)/B):
  putw S (i+j) s+B^(i+(j+1))*hi=S0+x*(V2%B^(j+1))*B^i:=by
 have h1:=@putw_eq S (i+j) s
 have h2:p+wdc S (i+j)+high=B*hi+s:=by rw [hs,hh];exact (Nat.div_add_mod _ _).symm
 rw [mod_succ,hp] at *
 have e1:B^(i+(j+1))*hi=B^(i+j)*(B*hi):=by rw [←Nat.add_assoc,Nat.pow_succ,Nat.mul_assoc]
 have e2:B^(i+j)*(B*hi)+B^(i+j)*s=B^(i+j)*(x*wdc V2 j)+B^(i+j)*wdc S (i+j)+B^(i+j)*high:=by rw [←Nat.mul_add,←h2,Nat.mul_add,Nat.mul_add]
 have e3:x*(V2%B^j+B^j*wdc V2 j)*B^i=x*(V2%B^j)*B^i+B^(i+j)*(x*wdc V2 j):=by
  rw [Nat.pow_add];grind
 omega
theorem times_end {S0 S x V1 V2 m2 i high:Nat} (hI:S+B^(i+m2)*high=S0+x*V2*B^i) (h0:S0=V1%B^i*V2) (hx:x=wdc V1 i) (hS:S<B^(i+m2)):
  putw S (i+m2) high=V1%B^(i+1)*V2:=by
 have h1:=@putw_eq S (i+m2) high
 rw [wdc_ge hS (Nat.le_refl _),Nat.mul_zero,Nat.add_zero] at h1
 rw [h1,hI,h0,hx,mod_succ]
 grind
theorem times_fn {h:Array Obj} {v1 v2:Value} {m1 m2 V1 V2:Nat} (hw1:Wr h v1 m1 V1) (hw2:Wr h v2 m2 V2) (hm1:m1≤1048576) (hm2:m2≤1048576):
  FnV Tryz.prog 166 #[v1,v2] h fun r h'=>Wown h.size h' r (m1+m2) (V1*V2)∧Keeps h.size h h':=by
 have hW1:=hw1
 have hW2:=hw2
 obtain ⟨a1,cap1,rfl,hc1,hV1,hr1⟩:=hw1
 obtain ⟨a2,cap2,rfl,hc2,hV2,hr2⟩:=hw2
 refine Fn.of (args:=[.slice a1 m1 cap1,.slice a2 m2 cap2]) Tryz.func166 (by kernel_rfl) rfl Tryz.ntmps166 rfl fun w0 cs=>?_
 refine gO ?_;conv=>whnf
 repeat (refine oL ?_;conv=>whnf)
 refine Runs.eff (eff_make1 tab (m1+m2) (m1+m2) (hn:=⟨by omega,by omega,by omega,by dsimp only;omega,by omega⟩)) ?_
 rintro _ _ ⟨rfl,rfl⟩
 try refine gO ?_;conv=>whnf
 refine Runs.loop (X:=Nat) (fun i=>[(1,.slice a2 m2 cap2),(5,.slice (some ⟨h.size,0,none⟩) ((m1:Int)+m2).toNat ((m1:Int)+m2).toNat),(21,.slice a1 m1 cap1),(22,.int .i64 m1),(23,.int .i64 (i:Nat))])
  (fun i h'=>i≤m1 ∧ ∃S,Blk h h' h.size (m1+m2) S∧S=V1%B^i*V2) (fun i=>m1 - i) 0
  ⟨Nat.zero_le _,0,⟨_,push_new _ _ _,by simp,Bp_pos _,fun j hj=>?_,(Keeps.refl _ _).push (Nat.le_refl _) _⟩,by simp [Nat.mod_one]⟩ ⟨rfl,rfl,rfl,rfl,rfl,trivial⟩ ?_
 ·rw [wdc_zero,Array.getElem?_replicate,if_pos hj];rfl
 rintro i h' ⟨hi,S0,hB0,hS0⟩ ih
 have hX1:=hW1.keeps hB0.choose_spec.2.2.2.2
 try refine gO ?_;conv=>whnf
 refine ⟨fun h1=>?_,fun h1=>?_⟩<;>conv=>whnf
 ·repeat (refine oL ?_;conv=>whnf)
  obtain ⟨b1,off1,rfl,hrd1⟩:=hX1.rd rfl (by omega)
  conv=>whnf
  repeat (refine oL ?_;conv=>whnf)
  refine ⟨_,hrd1 i (by omega),?_⟩;conv=>whnf
  try refine gO ?_;conv=>whnf
  refine Runs.loop (X:=Nat×Nat) (fun q=>[(1,.slice a2 m2 cap2),(5,.slice (some ⟨h.size,0,none⟩) ((m1:Int)+m2).toNat ((m1:Int)+m2).toNat),(21,.slice (some ⟨b1,off1,none⟩) m1 cap1),(22,.int .i64 m1),(23,.int .i64 (i:Nat)),
   (6,.int .i64 (i:Nat)),(7,.int .u64 (wdc V1 i:Nat)),(8,.int .u64 (q.2:Nat)),(28,.slice a2 m2 cap2),(29,.int .i64 m2),(30,.int .i64 (q.1:Nat))])
   (fun q h''=>q.1≤m2∧q.2<B ∧ ∃S,Blk h h'' h.size (m1+m2) S∧S<B^(i+m2)∧S+B^(i+q.1)*q.2=S0+wdc V1 i*(V2%B^q.1)*B^i) (fun q=>m2 - q.1) (0,0)
   ⟨Nat.zero_le _,B_pos,S0,hB0,?_,by simp [Nat.mod_one]⟩ ⟨rfl,rfl,rfl,rfl,rfl,rfl,rfl,rfl,rfl,rfl,rfl,trivial⟩ ?_
  ·rw [hS0,Nat.pow_add]
   exact Nat.mul_lt_mul'' (Nat.mod_lt _ (Bp_pos _)) hV2
  clear hB0
  rintro ⟨j,high⟩ h'' ⟨hj,hhigh,S,⟨cur,hat,hsz,hS,hc,hk⟩,hSb,hI⟩ ihj
  have hX2:=hW2.keeps hk
  dsimp only at hj hhigh hI ⊢
  try refine gO ?_;conv=>whnf
  refine ⟨fun h2=>?_,fun h2=>?_⟩<;>conv=>whnf
  ·repeat (refine oL ?_;conv=>whnf)
   obtain ⟨b2,off2,rfl,hrd2⟩:=hX2.rd rfl (by omega)
   conv=>whnf
   repeat (refine oL ?_;conv=>whnf)
   refine ⟨_,hrd2 j (by omega),?_⟩;conv=>whnf
   try refine gO ?_;conv=>whnf
   refine Runs.callV (mul64_fn _ _ (wdc_lt V1 i) (wdc_lt V2 j)) ?_
   rintro _ h'' ⟨⟨hi,lo,rfl,hhi,hlo⟩,rfl⟩
   try refine gO ?_;conv=>whnf
   repeat (refine oL ?_;conv=>whnf)
   have hcell:cellH h'' h.size (0+(i+j))=some (.int .u64 (wdc S (i+j):Nat)):=by
    rw [hat.cell,Nat.zero_add]
    exact hc (i+j) (by omega)
   refine ⟨_,hcell,?_⟩;conv=>whnf
   try refine gO ?_;conv=>whnf
   obtain ⟨P,hP⟩:∃P,P=wdc V1 i*wdc V2 j:=⟨_,rfl⟩
   have hPb:P≤340282366920938463426481119284349108225:=by
    rw [hP];exact Nat.mul_le_mul (wdc_le V1 i) (wdc_le V2 j)
   obtain ⟨k1,k2,k3⟩:=mul_step P (wdc S (i+j)) high hPb (wdc_lt _ _) hhigh
   have hrow:=times_row hI rfl hP rfl
   rw [←hP] at hhi hlo
   rw [←hlo,←hhi] at k2
   rw [←hlo] at k1
   obtain ⟨s1,c1,H1,hs1,hc1⟩:=add64_ext' lo (wdc S (i+j)) 0 (by omega)
   obtain ⟨s2,c2,H2,hs2,hc2⟩:=add64_ext' s1 high 0 (by omega)
   rw [Nat.add_zero] at hs1 hc1 hs2 hc2
   rw [←hs1,←hs2] at k1
   rw [←hs1,←hc1,←hc2] at k2
   generalize (P+wdc S (i+j)+high)/B=high' at *
   rw [←k1] at hrow
   have hs2B:s2<B:=by rw [k1];exact Nat.mod_lt _ B_pos
   refine Runs.eff (Eff.ext H1) ?_
   rintro _ _ ⟨rfl,rfl⟩
   try refine gO ?_;conv=>whnf
   repeat (refine oL ?_;conv=>whnf)
   refine Runs.eff (Eff.ext H2) ?_
   rintro _ _ ⟨rfl,rfl⟩
   try refine gO ?_;conv=>whnf
   repeat (refine oL ?_;conv=>whnf)
   refine Runs.eff (eff_store1 tab hat (hlt:=by omega)) ?_
   rintro _ _ rfl
   try refine gO ?_;conv=>whnf
   repeat (refine oL ?_;conv=>whnf)
   rw [show 0+((i:Int)+(j:Int)).toNat=i+j by omega]
   refine ihj (j+1,high') _ _ ⟨by omega,k3,_,Blk.put hat hsz hS hc hk (i:=i+j) (by omega) hs2B rfl,putw_lt hs2B (by omega) hSb,hrow⟩ (by dsimp only;omega)
    ⟨rfl,rfl,rfl,rfl,rfl,rfl,rfl,?_,rfl,rfl,rfl,trivial⟩
   have e8:(((hi:Int)+c1)%18446744073709551616+c2)%18446744073709551616=(high':Nat):=by
    rw [B_eq] at k3
    omega
   rw [e8]
   rfl
  have hjm:j=m2:=by omega
  subst hjm
  rw [mod_self hV2] at hI
  have hend:=times_end hI hS0 rfl hSb
  conv=>whnf
  repeat (refine oL ?_;conv=>whnf)
  refine Runs.eff (eff_store1 tab hat (hlt:=by omega)) ?_
  rintro _ _ rfl
  try refine gO ?_;conv=>whnf
  repeat (refine oL ?_;conv=>whnf)
  rw [show 0+((i:Int)+(j:Int)).toNat=i+j by omega]
  exact ih (i+1) _ _ ⟨by omega,_,Blk.put hat hsz hS hc hk (i:=i+j) (by omega) hhigh rfl,hend⟩ (by omega) ⟨rfl,rfl,rfl,rfl,rfl,trivial⟩
 try refine gO ?_;conv=>whnf
 refine Runs.ret Tryz.func166 rfl rfl ⟨_,rfl,?_⟩
 have him:i=m1:=by omega
 rw [him,mod_self hV1] at hS0
 subst hS0
 exact ⟨hB0.own,hB0.choose_spec.2.2.2.2⟩

theorem or_add {a b k:Nat} (ha:a<2^k):a|||(2^k*b)=2^k*b+a:=by
 rw [Nat.or_comm,Nat.two_pow_add_eq_or_of_lt ha]
theorem shift_word (V n m i:Nat) (hm:m<64):wdc (V/2^(64*n+m)) i=wdc V (i+n)/2^m|||(wdc V (i+n+1)*2^(64 - m)%B):=by
 have hB:B=2^m*2^(64 - m):=by rw [←Nat.pow_add,show m+(64 - m)=64 by omega];rfl
 have e1:wdc (V/2^(64*n+m)) i=V/B^(i+n)/2^m%B:=by
  unfold wdc
  rw [Nat.pow_add,←B_pow,Nat.div_div_eq_div_mul,Nat.div_div_eq_div_mul,Nat.pow_add]
  congr 2
  grind
 have e2:wdc V (i+n+1)=V/B^(i+n)/B%B:=by
  unfold wdc
  rw [Nat.pow_succ,Nat.div_div_eq_div_mul]
 rw [e1,e2]
 unfold wdc
 generalize V/B^(i+n)=X
 have h1:X%B/2^m<2^(64 - m):=Nat.div_lt_of_lt_mul (by rw [←hB];exact Nat.mod_lt _ B_pos)
 have h2:X/B%B*2^(64 - m)%B=2^(64 - m)*(X/B%2^m):=by
  have:B=2^(64 - m)*2^m:=by rw [Nat.mul_comm,←hB]
  rw [Nat.mul_comm (X/B%B),this,Nat.mul_mod_mul_left,←this,hB,Nat.mod_mul_right_mod]
 rw [h2,or_add h1]
 have h3:X/2^m%B=X%(2^m*B)/2^m:=(Nat.mod_mul_right_div_self X (2^m) B).symm
 rw [h3,Nat.mul_comm (2^m) B,Nat.mod_mul]
 rw [show B*(X/B%2^m)=2^m*(2^(64 - m)*(X/B%2^m)) by rw [←Nat.mul_assoc,←hB]]
 rw [Nat.add_mul_div_left _ _ (Nat.two_pow_pos m),Nat.add_comm]
theorem shr_cast (x s:Nat):((x:Int)/2^((s:Int).toNat):Int)=((x/2^s:Nat):Int):=by
 rw [Int.toNat_natCast];simp
theorem shl_cast (x s:Nat):((x:Int)*2^((64 - (s:Int)).toNat)%18446744073709551616:Int)=((x*2^(64 - s)%B:Nat):Int):=by
 rw [show (64 - (s:Int)).toNat=64 - s by omega,B_eq];simp
theorem shr_le {x:Nat} (hx:x≤18446744073709551615) (s:Nat):x/2^s≤18446744073709551615:=Nat.le_trans (Nat.div_le_self _ _) hx
theorem modB_le (x:Nat):x%B≤18446744073709551615:=by have:=Nat.mod_lt x B_pos;rw [B_eq] at *;omega
theorem shift_fn {h:Array Obj} {g m cap V:Nat} {cur:Array Value} (hat:At h g cur 195) (hsz:cur.size=cap) (hmc:m≤cap) (hV:V<B^m)
  (hc:∀j,j<m→cur[j]? = some (.int .u64 (wdc V j:Nat))) (hm:m≤1048576) (k:Nat) (hk:k≤67108864):
  FnV Tryz.prog 163 #[.slice (some ⟨g,0,none⟩) m cap,.int .i64 k] h fun r h'=>r=.slice (some ⟨g,0,none⟩) (nw (V/2^k)) cap ∧
   ∃cur',h'=setB h g cur' 195∧cur'.size=cap ∧ ∀j,j<m→cur'[j]? = some (.int .u64 (wdc (V/2^k) j:Nat)):=by
 obtain ⟨n,hn⟩:∃n,n=k/64:=⟨_,rfl⟩
 obtain ⟨s,hs⟩:∃s,s=k%64:=⟨_,rfl⟩
 have hk':k=64*n+s:=by omega
 have hs64:s<64:=by omega
 have e1:(k:Int)/64=n:=by omega
 have e2:(k:Int)%64=s:=by omega
 refine Fn.of (args:=[.slice (some ⟨g,0,none⟩) m cap,.int .i64 k]) Tryz.func163 (by kernel_rfl) rfl Tryz.ntmps163 rfl fun w0 cs=>?_
 refine gO ?_;conv=>whnf
 repeat (refine oL ?_;conv=>whnf)
 refine Runs.loop (X:=Nat) (fun i=>[(0,.slice (some ⟨g,0,none⟩) m cap),(5,.int .i64 n),(6,.int .i64 s),(13,.int .i64 m),(14,.int .i64 (i:Nat))])
  (fun i h'=>i≤m ∧ ∃cur' S,h'=setB h g cur' 195∧cur'.size=cap∧S<B^m∧(∀j,j<m→cur'[j]? = some (.int .u64 (wdc S j:Nat)))∧(∀j,j<i→wdc S j=wdc (V/2^k) j) ∧ ∀j,i≤j→wdc S j=wdc V j)
  (fun i=>m - i) 0
  ⟨Nat.zero_le _,cur,V,(setB_self hat).symm,hsz,hV,hc,fun j hj=>absurd hj (Nat.not_lt_zero _),fun _ _=>rfl⟩ ⟨rfl,by rw [←e1];rfl,by rw [←e2];rfl,rfl,rfl,trivial⟩ ?_
 rintro i _ ⟨hi,cur',S,rfl,hsz',hS,hcc,hlo,hhi⟩ ih
 have hat':At (setB h g cur' 195) g cur' 195:=setB_same hat.lt _ _
 have hw:Wr (setB h g cur' 195) (.slice (some ⟨g,0,none⟩) m cap) m S:=Wr.of_at hat' hmc hS hcc
 try refine gO ?_;conv=>whnf
 refine ⟨fun h1=>?_,fun h1=>?_⟩<;>conv=>whnf
 ·try refine gO ?_
  conv=>whnf
  refine Runs.drawn tab [0,1,2,3,4,5,6,7,8,9,10,11,12,13,14,15,16,17,18,19] [20] (by kernel_rfl) ?_;conv=>whnf
  repeat (refine oL ?_;conv=>whnf)
  refine ⟨_,.inl (word_fn hw (i+n)),?_⟩;conv=>whnf
  repeat (refine oL ?_;conv=>whnf)
  refine ⟨_,.inl (word_fn hw (i+n+1)),?_⟩;conv=>whnf
  repeat (refine oL ?_;conv=>whnf)
  rw [shr_cast,shl_cast]
  have b1:=shr_le (wdc_le S (i+n)) s
  have b2:=modB_le (wdc S (i+n+1)*2^(64 - s))
  have hx:=shift_word V n s i hs64
  rw [←hk',←hhi (i+n) (by omega),←hhi (i+n+1) (by omega)] at hx
  obtain ⟨x1,hx1⟩:∃x1,x1=wdc S (i+n)/2^s:=⟨_,rfl⟩
  obtain ⟨x2,hx2⟩:∃x2,x2=wdc S (i+n+1)*2^(64 - s)%B:=⟨_,rfl⟩
  rw [←hx1] at hx b1 ⊢
  rw [←hx2] at hx b2 ⊢
  repeat (refine oL ?_;conv=>whnf)
  refine ⟨rfl,_,eff_store1 tab hat' (hlt:=by omega),?_⟩
  rintro _ _ rfl
  conv=>whnf
  try refine gO ?_;conv=>whnf
  repeat (refine oL ?_;conv=>whnf)
  have hz:wdc (V/2^k) i=((fun a b=>a|||b) (x1:Int).toNat (x2:Int).toNat:Nat):=by
   rw [Int.toNat_natCast,Int.toNat_natCast]
   exact hx
  rw [setB_setB,show 0+(i:Int).toNat=i by omega,←hz]
  have hxb:=wdc_lt (V/2^k) i
  refine ih (i+1) _ _ ⟨by omega,_,putw S i (wdc (V/2^k) i),rfl,by simpa using hsz',putw_lt hxb (by omega) hS,fun j hj=>?_,fun j hj=>?_,fun j hj=>?_⟩ (by omega) ⟨rfl,rfl,rfl,rfl,rfl,trivial⟩
  ·rw [wdc_putw hxb]
   by_cases e:j=i
   ·subst e
    rw [Array.getElem?_setIfInBounds_self_of_lt (by omega),if_pos rfl]
   rw [Array.getElem?_setIfInBounds_ne (by omega),if_neg e]
   exact hcc j hj
  ·rw [wdc_putw hxb]
   by_cases e:j=i
   ·rw [if_pos e,e]
   rw [if_neg e];exact hlo j (by omega)
  rw [wdc_putw hxb,if_neg (by omega)]
  exact hhi j (by omega)
 try refine gO ?_;conv=>whnf
 refine Runs.callV (trim_fn hw (by omega)) ?_
 rintro _ _ ⟨rfl,rfl⟩
 try refine gO ?_;conv=>whnf
 refine Runs.ret Tryz.func163 rfl rfl ⟨_,rfl,?_⟩
 have him:i=m:=by omega
 subst him
 have hSV:S=V/2^k:=ext_words hS (Nat.lt_of_le_of_lt (Nat.div_le_self _ _) hV) hlo
 subst hSV
 exact ⟨rfl,cur',rfl,hsz',hcc⟩
end Go.Proofs.YtofjdbmcloemnaaGreatDoor

namespace Go.NatM
open Go Go.Fw
def byc (V k:Nat):Nat:=V/256^k%256
theorem byc_lt (V k:Nat):byc V k<256:=Nat.mod_lt _ (by decide)
theorem p256_pos (j:Nat):0<256^j:=Nat.pow_pos (by decide)
theorem byc_succ (V j:Nat):V%256^(j+1)=V%256^j+256^j*byc V j:=by
 rw [Nat.pow_succ,Nat.mod_mul];rfl
theorem byc_ge {V m j:Nat} (h:V<256^m) (hj:m≤j):byc V j=0:=by
 unfold byc
 rw [Nat.div_eq_of_lt (Nat.lt_of_lt_of_le h (Nat.pow_le_pow_right (by decide) hj))]
theorem p256_two (j:Nat):256^j=2^(8*j):=by
 rw [show 256=2^8 from rfl,←Nat.pow_mul]
def nb (V:Nat):Nat:=if V=0 then 0 else Nat.log2 V/8+1
theorem nb_lt (V:Nat):V<256^nb V:=by
 unfold nb
 split
 ·rename_i h;subst h;decide
 rw [p256_two,←Nat.log2_lt (by assumption)]
 omega
theorem nb_top {V:Nat} (h:V≠0):256^(nb V - 1)≤V:=by
 unfold nb
 rw [if_neg h,Nat.add_sub_cancel,p256_two,←Nat.le_log2 h]
 omega
theorem nb_zero:nb 0=0:=rfl
theorem nb_pos {V:Nat} (h:V≠0):0<nb V:=by unfold nb;rw [if_neg h];omega
theorem nb_le {V m:Nat} (h:V<256^m):nb V≤m:=by
 unfold nb
 split
 ·omega
 rename_i h0
 rw [p256_two,←Nat.log2_lt h0] at h
 omega
theorem nb_topb {V:Nat} (h:V≠0):byc V (nb V - 1)≠0:=by
 have hle:=nb_top h
 have hlt:=nb_lt V
 have hp:=nb_pos h
 have:=byc_succ V (nb V - 1)
 rw [show nb V - 1+1=nb V by omega,Nat.mod_eq_of_lt hlt] at this
 intro h0
 rw [h0,Nat.mul_zero,Nat.add_zero] at this
 have:=Nat.mod_lt V (p256_pos (nb V - 1))
 omega
theorem nb_eq {V m:Nat} (h:V<256^m) (ht:m≠0→byc V (m - 1)≠0):m=nb V:=by
 have h1:=nb_le h
 rcases Nat.lt_or_ge (nb V) m with hlt|hge
 ·exfalso
  exact ht (by omega) (byc_ge (nb_lt V) (by omega))
 omega
theorem nb_mono {V V':Nat} (h:V≤V'):nb V≤nb V':=nb_le (Nat.lt_of_le_of_lt h (nb_lt V'))
theorem byc_word (V i:Nat):wdc V (i/8)/2^(8*(i%8))%256=byc V i:=by
 unfold wdc byc
 have hi:i=8*(i/8)+i%8:=by omega
 have h8:i%8<8:=Nat.mod_lt _ (by decide)
 generalize i/8=q at *
 generalize i%8=r at *
 subst hi
 rw [Nat.pow_add,p256_two,p256_two,B_pow,←Nat.mul_assoc 8 8 q,←Nat.div_div_eq_div_mul]
 rw [show 8*8*q=64*q by omega]
 generalize V/2^(64*q)=X
 rw [show B=2^(8*r)*2^(64 - 8*r) by rw [←Nat.pow_add,show 8*r+(64 - 8*r)=64 by omega];rfl,Nat.mod_mul_right_div_self]
 rw [show 2^(64 - 8*r)=256*2^(56 - 8*r) by rw [show 64 - 8*r=8+(56 - 8*r) by omega,Nat.pow_add],Nat.mod_mul_right_mod]
def nv (s:ByteArray):Nat→Nat
 |0=>0
 |i+1=>nv s i+byteAt s (s.size - 1 - i)*256^i
def natv (s:ByteArray):Nat:=nv s s.size
theorem byteAt_lt (s:ByteArray) (i:Nat):byteAt s i<256:=by
 have:=(s.data.toList.getD i 0).toNat_lt
 unfold byteAt
 omega
theorem nv_lt (s:ByteArray) (i:Nat):nv s i<256^i:=by
 induction i with
 |zero=>simp [nv]
 |succ i ih=>
  have h1:=byteAt_lt s (s.size - 1 - i)
  have h2:=Nat.mul_le_mul_right (256^i) (show byteAt s (s.size - 1 - i)≤255 by omega)
  simp only [nv,Nat.pow_succ]
  omega
theorem natv_lt (s:ByteArray):natv s<256^s.size:=nv_lt s _
theorem nv_mod (s:ByteArray) (i j:Nat) (h:i≤j):nv s j%256^i=nv s i:=by
 induction j with
 |zero=>
  have:i=0:=by omega
  subst this;rfl
 |succ j ih=>
  by_cases e:i=j+1
  ·subst e;exact Nat.mod_eq_of_lt (nv_lt s _)
  simp only [nv]
  rw [show 256^j=256^i*256^(j - i) by rw [←Nat.pow_add,show i+(j - i)=j by omega]]
  rw [←Nat.mul_assoc,Nat.mul_comm (byteAt s (s.size - 1 - j)),Nat.mul_assoc,Nat.add_mul_mod_self_left]
  exact ih (by omega)
theorem byc_natv (s:ByteArray) {i:Nat} (hi:i<s.size):byc (natv s) i=byteAt s (s.size - 1 - i):=by
 have h1:=byc_succ (natv s) i
 unfold natv at *
 rw [nv_mod s (i+1) _ (by omega),nv_mod s i _ (by omega)] at h1
 simp only [nv] at h1
 have h2:256^i*byteAt s (s.size - 1 - i)=256^i*byc (nv s s.size) i:=by
  rw [Nat.mul_comm];omega
 exact (Nat.eq_of_mul_eq_mul_left (p256_pos i) h2).symm
def Canon (s:ByteArray):Prop:=s.size=0∨byteAt s 0≠0
theorem nb_natv {s:ByteArray} (hc:Canon s):nb (natv s)=s.size:=by
 refine (nb_eq (natv_lt s) fun h=>?_).symm
 rw [byc_natv s (by omega),show s.size - 1 - (s.size - 1)=0 by omega]
 rcases hc with h0|h0
 ·exact absurd h0 h
 exact h0
def dn (V n:Nat):Nat→List Nat
 |0=>[]
 |j+1=>dn V n j++[byc V (n - 1 - j)]
theorem dn_length (V n j:Nat):(dn V n j).length=j:=by
 induction j with
 |zero=>rfl
 |succ j ih=>simp [dn,ih]
theorem dn_get (V n:Nat) {i j:Nat} (h:i<j):(dn V n j)[i]? = some (byc V (n - 1 - i)):=by
 induction j with
 |zero=>omega
 |succ j ih=>
  simp only [dn]
  by_cases e:i=j
  ·subst e
   rw [List.getElem?_append_right (by rw [dn_length];exact Nat.le_refl _),dn_length,Nat.sub_self];rfl
  rw [List.getElem?_append_left (by rw [dn_length];omega)]
  exact ih (by omega)
def enc (V:Nat):ByteArray:=strOf (dn V (nb V) (nb V))
theorem strOf_size (l:List Nat):(strOf l).size=l.length:=by
 show (l.map UInt8.ofNat).toArray.size=_
 simp
theorem enc_size (V:Nat):(enc V).size=nb V:=by rw [enc,strOf_size,dn_length]
theorem strOf_byte {l:List Nat} {i x:Nat} (h:l[i]? = some x) (hx:x<256):byteAt (strOf l) i=x:=by
 unfold byteAt strOf
 simp only [List.getD_eq_getElem?_getD,List.getElem?_map,h,Option.map_some,Option.getD_some]
 exact UInt8.toNat_ofNat_of_lt' hx
theorem byteAt_enc {V i:Nat} (h:i<nb V):byteAt (enc V) i=byc V (nb V - 1 - i):=
 strOf_byte (dn_get _ _ h) (byc_lt _ _)
theorem bytes_ext {s t:ByteArray} (h:s.size=t.size) (hb:∀i,i<s.size→byteAt s i=byteAt t i):s=t:=by
 obtain ⟨⟨a⟩⟩:=s
 obtain ⟨⟨b⟩⟩:=t
 have h:a.length=b.length:=h
 have:a=b:=by
  apply List.ext_getElem h
  intro i h1 h2
  have:=hb i h1
  simp only [byteAt,List.getD_eq_getElem?_getD,List.getElem?_eq_getElem h1,List.getElem?_eq_getElem h2,Option.getD_some] at this
  exact UInt8.toNat_inj.1 this
 rw [this]
theorem enc_natv {s:ByteArray} (hc:Canon s):enc (natv s)=s:=by
 have hn:=nb_natv hc
 refine bytes_ext (by rw [enc_size,hn]) fun i hi=>?_
 rw [enc_size] at hi
 rw [byteAt_enc hi,hn,byc_natv s (by omega)]
 congr 1
 omega
theorem canon_enc (V:Nat):Canon (enc V):=by
 by_cases h:V=0
 ·subst h;exact .inl rfl
 refine .inr ?_
 rw [byteAt_enc (nb_pos h)]
 exact nb_topb h
theorem ext_bytes {m:Nat}:∀ {V V':Nat},V<256^m→V'<256^m→(∀j,j<m→byc V j=byc V' j)→V=V':=by
 induction m with
 |zero=>intro V V' h h' _;simp at h h';omega
 |succ m ih=>
  intro V V' h h' hw
  have h1:=byc_succ V m
  have h2:=byc_succ V' m
  rw [Nat.mod_eq_of_lt h] at h1
  rw [Nat.mod_eq_of_lt h'] at h2
  have e:V%256^m=V'%256^m:=ih (Nat.mod_lt _ (p256_pos m)) (Nat.mod_lt _ (p256_pos m)) fun j hj=>by
   have hm:∀X:Nat,byc (X%256^m) j=byc X j:=fun X=>by
    unfold byc
    rw [show 256^m=256^j*(256*256^(m - j - 1)) by rw [←Nat.pow_succ',←Nat.pow_add,show j+(m - j - 1+1)=m by omega],Nat.mod_mul_right_div_self,Nat.mod_mul_right_mod]
   rw [hm,hm]
   exact hw j (by omega)
  rw [h1,h2,e,hw m (by omega)]
theorem natv_enc (V:Nat):natv (enc V)=V:=by
 refine ext_bytes (m:=nb V) (by have:=natv_lt (enc V);rwa [enc_size] at this) (nb_lt V) fun j hj=>?_
 rw [byc_natv _ (by rw [enc_size];exact hj),enc_size,byteAt_enc (by omega)]
 congr 1
 omega
theorem nv_word {s:ByteArray} {i S:Nat} (hS:S=nv s i):
  putw S (i/8) (wdc S (i/8)|||(byteAt s (s.size - 1 - i)*2^(8*(i%8))%B))=nv s (i+1)∧(wdc S (i/8)|||(byteAt s (s.size - 1 - i)*2^(8*(i%8))%B))<B:=by
 have hb:=byteAt_lt s (s.size - 1 - i)
 have hnv:nv s (i+1)=nv s i+byteAt s (s.size - 1 - i)*256^i:=rfl
 obtain ⟨b,hbb⟩:∃b,b=byteAt s (s.size - 1 - i):=⟨_,rfl⟩
 rw [←hbb] at hb hnv ⊢
 have hlt:=nv_lt s i
 rw [←hS] at hlt
 have h8:i%8<8:=Nat.mod_lt _ (by decide)
 have e256:256^i=B^(i/8)*2^(8*(i%8)):=by
  rw [B_pow,p256_two,←Nat.pow_add];congr 1;omega
 have hw:wdc S (i/8)<2^(8*(i%8)):=by
  unfold wdc
  exact Nat.lt_of_le_of_lt (Nat.mod_le _ _) (Nat.div_lt_of_lt_mul (by rw [←e256];exact hlt))
 have hB:256*2^(8*(i%8))≤B:=by
  rw [show 256=2^8 from rfl,←Nat.pow_add,show B=2^64 from rfl]
  exact Nat.pow_le_pow_right (by decide) (by omega)
 have hm:b*2^(8*(i%8))+2^(8*(i%8))≤256*2^(8*(i%8)):=by
  rw [←Nat.succ_mul];exact Nat.mul_le_mul_right _ (by omega)
 have hp:=Nat.two_pow_pos (8*(i%8))
 rw [Nat.mod_eq_of_lt (by omega)]
 have hor:wdc S (i/8)|||(b*2^(8*(i%8)))=2^(8*(i%8))*b+wdc S (i/8):=by
  rw [Nat.mul_comm b,Nat.or_comm,Nat.two_pow_add_eq_or_of_lt hw]
 rw [hor]
 refine ⟨?_,by rw [Nat.mul_comm];omega⟩
 have h1:=@putw_eq S (i/8) (2^(8*(i%8))*b+wdc S (i/8))
 rw [Nat.mul_add] at h1
 have h2:nv s (i+1)=S+B^(i/8)*(2^(8*(i%8))*b):=by
  rw [hnv,←hS,e256,Nat.mul_comm b,Nat.mul_assoc]
 omega
end Go.NatM

namespace Go.Proofs.YtofjdbmcloemnaaGreatDoor
open Go Go.Fw Go.NatM
set_option maxRecDepth 100000
set_option maxHeartbeats 4000000
theorem shl_cast8 (b i:Nat) (hb:b<256):((b:Int)%18446744073709551616*2^((8*((i:Int)%8)).toNat)%18446744073709551616:Int)=((b*2^(8*(i%8))%B:Nat):Int):=by
 rw [show (8*((i:Int)%8)).toNat=8*(i%8) by omega,B_eq,show (b:Int)%18446744073709551616=b by omega];simp
theorem words_fn {h:Array Obj} {s:ByteArray} (hs:s.size≤1048576):
  FnV Tryz.prog 144 #[.string s] h fun r h'=>Wown h.size h' r ((s.size+7)/8) (natv s)∧Keeps h.size h h':=by
 obtain ⟨M,hM⟩:∃M,M=(s.size+7)/8:=⟨_,rfl⟩
 have hMM:(((s.size:Int)+7)/8)=(M:Int):=by omega
 rw [←hM]
 refine Fn.of (args:=[.string s]) Tryz.func144 (by kernel_rfl) rfl Tryz.ntmps144 rfl fun w0 cs=>?_
 refine gO ?_;conv=>whnf
 repeat (refine oL ?_;conv=>whnf)
 refine Runs.eff (eff_make1 tab M M (hn:=⟨hMM,hMM,by omega,by dsimp only;omega,by omega⟩)) ?_
 rintro _ _ ⟨rfl,rfl⟩
 try refine gO ?_;conv=>whnf
 refine Runs.loop (X:=Nat) (fun i=>[(0,.string s),(3,.slice (some ⟨h.size,0,none⟩) M M),(11,.int .i64 s.size),(12,.int .i64 (i:Nat))])
  (fun i h'=>i≤s.size∧Blk h h' h.size M (nv s i)) (fun i=>s.size - i) 0
  ⟨Nat.zero_le _,⟨_,push_new _ _ _,by simp,Bp_pos _,fun j hj=>?_,(Keeps.refl _ _).push (Nat.le_refl _) _⟩⟩ ⟨rfl,rfl,rfl,rfl,trivial⟩ ?_
 ·rw [show nv s 0=0 from rfl,wdc_zero,Array.getElem?_replicate,if_pos hj];rfl
 rintro i h' ⟨hi,cur,hat,hsz,hS,hc,hk⟩ ih
 try refine gO ?_;conv=>whnf
 refine ⟨fun h1=>?_,fun h1=>?_⟩<;>conv=>whnf
 ·repeat (refine oL ?_;conv=>whnf)
  have hcell:cellH h' h.size (0+(((i:Int)/8).toNat))=some (.int .u64 (wdc (nv s i) (i/8):Nat)):=by
   rw [hat.cell,show 0+((i:Int)/8).toNat=i/8 by omega]
   exact hc (i/8) (by omega)
  refine Runs.drawn tab [0,1,2,3,4,5,6,7,8,9,10,11,12,13,14,15,16,17,18] [19] (by kernel_rfl) ?_;conv=>whnf
  repeat (refine oL ?_;conv=>whnf)
  refine ⟨_,hcell,?_⟩;conv=>whnf
  repeat (refine oL ?_;conv=>whnf)
  rw [show (((s.size:Int) - 1 - (i:Int)).toNat)=s.size - 1 - i by omega]
  have hb:=byteAt_lt s (s.size - 1 - i)
  obtain ⟨k1,k2⟩:=nv_word (s:=s) (i:=i) rfl
  rw [shl_cast8 _ _ hb]
  have b1:=wdc_le (nv s i) (i/8)
  have b2:=modB_le (byteAt s (s.size - 1 - i)*2^(8*(i%8)))
  obtain ⟨x2,hx2⟩:∃x2,x2=byteAt s (s.size - 1 - i)*2^(8*(i%8))%B:=⟨_,rfl⟩
  obtain ⟨x1,hx1⟩:∃x1,x1=wdc (nv s i) (i/8):=⟨_,rfl⟩
  rw [←hx2] at k1 k2 b2 ⊢
  rw [←hx1] at k1 k2 b1 ⊢
  repeat (refine oL ?_;conv=>whnf)
  refine ⟨rfl,_,eff_store1 tab hat (hlt:=by omega),?_⟩
  rintro _ _ rfl
  conv=>whnf
  try refine gO ?_;conv=>whnf
  repeat (refine oL ?_;conv=>whnf)
  have hz:((fun a b=>a|||b) (x1:Int).toNat (x2:Int).toNat:Nat)=x1|||x2:=by
   rw [Int.toNat_natCast,Int.toNat_natCast]
  rw [hz,show 0+((i:Int)/8).toNat=i/8 by omega]
  obtain ⟨x3,hx3⟩:∃x3,x3=x1|||x2:=⟨_,rfl⟩
  rw [←hx3] at k1 k2 ⊢
  have hB:=Blk.put hat hsz hS hc hk (i:=i/8) (by omega) k2 rfl
  rw [k1] at hB
  exact ih (i+1) _ _ ⟨by omega,hB⟩ (by omega) ⟨rfl,rfl,rfl,rfl,trivial⟩
 try refine gO ?_;conv=>whnf
 refine Runs.ret Tryz.func144 rfl rfl ⟨_,rfl,?_⟩
 have him:i=s.size:=by omega
 subst him
 exact ⟨Blk.own ⟨cur,hat,hsz,hS,hc,hk⟩,hk⟩

def Buf (base:Nat) (h:Array Obj) (v:Value) (l:List Nat):Prop:=Own base h 5 1 v l.length (l.map fun (x:Nat)=>Value.int .u8 (x:Int))
theorem byte_cast (V i:Nat):((wdc V (i/8):Int)/2^((8*((i:Int)%8)).toNat)%256:Int)=((byc V i:Nat):Int):=by
 rw [show (8*((i:Int)%8)).toNat=8*(i%8) by omega,←byc_word];simp
theorem text_fn {h:Array Obj} {v:Value} {m V:Nat} (hw:Wr h v m V) (hm:m≤1048576):
  FnV Tryz.prog 140 #[v] h fun r h'=>r=.string (enc V)∧Keeps h.size h h':=by
 have hW:=hw
 obtain ⟨a,cap,rfl,hcap,hV,hr⟩:=hw
 have hn:nb V≤8*m:=nb_le (by rw [p256_two];rw [B_pow] at hV;rwa [show 8*(8*m)=64*m by omega])
 refine Fn.of (args:=[.slice a m cap]) Tryz.func140 (by kernel_rfl) rfl Tryz.ntmps140 rfl fun w0 cs=>?_
 refine gO ?_;conv=>whnf
 repeat (refine oL ?_;conv=>whnf)
 refine Runs.eff (eff_make1 tab 0 (8*m) (hn:=⟨rfl,by omega,by omega,by dsimp only;omega,by omega⟩)) ?_
 rintro _ _ ⟨rfl,rfl⟩
 try refine gO ?_;conv=>whnf
 repeat (refine oL ?_;conv=>whnf)
 refine Runs.loop (X:=Nat×Value) (fun q=>[(0,.slice a m cap),(3,q.2),(4,.int .i64 ((q.1:Int) - 1))])
  (fun q h'=>q.1≤8*m∧Buf h.size h' q.2 (dn V (nb V) (nb V - q.1))∧Keeps h.size h h') (fun q=>q.1) (8*m,.slice (some ⟨h.size,0,none⟩) 0 (8*m))
  ⟨Nat.le_refl _,?_,(Keeps.refl _ _).push (Nat.le_refl _) _⟩ ⟨rfl,rfl,?_,trivial⟩ ?_
 ·show Buf _ _ _ (dn V (nb V) (nb V - 8*m))
  rw [show nb V - 8*m=0 by omega]
  exact ⟨rfl,.inr ⟨h.size,8*m,_,rfl,Nat.le_refl _,push_new _ _ _,Nat.zero_le _,by unfold maxLen;omega,by simp,by simp [dn]⟩⟩
 ·show some (Value.int .i64 _)=some (Value.int .i64 _)
  congr 2
 rintro ⟨k,buf⟩ h' ⟨hk,hbuf,hkp⟩ ih
 dsimp only at hk hbuf ⊢
 have hX:=hW.keeps hkp
 obtain ⟨ab,capb,hbv⟩:=Own.shape hbuf
 rw [dn_length] at hbv
 subst hbv
 by_cases hk0:k=0
 ·subst hk0
  try refine gO ?_;conv=>whnf
  refine ⟨fun h1=>?_,fun h1=>?_⟩<;>conv=>whnf
  ·omega
  refine Runs.eff (eff_bufString tab (base:=h.size) (ns:=dn V (nb V) (nb V - 0)) (by unfold Buf at hbuf;rw [dn_length] at hbuf;exact hbuf)) ?_
  rintro _ _ ⟨rfl,rfl⟩
  try refine gO ?_;conv=>whnf
  refine Runs.ret Tryz.func140 rfl rfl ⟨_,rfl,?_⟩
  exact ⟨rfl,hkp⟩
 obtain ⟨i,rfl⟩:∃i,k=i+1:=⟨k - 1,by omega⟩
 rw [show (((i+1:Nat):Int) - 1)=(i:Int) by omega]
 obtain ⟨b,off,rfl,hrd⟩:=hX.rd rfl (by omega)
 have hcell:cellH h' b (off+((i:Int)/8).toNat)=some (.int .u64 (wdc V (i/8):Nat)):=by
  rw [show ((i:Int)/8).toNat=i/8 by omega];exact hrd (i/8) (by omega)
 try refine gO ?_;conv=>whnf
 refine ⟨fun h1=>?_,fun h1=>?_⟩<;>conv=>whnf
 ·repeat (refine oL ?_;conv=>whnf)
  refine ⟨_,hcell,?_⟩;conv=>whnf
  repeat (refine oL ?_;conv=>whnf)
  rw [byte_cast]
  have app:i<nb V → ∀(v':Value) (h2:Array Obj),Own h.size h2 5 1 v' (nb V - (i+1)+1) ((dn V (nb V) (nb V - (i+1))).map (fun (x:Nat)=>Value.int .u8 (x:Int))++[.int .u8 (byc V i:Nat)])→Buf h.size h2 v' (dn V (nb V) (nb V - i)):=fun hi v' h2 H=>by
   unfold Buf
   rw [dn_length,show nb V - i=nb V - (i+1)+1 by omega,dn,List.map_append]
   rw [show nb V - 1 - (nb V - (i+1))=i by omega]
   exact H
  have hbuf':Own h.size h' 5 1 (.slice ab (nb V - (i+1)) capb) (nb V - (i+1)) ((dn V (nb V) (nb V - (i+1))).map fun (x:Nat)=>Value.int .u8 (x:Int)):=by
   unfold Buf at hbuf;rw [dn_length] at hbuf;exact hbuf
  have hsz':=hkp.size
  have hnews:∀i j u,[Value.int .u8 (byc V i:Nat)][j]? = some u→cellH (h'.push (.cells #[Value.int .u8 (byc V i:Nat)] 5 (0,0))) h'.size (0+j)=some u:=fun i j u hu=>by
   rw [(push_new _ _ _).cell,Nat.zero_add]
   cases j with
   |zero=>simpa using hu
   |succ j=>simp at hu
  refine ⟨fun hz=>?_,fun hz=>?_⟩<;>conv=>whnf
  ·refine ⟨fun hl=>?_,fun hl=>?_⟩<;>conv=>whnf
   ·have hi:i<nb V:=by omega
    refine Runs.eff (eff_build tab [Value.int .u8 (byc V i:Nat)] (h1:=by simp [Value.cells])) ?_
    rintro _ _ ⟨rfl,rfl⟩
    try refine gO ?_;conv=>whnf
    refine Runs.eff (eff_append tab (base:=h.size) (m:=nb V - (i+1)) (m2:=1) (news:=[Value.int .u8 (byc V i:Nat)]) (Own.push hbuf' _) rfl (hnews i) (by simp [Value.oneCell']) (h63:=by unfold maxLen;omega) (hbytes:=by dsimp only;omega) (hbase:=by simp;omega)) ?_
    rintro v' h2 ⟨H1,H2,H3,_⟩
    try refine gO ?_;conv=>whnf
    repeat (refine oL ?_;conv=>whnf)
    refine ih (i,v') _ _ ⟨by dsimp only;omega,app hi _ _ H1,(hkp.push hkp.size _).trans ((Own.push hbuf' _).keeps (by simp;omega) H2 H3)⟩ (by dsimp only;omega) ⟨rfl,rfl,rfl,trivial⟩
   have hi:nb V≤i:=by
    rcases Nat.lt_or_ge i (nb V) with h|h
    ·exfalso
     have hV0:V≠0:=fun e=>by subst e;simp [nb_zero] at h
     have:=nb_topb hV0
     rw [show nb V - 1=i by omega] at this
     omega
    exact h
   conv=>whnf
   repeat (refine oL ?_;conv=>whnf)
   refine ih (i,_) _ _ ⟨by dsimp only;omega,?_,hkp⟩ (by dsimp only;omega) ⟨rfl,rfl,rfl,trivial⟩
   dsimp only
   rw [show nb V - i=nb V - (i+1) by omega]
   exact hbuf
  have hi:i<nb V:=by
   rcases Nat.lt_or_ge i (nb V) with h|h
   ·exact h
   exact absurd (by rw [byc_ge (nb_lt V) h];rfl) hz
  refine Runs.eff (eff_build tab [Value.int .u8 (byc V i:Nat)] (h1:=by simp [Value.cells])) ?_
  rintro _ _ ⟨rfl,rfl⟩
  try refine gO ?_;conv=>whnf
  refine Runs.eff (eff_append tab (base:=h.size) (m:=nb V - (i+1)) (m2:=1) (news:=[Value.int .u8 (byc V i:Nat)]) (Own.push hbuf' _) rfl (hnews i) (by simp [Value.oneCell']) (h63:=by unfold maxLen;omega) (hbytes:=by dsimp only;omega) (hbase:=by simp;omega)) ?_
  rintro v' h2 ⟨H1,H2,H3,_⟩
  try refine gO ?_;conv=>whnf
  repeat (refine oL ?_;conv=>whnf)
  refine ih (i,v') _ _ ⟨by dsimp only;omega,app hi _ _ H1,(hkp.push hkp.size _).trans ((Own.push hbuf' _).keeps (by simp;omega) H2 H3)⟩ (by dsimp only;omega) ⟨rfl,rfl,rfl,trivial⟩
 omega
end Go.Proofs.YtofjdbmcloemnaaGreatDoor

namespace Go.NatM
open Go Go.Fw
def canonB (s:ByteArray):Bool:=Nat.beq s.size 0 || !Nat.beq (byteAt s 0) 0
theorem canonB_iff {s:ByteArray}:canonB s=true↔Canon s:=by
 unfold canonB Canon
 rw [Bool.or_eq_true,Bool.not_eq_true',Nat.beq_eq,←Bool.not_eq_true,Nat.beq_eq]
def chk (l:List ByteArray):Int:=if l.all canonB then (if l.all fun s=>Nat.ble s.size 256 then 0 else 2) else 60
theorem chk_zero {l:List ByteArray} (h:chk l=0) {s:ByteArray} (hs:s∈l):Canon s∧s.size≤256:=by
 unfold chk at h
 split at h
 ·rename_i h1
  split at h
  ·rename_i h2
   exact ⟨canonB_iff.1 (List.all_eq_true.1 h1 s hs),Nat.le_of_ble_eq_true (List.all_eq_true.1 h2 s hs)⟩
  omega
 omega
abbrev mt:ByteArray:=⟨#[]⟩
def shortS (V:Nat):ByteArray×Int:=if nb V≤256 then (enc V,0) else (mt,2)
def addS (a b:ByteArray):ByteArray×Int:=if chk [a,b]=0 then shortS (natv a+natv b) else (mt,chk [a,b])
def mulS (a b:ByteArray):ByteArray×Int:=if chk [a,b]=0 then shortS (natv a*natv b) else (mt,chk [a,b])
def subS (a b:ByteArray):ByteArray×Int:=if chk [a,b]=0 then (if natv a<natv b then (mt,1) else (enc (natv a - natv b),0)) else (mt,chk [a,b])
def cmpN (x y:Nat):Int:=if x<y then -1 else if y<x then 1 else 0
def cmpS (a b:ByteArray):Int×Int:=if chk [a,b]=0 then (cmpN (natv a) (natv b),0) else (0,chk [a,b])
def ofS (n:Int):ByteArray×Int:=if n<0 then (mt,1) else (enc n.toNat,0)
def divS (a b:ByteArray):ByteArray×ByteArray×Int:=if chk [a,b]=0 then (if b.size=0 then (mt,mt,71) else (enc (natv a/natv b),enc (natv a%natv b),0)) else (mt,mt,chk [a,b])
def gcdS (a b:ByteArray):ByteArray×Int:=if chk [a,b]=0 then (enc (Nat.gcd (natv a) (natv b)),0) else (mt,chk [a,b])
theorem nw_nb (V:Nat):nw V=(nb V+7)/8:=by
 unfold nw nb
 split<;>omega
theorem words_len {s:ByteArray} (hc:Canon s):(s.size+7)/8=nw (natv s):=by
 rw [nw_nb,nb_natv hc]
end Go.NatM

namespace Go.Proofs.YtofjdbmcloemnaaGreatDoor
open Go Go.Fw Go.NatM
set_option maxRecDepth 100000
set_option maxHeartbeats 4000000
def sev (p:ByteArray×Int):Value:=.tuple #[.string p.1,.int .i64 p.2]
theorem short_fn {h:Array Obj} {v:Value} {m V:Nat} (hw:Wr h v m V) (hm:m≤1048576):
  FnV Tryz.prog 142 #[v] h fun r h'=>r=sev (shortS V)∧Keeps h.size h h':=by
 have hW:=hw
 obtain ⟨a,cap,rfl,hcap,hV,hr⟩:=hw
 refine Fn.of (args:=[.slice a m cap]) Tryz.func142 (by kernel_rfl) rfl Tryz.ntmps142 rfl fun w0 cs=>?_
 refine gO ?_;conv=>whnf
 refine Runs.callV (text_fn hW hm) ?_
 rintro _ h1 ⟨rfl,hk⟩
 try refine gO ?_;conv=>whnf
 have hs:=enc_size V
 refine ⟨fun ht=>?_,fun ht=>?_⟩<;>conv=>whnf
 ·refine Runs.ret Tryz.func142 rfl rfl ⟨_,rfl,?_⟩
  refine ⟨?_,hk⟩
  unfold shortS
  rw [if_neg (by omega)];rfl
 refine Runs.ret Tryz.func142 rfl rfl ⟨_,rfl,?_⟩
 refine ⟨?_,hk⟩
 unfold shortS
 rw [if_pos (by omega)];rfl
def Strs (h:Array Obj) (b off:Nat) (ss:List ByteArray):Prop:=∀(j:Nat) (s:ByteArray),ss[j]? = some s→cellH h b (off+j)=some (.string s)
theorem check_fn {h:Array Obj} {b off cap:Nat} {ss:List ByteArray} (hss:Strs h b off ss) (hlen:ss.length≤1048576):
  FnV Tryz.prog 141 #[.slice (some ⟨b,off,none⟩) ss.length cap] h fun r h'=>r=.int .i64 (chk ss)∧h'=h:=by
 refine Fn.of (args:=[.slice (some ⟨b,off,none⟩) ss.length cap]) Tryz.func141 (by kernel_rfl) rfl Tryz.ntmps141 rfl fun w0 cs=>?_
 refine gO ?_;conv=>whnf
 refine Runs.loop (X:=Nat) (fun i=>[(0,.slice (some ⟨b,off,none⟩) ss.length cap),(7,.slice (some ⟨b,off,none⟩) ss.length cap),(8,.int .i64 ss.length),(9,.int .i64 (i:Nat))])
  (fun i h'=>h'=h∧i≤ss.length∧(ss.take i).all canonB=true) (fun i=>ss.length - i) 0 ⟨rfl,Nat.zero_le _,rfl⟩ ⟨rfl,rfl,rfl,rfl,trivial⟩ ?_
 rintro i h ⟨rfl,hi,hc⟩ ih
 try refine gO ?_;conv=>whnf
 refine ⟨fun h1=>?_,fun h1=>?_⟩<;>conv=>whnf
 ·repeat (refine oL ?_;conv=>whnf)
  obtain ⟨s,hs⟩:∃s,ss[i]? = some s:=⟨ss[i]'(by omega),List.getElem?_eq_getElem _⟩
  have htk:ss.take (i+1)=ss.take i++[s]:=by rw [List.take_add_one,hs];rfl
  refine ⟨_,hss i s hs,?_⟩;conv=>whnf
  refine ⟨fun h2=>?_,fun h2=>?_⟩<;>conv=>whnf
  ·repeat (refine oL ?_;conv=>whnf)
   refine ⟨fun h3=>?_,fun h3=>?_⟩<;>conv=>whnf
   ·refine Runs.ret Tryz.func141 rfl rfl ⟨_,rfl,?_⟩
    refine ⟨?_,rfl⟩
    rw [show Int.toNat 0=0 from rfl] at h3
    have:ss.all canonB=false:=by
     rw [List.all_eq_false]
     refine ⟨s,List.mem_of_getElem? hs,?_⟩
     rw [canonB_iff]
     rintro (h0|h0)
     ·omega
     exact h0 (by omega)
    unfold chk
    rw [this];rfl
   try refine gO ?_;conv=>whnf
   repeat (refine oL ?_;conv=>whnf)
   refine ih (i+1) _ _ ⟨rfl,by omega,?_⟩ (by omega) ⟨rfl,rfl,rfl,rfl,trivial⟩
   rw [show Int.toNat 0=0 from rfl] at h3
   rw [htk,List.all_append,hc]
   show (true&&(canonB s&&true))=true
   rw [canonB_iff.2 (.inr (by omega))];rfl
  try refine gO ?_;conv=>whnf
  repeat (refine oL ?_;conv=>whnf)
  refine ih (i+1) _ _ ⟨rfl,by omega,?_⟩ (by omega) ⟨rfl,rfl,rfl,rfl,trivial⟩
  rw [htk,List.all_append,hc]
  show (true&&(canonB s&&true))=true
  rw [canonB_iff.2 (.inl (by omega))];rfl
 have him:i=ss.length:=by omega
 subst him
 rw [List.take_length] at hc
 try refine gO ?_;conv=>whnf
 refine Runs.loop (X:=Nat) (fun i=>[(22,.slice (some ⟨b,off,none⟩) ss.length cap),(23,.int .i64 ss.length),(24,.int .i64 (i:Nat))])
  (fun i h'=>h'=h∧i≤ss.length∧((ss.take i).all fun s=>Nat.ble s.size 256)=true) (fun i=>ss.length - i) 0 ⟨rfl,Nat.zero_le _,rfl⟩ ⟨rfl,rfl,rfl,trivial⟩ ?_
 rintro i h ⟨rfl,hi,hl⟩ ih
 try refine gO ?_;conv=>whnf
 refine ⟨fun h1=>?_,fun h1=>?_⟩<;>conv=>whnf
 ·repeat (refine oL ?_;conv=>whnf)
  obtain ⟨s,hs⟩:∃s,ss[i]? = some s:=⟨ss[i]'(by omega),List.getElem?_eq_getElem _⟩
  have htk:ss.take (i+1)=ss.take i++[s]:=by rw [List.take_add_one,hs];rfl
  refine ⟨_,hss i s hs,?_⟩;conv=>whnf
  refine ⟨fun h2=>?_,fun h2=>?_⟩<;>conv=>whnf
  ·refine Runs.ret Tryz.func141 rfl rfl ⟨_,rfl,?_⟩
   refine ⟨?_,rfl⟩
   have:(ss.all fun s=>Nat.ble s.size 256)=false:=by
    rw [List.all_eq_false]
    refine ⟨s,List.mem_of_getElem? hs,fun hb=>?_⟩
    have:=Nat.le_of_ble_eq_true hb
    omega
   unfold chk
   rw [hc,this];rfl
  try refine gO ?_;conv=>whnf
  repeat (refine oL ?_;conv=>whnf)
  refine ih (i+1) _ _ ⟨rfl,by omega,?_⟩ (by omega) ⟨rfl,rfl,rfl,trivial⟩
  rw [htk,List.all_append,hl]
  simp
  omega
 refine Runs.ret Tryz.func141 rfl rfl ⟨_,rfl,?_⟩
 have him:i=ss.length:=by omega
 subst him
 rw [List.take_length] at hl
 refine ⟨?_,rfl⟩
 unfold chk
 rw [hc,hl];rfl
theorem strs_push (h:Array Obj) (ss:List ByteArray):Strs (h.push (.cells (ss.map Value.string).toArray 9 (0,0))) h.size 0 ss:=by
 intro j s hs
 rw [(push_new _ _ _).cell,Nat.zero_add]
 simp [hs]
theorem Check_fn {h:Array Obj} (s:ByteArray):FnV Tryz.prog 147 #[.string s] h fun r h'=>r=.int .i64 (chk [s])∧Keeps h.size h h':=by
 refine Fn.of (args:=[.string s]) Tryz.func147 (by kernel_rfl) rfl Tryz.ntmps147 rfl fun w0 cs=>?_
 refine gO ?_;conv=>whnf
 refine Runs.eff (eff_build tab [.string s] (h1:=by simp [Value.cells])) ?_
 rintro _ _ ⟨rfl,rfl⟩
 try refine gO ?_;conv=>whnf
 refine Runs.callV (check_fn (strs_push h [s]) (by simp)) ?_
 rintro _ _ ⟨rfl,rfl⟩
 try refine gO ?_;conv=>whnf
 refine Runs.ret Tryz.func147 rfl rfl ⟨_,rfl,?_⟩
 exact ⟨rfl,(Keeps.refl _ _).push (Nat.le_refl _) _⟩
theorem Add_fn {h:Array Obj} (s t:ByteArray):FnV Tryz.prog 122 #[.string s,.string t] h fun r h'=>r=sev (addS s t)∧Keeps h.size h h':=by
 refine Fn.of (args:=[.string s,.string t]) Tryz.func122 (by kernel_rfl) rfl Tryz.ntmps122 rfl fun w0 cs=>?_
 refine gO ?_;conv=>whnf
 refine Runs.eff (eff_build tab [.string s,.string t] (h1:=by simp [Value.cells])) ?_
 rintro _ _ ⟨rfl,rfl⟩
 try refine gO ?_;conv=>whnf
 refine Runs.callV (check_fn (strs_push h [s,t]) (by simp)) ?_
 rintro _ h1 ⟨rfl,e1⟩
 have hk1:Keeps h.size h h1:=by rw [e1];exact (Keeps.refl _ _).push (Nat.le_refl _) _
 clear e1
 try refine gO ?_;conv=>whnf
 refine ⟨fun hc=>?_,fun hc=>?_⟩<;>conv=>whnf
 ·have c1:=chk_zero hc (s:=s) (by simp)
  have c2:=chk_zero hc (s:=t) (by simp)
  refine Runs.callV (words_fn (s:=s) (by omega)) ?_
  rintro v2 h2 ⟨o2,k2⟩
  try refine gO ?_;conv=>whnf
  refine Runs.callV (words_fn (s:=t) (by omega)) ?_
  rintro v3 h3 ⟨o3,k3⟩
  try refine gO ?_;conv=>whnf
  refine Runs.callV (plus_fn (o2.keeps k3 (Nat.le_refl _)).wr o3.wr (by omega) (by omega)) ?_
  rintro v4 h4 ⟨o4,k4⟩
  try refine gO ?_;conv=>whnf
  refine Runs.callV (short_fn o4.wr (by omega)) ?_
  rintro _ h5 ⟨rfl,k5⟩
  try refine gO ?_;conv=>whnf
  refine Runs.ret Tryz.func122 rfl rfl ⟨_,rfl,?_⟩
  refine ⟨?_,?_⟩
  ·unfold addS
   rw [if_pos hc];rfl
  have:=hk1.size
  have:=k2.size
  have:=k3.size
  have:=k4.size
  exact (((hk1.trans (k2.mono (by omega))).trans (k3.mono (by omega))).trans (k4.mono (by omega))).trans (k5.mono (by omega))
 refine Runs.ret Tryz.func122 rfl rfl ⟨_,rfl,?_⟩
 refine ⟨?_,hk1⟩
 unfold addS
 rw [if_neg hc];rfl

theorem cmpI_nat (x y:Nat):cmpI (x:Int) (y:Int)=cmpN x y:=by
 unfold cmpI cmpN
 by_cases h1:x<y
 ·rw [if_pos h1,if_pos (by omega)]
 rw [if_neg h1,if_neg (by omega)]
 by_cases h2:y<x
 ·rw [if_pos h2,if_pos (by omega)]
 rw [if_neg h2,if_neg (by omega)]
theorem Of_fn {h:Array Obj} (n:Int) (hn:n≤9223372036854775807):FnV Tryz.prog 121 #[.int .i64 n] h fun r h'=>r=sev (ofS n)∧Keeps h.size h h':=by
 refine Fn.of (args:=[.int .i64 n]) Tryz.func121 (by kernel_rfl) rfl Tryz.ntmps121 rfl fun w0 cs=>?_
 refine gO ?_;conv=>whnf
 refine ⟨fun h1=>?_,fun h1=>?_⟩<;>conv=>whnf
 ·refine Runs.ret Tryz.func121 rfl rfl ⟨_,rfl,?_⟩
  refine ⟨?_,Keeps.refl _ _⟩
  unfold ofS
  rw [if_pos h1];rfl
 rw [show n%18446744073709551616=(n.toNat:Int) by omega]
 refine Runs.eff (eff_build tab [.int .u64 (n.toNat:Int)] (h1:=by simp [Value.cells])) ?_
 rintro _ _ ⟨rfl,rfl⟩
 try refine gO ?_;conv=>whnf
 have hat:=push_new h #[.int .u64 (n.toNat:Int)] 195
 have hw:Wr (h.push (.cells #[.int .u64 (n.toNat:Int)] 195 (0,0))) (.slice (some ⟨h.size,0,none⟩) 1 1) 1 n.toNat:=Wr.of_at hat (Nat.le_refl _) (by rw [B_eq];omega) fun j hj=>by
  have:j=0:=by omega
  subst this
  rw [show wdc n.toNat 0=n.toNat by unfold wdc;rw [Nat.pow_zero,Nat.div_one];exact Nat.mod_eq_of_lt (by rw [B_eq];omega)]
  rfl
 refine Runs.callV (text_fn hw (by decide)) ?_
 rintro _ h5 ⟨rfl,k5⟩
 try refine gO ?_;conv=>whnf
 refine Runs.ret Tryz.func121 rfl rfl ⟨_,rfl,?_⟩
 refine ⟨?_,((Keeps.refl _ _).push (Nat.le_refl _) _).trans (k5.mono (by simp))⟩
 unfold ofS
 rw [if_neg h1];rfl
theorem Mul_fn {h:Array Obj} (s t:ByteArray):FnV Tryz.prog 172 #[.string s,.string t] h fun r h'=>r=sev (mulS s t)∧Keeps h.size h h':=by
 refine Fn.of (args:=[.string s,.string t]) Tryz.func172 (by kernel_rfl) rfl Tryz.ntmps172 rfl fun w0 cs=>?_
 refine gO ?_;conv=>whnf
 refine Runs.eff (eff_build tab [.string s,.string t] (h1:=by simp [Value.cells])) ?_
 rintro _ _ ⟨rfl,rfl⟩
 try refine gO ?_;conv=>whnf
 refine Runs.callV (check_fn (strs_push h [s,t]) (by simp)) ?_
 rintro _ h1 ⟨rfl,e1⟩
 have hk1:Keeps h.size h h1:=by rw [e1];exact (Keeps.refl _ _).push (Nat.le_refl _) _
 clear e1
 try refine gO ?_;conv=>whnf
 refine ⟨fun hc=>?_,fun hc=>?_⟩<;>conv=>whnf
 ·have c1:=chk_zero hc (s:=s) (by simp)
  have c2:=chk_zero hc (s:=t) (by simp)
  refine Runs.callV (words_fn (s:=s) (by omega)) ?_
  rintro v2 h2 ⟨o2,k2⟩
  try refine gO ?_;conv=>whnf
  refine Runs.callV (words_fn (s:=t) (by omega)) ?_
  rintro v3 h3 ⟨o3,k3⟩
  try refine gO ?_;conv=>whnf
  refine Runs.callV (times_fn (o2.keeps k3 (Nat.le_refl _)).wr o3.wr (by omega) (by omega)) ?_
  rintro v4 h4 ⟨o4,k4⟩
  try refine gO ?_;conv=>whnf
  refine Runs.callV (short_fn o4.wr (by omega)) ?_
  rintro _ h5 ⟨rfl,k5⟩
  try refine gO ?_;conv=>whnf
  refine Runs.ret Tryz.func172 rfl rfl ⟨_,rfl,?_⟩
  refine ⟨?_,?_⟩
  ·unfold mulS
   rw [if_pos hc];rfl
  have:=hk1.size
  have:=k2.size
  have:=k3.size
  have:=k4.size
  exact (((hk1.trans (k2.mono (by omega))).trans (k3.mono (by omega))).trans (k4.mono (by omega))).trans (k5.mono (by omega))
 refine Runs.ret Tryz.func172 rfl rfl ⟨_,rfl,?_⟩
 refine ⟨?_,hk1⟩
 unfold mulS
 rw [if_neg hc];rfl
theorem Sub_fn {h:Array Obj} (s t:ByteArray):FnV Tryz.prog 174 #[.string s,.string t] h fun r h'=>r=sev (subS s t)∧Keeps h.size h h':=by
 refine Fn.of (args:=[.string s,.string t]) Tryz.func174 (by kernel_rfl) rfl Tryz.ntmps174 rfl fun w0 cs=>?_
 refine gO ?_;conv=>whnf
 refine Runs.eff (eff_build tab [.string s,.string t] (h1:=by simp [Value.cells])) ?_
 rintro _ _ ⟨rfl,rfl⟩
 try refine gO ?_;conv=>whnf
 refine Runs.callV (check_fn (strs_push h [s,t]) (by simp)) ?_
 rintro _ h1 ⟨rfl,e1⟩
 have hk1:Keeps h.size h h1:=by rw [e1];exact (Keeps.refl _ _).push (Nat.le_refl _) _
 clear e1
 try refine gO ?_;conv=>whnf
 refine ⟨fun hc=>?_,fun hc=>?_⟩<;>conv=>whnf
 ·have c1:=chk_zero hc (s:=s) (by simp)
  have c2:=chk_zero hc (s:=t) (by simp)
  refine Runs.callV (words_fn (s:=s) (by omega)) ?_
  rintro v2 h2 ⟨o2,k2⟩
  try refine gO ?_;conv=>whnf
  refine Runs.callV (words_fn (s:=t) (by omega)) ?_
  rintro v3 h3 ⟨o3,k3⟩
  try refine gO ?_;conv=>whnf
  have l2:=words_len c1.1
  have l3:=words_len c2.1
  have q2:=o2.keeps k3 (Nat.le_refl _)
  refine Runs.callV (compare_fn (l2▸q2.wr) (l3▸o3.wr) (by omega)) ?_
  rintro _ h3 ⟨rfl,rfl⟩
  try refine gO ?_;conv=>whnf
  have s1:=hk1.size
  have s2:=k2.size
  have s3:=k3.size
  have kk:=(hk1.trans (k2.mono (by omega))).trans (k3.mono (by omega))
  have lt_iff:cmpI (natv s) (natv t)<0↔natv s<natv t:=by
   unfold cmpI
   constructor
   ·intro h;split at h
    ·omega
    split at h<;>omega
   intro h;rw [if_pos (by omega)];decide
  refine ⟨fun h4=>?_,fun h4=>?_⟩<;>conv=>whnf
  ·refine Runs.ret Tryz.func174 rfl rfl ⟨_,rfl,?_⟩
   refine ⟨?_,kk⟩
   unfold subS
   rw [if_pos hc,if_pos (lt_iff.1 h4)];rfl
  have hge:natv t≤natv s:=by
   rcases Nat.lt_or_ge (natv s) (natv t) with h|h
   ·exact absurd (lt_iff.2 h) h4
   exact h
  obtain ⟨g2,cap2,cur2,rfl,hb2,hat2,hsz2,hm2,hV2,hcc2⟩:=q2
  have ho3:v3.ownBlock≠some g2:=by
   obtain ⟨g3,cap3,cur3,rfl,hb3,_⟩:=o3
   intro e
   have e:g3=g2:=by simpa [Value.ownBlock] using e
   have:=(o2:Wown _ _ _ _ _)
   obtain ⟨g2',_,_,e',_,hat2',_⟩:=this
   cases e'
   have:=hat2'.lt
   omega
  refine Runs.callV (reduce_fn hat2 hsz2 hm2 hV2 hcc2 o3.wr ho3 hge (by omega)) ?_
  rintro _ _ ⟨rfl,cur4,rfl,hsz4,hcc4⟩
  try refine gO ?_;conv=>whnf
  have hat4:At (setB h3 g2 cur4 195) g2 cur4 195:=setB_same hat2.lt _ _
  refine Runs.callV (text_fn (Wr.of_at hat4 hm2 (Nat.lt_of_le_of_lt (Nat.sub_le _ _) hV2) hcc4) (by omega)) ?_
  rintro _ h5 ⟨rfl,k5⟩
  try refine gO ?_;conv=>whnf
  refine Runs.ret Tryz.func174 rfl rfl ⟨_,rfl,?_⟩
  refine ⟨?_,?_⟩
  ·unfold subS
   rw [if_pos hc,if_neg (by omega)];rfl
  exact (kk.setB (by omega) cur4 195).trans (k5.mono (by simp;omega))
 refine Runs.ret Tryz.func174 rfl rfl ⟨_,rfl,?_⟩
 refine ⟨?_,hk1⟩
 unfold subS
 rw [if_neg hc];rfl
theorem Compare_fn {h:Array Obj} (s t:ByteArray):FnV Tryz.prog 185 #[.string s,.string t] h fun r h'=>r=.tuple #[.int .i64 (cmpS s t).1,.int .i64 (cmpS s t).2]∧Keeps h.size h h':=by
 refine Fn.of (args:=[.string s,.string t]) Tryz.func185 (by kernel_rfl) rfl Tryz.ntmps185 rfl fun w0 cs=>?_
 refine gO ?_;conv=>whnf
 refine Runs.eff (eff_build tab [.string s,.string t] (h1:=by simp [Value.cells])) ?_
 rintro _ _ ⟨rfl,rfl⟩
 try refine gO ?_;conv=>whnf
 refine Runs.callV (check_fn (strs_push h [s,t]) (by simp)) ?_
 rintro _ h1 ⟨rfl,e1⟩
 have hk1:Keeps h.size h h1:=by rw [e1];exact (Keeps.refl _ _).push (Nat.le_refl _) _
 clear e1
 try refine gO ?_;conv=>whnf
 refine ⟨fun hc=>?_,fun hc=>?_⟩<;>conv=>whnf
 ·have c1:=chk_zero hc (s:=s) (by simp)
  have c2:=chk_zero hc (s:=t) (by simp)
  refine Runs.callV (words_fn (s:=s) (by omega)) ?_
  rintro v2 h2 ⟨o2,k2⟩
  try refine gO ?_;conv=>whnf
  refine Runs.callV (words_fn (s:=t) (by omega)) ?_
  rintro v3 h3 ⟨o3,k3⟩
  try refine gO ?_;conv=>whnf
  have l2:=words_len c1.1
  have l3:=words_len c2.1
  have q2:=o2.keeps k3 (Nat.le_refl _)
  refine Runs.callV (compare_fn (l2▸q2.wr) (l3▸o3.wr) (by omega)) ?_
  rintro _ h3 ⟨rfl,rfl⟩
  try refine gO ?_;conv=>whnf
  have s1:=hk1.size
  have s2:=k2.size
  have s3:=k3.size
  have kk:=(hk1.trans (k2.mono (by omega))).trans (k3.mono (by omega))
  refine Runs.ret Tryz.func185 rfl rfl ⟨_,rfl,?_⟩
  refine ⟨?_,kk⟩
  rw [cmpI_nat]
  unfold cmpS
  rw [if_pos hc];rfl
 refine Runs.ret Tryz.func185 rfl rfl ⟨_,rfl,?_⟩
 refine ⟨?_,hk1⟩
 unfold cmpS
 rw [if_neg hc];rfl




end Go.Proofs.YtofjdbmcloemnaaGreatDoor

namespace Go.NatM
open Go Go.Fw
def dAt (xs:List Int) (i:Nat):Int:=xs.getD i 0
end Go.NatM

namespace Go.Proofs.YtofjdbmcloemnaaGreatDoor
open Go Go.Fw Go.NatM
set_option maxRecDepth 100000
set_option maxHeartbeats 4000000
def Ir (h:Array Obj) (v:Value) (n:Nat) (xs:List Int):Prop:=
 xs.length=n ∧ ∃a cap,v=.slice a n cap∧(0<n → ∃b off,a=some ⟨b,off,none⟩ ∧ ∀(j:Nat) (x:Int),xs[j]? = some x→cellH h b (off+j)=some (.int .i64 x))
theorem Ir.of_same {h h':Array Obj} {v:Value} {n:Nat} {xs:List Int} (hw:Ir h v n xs) (hs:∀b,v.ownBlock=some b→b<h.size→h'[b]? = h[b]?):Ir h' v n xs:=by
 obtain ⟨hl,a,cap,rfl,hr⟩:=hw
 refine ⟨hl,a,cap,rfl,fun hm=>?_⟩
 obtain ⟨b,off,rfl,hrd⟩:=hr hm
 refine ⟨b,off,rfl,fun j x hx=>?_⟩
 rw [cellH_same (hs b rfl (cellH_lt (hrd j x hx)))]
 exact hrd j x hx
theorem Ir.keeps {h h':Array Obj} {v:Value} {n:Nat} {xs:List Int} (hw:Ir h v n xs) (hk:Keeps h.size h h'):Ir h' v n xs:=
 hw.of_same fun b _ hb=>hk.same b hb
def IBuf (base:Nat) (h:Array Obj) (v:Value) (xs:List Int):Prop:=Own base h 3 1 v xs.length (xs.map fun (x:Int)=>Value.int .i64 x)
end Go.Proofs.YtofjdbmcloemnaaGreatDoor

namespace Go.Proofs.YtofjdbmcloemnaaGreatDoor
open Go Go.Fw Go.NatM
set_option maxRecDepth 100000
set_option maxHeartbeats 99999999


theorem IBuf.shape {base:Nat} {h:Array Obj} {v:Value} {xs:List Int} (H:IBuf base h v xs) {n:Nat} (hn:xs.length=n):∃a cap,v=.slice a n cap:=by
 subst hn;exact Own.shape H

def IBlk (h0 h:Array Obj) (g:Nat) (L:List Int):Prop:=At h g (L.map fun (x:Int)=>Value.int .i64 x).toArray 3∧Keeps g h0 h
theorem IBlk.cell {h0 h:Array Obj} {g:Nat} {L:List Int} (H:IBlk h0 h g L) {j:Nat} (hj:j<L.length):cellH h g j=some (.int .i64 (dAt L j)):=by
 rw [H.1.cell]
 unfold dAt
 rw [List.getD_eq_getElem?_getD]
 simp [hj]

end Go.Proofs.YtofjdbmcloemnaaGreatDoor

namespace Go.NatM
open Go Go.Fw
structure DI (u d y1 y0 q r:Nat):Prop where
 eq:q*y1+r=u
 ge:(u*4294967296+d)/(y1*4294967296+y0)≤q
 le:q≤4294967296+1
 rt:r<4294967296
structure DN (u d y1 y0:Nat):Prop where
 y1l:2147483648≤y1
 y1h:y1<4294967296
 y0h:y0<4294967296
 uh:u<y1*4294967296+y0
 dh:d<4294967296
theorem DI.init {u d y1 y0:Nat} (n:DN u d y1 y0):DI u d y1 y0 (u/y1) (u%y1):=by
 have hp:0<y1:=by have:=n.y1l;omega
 have hr:=Nat.mod_lt u hp
 have he:u/y1*y1+u%y1=u:=by rw [Nat.mul_comm];exact Nat.div_add_mod u y1
 refine ⟨he,?_,?_,by have:=n.y1h;omega⟩
 ·rw [Nat.le_div_iff_mul_le hp]
  have h1:=Nat.div_mul_le_self (u*4294967296+d) (y1*4294967296+y0)
  generalize (u*4294967296+d)/(y1*4294967296+y0)=Q at *
  rw [Nat.mul_add,←Nat.mul_assoc] at h1
  have:=n.dh
  generalize Q*y1=P at *
  generalize Q*y0=P2 at *
  omega
 have h1:=n.uh
 have h2:=n.y1l
 have h3:=n.y0h
 rw [←Nat.lt_succ_iff,Nat.div_lt_iff_lt_mul hp]
 omega
theorem DN.q_lt {u d y1 y0:Nat} (n:DN u d y1 y0):(u*4294967296+d)/(y1*4294967296+y0)<4294967296:=by
 have h1:=n.uh
 have h2:=n.dh
 have hp:0<y1*4294967296+y0:=by omega
 rw [Nat.div_lt_iff_lt_mul hp]
 omega
theorem DI.mul {u d y1 y0 q r:Nat} (i:DI u d y1 y0 q r):q*(y1*4294967296+y0)+r*4294967296=u*4294967296+q*y0:=by
 have h:=i.eq
 rw [Nat.mul_add,←Nat.mul_assoc,←h,Nat.add_mul]
 omega
theorem DI.exit {u d y1 y0 q r:Nat} (n:DN u d y1 y0) (i:DI u d y1 y0 q r) (h:q*y0≤4294967296*r+d):q=(u*4294967296+d)/(y1*4294967296+y0):=by
 have h1:=n.uh
 have hp:0<y1*4294967296+y0:=by omega
 refine Nat.le_antisymm ?_ i.ge
 rw [Nat.le_div_iff_mul_le hp]
 have:=i.mul
 have:4294967296*r=r*4294967296:=Nat.mul_comm _ _
 omega
theorem DI.dec {u d y1 y0 q r:Nat} (n:DN u d y1 y0) (i:DI u d y1 y0 q r) (h:4294967296≤q∨4294967296*r+d<q*y0):
  0<q∧(q - 1)*y1+(r+y1)=u∧(u*4294967296+d)/(y1*4294967296+y0)≤q - 1∧q - 1≤4294967296:=by
 have h1:=n.uh
 have hp:0<y1*4294967296+y0:=by omega
 have hQ:=n.q_lt
 have hq0:0<q:=by
  rcases h with h|h
  ·have hW:4294967296=4294967296:=rfl
   omega
  rcases Nat.eq_zero_or_pos q with e|e
  ·subst e;simp at h
  exact e
 have heq:=i.eq
 have hsucc:q*y1=(q - 1)*y1+y1:=by
  have:=Nat.succ_mul (q - 1) y1
  rw [show (q - 1).succ=q by omega] at this
  exact this
 refine ⟨hq0,by omega,?_,by have:=i.le;omega⟩
 rcases h with h|h
 ·omega
 have hlt:(u*4294967296+d)/(y1*4294967296+y0)<q:=by
  rw [Nat.div_lt_iff_lt_mul hp]
  have:=i.mul
  have:4294967296*r=r*4294967296:=Nat.mul_comm _ _
  omega
 omega
theorem DI.out {u d y1 y0 q r:Nat} (n:DN u d y1 y0) (he:q*y1+r=u) (hge:(u*4294967296+d)/(y1*4294967296+y0)≤q) (hq:q≤4294967296) (hr:4294967296≤r):q=(u*4294967296+d)/(y1*4294967296+y0):=by
 have h1:=n.uh
 have hp:0<y1*4294967296+y0:=by omega
 refine Nat.le_antisymm ?_ hge
 rw [Nat.le_div_iff_mul_le hp,Nat.mul_add,←Nat.mul_assoc,←he]
 have h2:q*y0≤4294967296*y0:=Nat.mul_le_mul_right _ hq
 have h3:4294967296*4294967296≤r*4294967296:=Nat.mul_le_mul_right _ hr
 have h4:=n.y0h
 rw [Nat.add_mul]
 omega
theorem div_two (u d1 d0 y:Nat) (hy:0<y):(u*18446744073709551616+(d1*4294967296+d0))/y=(u*4294967296+d1)/y*4294967296+((u*4294967296+d1)%y*4294967296+d0)/y ∧
  (u*18446744073709551616+(d1*4294967296+d0))%y=((u*4294967296+d1)%y*4294967296+d0)%y:=by
 obtain ⟨M,hM⟩:∃M,M=u*4294967296+d1:=⟨_,rfl⟩
 rw [←hM]
 have h:=Nat.div_add_mod M y
 obtain ⟨Q,hQ⟩:∃Q,Q=M/y:=⟨_,rfl⟩
 obtain ⟨R,hR⟩:∃R,R=M%y:=⟨_,rfl⟩
 rw [←hQ,←hR] at h ⊢
 obtain ⟨T,hT⟩:∃T,T=Q*4294967296:=⟨_,rfl⟩
 obtain ⟨S,hS⟩:∃S,S=R*4294967296+d0:=⟨_,rfl⟩
 rw [←hT,←hS]
 have e:u*18446744073709551616+(d1*4294967296+d0)=y*T+S:=by
  rw [hT,←Nat.mul_assoc]
  generalize y*Q=Z at *
  omega
 rw [e,Nat.mul_add_div hy,Nat.mul_add_mod]
 exact ⟨rfl,rfl⟩
theorem digit_rest {u d y Q:Nat} (hQ:Q=(u*4294967296+d)/y) (hy:0<y) (hyb:y<18446744073709551616):
  (((u:Int)*4294967296%18446744073709551616+d)%18446744073709551616 - (Q:Int)*y%18446744073709551616)%18446744073709551616=((u*4294967296+d)%y:Nat):=by
 obtain ⟨M,hM⟩:∃M,M=u*4294967296+d:=⟨_,rfl⟩
 rw [←hM] at hQ ⊢
 have h:=Nat.div_add_mod M y
 have hm:=Nat.mod_lt M hy
 obtain ⟨R,hR⟩:∃R,R=M%y:=⟨_,rfl⟩
 rw [←hQ,←hR] at h
 rw [←hR] at hm ⊢
 have e:(Q:Int)*y=((y*Q:Nat):Int):=by rw [Nat.mul_comm];simp
 rw [e]
 obtain ⟨Z,hZ⟩:∃Z,Z=y*Q:=⟨_,rfl⟩
 rw [←hZ] at h ⊢
 omega
end Go.NatM

namespace Go.Proofs.YtofjdbmcloemnaaGreatDoor
open Go Go.Fw Go.NatM
set_option maxRecDepth 100000
set_option maxHeartbeats 99999999
theorem bl_le64 {x:Nat} (hx:x<B):bl x≤64:=by
 by_cases h:x=0
 ·subst h;decide
 have h1:=bl_le h
 rcases Nat.lt_or_ge 64 (bl x) with h2|h2
 ·have:=Nat.pow_le_pow_right (show 0<2 by decide) (show 64≤bl x - 1 by omega)
  have e:(2:Nat)^64=B:=rfl
  omega
 exact h2
theorem lz64_fn (x:Nat) (hx:x<B) (h:Array Obj):FnV Tryz.prog 182 #[.int .u64 x] h fun v h'=>v=.int .i64 (64 - bl x:Nat)∧h'=h:=by
 have hb:=bl_le64 hx
 refine Fn.of (args:=[.int .u64 x]) Tryz.func182 (by kernel_rfl) rfl Tryz.ntmps182 rfl fun w0 cs=>?_
 refine gO ?_;conv=>whnf
 refine Runs.callV (len64_fn x hx h) ?_
 rintro _ h ⟨rfl,rfl⟩
 try refine gO ?_;conv=>whnf
 repeat (refine oL ?_;conv=>whnf)
 refine Runs.ret Tryz.func182 rfl rfl ⟨_,rfl,?_⟩
 refine ⟨?_,rfl⟩
 show Value.int .i64 _=Value.int .i64 _
 congr 1
 omega
theorem norm_high (hi lo s:Nat) (hs:s≤64):(hi*B+lo)*2^s/B=hi*2^s+lo/2^(64 - s):=by
 have e:B=2^(64 - s)*2^s:=by rw [←Nat.pow_add,show 64 - s+s=64 by omega];rfl
 rw [Nat.add_mul,show hi*B*2^s=B*(hi*2^s) by rw [Nat.mul_comm hi B,Nat.mul_assoc],Nat.mul_add_div B_pos]
 congr 1
 rw [e,Nat.mul_div_mul_right _ _ (Nat.two_pow_pos s)]
theorem norm_low (hi lo s:Nat):(hi*B+lo)*2^s%B=lo*2^s%B:=by
 rw [Nat.add_mul,show hi*B*2^s=B*(hi*2^s) by rw [Nat.mul_comm hi B,Nat.mul_assoc],Nat.mul_add_mod]
theorem norm_or (hi lo s:Nat) (hs:s≤64) (hlo:lo<B):(hi*2^s)|||(lo/2^(64 - s))=hi*2^s+lo/2^(64 - s):=by
 have e:B=2^(64 - s)*2^s:=by rw [←Nat.pow_add,show 64 - s+s=64 by omega];rfl
 have hx:lo/2^(64 - s)<2^s:=Nat.div_lt_of_lt_mul (by rw [←e];exact hlo)
 rw [Nat.mul_comm hi,Nat.two_pow_add_eq_or_of_lt hx]
theorem rest_cast {u y:Nat} (h1:2147483648≤y) (h2:y<4294967296) (_h3:u<18446744073709551616):(((u:Int) - u/y*y%18446744073709551616)%18446744073709551616)=(u%y:Nat):=by
 have h:=Nat.div_add_mod u y
 have hm:=Nat.mod_lt u (show 0<y by omega)
 have e:(u:Int)/y*y=((y*(u/y):Nat):Int):=by rw [Nat.mul_comm];simp
 rw [e]
 obtain ⟨Z,hZ⟩:∃Z,Z=y*(u/y):=⟨_,rfl⟩
 obtain ⟨R,hR⟩:∃R,R=u%y:=⟨_,rfl⟩
 rw [←hZ,←hR] at h ⊢
 omega
theorem div64_fn {h:Array Obj} (hi lo y:Nat) (hlo:lo<B) (hy:y<B) (hhi:hi<y):
  FnV Tryz.prog 167 #[.int .u64 hi,.int .u64 lo,.int .u64 y] h fun r h'=>(∃q r':Nat,r=.tuple #[.int .u64 q,.int .u64 r']∧q=(hi*B+lo)/y∧r'=(hi*B+lo)%y)∧h'=h:=by
 refine Fn.of (args:=[.int .u64 hi,.int .u64 lo,.int .u64 y]) Tryz.func167 (by kernel_rfl) rfl Tryz.ntmps167 rfl fun w0 cs=>?_
 refine gO ?_;conv=>whnf
 refine ⟨fun h1=>?_,fun h1=>?_⟩<;>conv=>whnf
 ·omega
 refine ⟨fun h2=>?_,fun h2=>?_⟩<;>conv=>whnf
 ·omega
 refine ⟨fun h3=>?_,fun h3=>?_⟩<;>conv=>whnf
 ·refine Runs.quiet tab (by kernel_rfl) ?_
  conv=>whnf
  rw [B_eq] at *
  repeat (refine oL ?_;conv=>whnf)
  try refine gO ?_;conv=>whnf
  refine Runs.ret Tryz.func167 rfl rfl ⟨_,rfl,?_⟩
  have h0:hi=0:=by omega
  subst h0
  exact ⟨⟨lo/y,lo%y,rfl,by rw [Nat.zero_mul,Nat.zero_add],by rw [Nat.zero_mul,Nat.zero_add]⟩,rfl⟩
 refine Runs.callV (lz64_fn y hy h) ?_
 rintro _ h ⟨rfl,rfl⟩
 have hb64:=bl_le64 hy
 have hy0:y≠0:=by omega
 have hbp:=bl_pos hy0
 obtain ⟨s,hs⟩:∃s,s=64 - bl y:=⟨_,rfl⟩
 rw [←hs]
 have hsb:s+bl y=64:=by omega
 have hyl:=bl_le hy0
 have hyh:=bl_lt y
 obtain ⟨yn,hyn⟩:∃yn,yn=y*2^s:=⟨_,rfl⟩
 have hynl:9223372036854775808≤yn:=by
  have:=Nat.mul_le_mul_right (2^s) hyl
  rw [←Nat.pow_add,show bl y - 1+s=63 by omega] at this
  rw [hyn];exact this
 have hynh:yn<18446744073709551616:=by
  have:=Nat.mul_lt_mul_of_pos_right hyh (Nat.two_pow_pos s)
  rw [←Nat.pow_add,show bl y+s=64 by omega] at this
  rw [hyn];exact this
 try refine gO ?_;conv=>whnf
 rw [show ((s:Nat):Int)%18446744073709551616=(s:Nat) by omega]
 have c1:(y:Int)*2^((s:Nat):Int).toNat%18446744073709551616=(yn:Nat):=by
  rw [Int.toNat_natCast,hyn]
  rw [hyn] at hynh
  have:(y:Int)*2^s=((y*2^s:Nat):Int):=by simp
  rw [this];omega
 rw [c1]
 repeat (refine oL ?_;conv=>whnf)
 have hN:=Nat.mul_lt_mul_of_pos_right hhi (Nat.two_pow_pos s)
 rw [←hyn] at hN
 have c2:(hi:Int)*2^((s:Nat):Int).toNat%18446744073709551616=(hi*2^s:Nat):=by
  rw [Int.toNat_natCast]
  have:(hi:Int)*2^s=((hi*2^s:Nat):Int):=by simp
  rw [this];omega
 have c3:(lo:Int)/2^((64 - ((s:Nat):Int))%18446744073709551616).toNat=(lo/2^(64 - s):Nat):=by
  rw [show ((64 - ((s:Nat):Int))%18446744073709551616).toNat=64 - s by omega];simp
 rw [c2,c3]
 have q1:=norm_high hi lo s (by omega)
 have q2:=norm_low hi lo s
 have q3:=norm_or hi lo s (by omega) hlo
 have q4:=Nat.div_le_self lo (2^(64 - s))
 obtain ⟨A,hA⟩:∃A,A=hi*2^s:=⟨_,rfl⟩
 obtain ⟨L,hL⟩:∃L,L=lo/2^(64 - s):=⟨_,rfl⟩
 rw [←hA] at hN q1 q3 ⊢
 rw [←hL] at q1 q3 q4 ⊢
 rw [B_eq] at hlo hy
 repeat (refine oL ?_;conv=>whnf)
 have hor:(((fun a b=>a|||b) (A:Int).toNat (L:Int).toNat:Nat):Int)=(A+L:Nat):=by
  rw [Int.toNat_natCast,Int.toNat_natCast]
  exact congrArg _ q3
 rw [hor]
 have hu:A+L<yn:=by
  have e:B=2^(64 - s)*2^s:=by rw [←Nat.pow_add,show 64 - s+s=64 by omega];rfl
  have hx:L<2^s:=by rw [hL];exact Nat.div_lt_of_lt_mul (by rw [←e,B_eq];exact hlo)
  have:=Nat.mul_le_mul_right (2^s) (show hi+1≤y by omega)
  rw [Nat.succ_mul,←hA,←hyn] at this
  omega
 obtain ⟨u,hu0⟩:∃u,u=A+L:=⟨_,rfl⟩
 rw [←hu0] at hu q1 ⊢
 obtain ⟨w,hw⟩:∃w,w=lo*2^s%B:=⟨_,rfl⟩
 rw [←hw] at q2
 have hwB:w<18446744073709551616:=by rw [hw,←B_eq];exact Nat.mod_lt _ B_pos
 have c4:(lo:Int)*2^((s:Nat):Int).toNat%18446744073709551616=(w:Nat):=by
  rw [Int.toNat_natCast,hw,B_eq];simp
 rw [c4,and_mask (z:=(yn:Int)) (by omega),and_mask (z:=(w:Int)) (by omega)]
 obtain ⟨y1,hy1⟩:∃y1,y1=yn/4294967296:=⟨_,rfl⟩
 obtain ⟨y0,hy0'⟩:∃y0,y0=yn%4294967296:=⟨_,rfl⟩
 obtain ⟨d1,hd1⟩:∃d1,d1=w/4294967296:=⟨_,rfl⟩
 obtain ⟨d0,hd0⟩:∃d0,d0=w%4294967296:=⟨_,rfl⟩
 rw [show (yn:Int)/4294967296=(y1:Nat) by omega,show (yn:Int)%4294967296=(y0:Nat) by omega,show (w:Int)/4294967296=(d1:Nat) by omega,show (w:Int)%4294967296=(d0:Nat) by omega]
 have hy10:yn=y1*4294967296+y0:=by omega
 have hw10:w=d1*4294967296+d0:=by omega
 have N1:DN u d1 y1 y0:=⟨by omega,by omega,by omega,by omega,by omega⟩
 repeat (refine oL ?_;conv=>whnf)
 have hu32:u<y1*4294967296+y0:=by omega
 refine Runs.loopJ (X:=Nat×Nat) (Y:=Unit) (fun q=>[(2,.int .u64 yn),(8,.int .u64 s),(9,.int .u64 y1),(10,.int .u64 y0),(11,.int .u64 u),(13,.int .u64 d1),(14,.int .u64 d0),(15,.int .u64 (q.1:Nat)),(16,.int .u64 (q.2:Nat))])
  (fun q h'=>h'=h∧DI u d1 y1 y0 q.1 q.2) (fun q=>q.1) (u/y1,u%y1)
  (fun _=>[(2,.int .u64 yn),(8,.int .u64 s),(9,.int .u64 y1),(10,.int .u64 y0),(11,.int .u64 u),(13,.int .u64 d1),(14,.int .u64 d0),(15,.int .u64 ((u*4294967296+d1)/yn:Nat))]) (fun _ h'=>h'=h)
  ⟨rfl,DI.init N1⟩ ⟨rfl,rfl,rfl,rfl,rfl,rfl,rfl,rfl,?_,trivial⟩ ?_ ?_
 ·rw [rest_cast N1.y1l N1.y1h (by omega)];rfl
 ·rintro ⟨q,r⟩ h ⟨rfl,I⟩ ih hx
  dsimp only at I ih ⊢
  have I3:=I.le
  have I4:=I.rt
  try refine gO ?_;conv=>whnf
  refine ⟨fun h4=>?_,fun h4=>?_⟩<;>conv=>whnf
  ·obtain ⟨D1,D2,D3,D4⟩:=I.dec N1 (.inl (by omega))
   conv=>whnf
   rw [show ((q:Int) - 1)%18446744073709551616=(q - 1:Nat) by omega,show ((r:Int)+y1)%18446744073709551616=(r+y1:Nat) by omega]
   refine ⟨fun h6=>?_,fun h6=>?_⟩<;>conv=>whnf
   ·have hq:=DI.out N1 D2 D3 D4 (by omega)
    exact hx () _ _ rfl ⟨rfl,rfl,rfl,rfl,rfl,rfl,rfl,by rw [hy10,←hq];rfl,trivial⟩
   exact ih (q - 1,r+y1) _ _ ⟨rfl,D2,D3,by dsimp only;omega,by dsimp only;omega⟩ (by dsimp only;omega) ⟨rfl,rfl,rfl,rfl,rfl,rfl,rfl,rfl,rfl,trivial⟩
  have hb:=mul_bound (a:=q) (b:=y0) (by omega) (by omega) (by omega) (by omega)
  have hqy:(q:Int)*y0=((q*y0:Nat):Int):=by simp
  rw [hqy] at hb ⊢
  refine ⟨fun h5=>?_,fun h5=>?_⟩<;>conv=>whnf
  ·have h5':4294967296*r+d1<q*y0:=by omega
   obtain ⟨D1,D2,D3,D4⟩:=I.dec N1 (.inr h5')
   rw [show ((q:Int) - 1)%18446744073709551616=(q - 1:Nat) by omega,show ((r:Int)+y1)%18446744073709551616=(r+y1:Nat) by omega]
   refine ⟨fun h6=>?_,fun h6=>?_⟩<;>conv=>whnf
   ·have hq:=DI.out N1 D2 D3 D4 (by omega)
    exact hx () _ _ rfl ⟨rfl,rfl,rfl,rfl,rfl,rfl,rfl,by rw [hy10,←hq];rfl,trivial⟩
   exact ih (q - 1,r+y1) _ _ ⟨rfl,D2,D3,by dsimp only;omega,by dsimp only;omega⟩ (by dsimp only;omega) ⟨rfl,rfl,rfl,rfl,rfl,rfl,rfl,rfl,rfl,trivial⟩
  have hq:=DI.exit N1 I (by omega)
  exact hx () _ _ rfl ⟨rfl,rfl,rfl,rfl,rfl,rfl,rfl,by rw [hy10,←hq];rfl,trivial⟩
 rintro _ h rfl
 try refine gO ?_;conv=>whnf
 rw [digit_rest rfl (by omega) hynh]
 obtain ⟨R1,hR1⟩:∃R1,R1=(u*4294967296+d1)%yn:=⟨_,rfl⟩
 have hR1b:R1<yn:=by rw [hR1];exact Nat.mod_lt _ (by omega)
 rw [←hR1]
 have N2:DN R1 d0 y1 y0:=⟨by omega,by omega,by omega,by omega,by omega⟩
 repeat (refine oL ?_;conv=>whnf)
 refine Runs.loopJ (X:=Nat×Nat) (Y:=Unit) (fun q=>[(2,.int .u64 yn),(8,.int .u64 s),(9,.int .u64 y1),(10,.int .u64 y0),(14,.int .u64 d0),(15,.int .u64 ((u*4294967296+d1)/yn:Nat)),(17,.int .u64 R1),(18,.int .u64 (q.1:Nat)),(16,.int .u64 (q.2:Nat))])
  (fun q h'=>h'=h∧DI R1 d0 y1 y0 q.1 q.2) (fun q=>q.1) (R1/y1,R1%y1)
  (fun _=>[(2,.int .u64 yn),(8,.int .u64 s),(14,.int .u64 d0),(15,.int .u64 ((u*4294967296+d1)/yn:Nat)),(17,.int .u64 R1),(18,.int .u64 ((R1*4294967296+d0)/yn:Nat))]) (fun _ h'=>h'=h)
  ⟨rfl,DI.init N2⟩ ⟨rfl,rfl,rfl,rfl,rfl,rfl,rfl,rfl,?_,trivial⟩ ?_ ?_
 ·rw [rest_cast N2.y1l N2.y1h (by omega)];rfl
 ·rintro ⟨q,r⟩ h ⟨rfl,I⟩ ih hx
  dsimp only at I ih ⊢
  have I3:=I.le
  have I4:=I.rt
  try refine gO ?_;conv=>whnf
  refine ⟨fun h4=>?_,fun h4=>?_⟩<;>conv=>whnf
  ·obtain ⟨D1,D2,D3,D4⟩:=I.dec N2 (.inl (by omega))
   conv=>whnf
   rw [show ((q:Int) - 1)%18446744073709551616=(q - 1:Nat) by omega,show ((r:Int)+y1)%18446744073709551616=(r+y1:Nat) by omega]
   refine ⟨fun h6=>?_,fun h6=>?_⟩<;>conv=>whnf
   ·have hq:=DI.out N2 D2 D3 D4 (by omega)
    exact hx () _ _ rfl ⟨rfl,rfl,rfl,rfl,rfl,by rw [hy10,←hq];rfl,trivial⟩
   exact ih (q - 1,r+y1) _ _ ⟨rfl,D2,D3,by dsimp only;omega,by dsimp only;omega⟩ (by dsimp only;omega) ⟨rfl,rfl,rfl,rfl,rfl,rfl,rfl,rfl,rfl,trivial⟩
  have hb:=mul_bound (a:=q) (b:=y0) (by omega) (by omega) (by omega) (by omega)
  have hqy:(q:Int)*y0=((q*y0:Nat):Int):=by simp
  rw [hqy] at hb ⊢
  refine ⟨fun h5=>?_,fun h5=>?_⟩<;>conv=>whnf
  ·have h5':4294967296*r+d0<q*y0:=by omega
   obtain ⟨D1,D2,D3,D4⟩:=I.dec N2 (.inr h5')
   rw [show ((q:Int) - 1)%18446744073709551616=(q - 1:Nat) by omega,show ((r:Int)+y1)%18446744073709551616=(r+y1:Nat) by omega]
   refine ⟨fun h6=>?_,fun h6=>?_⟩<;>conv=>whnf
   ·have hq:=DI.out N2 D2 D3 D4 (by omega)
    exact hx () _ _ rfl ⟨rfl,rfl,rfl,rfl,rfl,by rw [hy10,←hq];rfl,trivial⟩
   exact ih (q - 1,r+y1) _ _ ⟨rfl,D2,D3,by dsimp only;omega,by dsimp only;omega⟩ (by dsimp only;omega) ⟨rfl,rfl,rfl,rfl,rfl,rfl,rfl,rfl,rfl,trivial⟩
  have hq:=DI.exit N2 I (by omega)
  exact hx () _ _ rfl ⟨rfl,rfl,rfl,rfl,rfl,by rw [hy10,←hq];rfl,trivial⟩
 rintro _ h rfl
 try refine gO ?_;conv=>whnf
 rw [digit_rest rfl (by omega) hynh]
 have T:=div_two u d1 d0 yn (by omega)
 rw [←hR1] at T
 have L1:=N1.q_lt
 have L2:=N2.q_lt
 rw [←hy10] at L1 L2
 obtain ⟨Q1,hQ1⟩:∃Q1,Q1=(u*4294967296+d1)/yn:=⟨_,rfl⟩
 obtain ⟨Q0,hQ0⟩:∃Q0,Q0=(R1*4294967296+d0)/yn:=⟨_,rfl⟩
 obtain ⟨R0,hR0⟩:∃R0,R0=(R1*4294967296+d0)%yn:=⟨_,rfl⟩
 rw [←hQ1,←hQ0,←hR0] at T
 rw [←hQ1] at L1 ⊢
 rw [←hQ0] at L2 ⊢
 rw [←hR0]
 repeat (refine oL ?_;conv=>whnf)
 refine Runs.ret Tryz.func167 rfl rfl ⟨_,rfl,?_⟩
 refine ⟨⟨Q1*4294967296+Q0,R0/2^s,?_,?_⟩,rfl⟩
 ·rw [Int.toNat_natCast,show ((Q1:Int)*4294967296%18446744073709551616+Q0)%18446744073709551616=(Q1*4294967296+Q0:Nat) by omega,show (R0:Int)/2^s=(R0/2^s:Nat) by simp]
  rfl
 have hN':=Nat.div_add_mod ((hi*B+lo)*2^s) B
 rw [q1,q2,B_eq] at hN'
 rw [B_eq]
 have e:u*18446744073709551616+(d1*4294967296+d0)=(hi*18446744073709551616+lo)*2^s:=by omega
 rw [e,hyn,Nat.mul_div_mul_right _ _ (Nat.two_pow_pos s),Nat.mul_mod_mul_right] at T
 refine ⟨T.1.symm,?_⟩
 rw [←T.2,Nat.mul_div_cancel _ (Nat.two_pow_pos s)]
end Go.Proofs.YtofjdbmcloemnaaGreatDoor

namespace Go.NatM
open Go Go.Fw
theorem word_step {V1 V2 i:Nat} (hV2:0<V2):
  V1/B^i/V2=V1/B^(i+1)/V2*B+(V1/B^(i+1)%V2*B+wdc V1 i)/V2∧V1/B^i%V2=(V1/B^(i+1)%V2*B+wdc V1 i)%V2:=by
 have h1:=div_step V1 i
 obtain ⟨T,hT⟩:∃T,T=V1/B^(i+1):=⟨_,rfl⟩
 rw [←hT] at h1 ⊢
 have h2:=Nat.div_add_mod T V2
 have e:V1/B^i=V2*(T/V2*B)+(T%V2*B+wdc V1 i):=by
  rw [h1,←Nat.mul_assoc,←Nat.add_assoc,←Nat.add_mul,h2,Nat.mul_comm,Nat.add_comm]
 rw [e,Nat.mul_add_div hV2,Nat.mul_add_mod]
 exact ⟨rfl,rfl⟩
theorem word_digit_lt {V2 r w:Nat} (hr:r<V2) (hw:w<B):(r*B+w)/V2<B:=by
 rw [Nat.div_lt_iff_lt_mul (by omega)]
 have:=Nat.mul_le_mul_right B (show r+1≤V2 by omega)
 rw [Nat.succ_mul,Nat.mul_comm V2] at this
 omega
theorem wdc_mulB {A j i:Nat} (h:j<i):wdc (A*B^i) j=0:=by
 unfold wdc
 rw [show B^i=B*B^(i - j - 1)*B^j by rw [←Nat.pow_succ',←Nat.pow_add];congr 1;omega,←Nat.mul_assoc,Nat.mul_div_cancel _ (Bp_pos j),←Nat.mul_assoc,Nat.mul_comm A B,Nat.mul_assoc,Nat.mul_mod_right]
theorem putw_mulB {A x i:Nat}:putw (A*B^(i+1)) i x=(A*B+x)*B^i:=by
 have h:=@putw_eq (A*B^(i+1)) i x
 rw [wdc_mulB (Nat.lt_succ_self i),Nat.mul_zero,Nat.add_zero] at h
 rw [h,Nat.add_mul,Nat.pow_succ,Nat.mul_comm (B^i) x,Nat.mul_assoc A B,Nat.mul_comm B (B^i)]
theorem bit_step {V1 V2 i:Nat} (hV2:0<V2) (b:Nat) (hb:b=V1/2^i%2):
  (V2≤2*(V1/2^(i+1)%V2)+b→V1/2^i/V2=2*(V1/2^(i+1)/V2)+1∧V1/2^i%V2=2*(V1/2^(i+1)%V2)+b - V2) ∧
  (2*(V1/2^(i+1)%V2)+b<V2→V1/2^i/V2=2*(V1/2^(i+1)/V2)∧V1/2^i%V2=2*(V1/2^(i+1)%V2)+b):=by
 have e0:V1/2^(i+1)=V1/2^i/2:=by rw [Nat.pow_succ,Nat.div_div_eq_div_mul]
 obtain ⟨U,hU⟩:∃U,U=V1/2^i:=⟨_,rfl⟩
 obtain ⟨T,hT⟩:∃T,T=V1/2^(i+1):=⟨_,rfl⟩
 rw [←hU] at e0 hb ⊢
 rw [←hT] at e0 ⊢
 have hTb:U=2*T+b:=by omega
 have h2:=Nat.div_add_mod T V2
 have hm:=Nat.mod_lt T hV2
 obtain ⟨q,hq⟩:∃q,q=T/V2:=⟨_,rfl⟩
 obtain ⟨r,hr⟩:∃r,r=T%V2:=⟨_,rfl⟩
 rw [←hq,←hr] at h2
 rw [←hr] at hm
 rw [←hq,←hr]
 have e:U=V2*(2*q)+(2*r+b):=by
  rw [hTb,←h2,show V2*(2*q)=2*(V2*q) by rw [←Nat.mul_assoc,Nat.mul_comm V2 2,Nat.mul_assoc]]
  omega
 constructor
 ·intro h
  have e2:U=V2*(2*q+1)+(2*r+b - V2):=by
   rw [Nat.mul_add,Nat.mul_one];omega
  rw [e2,Nat.mul_add_div hV2,Nat.mul_add_mod,Nat.div_eq_of_lt (by omega),Nat.mod_eq_of_lt (by omega)]
  exact ⟨rfl,rfl⟩
 intro h
 rw [e,Nat.mul_add_div hV2,Nat.mul_add_mod,Nat.div_eq_of_lt h,Nat.mod_eq_of_lt h]
 exact ⟨rfl,rfl⟩
theorem two_word (i:Nat):(2:Nat)^i=B^(i/64)*2^(i%64):=by
 rw [B_pow,←Nat.pow_add];congr 1;omega
theorem set_bit (A i:Nat):wdc (A*2^(i+1)) (i/64)|||2^(i%64)=wdc (A*2^(i+1)) (i/64)+2^(i%64)∧wdc (A*2^(i+1)) (i/64)+2^(i%64)<B ∧
  putw (A*2^(i+1)) (i/64) (wdc (A*2^(i+1)) (i/64)+2^(i%64))=(2*A+1)*2^i:=by
 obtain ⟨q,hq⟩:∃q,q=i/64:=⟨_,rfl⟩
 obtain ⟨t,ht⟩:∃t,t=i%64:=⟨_,rfl⟩
 have ht64:t<64:=by omega
 have hB:B=2^(t+1)*2^(63 - t):=by rw [←Nat.pow_add,show t+1+(63 - t)=64 by omega];rfl
 have e1:wdc (A*2^(i+1)) q=2^(t+1)*(A%2^(63 - t)):=by
  unfold wdc
  rw [Nat.pow_succ,two_word i,←hq,←ht,show A*(B^q*2^t*2)=A*2^(t+1)*B^q by rw [Nat.pow_succ];simp only [Nat.mul_comm,Nat.mul_left_comm],
   Nat.mul_div_cancel _ (Bp_pos q),Nat.mul_comm A,hB,Nat.mul_mod_mul_left]
 have hx:2^t<2^(t+1):=by rw [Nat.pow_succ];have:=Nat.two_pow_pos t;omega
 have hlt:2^(t+1)*(A%2^(63 - t))+2^t<B:=by
  have h1:=Nat.mod_lt A (Nat.two_pow_pos (63 - t))
  have h2:=Nat.mul_le_mul_left (2^(t+1)) (show A%2^(63 - t)+1≤2^(63 - t) by omega)
  rw [←hB,Nat.mul_add,Nat.mul_one] at h2
  omega
 rw [←hq,←ht]
 refine ⟨?_,by rw [e1];exact hlt,?_⟩
 ·rw [e1,Nat.two_pow_add_eq_or_of_lt hx]
 have h:=@putw_eq (A*2^(i+1)) q (wdc (A*2^(i+1)) q+2^t)
 rw [Nat.mul_add] at h
 have e2:(2*A+1)*2^i=A*2^(i+1)+B^q*2^t:=by
  rw [Nat.add_mul,Nat.one_mul,hq,ht,←two_word,Nat.pow_succ,Nat.mul_comm 2 A,Nat.mul_assoc,Nat.mul_comm 2 (2^i)]
 omega
def cdb (R b j:Nat):Nat:=(2*(R%B^j)+b)/B^j
theorem cdb_le {R b j:Nat} (hb:b≤1):cdb R b j≤1:=by
 have h:=Nat.mod_lt R (Bp_pos j)
 have:cdb R b j<2:=by
  unfold cdb
  rw [Nat.div_lt_iff_lt_mul (Bp_pos j)]
  omega
 omega
theorem cdb_zero (R b:Nat):cdb R b 0=b:=by simp [cdb,Nat.mod_one]
theorem dbl_word {R b j:Nat} (hb:b≤1):wdc (2*R+b) j=(wdc R j*2%B)|||cdb R b j∧cdb R b (j+1)=wdc R j/9223372036854775808:=by
 have hc:=@cdb_le R b j hb
 have hd:=Nat.div_add_mod R (B^j)
 have e:(2*R+b)/B^j=2*(R/B^j)+cdb R b j:=by
  have:2*R+b=B^j*(2*(R/B^j))+(2*(R%B^j)+b):=by
   rw [show B^j*(2*(R/B^j))=2*(B^j*(R/B^j)) by rw [←Nat.mul_assoc,Nat.mul_comm _ 2,Nat.mul_assoc]]
   omega
  rw [this,Nat.mul_add_div (Bp_pos j)]
  rfl
 have hw:wdc R j=R/B^j%B:=rfl
 have hwl:=wdc_lt R j
 constructor
 ·have hor:(wdc R j*2%B)|||cdb R b j=wdc R j*2%B+cdb R b j:=by
   have e2:wdc R j*2%B=2^1*(wdc R j%9223372036854775808):=by rw [B_eq] at *;omega
   rw [e2,Nat.two_pow_add_eq_or_of_lt (by omega)]
  rw [hor]
  unfold wdc at *
  rw [e]
  rw [B_eq] at *
  omega
 have h1:=mod_succ R j
 unfold cdb at *
 rw [h1,Nat.pow_succ,←Nat.div_div_eq_div_mul]
 have e3:2*(R%B^j+B^j*wdc R j)+b=B^j*(2*wdc R j)+(2*(R%B^j)+b):=by
  rw [show B^j*(2*wdc R j)=2*(B^j*wdc R j) by rw [←Nat.mul_assoc,Nat.mul_comm _ 2,Nat.mul_assoc]]
  omega
 rw [e3,Nat.mul_add_div (Bp_pos j)]
 obtain ⟨cc,hcc⟩:∃cc,cc=(2*(R%B^j)+b)/B^j:=⟨_,rfl⟩
 rw [←hcc] at hc ⊢
 rw [B_eq] at *
 omega
end Go.NatM

namespace Go.Proofs.YtofjdbmcloemnaaGreatDoor
open Go Go.Fw Go.NatM
set_option maxRecDepth 100000
set_option maxHeartbeats 99999999
theorem bit_word (V i:Nat):wdc V (i/64)/2^(i%64)%2=V/2^i%2:=by
 unfold wdc
 have h64:i%64<64:=Nat.mod_lt _ (by decide)
 rw [two_word i,←Nat.div_div_eq_div_mul]
 obtain ⟨t,ht⟩:∃t,t=i%64:=⟨_,rfl⟩
 rw [←ht] at h64 ⊢
 generalize V/B^(i/64)=X
 rw [show B=2^t*2^(64 - t) by rw [←Nat.pow_add,show t+(64 - t)=64 by omega];rfl,Nat.mod_mul_right_div_self]
 rw [show 2^(64 - t)=2*2^(63 - t) by rw [←Nat.pow_succ'];congr 1;omega,Nat.mod_mul_right_mod]
theorem low1_fn {h:Array Obj} {y bm bw V m cap many:Nat} {a:Option Addr} (J:Nat→Array Obj→Prop) (h0:J many h)
  (hcells:∀i h',J i h'→cellH h' bm 0=some (.int .i64 many)∧cellH h' bw 0=some (.slice a m cap)∧Wr h' (.slice a m cap) m V) (hm:many≤64*m) (hmb:m≤1048576)
  (hY:∀i h',i<many→J (i+1) h'→YieldsTo Tryz.prog y #[.int .i64 (i:Nat),.int .u64 (V/2^i%2:Nat)] h' fun v h''=>v=.bool true∧J i h''):
  FnV Tryz.prog 184 #[.func (.yield y) #[] #[],.pointer (some ⟨bm,0,none⟩),.pointer (some ⟨bw,0,none⟩)] h fun r h'=>r=.tuple #[]∧J 0 h':=by
 refine Fn.of (args:=[.func (.yield y) #[] #[],.pointer (some ⟨bm,0,none⟩),.pointer (some ⟨bw,0,none⟩)]) Tryz.func184 (by kernel_rfl) rfl Tryz.ntmps184 rfl fun w0 cs=>?_
 refine gO ?_;conv=>whnf
 refine ⟨_,(hcells _ _ h0).1,?_⟩;conv=>whnf
 repeat (refine oL ?_;conv=>whnf)
 refine Runs.loop (X:=Nat) (fun i=>[(0,.func (.yield y) #[] #[]),(1,.pointer (some ⟨bm,0,none⟩)),(2,.pointer (some ⟨bw,0,none⟩)),(4,.int .i64 ((i:Int) - 1))]) (fun i h'=>i≤many∧J i h') (fun i=>i) many
  ⟨Nat.le_refl _,h0⟩ ⟨rfl,rfl,rfl,rfl,trivial⟩ ?_
 rintro i h' ⟨hi,hJ⟩ ih
 obtain ⟨hc1,hc2,hw⟩:=hcells _ _ hJ
 try refine gO ?_;conv=>whnf
 refine ⟨fun h1=>?_,fun h1=>?_⟩<;>conv=>whnf
 ·obtain ⟨k,rfl⟩:∃k,i=k+1:=⟨i - 1,by omega⟩
  rw [show ((k+1:Nat):Int) - 1=(k:Nat) by omega]
  refine ⟨_,hc2,?_⟩;conv=>whnf
  rw [show ((k:Nat):Int)/64=(k/64:Nat) by omega]
  obtain ⟨b,off,rfl,hrd⟩:=hw.rd rfl (by omega)
  repeat (refine oL ?_;conv=>whnf)
  refine ⟨_,hrd (k/64) (by omega),?_⟩;conv=>whnf
  conv=>whnf
  repeat (refine oL ?_;conv=>whnf)
  rw [show ((k:Nat):Int)%64=(k%64:Nat) by omega,shr_cast]
  have b1:=shr_le (wdc_le V (k/64)) (k%64)
  have b2:=bit_word V k
  obtain ⟨x,hx⟩:∃x,x=wdc V (k/64)/2^(k%64):=⟨_,rfl⟩
  rw [←hx] at b1 b2 ⊢
  repeat (refine oL ?_;conv=>whnf)
  rw [show (((fun a b=>a&&&b) (x:Int).toNat (Int.toNat 1):Nat):Int)=(V/2^k%2:Nat) by rw [←b2];exact congrArg _ (Nat.and_two_pow_sub_one_eq_mod x 1)]
  refine Runs.callY (hY k h' (by omega) hJ) ?_
  rintro _ h'' ⟨rfl,hJ'⟩
  try refine gO ?_;conv=>whnf
  repeat (refine oL ?_;conv=>whnf)
  exact ih k _ _ ⟨by omega,hJ'⟩ (by omega) ⟨rfl,rfl,rfl,rfl,trivial⟩
 refine Runs.fin Tryz.func184 rfl rfl ⟨_,rfl,?_⟩
 have:i=0:=by omega
 subst this
 exact ⟨rfl,hJ⟩
theorem low_fn {h:Array Obj} (v:Value) (many:Int) (hv:v.cells = #[v]):
  FnV Tryz.prog 169 #[v,.int .i64 many] h fun r h'=>r=.func (.func 184) #[] #[.pointer (some ⟨h.size+1,0,none⟩),.pointer (some ⟨h.size,0,none⟩)] ∧
   h'=(h.push (.cells #[v] 196 (0,0))).push (.cells #[.int .i64 many] 3 (0,0)):=by
 refine Fn.of (args:=[v,.int .i64 many]) Tryz.func169 (by kernel_rfl) rfl Tryz.ntmps169 rfl fun w0 cs=>?_
 refine gO ?_;conv=>whnf
 refine Runs.eff (eff_box) ?_
 rintro _ _ ⟨rfl,rfl⟩
 try refine gO ?_;conv=>whnf
 refine Runs.eff (eff_box) ?_
 rintro _ _ ⟨rfl,rfl⟩
 try refine gO ?_;conv=>whnf
 refine Runs.ret Tryz.func169 rfl rfl ⟨_,rfl,?_⟩
 rw [hv]
 refine ⟨?_,rfl⟩
 show Value.func _ _ _=_
 simp
theorem clone_fn {h:Array Obj} {a:Option Addr} {m cap V:Nat} (hw:Wr h (.slice a m cap) m V) (h0:0<m) (hm:m≤1048576):
  FnV Tryz.prog 162 #[.slice a m cap] h fun r h'=>Wown h.size h' r m V∧Keeps h.size h h':=by
 obtain ⟨b,off,rfl,hrd⟩:=hw.rd rfl h0
 have hV:V<B^m:=by obtain ⟨_,_,_,_,hV,_⟩:=hw;exact hV
 have hb:b<h.size:=cellH_lt (hrd 0 h0)
 refine Fn.of (args:=[.slice (some ⟨b,off,none⟩) m cap]) Tryz.func162 (by kernel_rfl) rfl Tryz.ntmps162 rfl fun w0 cs=>?_
 refine gO ?_;conv=>whnf
 refine Runs.eff (eff_build tab [] (h1:=by simp)) ?_
 rintro _ _ ⟨rfl,rfl⟩
 try refine gO ?_;conv=>whnf
 have hown:Own h.size (h.push (.cells #[] 195 (0,0))) 195 1 (.slice (some ⟨h.size,0,none⟩) 0 0) 0 []:=
  ⟨rfl,.inr ⟨h.size,0,#[],rfl,Nat.le_refl _,push_new _ _ _,Nat.le_refl _,by unfold maxLen;omega,rfl,rfl⟩⟩
 have hk1:Keeps h.size h (h.push (.cells #[] 195 (0,0))):=(Keeps.refl _ _).push (Nat.le_refl _) _
 refine Runs.eff (eff_append tab (i:=⟨.int .u64 0,1,8⟩) (base:=h.size) (m:=0) (m2:=m) (news:=(List.range m).map fun j=>Value.int .u64 (wdc V j:Nat)) hown (by simp) (fun j u hu=>?_) (fun u hu=>?_) (h63:=by unfold maxLen;omega) (hbytes:=by dsimp only;omega) (hbase:=by simp)) ?_
 ·rw [List.getElem?_map] at hu
  have hj:j<m:=by
   rcases Nat.lt_or_ge j m with h|h
   ·exact h
   rw [List.getElem?_eq_none (by simp;omega)] at hu;cases hu
  rw [List.getElem?_range hj] at hu
  obtain rfl:=Option.some.inj hu
  rw [hk1.cell hb]
  exact hrd j hj
 ·obtain ⟨j,_,rfl⟩:=List.mem_map.1 hu
  rfl
 rintro v' h' ⟨H1,H2,H3,H4⟩
 try refine gO ?_;conv=>whnf
 refine Runs.ret Tryz.func162 rfl rfl ⟨_,rfl,?_⟩
 have hkk:Keeps h.size h h':=hk1.trans (hown.keeps (by simp) H2 H3)
 refine ⟨?_,hkk⟩
 rw [Nat.zero_add] at H1
 obtain ⟨hl,H1⟩:=H1
 rcases H1 with ⟨_,e⟩|⟨g,cap',cur,e1,e2,e3,e4,e5,e6,e7⟩
 ·omega
 dsimp only at e6 e7
 refine ⟨g,cap',cur,e1,e2,e3,by omega,e4,hV,fun j hj=>?_⟩
 have:(cur.toList.take (m*1))[j]? = some (.int .u64 (wdc V j:Nat)):=by
  rw [e7]
  simp [List.getElem?_range hj]
 rw [List.getElem?_take_of_lt (show j<m*1 by omega)] at this
 simpa using this

abbrev nilS:Value:=.slice none 0 0
theorem Wr.nil (h:Array Obj):Wr h nilS 0 0:=⟨none,0,rfl,Nat.le_refl _,by decide,fun h=>absurd h (Nat.lt_irrefl _)⟩
theorem cmpI_lt (x y:Nat):cmpI (x:Int) (y:Int)<0↔x<y:=by
 unfold cmpI
 constructor
 ·intro h;split at h
  ·omega
  split at h<;>omega
 intro h;rw [if_pos (by omega)];decide
theorem words_src {h:Array Obj} {g m V:Nat} {cur:Array Value} (hat:At h g cur 195) (hc:∀j,j<m→cur[j]? = some (.int .u64 (wdc V j:Nat))):
  ∀(j:Nat) (u:Value),((List.range m).map fun j=>Value.int .u64 (wdc V j:Nat))[j]? = some u→cellH h g (0+j)=some u:=fun j u hu=>by
 rw [List.getElem?_map] at hu
 have hj:j<m:=by
  rcases Nat.lt_or_ge j m with h|h
  ·exact h
  rw [List.getElem?_eq_none (by simp;omega)] at hu;cases hu
 rw [List.getElem?_range hj] at hu
 obtain rfl:=Option.some.inj hu
 rw [hat.cell,Nat.zero_add]
 exact hc j hj
theorem words_one (m V:Nat):∀u∈(List.range m).map (fun j=>Value.int .u64 (wdc V j:Nat)),u.oneCell'=true:=fun u hu=>by
 obtain ⟨j,_,rfl⟩:=List.mem_map.1 hu
 rfl
def DivR (h h':Array Obj) (r:Value) (V1 V2:Nat):Prop:=
 ∃vq vr mq mr,r=.tuple #[vq,vr]∧Wr h' vq mq (V1/V2)∧Wr h' vr mr (V1%V2)∧mq≤nw V1∧mr≤nw V1+nw V2+1∧Keeps h.size h h'
theorem slice_own {h:Array Obj} {a:Option Addr} {m cap V g:Nat} (hw:Wr h (.slice a m cap) m V) (hm:0<m) (hg:h.size≤g):(Value.slice a m cap).ownBlock≠some g:=by
 intro e
 obtain ⟨b,off,rfl,hr⟩:=hw.rd rfl hm
 have:=cellH_lt (hr 0 hm)
 have e:b=g:=by simpa [Value.ownBlock] using e
 omega
structure DivC (h:Array Obj) (v2:Value) (g1 g3:Nat) (V1 V2 i:Nat) (h':Array Obj):Prop where
 keeps:Keeps h.size h h'
 bb:At h' h.size #[v2] 196
 qq:At h' (h.size+1) #[.slice (some ⟨g1,0,none⟩) (nw V1) (nw V1)] 196
 rr:At h' (h.size+1+1) #[.slice (some ⟨g3,0,none⟩) (nw V2+1) (nw V2+1)] 196
 q:∃cur,At h' g1 cur 195∧cur.size=nw V1∧V1/2^i/V2*2^i<B^nw V1 ∧ ∀j,j<nw V1→cur[j]? = some (.int .u64 (wdc (V1/2^i/V2*2^i) j:Nat))
 r:∃cur,At h' g3 cur 195∧cur.size=nw V2+1 ∧ ∀j,j<nw V2+1→cur[j]? = some (.int .u64 (wdc (V1/2^i%V2) j:Nat))
theorem DivC.put {h:Array Obj} {v2:Value} {g1 g3 V1 V2 i:Nat} {h' h'':Array Obj} (H:DivC h v2 g1 g3 V1 V2 i h') {b:Nat} (P:PutO h' h'' b) (hb:h.size+2<b) (h1:g1≠b) (h3:g3≠b):DivC h v2 g1 g3 V1 V2 i h'':=by
 obtain ⟨k,b1,b2,b3,⟨c1,q1,q2⟩,⟨c2,r1,r2⟩⟩:=H
 exact ⟨k.trans (P.keeps.mono (by omega)),P.at b1 (by omega),P.at b2 (by omega),P.at b3 (by omega),⟨c1,P.at q1 h1,q2⟩,⟨c2,P.at r1 h3,r2⟩⟩
theorem DivC.kept {h:Array Obj} {v2:Value} {g1 g3 V1 V2 i:Nat} {h' h'':Array Obj} (H:DivC h v2 g1 g3 V1 V2 i h') {b:Nat} (P:Keeps b h' h'') (hb:h.size+2<b) (h1:g1<b) (h3:g3<b):DivC h v2 g1 g3 V1 V2 i h'':=by
 obtain ⟨k,b1,b2,b3,⟨c1,q1,q2⟩,⟨c2,r1,r2⟩⟩:=H
 exact ⟨k.trans (P.mono (by omega)),P.at b1 (by omega),P.at b2 (by omega),P.at b3 (by omega),⟨c1,P.at q1 h1,q2⟩,⟨c2,P.at r1 h3,r2⟩⟩
theorem divide_fn {h:Array Obj} {v1 v2:Value} {V1 V2:Nat} (hw1:Wr h v1 (nw V1) V1) (hw2:Wr h v2 (nw V2) V2) (h0:V2≠0) (hm1:nw V1≤65536) (hm2:nw V2≤65536):
  FnV Tryz.prog 146 #[v1,v2] h fun r h'=>DivR h h' r V1 V2:=by
 obtain ⟨a1,cap1,rfl⟩:∃a cap,v1=.slice a (nw V1) cap:=let ⟨a,cap,e,_⟩:=hw1;⟨a,cap,e⟩
 obtain ⟨a2,cap2,rfl⟩:∃a cap,v2=.slice a (nw V2) cap:=let ⟨a,cap,e,_⟩:=hw2;⟨a,cap,e⟩
 refine Fn.of (args:=[.slice a1 (nw V1) cap1,.slice a2 (nw V2) cap2]) Tryz.func146 (by kernel_rfl) rfl Tryz.ntmps146 rfl fun w0 cs=>?_
 refine gO ?_;conv=>whnf
 refine Runs.eff (eff_boxN (cs:=#[.slice a2 (nw V2) cap2]) rfl) ?_
 rintro _ ha ⟨rfl,Na⟩
 try refine gO ?_;conv=>whnf
 refine Runs.eff (eff_allocN (cs:=#[nilS]) tab) ?_
 rintro _ hb ⟨rfl,Nb⟩
 try refine gO ?_;conv=>whnf
 refine Runs.eff (eff_allocN (cs:=#[nilS]) tab) ?_
 rintro _ h1 ⟨rfl,Nc⟩
 have k1:Keeps h.size h h1:=(Na.keeps.trans (Nb.keeps.mono (by rw [Na.size];omega))).trans (Nc.keeps.mono (by rw [Nb.size,Na.size];omega))
 have B1:=Nc.at (Nb.at Na.blk)
 have Q1:=Nc.at Nb.blk
 have R1:=Nc.blk
 have s1:h1.size=h.size+3:=by rw [Nc.size,Nb.size,Na.size]
 rw [Na.size] at Q1
 rw [Nb.size,Na.size] at R1
 rw [Nb.size,Na.size]
 clear Na Nb Nc
 have hw1':=hw1.keeps k1
 have hw2':=hw2.keeps k1
 try refine gO ?_;conv=>whnf
 refine ⟨_,B1.one,?_⟩;conv=>whnf
 refine Runs.callV (compare_fn hw1' hw2' (by omega)) ?_
 rintro _ h1 ⟨rfl,rfl⟩
 try refine gO ?_;conv=>whnf
 refine ⟨fun hlt=>?_,fun hlt=>?_⟩<;>conv=>whnf
 ·refine Runs.eff (eff_storeB tab Q1) ?_
  rintro _ h2 P2
  try refine gO ?_;conv=>whnf
  refine Runs.eff (eff_storeB tab (P2.at R1 (by omega))) ?_
  rintro _ h3 P3
  try refine gO ?_;conv=>whnf
  have hV:=(cmpI_lt V1 V2).1 hlt
  have hk:Keeps h.size h h3:=(k1.trans (P2.keeps.mono (by omega))).trans (P3.keeps.mono (by omega))
  refine Runs.retC tab Tryz.func146 rfl (vs:=[nilS,.slice a1 (nw V1) cap1]) ⟨⟨_,_,rfl,rfl,(P3.at P2.blk (by omega)).one⟩,⟨_,_,rfl,rfl,P3.blk.one⟩,trivial⟩ ⟨_,rfl,?_⟩
  refine ⟨_,_,0,nw V1,rfl,by rw [Nat.div_eq_of_lt hV];exact Wr.nil _,by rw [Nat.mod_eq_of_lt hV];exact hw1.keeps hk,by omega,by omega,hk⟩
 have hge:V2≤V1:=by
  rcases Nat.lt_or_ge V1 V2 with h|h
  ·exact absurd ((cmpI_lt V1 V2).2 h) hlt
  exact h
 refine Runs.eff (eff_makeN tab (nw V1) (nw V1) (hn:=⟨by omega,by omega,by omega,by dsimp only;omega,by omega⟩)) ?_
 rintro _ h2 ⟨rfl,N2⟩
 have B2:=N2.at B1
 have Q2:=N2.at Q1
 have R2:=N2.at R1
 try refine gO ?_;conv=>whnf
 refine Runs.eff (eff_storeB tab Q2) ?_
 rintro _ h3 P3
 try refine gO ?_;conv=>whnf
 refine ⟨_,(P3.at B2 (by omega)).one,?_⟩;conv=>whnf
 refine ⟨fun hone=>?_,fun hone=>?_⟩<;>conv=>whnf
 ·have hone:nw V2=1:=by omega
  have hV2B:V2<B:=by have:=nw_lt V2;rw [hone,Nat.pow_one] at this;exact this
  have hV2w:wdc V2 0=V2:=by unfold wdc;rw [Nat.pow_zero,Nat.div_one];exact Nat.mod_eq_of_lt hV2B
  have hm1p:0<nw V1:=nw_pos (by omega)
  repeat (refine oL ?_;conv=>whnf)
  have s2:=N2.size
  have s3:=P3.size
  have k3:Keeps h.size h h3:=(k1.trans (N2.keeps.mono (by omega))).trans (P3.keeps.mono (by omega))
  refine Runs.loop (X:=Nat) (fun k=>[(0,.slice a1 (nw V1) cap1),(3,.pointer (some ⟨h.size,0,none⟩)),(4,.pointer (some ⟨h.size+1,0,none⟩)),(5,.pointer (some ⟨h.size+1+1,0,none⟩)),(6,.int .u64 (V1/B^k%V2:Nat)),(7,.int .i64 ((k:Nat) - 1))])
   (fun k h'=>k≤nw V1∧Keeps h.size h h'∧At h' h.size #[.slice a2 (nw V2) cap2] 196∧At h' (h.size+1) #[.slice (some ⟨h1.size,0,none⟩) (nw V1) (nw V1)] 196∧At h' (h.size+1+1) #[nilS] 196 ∧
    ∃cur,At h' h1.size cur 195∧cur.size=nw V1∧V1/B^k/V2*B^k<B^nw V1 ∧ ∀j,j<nw V1→cur[j]? = some (.int .u64 (wdc (V1/B^k/V2*B^k) j:Nat)))
   (fun k=>k) (nw V1)
   ⟨Nat.le_refl _,k3,P3.at B2 (by omega),P3.blk,P3.at R2 (by omega),_,P3.at N2.blk (by omega),by simp,?_,fun j hj=>?_⟩ ⟨rfl,rfl,rfl,rfl,?_,rfl,trivial⟩ ?_
  ·rw [Nat.div_eq_of_lt (nw_lt V1),Nat.zero_div,Nat.zero_mul];exact Bp_pos _
  ·rw [Nat.div_eq_of_lt (nw_lt V1),Nat.zero_div,Nat.zero_mul,wdc_zero,Array.getElem?_replicate,if_pos hj];rfl
  ·rw [Nat.div_eq_of_lt (nw_lt V1),Nat.zero_mod];rfl
  rintro k h4 ⟨hk,k4,B4,Q4,R4,cur,C4,hsz,hS,hc⟩ ih
  try refine gO ?_;conv=>whnf
  refine ⟨fun hpos=>?_,fun hpos=>?_⟩<;>conv=>whnf
  ·obtain ⟨i,rfl⟩:∃i,k=i+1:=⟨k - 1,by omega⟩
   rw [show ((i+1:Nat):Int) - 1=(i:Nat) by omega]
   have hwi:=hw1.keeps k4
   obtain ⟨b1,off1,rfl,hrd1⟩:=hwi.rd rfl hm1p
   obtain ⟨b2,off2,rfl,hrd2⟩:=(hw2.keeps k4).rd rfl (by omega)
   refine Runs.held tab [(0,[]),(1,[]),(2,[]),(3,[]),(4,[]),(5,[]),(6,[]),(7,[]),(8,[]),(9,[]),(10,[0]),(11,[]),(12,[]),(13,[]),(14,[]),(15,[]),(16,[])] (by kernel_rfl) ?_;conv=>whnf
   refine ⟨_,Q4.one,?_⟩;conv=>whnf
   repeat (refine oL ?_;conv=>whnf)
   refine ⟨_,hrd1 i (by omega),?_⟩;conv=>whnf
   refine ⟨_,B4.one,?_⟩;conv=>whnf
   repeat (refine oL ?_;conv=>whnf)
   refine ⟨_,hrd2 0 (by omega),?_⟩;conv=>whnf
   refine ⟨rfl,_,Eff.call (div64_fn (V1/B^(i+1)%V2) (wdc V1 i) (wdc V2 0) (wdc_lt _ _) (wdc_lt _ _) (by rw [hV2w];exact Nat.mod_lt _ (by omega))),?_⟩
   rintro _ h4 ⟨⟨q,r,rfl,hq,hr⟩,rfl⟩
   refine And.intro (by conv=>whnf
                        repeat (refine And.intro (fun e=>e) ?_;conv=>whnf)
                        exact trivial) ?_
   conv=>whnf
   repeat (refine oL ?_;conv=>whnf)
   refine ⟨rfl,_,eff_storeN tab C4 (hlt:=by omega),?_⟩
   rintro _ h5 P5
   refine And.intro (by conv=>whnf
                        repeat (refine And.intro (fun e=>e) ?_;conv=>whnf)
                        exact trivial) ?_
   conv=>whnf
   try refine gO ?_;conv=>whnf
   repeat (refine oL ?_;conv=>whnf)
   rw [hV2w] at hq hr
   obtain ⟨e1,e2⟩:=word_step (V1:=V1) (V2:=V2) (i:=i) (by omega)
   rw [←hq] at e1
   rw [←hr] at e2
   have hqB:q<B:=by rw [hq];exact word_digit_lt (Nat.mod_lt _ (by omega)) (wdc_lt _ _)
   have eS:V1/B^i/V2*B^i=putw (V1/B^(i+1)/V2*B^(i+1)) i q:=by rw [putw_mulB,e1]
   have z1:=k4.size
   refine ih i _ _ ⟨by omega,k4.trans (P5.keeps.mono (by omega)),P5.at B4 (by omega),P5.at Q4 (by omega),P5.at R4 (by omega),_,P5.blk,by simpa using hsz,by rw [eS];exact putw_lt hqB (by omega) hS,fun j hj=>?_⟩ (by omega)
    ⟨rfl,rfl,rfl,rfl,by rw [e2];rfl,rfl,trivial⟩
   rw [eS,wdc_putw hqB,show 0+((i:Int)).toNat=i by omega]
   by_cases e:j=i
   ·subst e
    rw [Array.getElem?_setIfInBounds_self_of_lt (by omega),if_pos rfl]
   rw [Array.getElem?_setIfInBounds_ne (by omega),if_neg e]
   exact hc j hj
  have hk0:k=0:=by omega
  subst hk0
  rw [Nat.pow_zero,Nat.div_one,Nat.mul_one] at hS hc
  rw [Nat.pow_zero,Nat.div_one]
  refine ⟨_,Q4.one,?_⟩;conv=>whnf
  try refine gO ?_;conv=>whnf
  refine Runs.eff (eff_buildN tab [.int .u64 (V1%V2:Nat)] (h1:=by simp [Value.cells])) ?_
  rintro _ h5 ⟨rfl,N5⟩
  try refine gO ?_;conv=>whnf
  refine Runs.eff (eff_storeB tab (N5.at Q4)) ?_
  rintro _ h6 P6
  try refine gO ?_;conv=>whnf
  refine Runs.eff (eff_storeB tab (P6.at (N5.at R4) (by omega))) ?_
  rintro _ h7 P7
  try refine gO ?_;conv=>whnf
  have z1:=k4.size
  have z5:=N5.size
  have z6:=P6.size
  have k7:Keeps h.size h h7:=((k4.trans (N5.keeps.mono (by omega))).trans (P6.keeps.mono (by omega))).trans (P7.keeps.mono (by omega))
  refine Runs.retC tab Tryz.func146 rfl (vs:=[.slice (some ⟨h1.size,0,none⟩) (nw V1) (nw V1),.slice (some ⟨h4.size,0,none⟩) 1 1]) ⟨⟨_,_,rfl,rfl,(P7.at P6.blk (by omega)).one⟩,⟨_,_,rfl,rfl,P7.blk.one⟩,trivial⟩ ⟨_,rfl,?_⟩
  have hlt4:=C4.lt
  refine ⟨_,_,nw V1,1,rfl,Wr.of_at (P7.at (P6.at (N5.at C4) (by omega)) (by omega)) (Nat.le_refl _) hS hc,Wr.of_at (P7.at (P6.at N5.blk (by omega)) (by omega)) (Nat.le_refl _) ?_ (fun j hj=>?_),by omega,by omega,k7⟩
  ·rw [Nat.pow_one];exact Nat.lt_of_lt_of_le (Nat.mod_lt _ (by omega)) (by omega)
  have:j=0:=by omega
  subst this
  rw [show wdc (V1%V2) 0=V1%V2 by unfold wdc;rw [Nat.pow_zero,Nat.div_one];exact Nat.mod_eq_of_lt (Nat.lt_of_lt_of_le (Nat.mod_lt _ (by omega)) (by omega))]
  rfl
 have hp2:0<nw V2:=nw_pos h0
 have hn2:2≤nw V2:=by omega
 have hm1p:0<nw V1:=nw_pos (by omega)
 have hmono:=bl_mono hge
 have s2:=N2.size
 have s3:=P3.size
 have k3:Keeps h.size h h3:=(k1.trans (N2.keeps.mono (by omega))).trans (P3.keeps.mono (by omega))
 have B3:=P3.at B2 (show h.size≠h.size+1 by omega)
 have R3:=P3.at R2 (show h.size+1+1≠h.size+1 by omega)
 have Q3:=P3.blk
 have C3:=P3.at N2.blk (show h1.size≠h.size+1 by omega)
 clear N2 P3 B2 Q2 R2
 have hbl1:bl V1≤4194304:=by
  have:=bl_word (show V1≠0 by omega)
  have:=bl_le64 (wdc_lt V1 (nw V1 - 1))
  omega
 refine Runs.held tab [(0,[]),(2,[]),(1,[2]),(3,[]),(4,[]),(5,[]),(6,[])] (by kernel_rfl) ?_;conv=>whnf
 refine ⟨_,B3.one,?_⟩;conv=>whnf
 refine ⟨rfl,_,Eff.call (size_fn (hw1.keeps k3) (by omega)),?_⟩
 rintro _ h3 ⟨rfl,rfl⟩
 refine And.intro (by conv=>whnf
                      repeat (refine And.intro (fun e=>e) ?_;conv=>whnf)
                      exact trivial) ?_
 conv=>whnf
 refine ⟨rfl,_,Eff.call (size_fn (hw2.keeps k3) (by omega)),?_⟩
 rintro _ h3 ⟨rfl,rfl⟩
 refine And.intro (by conv=>whnf
                      repeat (refine And.intro (fun e=>e) ?_;conv=>whnf)
                      exact trivial) ?_
 conv=>whnf
 repeat (refine oL ?_;conv=>whnf)
 obtain ⟨many,hmany⟩:∃many,many=bl V1 - bl V2+1:=⟨_,rfl⟩
 have hbl2:=bl_pos h0
 rw [show (bl V1:Int) - (bl V2:Int)+1=(many:Nat) by omega]
 have hXlt:V1/2^many<V2:=by
  have h1:=bl_lt V1
  have h2:=bl_le h0
  refine Nat.lt_of_lt_of_le (Nat.div_lt_of_lt_mul ?_) h2
  rw [←Nat.pow_add,show many+(bl V2 - 1)=bl V1 by omega]
  exact h1
 have hnX:=nw_mono (Nat.le_of_lt hXlt)
 try refine gO ?_;conv=>whnf
 refine ⟨_,B3.one,?_⟩;conv=>whnf
 repeat (refine oL ?_;conv=>whnf)
 refine Runs.eff (eff_makeN tab (nw V2+1) (nw V2+1) (hn:=⟨by omega,by omega,by omega,by dsimp only;omega,by omega⟩)) ?_
 rintro _ h4 ⟨rfl,N4⟩
 try refine gO ?_;conv=>whnf
 refine Runs.eff (eff_storeB tab (N4.at R3)) ?_
 rintro _ h5 P5
 have s4:=N4.size
 have s5:=P5.size
 have k5:Keeps h.size h h5:=(k3.trans (N4.keeps.mono (by omega))).trans (P5.keeps.mono (by omega))
 have B5:=P5.at (N4.at B3) (show h.size≠h.size+1+1 by omega)
 have Q5:=P5.at (N4.at Q3) (show h.size+1≠h.size+1+1 by omega)
 have C5:=P5.at (N4.at C3) (show h1.size≠h.size+1+1 by omega)
 have R5:=P5.blk
 have D5:=P5.at N4.blk (show h3.size≠h.size+1+1 by omega)
 clear N4 P5 B3 Q3 R3 C3
 try refine gO ?_;conv=>whnf
 refine Runs.held tab [(0,[]),(1,[]),(3,[]),(2,[0]),(4,[0]),(5,[])] (by kernel_rfl) ?_;conv=>whnf
 refine ⟨_,R5.one,?_⟩;conv=>whnf
 refine ⟨rfl,_,Eff.call (clone_fn (hw1.keeps k5) hm1p (by omega)),?_⟩
 rintro vc h6 ⟨O6,k6⟩
 refine And.intro (by conv=>whnf
                      repeat (first|(refine And.intro (fun e=>(Keeps.cell (k6) (by omega)).trans e) ?_;conv=>whnf)|(refine And.intro (fun e=>Keeps.cells (k6) (by omega) e) ?_;conv=>whnf))
                      exact trivial) ?_
 conv=>whnf
 obtain ⟨g6,cap6,cur6,rfl,hg6,C6,hsz6,hm6,hV6,hc6⟩:=O6
 refine ⟨rfl,_,Eff.call (shift_fn C6 hsz6 hm6 hV6 hc6 (by omega) many (by omega)),?_⟩
 rintro _ h7 ⟨rfl,cur7,hh7,hsz7,hc7⟩
 refine And.intro (by conv=>whnf
                      repeat (first|(refine And.intro (fun e=>(Keeps.cell ((hh7▸(Keeps.refl g6 h6).setB (Nat.le_refl _) _ _:Keeps g6 h6 h7)) (by omega)).trans e) ?_;conv=>whnf)|(refine And.intro (fun e=>Keeps.cells ((hh7▸(Keeps.refl g6 h6).setB (Nat.le_refl _) _ _:Keeps g6 h6 h7)) (by omega) e) ?_;conv=>whnf))
                      exact trivial) ?_
 conv=>whnf
 have k7:Keeps g6 h6 h7:=hh7▸(Keeps.refl g6 h6).setB (Nat.le_refl _) _ _
 have C7:At h7 g6 cur7 195:=by rw [hh7];exact setB_same C6.lt _ _
 have D7:=k7.at (k6.at D5 D5.lt) (show h3.size<g6 by omega)
 have hw7:=Wr.of_at C7 (m:=nw (V1/2^many)) (cap:=cap6) (V:=V1/2^many) (by have:=nw_mono (Nat.div_le_self V1 (2^many));omega) (nw_lt _) (fun j hj=>hc7 j (by have:=nw_mono (Nat.div_le_self V1 (2^many));omega))
 refine ⟨rfl,_,eff_copyN tab D7 (cs:=(List.range (nw (V1/2^many))).map fun j=>Value.int .u64 (wdc (V1/2^many) j:Nat)) (hn:=by rw [List.length_map,List.length_range];exact (Nat.min_eq_left (by omega)).symm) (hsrc:=words_src C7 (fun j hj=>hc7 j (by have:=nw_mono (Nat.div_le_self V1 (2^many));omega))) (hfit:=by simp;omega) (h1:=words_one _ _),?_⟩
 rintro _ h8 ⟨rfl,P8⟩
 refine And.intro (by conv=>whnf
                      repeat (refine And.intro (fun e=>e) ?_;conv=>whnf)
                      exact trivial) ?_
 conv=>whnf
 have z6:=k6.size
 have z7:=k7.size
 have z8:=P8.size
 have k8:Keeps h.size h h8:=((k5.trans (k6.mono (by omega))).trans (k7.mono (by omega))).trans (P8.keeps.mono (by omega))
 have up:∀ {b cs e},At h5 b cs e→b≠h3.size→At h8 b cs e:=fun H hne=>P8.at (k7.at (k6.at H H.lt) (by have:=H.lt;omega)) hne
 have B8:=up B5 (by omega)
 have Q8:=up Q5 (by omega)
 have R8:=up R5 (by omega)
 have C8:=up C5 (by omega)
 have D8:=P8.blk
 obtain ⟨cur8,hcur8⟩:∃cur8,cur8=(List.take 0 (Array.replicate (nw V2+1) (Value.int .u64 0)).toList++(List.range (nw (V1/2^many))).map (fun j=>Value.int .u64 (wdc (V1/2^many) j:Nat))++List.drop (0+((List.range (nw (V1/2^many))).map (fun j=>Value.int .u64 (wdc (V1/2^many) j:Nat))).length) (Array.replicate (nw V2+1) (Value.int .u64 0)).toList).toArray:=⟨_,rfl⟩
 have hD8:At h8 h3.size cur8 195:=by rw [hcur8];exact D8
 have hsz8:cur8.size=nw V2+1:=by rw [hcur8];simp;omega
 have hc8:∀j,j<nw V2+1→cur8[j]? = some (.int .u64 (wdc (V1/2^many) j:Nat)):=fun j hj=>by
  rw [hcur8]
  simp only [List.take_zero,List.nil_append,Nat.zero_add,List.length_map,List.length_range,List.getElem?_toArray,Array.toList_replicate,List.drop_replicate]
  rcases Nat.lt_or_ge j (nw (V1/2^many)) with h|h
  ·rw [List.getElem?_append_left (by simpa using h),List.getElem?_map,List.getElem?_range h];rfl
  rw [List.getElem?_append_right (by simpa using h),List.length_map,List.length_range,List.getElem?_replicate,if_pos (by omega),wdc_ge (nw_lt _) h];rfl
 clear hcur8 D8 P8 up B5 Q5 R5 C5 D5 D7 C7 hw7
 try refine gO ?_;conv=>whnf
 have I8:DivC h (.slice a2 (nw V2) cap2) h1.size h3.size V1 V2 many h8:=by
  refine ⟨k8,B8,Q8,R8,⟨_,C8,by simp,?_,fun j hj=>?_⟩,⟨cur8,hD8,hsz8,by rw [Nat.mod_eq_of_lt hXlt];exact hc8⟩⟩
  ·rw [Nat.div_eq_of_lt hXlt,Nat.zero_mul];exact Bp_pos _
  rw [Nat.div_eq_of_lt hXlt,Nat.zero_mul,wdc_zero,Array.getElem?_replicate,if_pos hj];rfl
 clear k8 B8 Q8 R8 C8 hD8 hsz8 hc8
 refine Runs.callV (low_fn (.slice a1 (nw V1) cap1) many rfl) ?_
 rintro _ h9 ⟨rfl,hh9⟩
 have z9:h9.size=h8.size+2:=by rw [hh9];simp
 have k9:Keeps h8.size h8 h9:=by rw [hh9];exact ((Keeps.refl _ _).push (Nat.le_refl _) _).push (by simp) _
 have m9:cellH h9 h8.size 0=some (.slice a1 (nw V1) cap1):=by rw [hh9];exact ((push_new _ _ _).push _).one
 have n9:cellH h9 (h8.size+1) 0=some (.int .i64 many):=by
  rw [hh9]
  have:=(push_new (h8.push (.cells #[.slice a1 (nw V1) cap1] 196 (0,0))) #[.int .i64 many] 3).one
  simpa using this
 have I9:=I8.kept k9 (by omega) (by omega) (by omega)
 clear hh9
 try refine gO ?_;conv=>whnf
 refine Runs.sub (l':=[(3,.pointer (some ⟨h.size,0,none⟩)),(4,.pointer (some ⟨h.size+1,0,none⟩)),(5,.pointer (some ⟨h.size+1+1,0,none⟩)),(66,.func (.func 184) #[] #[.pointer (some ⟨h8.size+1,0,none⟩),.pointer (some ⟨h8.size,0,none⟩)])]) ⟨rfl,rfl,rfl,rfl,trivial⟩ ?_
 refine Runs.rangeFuncL fun r h10 hrec N10=>?_
 have z10:=N10.size
 have I10:=I9.kept N10.keeps (by omega) (by omega) (by omega)
 refine (low1_fn (J:=fun i h'=>DivC h (.slice a2 (nw V2) cap2) h1.size h3.size V1 V2 i h'∧LoopAt h' (h9.size+1) r .ready none∧h'[h9.size]? = some (.deferred (some []))∧cellH h' h8.size 0=some (.slice a1 (nw V1) cap1)∧cellH h' (h8.size+1) 0=some (.int .i64 many))
  (m:=nw V1) (V:=V1) ⟨I10,N10.loop,N10.dfr,(N10.keeps.cell (by omega)).trans m9,(N10.keeps.cell (by omega)).trans n9⟩ (fun i h' H=>⟨H.2.2.2.2,H.2.2.2.1,hw1.keeps H.1.keeps⟩) ?_ (by omega) ?_).mono ?_
 ·have:=bl_word (show V1≠0 by omega)
  have:=bl_le64 (wdc_lt V1 (nw V1 - 1))
  omega
 ·rintro i h11 hi ⟨I,LA,df,c1,c2⟩
  clear I8 I9 I10 m9 n9 N10 k6 k7 hh7 C6 hsz6 hm6 hV6 hc6 hsz7 hc7
  obtain ⟨bit,hbit⟩:∃bit,bit=V1/2^i%2:=⟨_,rfl⟩
  rw [←hbit]
  have hb1:bit≤1:=by omega
  refine YieldsTo.ofL hrec LA (vs:=[.int .i64 (i:Nat),.int .u64 (bit:Nat)]) ?_
  intro w1 fr1 cs1
  try refine gO ?_;conv=>whnf
  refine Runs.beginRoundL LA fun h12 P12 LB=>?_
  have J12:=I.put P12 (by omega) (by omega) (by omega)
  have df12:h12[h9.size]? = some (.deferred (some [])):=by rw [P12.other _ (by omega)];exact df
  have d1:=(P12.cell (b:=h8.size) (o:=0) (by omega)).trans c1
  have d2:=(P12.cell (b:=h8.size+1) (o:=0) (by omega)).trans c2
  clear I LA df c1 c2
  obtain ⟨kk,Bx,Qx,Rx,hqx,curR,Rc,Rsz,Rw⟩:=J12
  try refine gO ?_;conv=>whnf
  refine ⟨_,Rx.one,?_⟩;conv=>whnf
  try refine gO ?_;conv=>whnf
  obtain ⟨R,hR⟩:∃R,R=V1/2^(i+1)%V2:=⟨_,rfl⟩
  rw [←hR] at Rw
  have hRlt:R<V2:=by rw [hR];exact Nat.mod_lt _ (by omega)
  have hV2B:V2<B^nw V2:=nw_lt V2
  have hWB:2*R+bit<B^(nw V2+1):=by
   have:=Nat.mul_le_mul_left (B^nw V2) (show 2≤B by decide)
   rw [Nat.pow_succ]
   omega
  have zk:=kk.size
  have LBlt:=LB.lt
  refine Runs.loop (X:=Nat) (fun j=>[(3,.pointer (some ⟨h.size,0,none⟩)),(4,.pointer (some ⟨h.size+1,0,none⟩)),(5,.pointer (some ⟨h.size+1+1,0,none⟩)),(9,.int .i64 (i:Nat)),(10,.int .u64 (cdb R bit j:Nat)),(70,.int .i64 ((nw V2+1:Nat):Int)),(71,.int .i64 (j:Nat))])
   (fun j h'=>j≤nw V2+1∧PutO h12 h' h3.size ∧ ∃cur,At h' h3.size cur 195∧cur.size=nw V2+1 ∧ ∀t,t<nw V2+1→cur[t]? = some (.int .u64 (if t<j then wdc (2*R+bit) t else wdc R t:Nat)))
   (fun j=>nw V2+1 - j) 0
   ⟨Nat.zero_le _,⟨rfl,fun _ _=>rfl⟩,curR,Rc,Rsz,fun t ht=>by rw [if_neg (Nat.not_lt_zero _)];exact Rw t ht⟩ ⟨rfl,rfl,rfl,rfl,by rw [cdb_zero];rfl,rfl,rfl,trivial⟩ ?_
  rintro j h13 ⟨hj,P13,cur13,C13,S13,W13⟩ ih
  have Bx:=P13.at Bx (show h.size≠h3.size by omega)
  have Qx:=P13.at Qx (show h.size+1≠h3.size by omega)
  have Rx:=P13.at Rx (show h.size+1+1≠h3.size by omega)
  try refine gO ?_;conv=>whnf
  refine ⟨fun hjl=>?_,fun hjl=>?_⟩<;>conv=>whnf
  ·have hw13:cellH h13 h3.size (0+j)=some (.int .u64 (wdc R j:Nat)):=by rw [C13.cell,Nat.zero_add,W13 j (by omega),if_neg (Nat.lt_irrefl j)]
   obtain ⟨e1,e2⟩:=dbl_word (R:=R) (j:=j) hb1
   have hcd:=cdb_le (R:=R) (j:=j) hb1
   have hwl:=wdc_le R j
   refine Runs.held tab [(0,[]),(1,[]),(2,[]),(3,[]),(4,[]),(5,[]),(6,[]),(7,[]),(8,[]),(9,[]),(10,[]),(11,[]),(12,[]),(13,[]),(14,[]),(15,[]),(16,[])] (by kernel_rfl) ?_;conv=>whnf
   refine ⟨_,Rx.one,?_⟩;conv=>whnf
   refine ⟨_,Rx.one,?_⟩;conv=>whnf
   repeat (refine oL ?_;conv=>whnf)
   refine ⟨_,hw13,?_⟩;conv=>whnf
   obtain ⟨x,hx⟩:∃x,x=wdc R j:=⟨_,rfl⟩
   obtain ⟨cb,hcb⟩:∃cb,cb=cdb R bit j:=⟨_,rfl⟩
   rw [←hx] at hwl
   rw [←hcb] at hcd
   repeat (refine oL ?_;conv=>whnf)
   refine ⟨_,Rx.one,?_⟩;conv=>whnf
   repeat (refine oL ?_;conv=>whnf)
   refine ⟨_,hw13,?_⟩;conv=>whnf
   repeat (refine oL ?_;conv=>whnf)
   refine ⟨rfl,_,eff_storeN tab C13 (hlt:=by omega),?_⟩
   rintro _ h14 P14
   refine And.intro (by conv=>whnf
                        repeat (refine And.intro (fun e=>e) ?_;conv=>whnf)
                        exact trivial) ?_
   conv=>whnf
   try refine gO ?_;conv=>whnf
   repeat (refine oL ?_;conv=>whnf)
   rw [show 0+((j:Int)).toNat=j by omega] at P14
   refine ih (j+1) _ _ ⟨by omega,⟨P14.size.trans P13.size,fun k hk=>(P14.other k hk).trans (P13.other k hk)⟩,_,P14.blk,by simpa using S13,fun t ht=>?_⟩ (by omega) ⟨rfl,rfl,rfl,rfl,?_,rfl,rfl,trivial⟩
   ·by_cases e:t=j
    ·subst e
     rw [Array.getElem?_setIfInBounds_self_of_lt (by omega),if_pos (Nat.lt_succ_self t),e1,←hx,←hcb]
     have e5:((x:Int)*2%18446744073709551616).toNat=x*2%B:=by rw [B_eq];omega
     rw [←e5];rfl
    rw [Array.getElem?_setIfInBounds_ne (by omega),W13 t ht]
    by_cases e3:t<j
    ·rw [if_pos e3,if_pos (by omega)]
    rw [if_neg e3,if_neg (by omega)]
   rw [e2,←hx]
   show some (Value.int .u64 _)=some (Value.int .u64 _)
   congr 2
  have hjm:j=nw V2+1:=by omega
  subst hjm
  obtain ⟨W,hW⟩:∃W,W=2*R+bit:=⟨_,rfl⟩
  rw [←hW] at hWB
  have W13:∀t,t<nw V2+1→cur13[t]? = some (.int .u64 (wdc W t:Nat)):=fun t ht=>by rw [W13 t ht,if_pos ht,hW]
  have hk13:Keeps h.size h h13:=kk.trans (P13.keeps.mono (by omega))
  have hw13:=Wr.of_at C13 (m:=nw V2+1) (cap:=nw V2+1) (V:=W) (Nat.le_refl _) hWB W13
  have hnW:=nw_le hWB
  have hw13':=Wr.of_at C13 (m:=nw W) (cap:=nw V2+1) (V:=W) hnW (nw_lt W) (fun t ht=>W13 t (by omega))
  obtain ⟨cq,Cq,Sq,Lq,Wq⟩:=hqx
  have Cq:=P13.at Cq (show h1.size≠h3.size by omega)
  have df13:h13[h9.size]? = some (.deferred (some [])):=by rw [P13.other _ (by omega)];exact df12
  have d1:=(P13.cell (b:=h8.size) (o:=0) (by omega)).trans d1
  have d2:=(P13.cell (b:=h8.size+1) (o:=0) (by omega)).trans d2
  have LB13:=LB.same (P13.other _ (show h9.size+1≠h3.size by omega))
  obtain ⟨b1,b2⟩:=bit_step (V1:=V1) (V2:=V2) (i:=i) (by omega) bit hbit
  rw [←hR,←hW] at b1 b2
  clear ih P12 LB df12
  refine Runs.held tab [(0,[]),(2,[]),(1,[2]),(3,[]),(4,[])] (by kernel_rfl) ?_;conv=>whnf
  refine ⟨_,Rx.one,?_⟩;conv=>whnf
  refine ⟨_,Bx.one,?_⟩;conv=>whnf
  refine ⟨rfl,_,Eff.call (trim_fn hw13 (by omega)),?_⟩
  rintro _ h13 ⟨rfl,rfl⟩
  refine And.intro (by conv=>whnf
                       repeat (refine And.intro (fun e=>e) ?_;conv=>whnf)
                       exact trivial) ?_
  conv=>whnf
  refine ⟨rfl,_,Eff.call (compare_fn hw13' (hw2.keeps hk13) (by omega)),?_⟩
  rintro _ h13 ⟨rfl,rfl⟩
  refine And.intro (by conv=>whnf
                       repeat (refine And.intro (fun e=>e) ?_;conv=>whnf)
                       exact trivial) ?_
  conv=>whnf
  refine ⟨fun hcmp=>?_,fun hcmp=>?_⟩<;>conv=>whnf
  ·have hVW:V2≤W:=by
    rcases Nat.lt_or_ge W V2 with h|h
    ·have:=(cmpI_lt W V2).2 h;omega
    exact h
   obtain ⟨f1,f2⟩:=b1 hVW
   try refine gO ?_;conv=>whnf
   refine ⟨_,Rx.one,?_⟩;conv=>whnf
   refine ⟨_,Bx.one,?_⟩;conv=>whnf
   have hsz13:h13.size=h12.size:=P13.size
   refine Runs.callV (reduce_fn C13 S13 (Nat.le_refl _) hWB W13 (hw2.keeps hk13) (slice_own hw2 hp2 (by omega)) hVW (by omega)) ?_
   rintro _ h14 ⟨rfl,cur14,hh14,S14,W14⟩
   have P14:Put h13 h14 h3.size cur14 195:=by rw [hh14];exact Put.of C13.lt _ _
   clear hh14
   have z13:=P13.size
   have z14:=P14.size
   have hi64:i/64<nw V1:=by
    have:=bl_word (show V1≠0 by omega)
    have:=bl_le64 (wdc_lt V1 (nw V1 - 1))
    omega
   obtain ⟨A,hA⟩:∃A,A=V1/2^(i+1)/V2:=⟨_,rfl⟩
   rw [←hA] at Lq Wq f1
   obtain ⟨g1,g2,g3⟩:=set_bit A i
   have Cq14:=P14.at Cq (show h1.size≠h3.size by omega)
   have hq14:cellH h14 h1.size (0+i/64)=some (.int .u64 (wdc (A*2^(i+1)) (i/64):Nat)):=by rw [Cq14.cell,Nat.zero_add];exact Wq _ hi64
   try refine gO ?_;conv=>whnf
   refine Runs.held tab [(0,[]),(1,[]),(2,[]),(3,[]),(4,[]),(5,[]),(6,[]),(7,[]),(8,[]),(9,[]),(10,[])] (by kernel_rfl) ?_;conv=>whnf
   refine ⟨_,(P14.at Qx (by omega)).one,?_⟩;conv=>whnf
   repeat (refine oL ?_;conv=>whnf)
   rw [show ((i:Nat):Int)/64=(i/64:Nat) by omega]
   refine ⟨_,hq14,?_⟩;conv=>whnf
   repeat (refine oL ?_;conv=>whnf)
   rw [show ((i:Nat):Int)%64=(i%64:Nat) by omega]
   have hp2:2^(i%64)<18446744073709551616:=Nat.pow_lt_pow_right (by decide) (show i%64<64 by omega)
   have hwq:=wdc_le (A*2^(i+1)) (i/64)
   rw [show (1:Int)*2^(((i%64:Nat):Int)).toNat%18446744073709551616=((2^(i%64):Nat):Int) by
    rw [Int.toNat_natCast]
    have e9:((2:Int)^(i%64))=((2^(i%64):Nat):Int):=by simp
    rw [e9]
    obtain ⟨p,hp⟩:∃p,p=2^(i%64):=⟨_,rfl⟩
    rw [←hp] at hp2 ⊢
    omega]
   obtain ⟨p,hp⟩:∃p,p=2^(i%64):=⟨_,rfl⟩
   rw [←hp] at hp2 g1 g2 g3 ⊢
   repeat (refine oL ?_;conv=>whnf)
   refine ⟨rfl,_,eff_storeN tab Cq14 (hlt:=by omega),?_⟩
   rintro _ h15 P15
   refine And.intro (by conv=>whnf
                        repeat (refine And.intro (fun e=>e) ?_;conv=>whnf)
                        exact trivial) ?_
   conv=>whnf
   try refine gO ?_;conv=>whnf
   rw [show 0+(((i/64:Nat):Int)).toNat=i/64 by omega] at P15
   have LB15:=LB13.same ((P15.other _ (show h9.size+1≠h1.size by omega)).trans (P14.other _ (show h9.size+1≠h3.size by omega)))
   have z15:=P15.size
   refine Runs.endRoundL LB15 fun h16 P16 LC=>?_
   have kk16:Keeps h.size h h16:=((hk13.trans (P14.keeps.mono (by omega))).trans (P15.keeps.mono (by omega))).trans (P16.keeps.mono (by omega))
   refine ⟨rfl,⟨kk16,P16.at (P15.at (P14.at Bx (by omega)) (by omega)) (by omega),P16.at (P15.at (P14.at Qx (by omega)) (by omega)) (by omega),P16.at (P15.at (P14.at Rx (by omega)) (by omega)) (by omega),
    ⟨_,P16.at P15.blk (by omega),by simpa using Sq,?_,fun t ht=>?_⟩,⟨cur14,P16.at (P15.at P14.blk (by omega)) (by omega),S14,by rw [f2];exact W14⟩⟩,LC,?_,
    (P16.cell (by omega)).trans ((P15.cell (by omega)).trans ((P14.cell (by omega)).trans d1)),(P16.cell (by omega)).trans ((P15.cell (by omega)).trans ((P14.cell (by omega)).trans d2))⟩
   ·rw [f1,←g3];exact putw_lt g2 hi64 Lq
   ·rw [f1,←g3,wdc_putw g2]
    by_cases e:t=i/64
    ·subst e
     rw [Array.getElem?_setIfInBounds_self_of_lt (by omega),if_pos rfl,←g1]
     rfl
    rw [Array.getElem?_setIfInBounds_ne (by omega),if_neg e]
    exact Wq t ht
   rw [P16.other _ (by omega),P15.other _ (by omega),P14.other _ (by omega)];exact df13
  have hWV:W<V2:=(cmpI_lt W V2).1 (by omega)
  obtain ⟨f1,f2⟩:=b2 hWV
  try refine gO ?_;conv=>whnf
  refine Runs.endRoundL LB13 fun h15 P15 LC=>?_
  have z13:=P13.size
  refine ⟨rfl,⟨hk13.trans (P15.keeps.mono (by omega)),P15.at Bx (by omega),P15.at Qx (by omega),P15.at Rx (by omega),⟨cq,P15.at Cq (by omega),Sq,?_⟩,⟨cur13,P15.at C13 (by omega),S13,?_⟩⟩,LC,?_,(P15.cell (by omega)).trans d1,(P15.cell (by omega)).trans d2⟩
  ·rw [f1,show 2*(V1/2^(i+1)/V2)*2^i=V1/2^(i+1)/V2*2^(i+1) by rw [Nat.pow_succ,Nat.mul_comm 2,Nat.mul_assoc,Nat.mul_comm 2]]
   exact ⟨Lq,Wq⟩
  ·rw [f2];exact W13
  rw [P15.other _ (by omega)];exact df13
 rintro _ h11 ⟨rfl,I,LA,df,_⟩
 refine ⟨.ready,none,LA,(by decide),fun h12 P12=>?_⟩
 have z11:=I.keeps.size
 have z12:=P12.size
 have LAlt:=LA.lt
 obtain ⟨kk,Bx,Qx,Rx,⟨cq,C1,C2,C3,C4⟩,⟨cr,E1,E2,E3⟩⟩:=I.put P12 (by omega) (by omega) (by omega)
 have df':h12[h9.size]? = some (.deferred (some [])):=by rw [P12.other _ (by omega)];exact df
 rw [Nat.pow_zero,Nat.div_one,Nat.mul_one] at C3 C4
 rw [Nat.pow_zero,Nat.div_one] at E3
 try refine gO ?_;conv=>whnf
 refine Runs.held tab [(0,[]),(1,[]),(2,[1]),(3,[])] (by kernel_rfl) ?_;conv=>whnf
 refine ⟨_,Qx.one,?_⟩;conv=>whnf
 refine ⟨_,Rx.one,?_⟩;conv=>whnf
 refine ⟨rfl,_,eff_storeB tab Qx,?_⟩
 rintro _ h13 P13
 refine And.intro (by conv=>whnf
                      repeat (refine And.intro (fun e=>(P13.cell (by omega)).trans e) ?_;conv=>whnf)
                      exact trivial) ?_
 conv=>whnf
 refine ⟨rfl,_,eff_storeB tab (P13.at Rx (by omega)),?_⟩
 rintro _ h14 P14
 refine And.intro (by conv=>whnf
                      repeat (refine And.intro (fun e=>e) ?_;conv=>whnf)
                      exact trivial) ?_
 conv=>whnf
 try refine gO ?_;conv=>whnf
 have z13:=P13.size
 have z14:=P14.size
 have df14:h14[h9.size]? = some (.deferred (some [])):=by rw [P14.other _ (by omega),P13.other _ (by omega)];exact df'
 have P15:=PutO.of h14 h9.size (.deferred none)
 have k15:Keeps h.size h _:=((kk.trans (P13.keeps.mono (by omega))).trans (P14.keeps.mono (by omega))).trans (P15.keeps.mono (by omega))
 refine Runs.retC tab Tryz.func146 ⟨_,rfl,df14,rfl⟩ (vs:=[.slice (some ⟨h1.size,0,none⟩) (nw V1) (nw V1),.slice (some ⟨h3.size,0,none⟩) (nw V2+1) (nw V2+1)])
  ⟨⟨_,_,rfl,rfl,(P15.at (P14.at P13.blk (by omega)) (by omega)).one⟩,⟨_,_,rfl,rfl,(P15.at P14.blk (by omega)).one⟩,trivial⟩ ⟨_,rfl,?_⟩
 refine ⟨_,_,nw V1,nw V2+1,rfl,Wr.of_at (P15.at (P14.at (P13.at C1 (by omega)) (by omega)) (by omega)) (Nat.le_refl _) C3 C4,Wr.of_at (P15.at (P14.at (P13.at E1 (by omega)) (by omega)) (by omega)) (Nat.le_refl _) ?_ E3,by omega,by omega,k15⟩
 exact Nat.lt_trans (Nat.mod_lt _ (by omega)) (Nat.lt_of_lt_of_le (nw_lt V2) (Nat.pow_le_pow_right B_pos (by omega)))
end Go.Proofs.YtofjdbmcloemnaaGreatDoor

namespace Go.NatM
open Go Go.Fw
def Tz (V k:Nat):Prop:=∃m,V=2^k*(2*m+1)
theorem Tz.div {V k:Nat} (h:Tz V k):∃m,V/2^k=2*m+1∧V=2^k*(V/2^k):=by
 obtain ⟨m,rfl⟩:=h
 rw [Nat.mul_div_cancel_left _ (Nat.two_pow_pos k)]
 exact ⟨m,rfl,rfl⟩
theorem Tz.lt_bl {V k:Nat} (h:Tz V k):k<bl V:=by
 obtain ⟨m,hm,e⟩:=h.div
 have h0:V≠0:=by
  intro h0
  rw [h0,Nat.zero_div] at hm
  omega
 have hlt:=bl_lt V
 rcases Nat.lt_or_ge k (bl V) with h1|h1
 ·exact h1
 have:=Nat.pow_le_pow_right (show 0<2 by decide) h1
 have h3:=Nat.mul_le_mul_left (2^k) (show 1≤V/2^k by omega)
 omega
theorem odd_coprime {k X m:Nat} (hX:X=2*m+1):Nat.Coprime (2^k) X:=by
 refine Nat.Coprime.pow_left k ?_
 have h1:=Nat.gcd_dvd_left 2 X
 have h2:=Nat.gcd_dvd_right 2 X
 have h3:=Nat.dvd_sub h2 (Nat.dvd_trans h1 ⟨m,rfl⟩)
 rw [hX,Nat.add_sub_cancel_left] at h3
 rw [←hX] at h3
 exact Nat.dvd_one.1 h3
theorem gcd_step {A C k m:Nat} (hC:C=2*m+1) (hle:C≤A) (hk:Tz (A - C) k):Nat.gcd ((A - C)/2^k) C=Nat.gcd A C:=by
 obtain ⟨_,_,e⟩:=hk.div
 have h1:Nat.gcd (A - C) C=Nat.gcd A C:=Nat.gcd_sub_self_left hle
 rw [←h1]
 conv=>rhs;rw [e]
 rw [Nat.Coprime.gcd_mul_left_cancel _ (odd_coprime hC)]
theorem gcd_start {V1 V2 k1 k2:Nat} (h1:Tz V1 k1) (h2:Tz V2 k2):Nat.gcd V1 V2=Nat.gcd (V1/2^k1) (V2/2^k2)*2^min k1 k2:=by
 obtain ⟨m1,o1,e1⟩:=h1.div
 obtain ⟨m2,o2,e2⟩:=h2.div
 obtain ⟨X,hX⟩:∃X,X=V1/2^k1:=⟨_,rfl⟩
 obtain ⟨Y,hY⟩:∃Y,Y=V2/2^k2:=⟨_,rfl⟩
 rw [←hX] at o1 e1 ⊢
 rw [←hY] at o2 e2 ⊢
 rw [e1,e2]
 rcases Nat.le_total k1 k2 with h|h
 ·rw [Nat.min_eq_left h,show 2^k2*Y=2^k1*(2^(k2 - k1)*Y) by rw [←Nat.mul_assoc,←Nat.pow_add];congr 2;omega,Nat.gcd_mul_left,Nat.Coprime.gcd_mul_left_cancel_right _ (odd_coprime o1),Nat.mul_comm]
 rw [Nat.min_eq_right h,show 2^k1*X=2^k2*(2^(k1 - k2)*X) by rw [←Nat.mul_assoc,←Nat.pow_add];congr 2;omega,Nat.gcd_mul_left,Nat.Coprime.gcd_mul_left_cancel _ (odd_coprime o2),Nat.mul_comm]
theorem tz_pos {V k:Nat} (h:Tz V k) (hev:V%2=0):0<k:=by
 rcases Nat.eq_zero_or_pos k with e|e
 ·subst e
  obtain ⟨m,hm⟩:=h
  rw [Nat.pow_zero,Nat.one_mul] at hm
  omega
 exact e
theorem tz_word {V n t:Nat} (h0:V%B^n=0) (ht:Tz (wdc V n) t) (h64:t<64):Tz V (64*n+t):=by
 obtain ⟨m,hm⟩:=ht
 have h1:=div_step V n
 have h2:=Nat.div_add_mod V (B^n)
 rw [h0,Nat.add_zero] at h2
 have hB:B=2^t*(2*2^(63 - t)):=by rw [←Nat.pow_succ',←Nat.pow_add,show t+(63 - t+1)=64 by omega];rfl
 refine ⟨m+2^(63 - t)*(V/B^(n+1)),?_⟩
 rw [Nat.pow_add,←B_pow,Nat.mul_assoc]
 rw [←h2]
 conv=>lhs;rw [h1,hm]
 obtain ⟨Y,hY⟩:∃Y,Y=V/B^(n+1):=⟨_,rfl⟩
 rw [h2,←hY]
 have e:B*Y=2^t*(2*(2^(63 - t)*Y)):=by rw [hB,Nat.mul_assoc,Nat.mul_assoc]
 rw [e,←Nat.mul_add]
 congr 2
 omega
theorem ctz_tz {x:Nat} (h0:x≠0) (hx:x<B):Tz x (Go.Lib.ctz 64 x)∧Go.Lib.ctz 64 x<64:=by
 obtain ⟨m,h1,h2⟩:=Go.Lib.ctzFrom_spec 64 x (by omega) hx
 have e:Go.Lib.ctz 64 x=Go.Lib.ctzFrom 64 x:=by simp [Go.Lib.ctz,h0]
 rw [e]
 exact ⟨⟨m,h1⟩,h2⟩
end Go.NatM

namespace Go.Proofs.YtofjdbmcloemnaaGreatDoor
open Go Go.Fw Go.NatM
set_option maxRecDepth 100000
set_option maxHeartbeats 99999999
def TabH (h:Array Obj):Prop:=∀j,j<64→cellH h 2 j=some (.int .u8 (Go.Lib.deBruijn64tab.getD j 0:Nat))
theorem TabH.keeps {h h':Array Obj} (H:TabH h) (k:Keeps h.size h h'):TabH h':=fun j hj=>(k.cell (cellH_lt (H 0 (by decide)))).trans (H j hj)
theorem tz64_fn (x:Nat) (h0:x≠0) (hx:x<B) {h:Array Obj} (hT:TabH h):
  FnV Tryz.prog 177 #[.int .u64 x] h fun v h'=>v=.int .i64 (Go.Lib.ctz 64 x:Nat)∧h'=h:=by
 obtain ⟨e1,e2⟩:=Go.Lib.lowest_bit 64 x h0 hx
 obtain ⟨t,ht⟩:∃t,t=Go.Lib.ctz 64 x:=⟨_,rfl⟩
 rw [←ht] at e1 e2 ⊢
 obtain ⟨d1,d2⟩:=Go.Lib.deBruijn64_at t e2
 rw [B_eq] at hx
 refine Fn.of (args:=[.int .u64 x]) Tryz.func177 (by kernel_rfl) rfl Tryz.ntmps177 rfl fun w0 cs=>?_
 refine gO ?_;conv=>whnf
 refine ⟨fun h1=>?_,fun h1=>?_⟩<;>conv=>whnf
 ·omega
 repeat (refine oL ?_;conv=>whnf)
 have e3:(((fun a b=>a&&&b) (x:Int).toNat (((0:Int) - x)%18446744073709551616).toNat:Nat):Int)=(2^t:Nat):=by
  rw [Int.toNat_natCast,show (((0:Int) - x)%18446744073709551616).toNat=2^64 - x by rw [show (2:Nat)^64=18446744073709551616 from rfl];omega]
  exact congrArg _ e1
 rw [e3]
 obtain ⟨p,hp⟩:∃p,p=2^t:=⟨_,rfl⟩
 rw [←hp] at d1 d2 ⊢
 rw [show (p:Int)*285870213051353865%18446744073709551616/288230376151711744=(p*285870213051353865%18446744073709551616/288230376151711744:Nat) by simp]
 obtain ⟨i,hi⟩:∃i,i=p*285870213051353865%18446744073709551616/288230376151711744:=⟨_,rfl⟩
 rw [←hi] at d1 d2 ⊢
 have hc:=hT i d1
 rw [d2] at hc
 rw [show 0+((i:Nat):Int).toNat=i by omega]
 refine ⟨_,hc,?_⟩;conv=>whnf
 repeat (refine oL ?_;conv=>whnf)
 refine Runs.ret Tryz.func177 rfl rfl ⟨_,rfl,?_⟩
 exact ⟨rfl,rfl⟩
theorem zeros_fn {h:Array Obj} {a:Option Addr} {m cap V:Nat} (hw:Wr h (.slice a m cap) m V) (h0:V≠0) (hm:m≤1048576) (hT:TabH h):
  FnV Tryz.prog 161 #[.slice a m cap] h fun r h'=>(∃k:Nat,r=.int .i64 k∧Tz V k)∧h'=h:=by
 have hV:V<B^m:=by obtain ⟨_,_,_,_,hV,_⟩:=hw;exact hV
 have hmp:0<m:=by
  rcases Nat.eq_zero_or_pos m with e|e
  ·subst e;simp at hV;omega
  exact e
 obtain ⟨b,off,rfl,hrd⟩:=hw.rd rfl hmp
 refine Fn.of (args:=[.slice (some ⟨b,off,none⟩) m cap]) Tryz.func161 (by kernel_rfl) rfl Tryz.ntmps161 rfl fun w0 cs=>?_
 refine gO ?_;conv=>whnf
 refine Runs.loopJ (X:=Nat) (Y:=Nat) (fun n=>[(0,.slice (some ⟨b,off,none⟩) m cap),(3,.int .i64 (n:Nat))]) (fun n h'=>h'=h∧n<m∧V%B^n=0) (fun n=>m - n) 0
  (fun n=>[(0,.slice (some ⟨b,off,none⟩) m cap),(3,.int .i64 (n:Nat))]) (fun n h'=>h'=h∧n<m∧V%B^n=0∧wdc V n≠0)
  ⟨rfl,hmp,by rw [Nat.pow_zero,Nat.mod_one]⟩ ⟨rfl,rfl,trivial⟩ ?_ ?_
 ·rintro n h ⟨rfl,hn,hz⟩ ih hx
  try refine gO ?_;conv=>whnf
  repeat (refine oL ?_;conv=>whnf)
  refine ⟨_,hrd n hn,?_⟩;conv=>whnf
  refine ⟨fun h1=>?_,fun h1=>?_⟩<;>conv=>whnf
  ·repeat (refine oL ?_;conv=>whnf)
   have hw0:wdc V n=0:=by omega
   have hz':V%B^(n+1)=0:=by rw [mod_succ,hz,hw0];rfl
   refine ih (n+1) _ _ ⟨rfl,?_,hz'⟩ (by omega) ⟨rfl,rfl,trivial⟩
   rcases Nat.lt_or_ge (n+1) m with h|h
   ·exact h
   have:n+1=m:=by omega
   rw [this,Nat.mod_eq_of_lt hV] at hz'
   exact absurd hz' h0
  exact hx n _ _ ⟨rfl,hn,hz,by omega⟩ ⟨rfl,rfl,trivial⟩
 rintro n h ⟨rfl,hn,hz,hne⟩
 try refine gO ?_;conv=>whnf
 repeat (refine oL ?_;conv=>whnf)
 refine ⟨_,hrd n hn,?_⟩;conv=>whnf
 refine Runs.callV (tz64_fn (wdc V n) hne (wdc_lt _ _) hT) ?_
 rintro _ h ⟨rfl,rfl⟩
 obtain ⟨t1,t2⟩:=ctz_tz hne (wdc_lt V n)
 try refine gO ?_;conv=>whnf
 repeat (refine oL ?_;conv=>whnf)
 refine Runs.ret Tryz.func161 rfl rfl ⟨_,rfl,?_⟩
 exact ⟨⟨64*n+Go.Lib.ctz 64 (wdc V n),rfl,tz_word hz t1 t2⟩,rfl⟩
end Go.Proofs.YtofjdbmcloemnaaGreatDoor
