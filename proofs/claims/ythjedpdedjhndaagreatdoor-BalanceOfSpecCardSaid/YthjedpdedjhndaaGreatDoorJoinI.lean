/- Texts of this seat, joined: Rows whose arguments are only read: the law returns true; slices opened as rows of cells. Rows whose arguments are flat st -/
import Derived.Test.YthjedpdedjhndaaGreatDoorJoinH
import Derived.Deep.Slices
import Derived.WideKeyArgs
import Derived.OpenShut
import Derived.WideShapes
import Derived.ChangeArms
import Derived.Test.YthjedpdedjhndaaGreatDoorCards
import Derived.Test.YthjedpdedjhndaaGreatDoorTie
import Derived.WalkKit
import Derived.ProofKit
import Derived.Deep.DeepHandedRow
import Derived.Lib.LaidTab
import Derived.RowKit
set_option linter.unusedVariables false
set_option linter.unusedSimpArgs false
set_option maxRecDepth 100000
set_option maxHeartbeats 99999999
namespace Go.Fw
open Go Go.RowKit Go.WideShapes Go.ChangeShapes
section
variable {H:Type} {enc:TypeId×Value->H} {P:Program}
theorem xO (hl:laidOutB P=true) {W W':World} {sp:Nat->Bool}:∀ {ts:List TypeId} {vs:List Value} {ds:List (DataW H)} {ps:List MemPlace},
  (∀t∈ts,P.readableRec t=true/\t<P.types.size)->DataW.TrodAll enc P W 0 (fun _=>true) true ts vs ds ps->(∀p∈ps,W.sameAt W' p)->(∀p∈ps,sp p.block=true)->DataW.TrodAll enc P W' 0 sp true ts vs ds ps
 | [],vs,ds,ps,_,h,_,_=>by
  obtain ⟨rfl,rfl,rfl⟩:=trodAll_nil h;exact trodAll_mk0
 |t::ts,vs,ds,ps,hr,h,hs,hsp=>by
  obtain ⟨v,vs',d,ds',p,q,rfl,rfl,rfl,h1,h2⟩:=trodAll_cons h;have h0:=hr t (List.mem_cons_self ..)
  exact trodAll_cons_mk (WideElems.Trod_stays hl h0.1 h0.2 h1 (fun x hx=>hs x (List.mem_append_left _ hx)) (fun x hx=>hsp x (List.mem_append_left _ hx)))
   (xO hl (fun x hx=>hr x (List.mem_cons_of_mem _ hx)) h2 (fun x hx=>hs x (List.mem_append_right _ hx)) (fun x hx=>hsp x (List.mem_append_right _ hx)))
def bBQ (P:Program) (ts:List TypeId):Bool:=ts.all fun t=>P.readableRec t&&decide (t<P.types.size)
theorem aVM {ts:List TypeId} (h:bBQ P ts=true):∀t∈ts,P.readableRec t=true/\t<P.types.size:=fun t ht=>by
 have:=List.all_eq_true.1 h t ht
 simpa using this
theorem wN {f:Func} {s:ChangeSpec} {apart gQ handsOn again:Bool} {W W':World} {args:Array Value} {ds gs:List (DataW H)} {before:List MemPlace} {tb:TypeId}
  (hl:laidOutB P=true) (hr:bBQ P f.params.toList=true) (ht:P.underlying tb=some .bool) (hres:f.resultTypes = #[tb])
  (hW:DataW.Whole enc P f.params.toList s.vars apart W args.toList ds gs before) (hv:s.vars=[])
  (hs:∀n,ds.length=n->(s.fn H (ds++[])).results=[.lit (.bool true)]/\(s.fn H (ds++[])).args=ds/\(s.fn H (ds++[])).vars=[]) (hb:Below W.heap.size W W'):
  s.post enc P f apart gQ handsOn again W args (.bool true) W':=by
 have hW':=hW;obtain ⟨p,q,hA,hV,rfl,_,_⟩:=hW;rw [hv] at hV;obtain ⟨rfl,rfl⟩:=trodVars_none hV;obtain ⟨h1,h2,h3⟩:=hs _ rfl;have hlt:∀x∈p,x.block<W.heap.size:=fun x hx=>hW'.lt x (List.mem_append_left _ hx);refine aHF (pa:=p) (pv:=[]) hW' (fun _ _ _=>?_) (fun sp hsp=>?_) (fun _ _=>?_) rfl hb ?_
 ·rw [h1,hres];exact trodAll_cons_mk (shut_bool ht _) trodAll_mk0
 ·rw [h2];exact xO hl (aVM hr) hA (fun x hx=>hb.same (hlt x hx)) (fun x hx=>hsp x (by simpa using hx))
 ·rw [h3,hv];rfl
 exact ok_one hres rfl (okWide_bool_mk ht _)
theorem aCV {h:Array Obj} {g sz:Nat}:∀ {rows:List (List Value)} {o:Nat},(∀r∈rows,r.length=sz)->(∀i r,rows[i]? = some r->jY h g (o+i*sz) r)->jY h g o rows.flatten
 | [],o,_,_=>fun j v hv=>by simp at hv
 |r::rs,o,hl,H=>fun j v hv=>by
  rw [List.flatten_cons] at hv;have hr:=hl r (List.mem_cons_self ..);by_cases hj:j<r.length
  ·rw [List.getElem?_append_left hj] at hv;have:=H 0 r rfl;rw [Nat.zero_mul] at this;exact this j v hv
  rw [List.getElem?_append_right (by omega)] at hv;have:=aCV (rows:=rs) (o:=o+sz) (fun x hx=>hl x (List.mem_cons_of_mem _ hx)) (fun i x hx=>by
   have:=H (i+1) x hx;rw [Nat.add_mul,Nat.one_mul] at this;rw [show o+sz+i*sz=o+(i*sz+sz) by omega];exact this) (j - r.length) v hv
  rw [show o+j=o+sz+(j - r.length) by omega];exact this
theorem aUG {α:Type} {p:Nat->α->Prop}:∀ {n:Nat},(∀i,i<n -> ∃a,p i a) -> ∃l:List α,l.length=n /\ ∀i (h:i<l.length),p i l[i]
 |0,_=>⟨[],rfl,fun _ h=>absurd h (Nat.not_lt_zero _)⟩
 |n+1,H=>by
  obtain ⟨l,hl,hp⟩:=aUG (n:=n) (fun i hi=>H i (by omega));obtain ⟨a,ha⟩:=H n (by omega);refine ⟨l++[a],by simp [hl],fun i hi=>?_⟩;by_cases h:i<l.length
  ·rw [List.getElem_append_left h];exact hp i h
  have:i=n:=by simp at hi;omega
  subst this;rw [List.getElem_append_right (by omega)]
  simpa [hl] using ha
end

section
variable {H:Type} {enc:TypeId×Value->H} {P:Program} {w:World} {base:Nat} {sp:Nat->Bool} {held:Bool}
inductive Sc where
 |b
 |s
 |i (k:IntKind)
def Sc.ok:Sc->Value->Prop
 | .b,v=>∃x,v=.bool x
 | .s,v=>∃x:ByteArray,v=.string x/\x.size<=maxLen
 | .i k,v=>∃n,v=.int k n/\(Lit.int k n).wf=true
def Sc.und:Sc->TypeDesc
 | .b=>.bool
 | .s=>.string
 | .i k=>.int k
theorem trod_sc {t:TypeId} {k:Sc} (ht:P.underlying t=some k.und) {fuel:Nat} {cs:List Value} {x:DataW H×List MemPlace} (h:DataW.trod enc P w base sp held fuel t cs=some x):∃v,cs=[v]/\k.ok v:=by
 cases k with
 |b=>obtain ⟨b,e,_⟩:=DataW.trod_bool ht h;exact ⟨_,e,b,rfl⟩
 |s=>obtain ⟨s,e,_,m⟩:=DataW.trod_string ht h;exact ⟨_,e,s,rfl,m⟩
 |i k=>obtain ⟨n,e,_,m⟩:=DataW.trod_int ht h;exact ⟨_,e,n,rfl,m⟩
end

structure mT (P:Program) (t:TypeId) (ks:List Sc):Prop where
 at':∀ {H:Type} (enc:TypeId×Value->H) (w:World) (base:Nat) (sp:Nat->Bool) (held:Bool) (fuel:Nat) (cs:List Value) (x:DataW H×List MemPlace),
 DataW.trod enc P w base sp held fuel t cs=some x->cs.length=ks.length /\ ∀(i:Nat) (k:Sc) (v:Value),ks[i]? = some k->cs[i]? = some v->k.ok v
theorem mT.sc {P:Program} {t:TypeId} {k:Sc} (ht:P.underlying t=some k.und):mT P t [k]:=⟨fun enc w base sp held fuel cs x h=>by
 obtain ⟨v,rfl,hv⟩:=trod_sc ht h;refine ⟨rfl,fun i k' v' h1 h2=>?_⟩
 cases i with
 |zero=>cases h1;cases h2;exact hv
 |succ i=>simp at h1⟩
theorem mT.struct {P:Program} {t:TypeId} {fs:Array Field} {ks:List Sc} (ht:P.underlying t=some (.struct fs)) (hc:P.cellsOf t=ks.length)
  (hf:∀j,j<ks.length -> ∃(i:Nat) (f:Field) (kf:List Sc),fs[i]? = some f/\mT P f.type kf/\P.cellsOf f.type=kf.length/\f.offset<=j/\j - f.offset<kf.length/\kf[j - f.offset]? = ks[j]?):mT P t ks:=⟨fun enc w base sp held fuel cs x h=>by
 obtain ⟨xs,n,_,rfl,hl,hlen,hx⟩:=DataW.trod_struct ht h;rw [hc] at hl;refine ⟨hl,fun j k v hk hv=>?_⟩;have hj:=(List.getElem?_eq_some_iff.1 hk).1;obtain ⟨i,f,kf,e1,e2,e3,e4,e5,e6⟩:=hf j hj;have g:=hx i f e1;have hi:i<xs.length:=by
  rw [hlen];exact (Array.getElem?_eq_some_iff.1 e1).1
 rw [List.getElem?_eq_getElem hi] at g;obtain ⟨_,g2⟩:=e2.at' enc w base sp held _ _ _ g;refine g2 (j - f.offset) k v (by rw [e6];exact hk) ?_;rw [List.getElem?_take_of_lt (by rw [e3];exact e5),List.getElem?_drop,show f.offset+(j - f.offset)=j by omega];exact hv⟩
end Go.Fw

namespace Go.Proofs.YthjedpdedjhndaaGreatDoor
open Go Go.Fw Go.ChangeShapes Go.WideShapes Go.ChangeAt Go.RowKit
theorem own:ownKnob Tryz.prog.godebug=none:=by kernel_rfl
theorem gTab:Tryz.prog.globalNamed "math/bits.deBruijn64tab" = some 2:=by kernel_rfl
theorem bAZ:(Tryz.prog.globals[2]?).map (·.type)=some 356:=by kernel_rfl
theorem bAU:Tryz.prog.cellsOf 356=64:=by kernel_rfl
theorem aWA:Tryz.prog.cellsOf 5=1:=by kernel_rfl
theorem table {W:World} (h:laidMetH Tryz.prog [("math/bits.deBruijn64tab",Rows.laid_math_bits_deBruijn64tab)] W):gN W.heap:=by
 have h1:Lib.TabIs Tryz.prog W "math/bits.deBruijn64tab" .u8 (Go.Lib.deBruijn64tab.map fun (x:Nat)=>(x:Int)):=
  Lib.tabIs_of_head (rest:=[]) gTab bAZ Tryz.underlying356 Tryz.underlying5 aWA bAU h
 intro j hj;have h2:=aOA (h1.cell gTab j (by simpa [Go.Lib.deBruijn64tab] using hj));have hl:j<Go.Lib.deBruijn64tab.length:=by simpa [Go.Lib.deBruijn64tab] using hj
 have hd:(Go.Lib.deBruijn64tab.map fun (x:Nat)=>(x:Int)).getD j 0=((Go.Lib.deBruijn64tab.getD j 0:Nat):Int):=by
  simp [List.getD_eq_getElem?_getD,List.getElem?_map,List.getElem?_eq_getElem hl]
 rw [hd] at h2;exact h2
noncomputable def fP (os:Os):World:=
 {World.holding Tryz.prog os ⟨#[],#[],[]⟩ with heap:=(World.holding Tryz.prog os ⟨#[],#[],[]⟩).heap.modify 2 fun
   | .cells _ t frozen=>.cells (Go.Lib.deBruijn64tab.map fun (x:Nat)=>Value.int .u8 (x:Int)).toArray t frozen
   |o=>o}
end Go.Proofs.YthjedpdedjhndaaGreatDoor

namespace Go.Fw
open Go Go.ChangeShapes Go.ChangeMaps Go.WideShapes Go.RowKit
end Go.Fw

namespace Go.Proofs.YthjedpdedjhndaaGreatDoor
open Go Go.Fw Go.ChangeShapes Go.WideShapes Go.ChangeAt Go.RowKit
end Go.Proofs.YthjedpdedjhndaaGreatDoor

namespace Go.Proofs.YthjedpdedjhndaaGreatDoor
open Go Go.Fw Go.RatM Go.ChangeShapes Go.WideShapes Go.ChangeAt Go.RowKit
theorem aEC:laidOutB Tryz.prog=true:=by kernel_rfl
theorem aRO:mT Tryz.prog 35 [.b,.s,.s]:=
 mT.struct Tryz.underlying35 (by kernel_rfl) fun j hj=>match j,hj with
  |0,_=>⟨0,_,[.b],rfl,mT.sc Tryz.underlying4,by kernel_rfl,by decide,by decide,rfl⟩
  |1,_=>⟨1,_,[.s],rfl,mT.sc Tryz.underlying9,by kernel_rfl,by decide,by decide,rfl⟩
  |2,_=>⟨2,_,[.s],rfl,mT.sc Tryz.underlying9,by kernel_rfl,by decide,by decide,rfl⟩
theorem unitF:mT Tryz.prog 100 [.s,.s,.i .i64,.i .i64,.i .i64,.b,.s,.s]:=
 mT.struct Tryz.underlying100 (by kernel_rfl) fun j hj=>match j,hj with
  |0,_=>⟨0,_,[.s],rfl,mT.sc Tryz.underlying9,by kernel_rfl,by decide,by decide,rfl⟩
  |1,_=>⟨1,_,[.s],rfl,mT.sc Tryz.underlying9,by kernel_rfl,by decide,by decide,rfl⟩
  |2,_=>⟨2,_,[.i .i64],rfl,mT.sc Tryz.underlying3,by kernel_rfl,by decide,by decide,rfl⟩
  |3,_=>⟨3,_,[.i .i64],rfl,mT.sc Tryz.underlying3,by kernel_rfl,by decide,by decide,rfl⟩
  |4,_=>⟨4,_,[.i .i64],rfl,mT.sc Tryz.underlying3,by kernel_rfl,by decide,by decide,rfl⟩
  |5,_=>⟨5,_,[.b,.s,.s],rfl,aRO,by kernel_rfl,by decide,by decide,rfl⟩
  |6,_=>⟨5,_,[.b,.s,.s],rfl,aRO,by kernel_rfl,by decide,by decide,rfl⟩
  |7,_=>⟨5,_,[.b,.s,.s],rfl,aRO,by kernel_rfl,by decide,by decide,rfl⟩
theorem int_wf' {n:Int} (h:(Lit.int .i64 n).wf=true): -9223372036854775808<=n/\n<=9223372036854775807:=by
 have h1:IntKind.i64.min<=n/\n<=9223372036854775807:=by simpa [Lit.wf] using h
 have e:IntKind.i64.min = -9223372036854775808:=rfl;omega
def UnOk1 (u:Un):Prop:=(-9223372036854775808<=u.n/\u.n<=9223372036854775807)/\(-9223372036854775808<=u.d/\u.d<=9223372036854775807)
theorem bCO {cs:List Value} (h1:cs.length=8) (h2:∀(i:Nat) (k:Sc) (v:Value),[Sc.s,.s,.i .i64,.i .i64,.i .i64,.b,.s,.s][i]? = some k->cs[i]? = some v->k.ok v):∃u:Un,cs=u.row/\UnOk1 u:=by
 match cs,h1 with
 | [a,b,c,d,e,f,g,i],_=>
  obtain ⟨a,rfl,_⟩:=h2 0 _ a rfl rfl;obtain ⟨b,rfl,_⟩:=h2 1 _ b rfl rfl;obtain ⟨c,rfl,m1⟩:=h2 2 _ c rfl rfl;obtain ⟨d,rfl,m2⟩:=h2 3 _ d rfl rfl;obtain ⟨e,rfl,_⟩:=h2 4 _ e rfl rfl;obtain ⟨f,rfl⟩:=h2 5 _ f rfl rfl;obtain ⟨g,rfl,_⟩:=h2 6 _ g rfl rfl;obtain ⟨i,rfl,_⟩:=h2 7 _ i rfl rfl;exact ⟨⟨a,b,c,d,e,⟨f,g,i⟩⟩,rfl,int_wf' m1,int_wf' m2⟩
end Go.Proofs.YthjedpdedjhndaaGreatDoor

namespace Go.Fw
open Go Go.RowKit Go.WideShapes Go.ChangeShapes
section
variable {H:Type} {enc:TypeId×Value->H} {P:Program} {W:World}
def TR (enc:TypeId×Value->H) (P:Program) (W:World) (t:TypeId) (cs:List Value):Prop:=∃fuel x,DataW.trod enc P W 0 (fun _=>true) true fuel t cs=some x
theorem TR.slice {α:Type} {f:α->List Value} {Q:α->Prop} {sz:Nat} {t e:TypeId} (ht:P.underlying t=some (.slice e)) (hc:P.cellsOf e=sz) (hz:0<sz)
  (hf:∀a,(f a).length=sz/\(Q a -> ∀u∈f a,u.oneCell'=true)) (hx:∀cs,TR enc P W e cs -> ∃a,cs=f a/\Q a) {cs:List Value} (h:TR enc P W t cs):∃v,∃l:List α,cs=[v]/\Ro W.heap v sz (l.map f) /\ ∀a∈l,Q a:=by
 obtain ⟨fuel,x,hfu⟩:=h;rcases Deep.open_slice ht hfu with ⟨h0,_⟩|⟨a,len,cap,m,n,D,Pl,h1,hb,hlc,hm,hmm,_,hcell⟩
 ·exact ⟨_,[],h0,Ro.nil,fun a ha=>by cases ha⟩
 have hlm:len<=m:=by rw [hmm];simpa using hlc
 have each:∀i,i<len -> ∃b:α,W.cells? 0 (a.add (i*P.cellsOf e)) (P.cellsOf e)=some (f b)/\Q b:=fun i hi=>by
  obtain ⟨cs',e1,e2⟩:=hcell i (by omega);obtain ⟨b,rfl,hq⟩:=hx _ ⟨_,_,e2⟩;exact ⟨b,e1,hq⟩
 obtain ⟨l,hl,hp'⟩:=aUG each;have hp:∀i (h:i<l.length),W.cells? 0 (a.add (i*P.cellsOf e)) (P.cellsOf e)=some (f l[i]):=fun i hi=>(hp' i hi).1;have hQ:∀a∈l,Q a:=fun a ha=>by
  obtain ⟨i,hi,rfl⟩:=List.getElem_of_mem ha;exact (hp' i hi).2
 have hmax:maxLen<=9223372036854775807:=by decide
 have hlen:(l.map f).length<=9223372036854775807:=by
  rw [List.length_map,hl];omega
 refine ⟨.slice (some a) len cap,l,h1,⟨fun r hr=>?_,⟨hlen,hlc⟩,some a,cap,by rw [List.length_map,hl],?_⟩,hQ⟩
 ·obtain ⟨b,hb,rfl⟩:=List.mem_map.1 hr;exact ⟨(hf b).1,(hf b).2 (hQ b hb)⟩
 by_cases h0:l=[]
 ·exact .inl (by rw [h0];rfl)
 have hpos:0<l.length:=List.length_pos_iff.2 h0;have first:=World.cells?_some (hp 0 hpos)
 have c0:=first.2.2 0 (by rw [hc];exact hz);have hspot:a.spot=none/\a.block<W.heap.size:=by
  rw [Nat.zero_mul] at c0;have e0:(a.add 0).add 0=a:=rfl;rw [e0,List.getElem?_eq_getElem (by rw [(hf _).1];exact hz)] at c0;unfold World.cell? at c0;split at c0
  ·rename_i hh
   refine ⟨?_,(Array.getElem?_eq_some_iff.1 hh).1⟩
   cases hs:a.spot with
   |none=>rfl
   |some k=>rw [hs] at c0;simp at c0
  cases c0
 obtain ⟨g,o,s⟩:=a;obtain ⟨rfl,hg⟩:=hspot;refine .inr ⟨g,o,rfl,hg,aCV (sz:=sz) (fun r hr=>?_) (fun i r hr j u hu=>?_)⟩
 ·obtain ⟨b,_,rfl⟩:=List.mem_map.1 hr;exact (hf b).1
 rw [List.getElem?_map] at hr;obtain ⟨b,hb',rfl⟩:=Option.map_eq_some_iff.1 hr;obtain ⟨hi,rfl⟩:=List.getElem?_eq_some_iff.1 hb';have hj:j<P.cellsOf e:=by rw [hc,<-(hf l[i]).1];exact (List.getElem?_eq_some_iff.1 hu).1
 have:=(World.cells?_some (hp i hi)).2.2 j hj;rw [hu] at this;refine aOA ?_;rw [<-this,Deep.add_add]
 congr 1
 unfold Addr.add;rw [hc];by_cases e0:i*sz+j=0
 ·rw [if_pos e0]
  congr 1
  omega
 rw [if_neg e0]
 congr 1
 dsimp only;omega
def aSY (P:Program) (fs:Array Field):Nat->Bool
 |0=>true
 |n+1=>aSY P fs n&&(match fs[n]? with
  |some f=>f.offset==n&&P.cellsOf f.type==1
  |none=>false)
theorem aNE {fs:Array Field}:∀ {n:Nat},aSY P fs n=true -> ∀i,i<n -> ∃f,fs[i]? = some f/\f.offset=i/\P.cellsOf f.type=1
 |0,_,i,hi=>absurd hi (Nat.not_lt_zero _)
 |n+1,h,i,hi=>by
  simp only [aSY,Bool.and_eq_true] at h;by_cases e:i=n
  ·subst e;have h2:=h.2;split at h2
   ·rename_i f hf
    simp only [Bool.and_eq_true,beq_iff_eq] at h2;exact ⟨f,hf,h2.1,h2.2⟩
   cases h2
  exact aNE h.1 i (by omega)
theorem TR.ones {t:TypeId} {fs:Array Field} {n:Nat} (ht:P.underlying t=some (.struct fs)) (hc:P.cellsOf t=n) (hf:aSY P fs n=true) {cs:List Value} (h:TR enc P W t cs):
  cs.length=n /\ ∀(i:Nat) (f:Field) (v:Value),fs[i]? = some f->cs[i]? = some v->TR enc P W f.type [v]:=by
 obtain ⟨fuel,x,hx⟩:=h;obtain ⟨xs,m,_,rfl,hl,hlen,hg⟩:=DataW.trod_struct ht hx;rw [hc] at hl;refine ⟨hl,fun i f v h1 h2=>?_⟩;have hi:i<n:=by rw [<-hl];exact (List.getElem?_eq_some_iff.1 h2).1
 obtain ⟨f',e1,e2,e3⟩:=aNE hf i hi;rw [h1] at e1;cases e1;have g:=hg i f h1;have hix:i<xs.length:=by rw [hlen];exact (Array.getElem?_eq_some_iff.1 h1).1
 rw [List.getElem?_eq_getElem hix,e2,e3] at g;have e4:(cs.drop i).take 1=[v]:=by
  rw [List.take_one,List.head?_drop,h2];rfl
 rw [e4] at g;exact ⟨_,_,g⟩
theorem TR.of {t:TypeId} {v:Value} {d:DataW H} {ps:List MemPlace} (h:DataW.Trod enc P W 0 (fun _=>true) true t v d ps):TR enc P W t v.cells.toList:=by
 obtain ⟨fuel,hf⟩:=h;exact ⟨fuel,_,hf⟩
end
end Go.Fw
namespace Go.Proofs.YthjedpdedjhndaaGreatDoor
open Go Go.Fw Go.RatM Go.SrcM Go.ChangeShapes Go.WideShapes Go.ChangeAt Go.RowKit
theorem int_wfS {n:Int} (h:(Lit.int .i64 n).wf=true):i64 n:=by
 have h1:IntKind.i64.min<=n/\n<=9223372036854775807:=by simpa [Lit.wf] using h
 have e:IntKind.i64.min = -9223372036854775808:=rfl;unfold i64;omega
section
variable {H:Type} {enc:TypeId×Value->H} {W:World} {cs:List Value} {v:Value}
theorem eO (h:TR enc Tryz.prog W 9 [v]):∃s,v=.string s:=by
 obtain ⟨_,_,h⟩:=h;obtain ⟨s,e,_,_⟩:=DataW.trod_string Tryz.underlying9 h;cases e;exact ⟨s,rfl⟩
theorem eF (h:TR enc Tryz.prog W 3 [v]):∃n,v=.int .i64 n/\i64 n:=by
 obtain ⟨_,_,h⟩:=h;obtain ⟨n,e,_,m⟩:=DataW.trod_int Tryz.underlying3 h;cases e;exact ⟨n,rfl,int_wfS m⟩
theorem tr_bool (h:TR enc Tryz.prog W 4 [v]):∃b,v=.bool b:=by
 obtain ⟨_,_,h⟩:=h;obtain ⟨b,e,_⟩:=DataW.trod_bool Tryz.underlying4 h;cases e;exact ⟨b,rfl⟩
theorem tr_cd (h:TR enc Tryz.prog W 191 cs):∃c:Cd,cs=c.row/\c.wf:=by
 obtain ⟨hl,hc⟩:=h.ones Tryz.underlying191 (n:=4) (by kernel_rfl) (by kernel_rfl)
 match cs,hl with
 | [a,b,c,d],_=>
  obtain ⟨a,rfl⟩:=eO (hc 0 _ _ rfl rfl);obtain ⟨b,rfl⟩:=eO (hc 1 _ _ rfl rfl);obtain ⟨c,rfl,m1⟩:=eF (hc 2 _ _ rfl rfl);obtain ⟨d,rfl,m2⟩:=eF (hc 3 _ _ rfl rfl);exact ⟨⟨a,b,c,d⟩,rfl,m1,m2⟩
theorem tr_it (h:TR enc Tryz.prog W 85 cs):∃c:It,cs=c.row/\c.wf:=by
 obtain ⟨hl,hc⟩:=h.ones Tryz.underlying85 (n:=6) (by kernel_rfl) (by kernel_rfl)
 match cs,hl with
 | [a,b,c,d,e,f],_=>
  obtain ⟨a,rfl⟩:=eO (hc 0 _ _ rfl rfl);obtain ⟨b,rfl⟩:=eO (hc 1 _ _ rfl rfl);obtain ⟨c,rfl,m1⟩:=eF (hc 2 _ _ rfl rfl);obtain ⟨d,rfl,m2⟩:=eF (hc 3 _ _ rfl rfl);obtain ⟨e,rfl,m3⟩:=eF (hc 4 _ _ rfl rfl);obtain ⟨f,rfl,m4⟩:=eF (hc 5 _ _ rfl rfl);exact ⟨⟨a,b,c,d,e,f⟩,rfl,m1,m2,m3,m4⟩
theorem tr_mc (h:TR enc Tryz.prog W 136 cs):∃c:Mc,cs=c.row/\c.wf:=by
 obtain ⟨hl,hc⟩:=h.ones Tryz.underlying136 (n:=4) (by kernel_rfl) (by kernel_rfl)
 match cs,hl with
 | [a,b,c,d],_=>
  obtain ⟨a,rfl⟩:=eO (hc 0 _ _ rfl rfl);obtain ⟨b,rfl⟩:=eO (hc 1 _ _ rfl rfl);obtain ⟨c,rfl,m1⟩:=eF (hc 2 _ _ rfl rfl);obtain ⟨d,rfl,m2⟩:=eF (hc 3 _ _ rfl rfl);exact ⟨⟨a,b,c,d⟩,rfl,m1,m2⟩
theorem tr_sw (h:TR enc Tryz.prog W 142 cs):∃c:Sw,cs=c.row/\c.wf:=by
 obtain ⟨hl,hc⟩:=h.ones Tryz.underlying142 (n:=4) (by kernel_rfl) (by kernel_rfl)
 match cs,hl with
 | [a,b,c,d],_=>
  obtain ⟨a,rfl⟩:=eO (hc 0 _ _ rfl rfl);obtain ⟨b,rfl⟩:=eO (hc 1 _ _ rfl rfl);obtain ⟨c,rfl,m1⟩:=eF (hc 2 _ _ rfl rfl);obtain ⟨d,rfl,m2⟩:=eF (hc 3 _ _ rfl rfl);exact ⟨⟨a,b,c,d⟩,rfl,m1,m2⟩
theorem tr_rn (h:TR enc Tryz.prog W 272 cs):∃c:Rn,cs=c.row/\c.wf:=by
 obtain ⟨hl,hc⟩:=h.ones Tryz.underlying272 (n:=3) (by kernel_rfl) (by kernel_rfl)
 match cs,hl with
 | [a,b,c],_=>
  obtain ⟨a,rfl⟩:=eO (hc 0 _ _ rfl rfl);obtain ⟨b,rfl,m1⟩:=eF (hc 1 _ _ rfl rfl);obtain ⟨c,rfl,m2⟩:=eF (hc 2 _ _ rfl rfl);exact ⟨⟨a,b,c⟩,rfl,m1,m2⟩
theorem tr_am (h:TR enc Tryz.prog W 55 cs):∃c:Am,cs=c.row/\c.wf:=by
 obtain ⟨hl,hc⟩:=h.ones Tryz.underlying55 (n:=7) (by kernel_rfl) (by kernel_rfl)
 match cs,hl with
 | [a,b,c,d,e,f,g],_=>
  obtain ⟨a,rfl,m1⟩:=eF (hc 0 _ _ rfl rfl);obtain ⟨b,rfl,m2⟩:=eF (hc 1 _ _ rfl rfl);obtain ⟨c,rfl⟩:=eO (hc 2 _ _ rfl rfl);obtain ⟨d,rfl⟩:=eO (hc 3 _ _ rfl rfl);obtain ⟨e,rfl⟩:=tr_bool (hc 4 _ _ rfl rfl);obtain ⟨f,rfl,m3⟩:=eF (hc 5 _ _ rfl rfl);obtain ⟨g,rfl,m4⟩:=eF (hc 6 _ _ rfl rfl);exact ⟨⟨a,b,c,d,e,f,g⟩,rfl,m1,m2,m3,m4⟩
theorem ones_cd (c:Cd):∀u∈c.row,u.oneCell'=true:=by simp [Cd.row,Value.oneCell']
theorem ones_am (c:Am):∀u∈c.row,u.oneCell'=true:=by simp [Am.row,Value.oneCell']
theorem ones_rn (c:Rn):∀u∈c.row,u.oneCell'=true:=by simp [Rn.row,Value.oneCell']
theorem ones_it (c:It):∀u∈c.row,u.oneCell'=true:=by simp [It.row,Value.oneCell']
theorem ones_mc (c:Mc):∀u∈c.row,u.oneCell'=true:=by simp [Mc.row,Value.oneCell']
theorem ones_sw (c:Sw):∀u∈c.row,u.oneCell'=true:=by simp [Sw.row,Value.oneCell']
abbrev below (W:World):Nat->Prop:=fun k=>k<W.heap.size
theorem aIK {G:Nat->Prop} {h:Array Obj} {v:Value} {sz:Nat} {α:Type} {f:α->List Value} {l:List α} (H:RoF G h v sz (rws f l)):∃a c,v=.slice a l.length c:=by
 obtain ⟨a,c,e⟩:=RoF.ownB H;exact ⟨a,c,by rw [e,aE]⟩
theorem bCU (h:TR enc Tryz.prog W 45 cs):∃v l,cs=[v]/\RoF (below W) W.heap v 4 (rws Cd.row l) /\ ∀c∈l,c.wf:=
 h.slice Tryz.underlying45 (sz:=4) (by kernel_rfl) (by decide) (fun a=>⟨rfl,fun _=>ones_cd a⟩) (fun _ h=>tr_cd h)
theorem bAJ (h:TR enc Tryz.prog W 46 cs):∃v l,cs=[v]/\RoF (below W) W.heap v 7 (rws Am.row l) /\ ∀c∈l,c.wf:=
 h.slice Tryz.underlying46 (sz:=7) (by kernel_rfl) (by decide) (fun a=>⟨rfl,fun _=>ones_am a⟩) (fun _ h=>tr_am h)
theorem tr_rns (h:TR enc Tryz.prog W 47 cs):∃v l,cs=[v]/\RoF (below W) W.heap v 3 (rws Rn.row l) /\ ∀c∈l,c.wf:=
 h.slice Tryz.underlying47 (sz:=3) (by kernel_rfl) (by decide) (fun a=>⟨rfl,fun _=>ones_rn a⟩) (fun _ h=>tr_rn h)
theorem tr_its (h:TR enc Tryz.prog W 23 cs):∃v l,cs=[v]/\RoF (below W) W.heap v 6 (rws It.row l) /\ ∀c∈l,c.wf:=
 h.slice Tryz.underlying23 (sz:=6) (by kernel_rfl) (by decide) (fun a=>⟨rfl,fun _=>ones_it a⟩) (fun _ h=>tr_it h)
theorem tr_mcs (h:TR enc Tryz.prog W 25 cs):∃v l,cs=[v]/\RoF (below W) W.heap v 4 (rws Mc.row l) /\ ∀c∈l,c.wf:=
 h.slice Tryz.underlying25 (sz:=4) (by kernel_rfl) (by decide) (fun a=>⟨rfl,fun _=>ones_mc a⟩) (fun _ h=>tr_mc h)
theorem tr_sws (h:TR enc Tryz.prog W 29 cs):∃v l,cs=[v]/\RoF (below W) W.heap v 4 (rws Sw.row l) /\ ∀c∈l,c.wf:=
 h.slice Tryz.underlying29 (sz:=4) (by kernel_rfl) (by decide) (fun a=>⟨rfl,fun _=>ones_sw a⟩) (fun _ h=>tr_sw h)
theorem aST (h:TR enc Tryz.prog W 24 cs):∃v l,cs=[v]/\RoF (below W) W.heap v 1 (bV l):=by
 obtain ⟨v,l,e,h,_⟩:=h.slice (f:=fun s:ByteArray=>[Value.string s]) (Q:=fun _=>True) Tryz.underlying24 (sz:=1) (by kernel_rfl) (by decide) (fun a=>⟨rfl,fun _ u hu=>by rw [List.mem_singleton.1 hu];rfl⟩) (fun cs h=>by
  obtain ⟨f,x,h⟩:=h;obtain ⟨s,e,_,_⟩:=DataW.trod_string Tryz.underlying9 h;exact ⟨s,e,trivial⟩)
 exact ⟨v,l,e,h⟩
theorem RoF.one {G:Nat->Prop} {h:Array Obj} {v:Value} {sz:Nat} {rows:List (List Value)} (H:RoF G h v sz rows):v.oneCell'=true:=by
 obtain ⟨a,c,rfl⟩:=H.ownB;rfl
theorem tr_op (h:TR enc Tryz.prog W 102 cs):∃o:OpV,cs=o.row/\o.ok (below W) W.heap:=by
 obtain ⟨hl,hc⟩:=h.ones Tryz.underlying102 (n:=2) (by kernel_rfl) (by kernel_rfl)
 match cs,hl with
 | [a,b],_=>
  obtain ⟨a,rfl⟩:=eO (hc 0 _ _ rfl rfl);obtain ⟨b,l,e,hb⟩:=aST (hc 1 _ _ rfl rfl);cases e;obtain ⟨ad,c,rfl⟩:=aIK hb;exact ⟨⟨a,⟨ad,c⟩,l⟩,rfl,hb⟩
theorem tr_ops (h:TR enc Tryz.prog W 26 cs):∃v l,cs=[v]/\RoF (below W) W.heap v 2 (rws OpV.row l) /\ ∀c∈l,c.ok (below W) W.heap:=
 h.slice Tryz.underlying26 (sz:=2) (by kernel_rfl) (by decide) (fun a=>⟨rfl,fun ha u hu=>by
  simp only [OpV.row,List.mem_cons,List.not_mem_nil,or_false] at hu;rcases hu with rfl|rfl
  ·rfl
  exact RoF.one ha⟩) (fun _ h=>tr_op h)
theorem tr_fb (h:TR enc Tryz.prog W 45 cs):∃o:FbV,cs=o.row/\o.ok (below W) W.heap /\ ∀c∈o.cs,c.wf:=by
 obtain ⟨v,l,e,h1,h2⟩:=bCU h;obtain ⟨ad,c,rfl⟩:=aIK h1;exact ⟨⟨⟨ad,c⟩,l⟩,e,h1,h2⟩
theorem tr_fbs (h:TR enc Tryz.prog W 27 cs):∃v l,cs=[v]/\RoF (below W) W.heap v 1 (rws FbV.row l) /\ ∀c∈l,c.ok (below W) W.heap /\ ∀d∈c.cs,d.wf:=
 h.slice Tryz.underlying27 (sz:=1) (by kernel_rfl) (by decide) (fun a=>⟨rfl,fun ha u hu=>by
  rw [List.mem_singleton.1 hu];exact RoF.one ha.1⟩) (fun _ h=>tr_fb h)
theorem tr_rc (h:TR enc Tryz.prog W 49 cs):∃o:RcV,cs=o.row/\o.ok (below W) W.heap/\o.wf:=by
 obtain ⟨hl,hc⟩:=h.ones Tryz.underlying49 (n:=17) (by kernel_rfl) (by kernel_rfl)
 match cs,hl with
 | [a0,a1,a2,a3,a4,a5,a6,a7,a8,a9,a10,a11,a12,a13,a14,a15,a16],_=>
  obtain ⟨a0,rfl⟩:=eO (hc 0 _ _ rfl rfl);obtain ⟨a1,rfl⟩:=eO (hc 1 _ _ rfl rfl);obtain ⟨a2,rfl,m2⟩:=eF (hc 2 _ _ rfl rfl);obtain ⟨a3,rfl,m3⟩:=eF (hc 3 _ _ rfl rfl);obtain ⟨a4,l4,e4,h4,w4⟩:=bCU (hc 4 _ _ rfl rfl);cases e4;obtain ⟨d4,c4,rfl⟩:=aIK h4;obtain ⟨a5,l5,e5,h5,w5⟩:=bAJ (hc 5 _ _ rfl rfl);cases e5;obtain ⟨d5,c5,rfl⟩:=aIK h5;obtain ⟨a6,l6,e6,h6,w6⟩:=bAJ (hc 6 _ _ rfl rfl);cases e6;obtain ⟨d6,c6,rfl⟩:=aIK h6;obtain ⟨a7,rfl,m7⟩:=eF (hc 7 _ _ rfl rfl);obtain ⟨a8,rfl,m8⟩:=eF (hc 8 _ _ rfl rfl);obtain ⟨a9,rfl,m9⟩:=eF (hc 9 _ _ rfl rfl);obtain ⟨a10,rfl,m10⟩:=eF (hc 10 _ _ rfl rfl);obtain ⟨a11,rfl,m11⟩:=eF (hc 11 _ _ rfl rfl);obtain ⟨a12,rfl,m12⟩:=eF (hc 12 _ _ rfl rfl);obtain ⟨a13,rfl,m13⟩:=eF (hc 13 _ _ rfl rfl);obtain ⟨a14,l14,e14,h14,w14⟩:=tr_rns (hc 14 _ _ rfl rfl);cases e14;obtain ⟨d14,c14,rfl⟩:=aIK h14;obtain ⟨a15,rfl,m15⟩:=eF (hc 15 _ _ rfl rfl);obtain ⟨a16,rfl,m16⟩:=eF (hc 16 _ _ rfl rfl);exact ⟨⟨a0,a1,a2,a3,⟨d4,c4⟩,l4,⟨d5,c5⟩,l5,⟨d6,c6⟩,l6,a7,a8,a9,a10,a11,a12,a13,⟨d14,c14⟩,l14,a15,a16⟩,rfl,⟨h4,h5,h6,h14⟩,⟨w4,w5,w6,w14,m2,m3,m7,m8,m9,m10,m11,m12,m13,m15,m16⟩⟩
theorem tr_rcs (h:TR enc Tryz.prog W 28 cs):∃v l,cs=[v]/\RoF (below W) W.heap v 17 (rws RcV.row l) /\ ∀c∈l,c.ok (below W) W.heap/\c.wf:=
 h.slice Tryz.underlying28 (sz:=17) (by kernel_rfl) (by decide) (fun a=>⟨rfl,fun ha u hu=>by
  simp only [RcV.row,List.mem_cons,List.not_mem_nil,or_false] at hu;rcases hu with rfl|rfl|rfl|rfl|rfl|rfl|rfl|rfl|rfl|rfl|rfl|rfl|rfl|rfl|rfl|rfl|rfl
  all_goals rfl⟩) (fun _ h=>tr_rc h)
theorem tr_un (h:TR enc Tryz.prog W 100 cs):∃u:Un,cs=u.row/\i64 u.n/\i64 u.d:=by
 obtain ⟨f,x,h⟩:=h;obtain ⟨h1,h2⟩:=unitF.at' _ _ _ _ _ _ _ _ h;obtain ⟨u,e,hu⟩:=bCO h1 h2;exact ⟨u,e,hu⟩
theorem ones_un (u:Un):∀c∈u.row,c.oneCell'=true:=by simp [Un.row,Value.oneCell']
theorem tr_uns (h:TR enc Tryz.prog W 22 cs):∃v l,cs=[v]/\RoF (below W) W.heap v 8 (aL l) /\ ∀u∈l,i64 u.n/\i64 u.d:=
 h.slice Tryz.underlying22 (sz:=8) (by kernel_rfl) (by decide) (fun a=>⟨rfl,fun _=>ones_un a⟩) (fun _ h=>tr_un h)
theorem tr_src (h:TR enc Tryz.prog W 31 cs):∃vU vI vP vM vO vF vR vS,∃s:aG,cs=[vU,vI,vP,vM,vO,vF,vR,vS]/\Top W.heap vU vI vP vM vO vF vR vS s/\s.wf:=by
 obtain ⟨hl,hc⟩:=h.ones Tryz.underlying31 (n:=8) (by kernel_rfl) (by kernel_rfl)
 match cs,hl with
 | [a0,a1,a2,a3,a4,a5,a6,a7],_=>
  obtain ⟨a0,l0,e0,h0,w0⟩:=tr_uns (hc 0 _ _ rfl rfl);cases e0;obtain ⟨a1,l1,e1,h1,w1⟩:=tr_its (hc 1 _ _ rfl rfl);cases e1;obtain ⟨a2,l2,e2,h2⟩:=aST (hc 2 _ _ rfl rfl);cases e2;obtain ⟨a3,l3,e3,h3,w3⟩:=tr_mcs (hc 3 _ _ rfl rfl);cases e3;obtain ⟨a4,l4,e4,h4,w4⟩:=tr_ops (hc 4 _ _ rfl rfl);cases e4;obtain ⟨a5,l5,e5,h5,w5⟩:=tr_fbs (hc 5 _ _ rfl rfl);cases e5;obtain ⟨a6,l6,e6,h6,w6⟩:=tr_rcs (hc 6 _ _ rfl rfl);cases e6;obtain ⟨a7,l7,e7,h7,w7⟩:=tr_sws (hc 7 _ _ rfl rfl);cases e7;exact ⟨a0,a1,a2,a3,a4,a5,a6,a7,⟨l0,l1,l2,l3,l4,l5,l6,l7⟩,rfl,⟨h0,h1,h2,h3,h4,h5,h6,h7,⟨w4,fun o ho=>(w5 o ho).1,fun o ho=>(w6 o ho).1⟩⟩,⟨w0,w1,w3,fun o ho=>(w5 o ho).2,fun o ho=>(w6 o ho).2,w7⟩⟩
variable {b0:Nat} {rr:Reach} {d:DataW H} {ps:List MemPlace}
theorem aAF (hval:Value.okWide Tryz.prog W rr b0 31 v) (hd:DataW.Trod enc Tryz.prog W 0 (fun _=>true) true 31 v d ps):∃vU vI vP vM vO vF vR vS,∃s:aG,v=xY vU vI vP vM vO vF vR vS/\Top W.heap vU vI vP vM vO vF vR vS s/\s.wf:=by
 obtain ⟨cs,rfl,_⟩:=okWide_struct Tryz.underlying31 hval;obtain ⟨vU,vI,vP,vM,vO,vF,vR,vS,s,e,h1,h2⟩:=tr_src (TR.of hd);refine ⟨vU,vI,vP,vM,vO,vF,vR,vS,s,?_,h1,h2⟩;unfold xY;rw [<-e];simp [Value.cells]
end
end Go.Proofs.YthjedpdedjhndaaGreatDoor
