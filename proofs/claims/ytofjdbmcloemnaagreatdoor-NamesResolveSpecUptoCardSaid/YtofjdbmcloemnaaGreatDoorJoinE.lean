/- Texts of this seat, joined: Package names: what it computes; plain. Package names: what is resolved; plain. Package names: names, collect, find. Packa -/
import Derived.Test.YtofjdbmcloemnaaGreatDoorJoinD
set_option linter.unusedVariables false
set_option linter.unusedSimpArgs false
namespace Go.SrcM
open Go Go.Fw Go.RatM
def findN (l:List ByteArray) (nm:ByteArray):Option Nat:=l.findIdx? fun x=>decide (x=nm)
theorem findN_none {l:List ByteArray} {nm:ByteArray}:findN l nm=none↔nm∉l:=by
 unfold findN
 rw [List.findIdx?_eq_none_iff]
 exact ⟨fun h hm=>by simpa using h nm hm,fun h x hx=>by simp only [decide_eq_false_iff_not];exact fun e=>h (e▸hx)⟩
theorem findN_some {l:List ByteArray} {nm:ByteArray} {k:Nat}:findN l nm=some k ↔ ∃hk:k<l.length,l[k]=nm ∧ ∀j (hj:j<k),l[j]≠nm:=by
 unfold findN
 rw [List.findIdx?_eq_some_iff_getElem]
 constructor
 ·rintro ⟨hk,h1,h2⟩
  exact ⟨hk,by simpa using h1,fun j hj=>by simpa using h2 j hj⟩
 rintro ⟨hk,h1,h2⟩
 exact ⟨hk,by simpa using h1,fun j hj=>by simpa using h2 j hj⟩
theorem findN_snoc {l:List ByteArray} {x nm:ByteArray}:findN (l++[x]) nm=match findN l nm with
  |some k=>some k
  |none=>if x=nm then some l.length else none:=by
 unfold findN
 rw [List.findIdx?_append]
 cases List.findIdx? (fun x=>decide (x=nm)) l with
 |some k=>rfl
 |none=>
  by_cases e:x=nm
  ·simp [e]
  simp [e]
theorem take_snoc {α:Type} {l:List α} {k:Nat} (hk:k<l.length):l.take (k+1)=l.take k++[l[k]]:=by
 rw [List.take_add_one,List.getElem?_eq_getElem hk];rfl
def firstsK (l:List ByteArray):Nat→List (Value×Value)
 |0=>[]
 |k+1=>match l[k]? with
  |some x=>match findN (l.take k) x with
   |some _=>firstsK l k
   |none=>firstsK l k++[(.string x,.int .i64 k)]
  |none=>firstsK l k
def firsts (l:List ByteArray):List (Value×Value):=firstsK l l.length
theorem firstsK_old {l:List ByteArray} {k:Nat} (hk:k<l.length) (h:l[k]∈l.take k):firstsK l (k+1)=firstsK l k:=by
 simp only [firstsK,List.getElem?_eq_getElem hk]
 cases hf:findN (l.take k) l[k] with
 |some j=>rfl
 |none=>exact absurd h (findN_none.1 hf)
theorem firstsK_new {l:List ByteArray} {k:Nat} (hk:k<l.length) (h:l[k]∉l.take k):firstsK l k++[(.string l[k],.int .i64 k)]=firstsK l (k+1):=by
 simp only [firstsK,List.getElem?_eq_getElem hk,findN_none.2 h]
abbrev intO (o:Option Nat):Option Value:=o.map fun (k:Nat)=>Value.int .i64 (k:Int)
theorem firsts_get {l:List ByteArray} (nm:ByteArray):∀ {k:Nat},k≤l.length→MapGet (firstsK l k) (.string nm) (intO (findN (l.take k) nm))
 |0,_=>fun p hp=>by cases hp
 |k+1,hk=>by
  have ih:=firsts_get (l:=l) nm (k:=k) (by omega)
  have hk:k<l.length:=hk
  rw [take_snoc hk,findN_snoc]
  by_cases hm:l[k]∈l.take k
  ·rw [firstsK_old hk hm]
   cases hf:findN (l.take k) nm with
   |some j=>rw [hf] at ih;exact ih
   |none=>
    rw [hf] at ih
    dsimp only
    have hne:l[k]≠nm:=fun e=>findN_none.1 hf (by rw [←e];exact hm)
    rw [if_neg hne]
    exact ih
  rw [←firstsK_new hk hm]
  cases hf:findN (l.take k) nm with
  |some j=>
   rw [hf] at ih
   have hne:l[k]≠nm:=fun e=>by
    have:=findN_some.1 hf
    obtain ⟨hj,h1,_⟩:=this
    exact hm (by rw [e,←h1];exact List.getElem_mem _)
   refine ⟨?_,fun p hp h1=>?_⟩
   ·obtain ⟨p,hp,h1⟩:=ih.1
    exact ⟨p,List.mem_append.2 (.inl hp),h1⟩
   rcases List.mem_append.1 hp with hp|hp
   ·exact ih.2 p hp h1
   rw [List.mem_singleton.1 hp] at h1
   injection h1 with h1
   exact absurd h1 hne
  |none=>
   rw [hf] at ih
   dsimp only
   by_cases e:l[k]=nm
   ·rw [if_pos e]
    refine ⟨⟨_,List.mem_append.2 (.inr (List.mem_singleton.2 rfl)),by rw [e]⟩,fun p hp h1=>?_⟩
    rcases List.mem_append.1 hp with hp|hp
    ·exact absurd h1 (ih p hp)
    rw [List.mem_singleton.1 hp]
    rw [List.length_take,Nat.min_eq_left (by omega)]
   rw [if_neg e]
   intro p hp h1
   rcases List.mem_append.1 hp with hp|hp
   ·exact ih p hp h1
   rw [List.mem_singleton.1 hp] at h1
   injection h1 with h1
   exact e h1
theorem firsts_all {l:List ByteArray} (nm:ByteArray):MapGet (firsts l) (.string nm) (intO (findN l nm)):=by
 have:=firsts_get (l:=l) nm (Nat.le_refl _)
 rwa [List.take_length] at this
theorem firsts_new {l:List ByteArray} {k:Nat} (hk:k<l.length) (h:l[k]∉l.take k):MapGet (firstsK l k) (.string l[k]) none:=by
 have:=firsts_get (l:=l) l[k] (Nat.le_of_lt hk)
 rwa [findN_none.2 h] at this
theorem firsts_old {l:List ByteArray} {k:Nat} (hk:k<l.length) (h:l[k]∈l.take k):∃j:Nat,MapGet (firstsK l k) (.string l[k]) (some (.int .i64 j)):=by
 have:=firsts_get (l:=l) l[k] (Nat.le_of_lt hk)
 cases hf:findN (l.take k) l[k] with
 |some j=>rw [hf] at this;exact ⟨j,this⟩
 |none=>exact absurd h (findN_none.1 hf)
theorem nodup_snoc {l:List ByteArray} {k:Nat} (hk:k<l.length):(l.take (k+1)).Nodup↔(l.take k).Nodup∧l[k]∉l.take k:=by
 rw [take_snoc hk,List.nodup_append]
 constructor
 ·exact fun ⟨h1,_,h2⟩=>⟨h1,fun hm=>h2 _ hm _ (List.mem_singleton.2 rfl) rfl⟩
 exact fun ⟨h1,h2⟩=>⟨h1,by simp,fun a ha b hb e=>by rw [List.mem_singleton.1 hb] at e;exact h2 (e▸ha)⟩
def dupB (l:List ByteArray):Bool:=decide (¬l.Nodup)
theorem dup_old {l:List ByteArray} {k:Nat} (hk:k<l.length) (hm:l[k]∈l.take k):true=dupB (l.take (k+1)):=by
 unfold dupB
 exact (decide_eq_true (show ¬(l.take (k+1)).Nodup from fun h=>((nodup_snoc hk).1 h).2 hm)).symm
theorem dup_new {l:List ByteArray} {k:Nat} (hk:k<l.length) (hm:l[k]∉l.take k):dupB (l.take k)=dupB (l.take (k+1)):=by
 unfold dupB
 exact decide_eq_decide.2 (not_congr ⟨fun h=>(nodup_snoc hk).2 ⟨h,hm⟩,fun h=>((nodup_snoc hk).1 h).1⟩)
section
variable {α:Type} {f:α→List Value} {g:α→α} {l:List α}
def mixN (g:α→α) (l:List α) (k:Nat):List α:=(l.take k).map g++l.drop k
theorem mixN_len {k:Nat} (hk:k≤l.length):(rws f (mixN g l k)).length=l.length:=by
 unfold mixN
 rw [rws_len,List.length_append,List.length_map,List.length_take,List.length_drop];omega
theorem mixN_get {k:Nat} (hk:k<l.length):(rws f (mixN g l k))[k]? = some (f l[k]):=by
 unfold mixN
 rw [rws,List.map_append,List.getElem?_append_right (by simp;omega)]
 simp [hk,Nat.min_eq_left (Nat.le_of_lt hk)]
theorem mixN_step {k:Nat} (hk:k<l.length) {r:List Value} (hr:r=f (g l[k])):(rws f (mixN g l k)).set k r=rws f (mixN g l (k+1)):=by
 have e:l.drop k=l[k]::l.drop (k+1):=(List.getElem_cons_drop ..).symm
 unfold mixN rws
 rw [e,take_snoc hk]
 simp only [List.map_append,List.map_cons,List.map_nil]
 rw [List.set_append_right _ _ (by simp;omega)]
 simp [Nat.min_eq_left (Nat.le_of_lt hk),hr]
theorem mixN_all:mixN g l l.length=l.map g:=by
 unfold mixN
 rw [List.take_length,List.drop_length,List.append_nil]
end
/-! numbers of names -/
def resIt (s:SrcV) (i:It):Option It:=(findN (s.units.map Un.name) i.unit).map fun (u:Nat)=>{i with un:=u}
def resMc (s:SrcV) (m:Mc):Option Mc:=(findN s.plants m.plant).map fun (p:Nat)=>{m with pn:=p}
def resCd (s:SrcV) (c:Cd):Option Cd:=match findN (s.options.map OpV.name) c.opt with
 |some o=>match s.options[o]? with
  |some q=>(findN q.ch c.ch).map fun (k:Nat)=>{c with on:=o,cn:=k}
  |none=>none
 |none=>none
def resAm (s:SrcV) (a:Am):Option Am:=match findN (s.units.map Un.name) a.unit with
 |some u=>(findN (s.items.map It.name) a.item).map fun (i:Nat)=>{a with un:=u,inn:=i}
 |none=>none
def resRn (s:SrcV) (r:Rn):Option Rn:=(findN (s.machines.map Mc.name) r.mach).map fun (m:Nat)=>{r with mn:=m}
def resSw (s:SrcV) (x:Sw):Option Sw:=match findN (s.items.map It.name) x.a with
 |some a=>(findN (s.items.map It.name) x.b).map fun (b:Nat)=>{x with an:=a,bn:=b}
 |none=>none
def allO {α β:Type} (f:α→Option β):List α→Option (List β)
 | []=>some []
 |a::l=>match f a with
  |some b=>match allO f l with
   |some m=>some (b::m)
   |none=>none
  |none=>none
theorem allO_some {α β:Type} {f:α→Option β}:∀ {l:List α} {m:List β},allO f l=some m↔m.length=l.length ∧ ∀i (h:i<l.length) (h':i<m.length),f l[i]=some m[i]
 | [],m=>by
  simp only [allO,Option.some.injEq,List.length_nil]
  constructor
  ·rintro rfl;exact ⟨rfl,fun i h=>absurd h (Nat.not_lt_zero _)⟩
  rintro ⟨h,_⟩;exact (List.eq_nil_of_length_eq_zero h).symm
 |a::l,m=>by
  simp only [allO]
  constructor
  ·intro h
   cases ha:f a with
   |none=>simp [ha] at h
   |some b=>
    cases hl:allO f l with
    |none=>simp [ha,hl] at h
    |some m'=>
     simp only [ha,hl,Option.some.injEq] at h
     subst h
     obtain ⟨h1,h2⟩:=allO_some.1 hl
     refine ⟨by simp [h1],fun i h h'=>?_⟩
     cases i with
     |zero=>exact ha
     |succ i=>exact h2 i (by simpa using h) (by simpa using h')
  rintro ⟨h1,h2⟩
  cases m with
  |nil=>simp at h1
  |cons b m=>
   have h0:=h2 0 (by simp) (by simp)
   simp only [List.getElem_cons_zero] at h0
   have hl:allO f l=some m:=allO_some.2 ⟨by simpa using h1,fun i h h'=>by have:=h2 (i+1) (by simpa using h) (by simpa using h');simpa using this⟩
   rw [h0,hl]
theorem allO_none {α β:Type} {f:α→Option β}:∀ {l:List α},allO f l=none ↔ ∃a∈l,f a=none
 | []=>by simp [allO]
 |a::l=>by
  simp only [allO]
  cases ha:f a with
  |none=>simp [ha]
  |some b=>
   cases hl:allO f l with
   |none=>
    obtain ⟨x,hx,e⟩:=allO_none.1 hl
    simp only [true_iff]
    exact ⟨x,List.mem_cons_of_mem _ hx,e⟩
   |some m=>
    simp only [false_iff,reduceCtorEq]
    rintro ⟨x,hx,e⟩
    rcases List.mem_cons.1 hx with rfl|hx
    ·rw [ha] at e;cases e
    have:=allO_none.2 ⟨x,hx,e⟩
    rw [hl] at this;cases this
theorem allO_getD {α:Type} {f:α→Option α} {l:List α} (h:∀i (hi:i<l.length),f l[i]≠none):allO f l=some (l.map fun a=>(f a).getD a):=by
 refine allO_some.2 ⟨List.length_map _,fun i h1 h2=>?_⟩
 rw [List.getElem_map]
 cases hf:f l[i] with
 |none=>exact absurd hf (h i h1)
 |some b=>rfl
def resRc (s:SrcV) (r:RcV):Option RcV:=match findN (s.items.map It.name) r.item with
 |some i=>match findN s.plants r.plant with
  |some p=>match allO (resCd s) r.cs with
   |some cs=>match allO (resAm s) r.inn with
    |some inn=>match allO (resAm s) r.out with
     |some out=>match allO (resRn s) r.runs with
      |some runs=>some {r with inum:=i,pnum:=p,cs:=cs,inn:=inn,out:=out,runs:=runs}
      |none=>none
     |none=>none
    |none=>none
   |none=>none
  |none=>none
 |none=>none
def resFb (s:SrcV) (f:FbV):Option FbV:=(allO (resCd s) f.cs).map fun l=>{f with cs:=l}
def twiceN (s:SrcV):Prop:=¬(s.units.map Un.name).Nodup ∨ ¬(s.items.map It.name).Nodup ∨ ¬s.plants.Nodup ∨ ¬(s.machines.map Mc.name).Nodup ∨ ¬(s.options.map OpV.name).Nodup ∨ ¬ ∀o∈s.options,o.ch.Nodup
instance (s:SrcV):Decidable (twiceN s):=by unfold twiceN;infer_instance
def resS (s:SrcV):Option SrcV:=match allO (resIt s) s.items with
 |some items=>match allO (resMc s) s.machines with
  |some machines=>match allO (resFb s) s.forbids with
   |some forbids=>match allO (resRc s) s.recipes with
    |some recipes=>(allO (resSw s) s.swaps).map fun swaps=>{s with items:=items,machines:=machines,forbids:=forbids,recipes:=recipes,swaps:=swaps}
    |none=>none
   |none=>none
  |none=>none
 |none=>none
def noSrc:SrcV:=⟨[],[],[],[],[],[],[],[]⟩
def resolveN (s:SrcV):SrcV×Int:=if twiceN s then (noSrc,111) else match resolveU s.units with
 | .inr e=>(noSrc,e)
 | .inl u=>match resS s with
  |some t=>({t with units:=u},0)
  |none=>(noSrc,110)
/-! where lists lie does not matter -/
def OpV.bare (o:OpV):OpV:={o with hd:=⟨none,0⟩}
def FbV.bare (o:FbV):FbV:={o with hd:=⟨none,0⟩}
def RcV.bare (r:RcV):RcV:={r with hc:=⟨none,0⟩,hi:=⟨none,0⟩,ho:=⟨none,0⟩,hr:=⟨none,0⟩}
def SrcV.bare (s:SrcV):SrcV:={s with options:=s.options.map OpV.bare,forbids:=s.forbids.map FbV.bare,recipes:=s.recipes.map RcV.bare}
end Go.SrcM

namespace Go.SrcM
open Go Go.Fw Go.RatM
/-! without numbers -/
theorem allO_congr {α β:Type} {f g:α→Option β} (h:∀a,f a=g a) (l:List α):allO f l=allO g l:=by
 rw [show f=g from funext h]
theorem opt_map {α β:Type} {f:α→β} {o:Option α} {b:β} (h:o.map f=some b):∃a,o=some a∧f a=b:=Option.map_eq_some_iff.1 h
theorem resU_nz':∀ {l x:List Un} {e:Int},resU l x=.inr e→e≠0
 | [],_,_,h=>by cases h
 |u::l,x,e,h=>by
  simp only [resU] at h
  split at h
  ·exact resU_nz' h
  rename_i e' he
  cases h
  unfold stepU at he
  split at he
  ·split at he
   ·cases he
   cases he;decide
  split at he
  ·split at he
   ·split at he
    ·cases he;decide
    cases he
   cases he;decide
  cases he;decide
theorem resolveU_nz' {l:List Un} {e:Int} (h:resolveU l=.inr e):e≠0:=by
 unfold resolveU at h
 split at h
 ·cases h;decide
 split at h
 ·cases h;decide
 exact resU_nz' h
end Go.SrcM

namespace Go.Proofs.YtofjdbmcloemnaaGreatDoor
open Go Go.Fw Go.NatM Go.RatM Go.SrcM
set_option maxRecDepth 100000
set_option maxHeartbeats 99999999
theorem siU:Tryz.prog.underlying 72=some (.map 9 3):=by kernel_rfl
theorem failU:Tryz.prog.underlying 161=some (.struct #[]):=by kernel_rfl
theorem strU:Tryz.prog.underlying 9=some .string:=by kernel_rfl
theorem intZ (w:World):(zeroValue 3).run Tryz.prog w=.ok (.int .i64 0) w:=by kernel_rfl
theorem itself_fn {h:Array Obj} (s:ByteArray):FnV Tryz.prog 47 #[.string s] h fun r h'=>r=.string s∧Keeps h.size h h':=by
 refine Fn.ofS (args:=[.string s]) Tryz.func47 (by kernel_rfl) rfl Tryz.ntmps47 rfl fun w0 cs=>?_
 conv=>whnf
 refine gS ?_;conv=>whnf
 refine RunsS.retU (UnwS.ret tab Tryz.func47 rfl fun _ _ _ _ K=>⟨_,rfl,rfl,K.keeps⟩)
theorem unitName_fn {h:Array Obj} (u:Un):FnV Tryz.prog 50 #[.agg u.row.toArray] h fun r h'=>r=.string u.name∧Keeps h.size h h':=by
 refine Fn.ofS (args:=[.agg u.row.toArray]) Tryz.func50 (by kernel_rfl) rfl Tryz.ntmps50 rfl fun w0 cs=>?_
 conv=>whnf
 refine gS ?_;conv=>whnf
 refine RunsS.retU (UnwS.ret tab Tryz.func50 rfl fun _ _ _ _ K=>⟨_,rfl,rfl,K.keeps⟩)
theorem itemName_fn {h:Array Obj} (u:It):FnV Tryz.prog 44 #[.agg u.row.toArray] h fun r h'=>r=.string u.name∧Keeps h.size h h':=by
 refine Fn.ofS (args:=[.agg u.row.toArray]) Tryz.func44 (by kernel_rfl) rfl Tryz.ntmps44 rfl fun w0 cs=>?_
 conv=>whnf
 refine gS ?_;conv=>whnf
 refine RunsS.retU (UnwS.ret tab Tryz.func44 rfl fun _ _ _ _ K=>⟨_,rfl,rfl,K.keeps⟩)
theorem machineName_fn {h:Array Obj} (u:Mc):FnV Tryz.prog 54 #[.agg u.row.toArray] h fun r h'=>r=.string u.name∧Keeps h.size h h':=by
 refine Fn.ofS (args:=[.agg u.row.toArray]) Tryz.func54 (by kernel_rfl) rfl Tryz.ntmps54 rfl fun w0 cs=>?_
 conv=>whnf
 refine gS ?_;conv=>whnf
 refine RunsS.retU (UnwS.ret tab Tryz.func54 rfl fun _ _ _ _ K=>⟨_,rfl,rfl,K.keeps⟩)
theorem optionName_fn {h:Array Obj} (u:OpV):FnV Tryz.prog 56 #[.agg u.row.toArray] h fun r h'=>r=.string u.name∧Keeps h.size h h':=by
 refine Fn.ofS (args:=[.agg u.row.toArray]) Tryz.func56 (by kernel_rfl) rfl Tryz.ntmps56 rfl fun w0 cs=>?_
 conv=>whnf
 refine gS ?_;conv=>whnf
 refine RunsS.retU (UnwS.ret tab Tryz.func56 rfl fun _ _ _ _ K=>⟨_,rfl,rfl,K.keeps⟩)
theorem collectUnit_fn (l:List Un):FnX Tryz.prog 49 1 [.buf 0,.v (.func (.func 50) #[] #[])] [(0,.ro 8 (rowsU l))] (fun _ _=>True) (fun (r:Nat) G h=>MapF G h (.map (some r)) .string (firsts (l.map Un.name)))
  (fun r=>.ret (.tup [.v (.map (some r)),.v (.bool (dupB (l.map Un.name)))]) 1 []):=by
 have hl:=rowsU_len l
 have hn:(l.map Un.name).length=l.length:=List.length_map _
 refine FnX.of Tryz.func49 (by kernel_rfl) rfl Tryz.ntmps49 rfl fun E0 F G h N hP w0 cs=>?_
 conv=>whnf
 refine gS ?_;conv=>whnf
 refine RunsS.lenB 0 (fun m0=>?_)
 refine RunsS.makeMap .string ?_
 refine gS ?_;conv=>whnf
 refine RunsS.subR [] (RunsS.loop (fun (⟨k,b⟩:Nat×Bool)=>[(13,.v (.int .i64 k)),(12,.v (.int .i64 (rowsU l).length)),(11,.buf 0),(4,.buf 1),(5,.v (.bool b)),(1,.v (.func (.func 50) #[] #[]))]) (fun (⟨k,b⟩:Nat×Bool)=>[(1,.map .string (firstsK (l.map Un.name) k)),(0,.ro 8 (rowsU l))]) 2 (fun (⟨k,b⟩:Nat×Bool)=>k≤l.length∧b=dupB ((l.map Un.name).take k)) (fun (⟨k,b⟩:Nat×Bool)=>l.length - k) ?round1 ((0,false)) ?J01) sH sH
 case J01=>exact (⟨Nat.zero_le _,rfl⟩)
 rintro ⟨k,b⟩ hJ back
 try dsimp only at hJ back
 conv=>whnf
 try dsimp only
 refine gS ?_;conv=>whnf
 refine ⟨fun hk=>?_,fun hk=>?_⟩<;>conv=>whnf
 ·have hk:k<l.length:=by omega
  have hk2:k<(l.map Un.name).length:=by rw [hn];exact hk
  have e:(l.map Un.name)[k]=l[k].name:=List.getElem_map ..
  conv=>whnf
  repeat ((first|refine oL ?_|refine oR ?_);(try intro _);conv=>whnf)
  refine ⟨_,rowsU_get hk,?_⟩;conv=>whnf
  try (refine oN ?_;conv=>whnf)
  refine RunsS.callV (fun Ez Hz Az Sz K=>unitName_fn l[k]) ?_
  conv=>whnf
  refine gS ?_;conv=>whnf
  by_cases hm:(l.map Un.name)[k]∈(l.map Un.name).take k
  ·obtain ⟨j,hj⟩:=firsts_old hk2 hm
   rw [e] at hj
   refine RunsS.lookup (some (.int .i64 j)) siU strU intZ hj ?_
   refine gS ?_;conv=>whnf
   repeat ((first|refine oL ?_|refine oR ?_);(try intro _);conv=>whnf)
   refine RunsS.mapEq 1 (firstsK_old hk2 hm).symm ?_;conv=>whnf
   refine RunsS.subR [] (back ((k+1,true)) (by exact (⟨hk,dup_old hk2 hm⟩)) (by (try dsimp only);omega)) sH sH
  have hj:=firsts_new hk2 hm
  rw [e] at hj
  have hs:=firstsK_new hk2 hm
  rw [e] at hs
  refine RunsS.lookup none siU strU intZ hj ?_
  refine gS ?_;conv=>whnf
  refine RunsS.callV (fun Ez Hz Az Sz K=>unitName_fn l[k]) ?_
  conv=>whnf
  refine gS ?_;conv=>whnf
  refine RunsS.insert siU strU hj hs ?_
  refine gS ?_;conv=>whnf
  repeat ((first|refine oL ?_|refine oR ?_);(try intro _);conv=>whnf)
  refine RunsS.subR [] (back ((k+1,b)) (by exact (⟨hk,hJ.2.trans (dup_new hk2 hm)⟩)) (by (try dsimp only);omega)) sH sH
 have hk:k=l.length:=by omega
 have hb:=hJ.2
 rw [hk,←hn,List.take_length] at hb
 clear back hJ
 subst hk hb
 conv=>whnf
 refine RunsS.concM N.gsub 1 (fun r G' h' N' R=>?_)
 conv=>whnf
 refine RunsS.retU ?_
 exact UnwS.ret tab Tryz.func49 rfl (eX (N.trans N') (r) (fun h U=>by unfold firsts;rw [hn];exact R.up U))
theorem collectItem_fn (l:List It):FnX Tryz.prog 51 1 [.buf 0,.v (.func (.func 44) #[] #[])] [(0,.ro 6 (rws It.row l))] (fun _ _=>True) (fun (r:Nat) G h=>MapF G h (.map (some r)) .string (firsts (l.map It.name)))
  (fun r=>.ret (.tup [.v (.map (some r)),.v (.bool (dupB (l.map It.name)))]) 1 []):=by
 have hl:=rws_len It.row l
 have hn:(l.map It.name).length=l.length:=List.length_map _
 refine FnX.of Tryz.func51 (by kernel_rfl) rfl Tryz.ntmps51 rfl fun E0 F G h N hP w0 cs=>?_
 conv=>whnf
 refine gS ?_;conv=>whnf
 refine RunsS.lenB 0 (fun m0=>?_)
 refine RunsS.makeMap .string ?_
 refine gS ?_;conv=>whnf
 refine RunsS.subR [] (RunsS.loop (fun (⟨k,b⟩:Nat×Bool)=>[(13,.v (.int .i64 k)),(12,.v (.int .i64 (rws It.row l).length)),(11,.buf 0),(4,.buf 1),(5,.v (.bool b)),(1,.v (.func (.func 44) #[] #[]))]) (fun (⟨k,b⟩:Nat×Bool)=>[(1,.map .string (firstsK (l.map It.name) k)),(0,.ro 6 (rws It.row l))]) 2 (fun (⟨k,b⟩:Nat×Bool)=>k≤l.length∧b=dupB ((l.map It.name).take k)) (fun (⟨k,b⟩:Nat×Bool)=>l.length - k) ?round4 ((0,false)) ?J04) sH sH
 case J04=>exact (⟨Nat.zero_le _,rfl⟩)
 rintro ⟨k,b⟩ hJ back
 try dsimp only at hJ back
 conv=>whnf
 try dsimp only
 refine gS ?_;conv=>whnf
 refine ⟨fun hk=>?_,fun hk=>?_⟩<;>conv=>whnf
 ·have hk:k<l.length:=by omega
  have hk2:k<(l.map It.name).length:=by rw [hn];exact hk
  have e:(l.map It.name)[k]=l[k].name:=List.getElem_map ..
  conv=>whnf
  repeat ((first|refine oL ?_|refine oR ?_);(try intro _);conv=>whnf)
  refine ⟨_,rws_get hk,?_⟩;conv=>whnf
  try (refine oN ?_;conv=>whnf)
  refine RunsS.callV (fun Ez Hz Az Sz K=>itemName_fn l[k]) ?_
  conv=>whnf
  refine gS ?_;conv=>whnf
  by_cases hm:(l.map It.name)[k]∈(l.map It.name).take k
  ·obtain ⟨j,hj⟩:=firsts_old hk2 hm
   rw [e] at hj
   refine RunsS.lookup (some (.int .i64 j)) siU strU intZ hj ?_
   refine gS ?_;conv=>whnf
   repeat ((first|refine oL ?_|refine oR ?_);(try intro _);conv=>whnf)
   refine RunsS.mapEq 1 (firstsK_old hk2 hm).symm ?_;conv=>whnf
   refine RunsS.subR [] (back ((k+1,true)) (by exact (⟨hk,dup_old hk2 hm⟩)) (by (try dsimp only);omega)) sH sH
  have hj:=firsts_new hk2 hm
  rw [e] at hj
  have hs:=firstsK_new hk2 hm
  rw [e] at hs
  refine RunsS.lookup none siU strU intZ hj ?_
  refine gS ?_;conv=>whnf
  refine RunsS.callV (fun Ez Hz Az Sz K=>itemName_fn l[k]) ?_
  conv=>whnf
  refine gS ?_;conv=>whnf
  refine RunsS.insert siU strU hj hs ?_
  refine gS ?_;conv=>whnf
  repeat ((first|refine oL ?_|refine oR ?_);(try intro _);conv=>whnf)
  refine RunsS.subR [] (back ((k+1,b)) (by exact (⟨hk,hJ.2.trans (dup_new hk2 hm)⟩)) (by (try dsimp only);omega)) sH sH
 have hk:k=l.length:=by omega
 have hb:=hJ.2
 rw [hk,←hn,List.take_length] at hb
 clear back hJ
 subst hk hb
 conv=>whnf
 refine RunsS.concM N.gsub 1 (fun r G' h' N' R=>?_)
 conv=>whnf
 refine RunsS.retU ?_
 exact UnwS.ret tab Tryz.func51 rfl (eX (N.trans N') (r) (fun h U=>by unfold firsts;rw [hn];exact R.up U))
theorem collectMachine_fn (l:List Mc):FnX Tryz.prog 53 1 [.buf 0,.v (.func (.func 54) #[] #[])] [(0,.ro 4 (rws Mc.row l))] (fun _ _=>True) (fun (r:Nat) G h=>MapF G h (.map (some r)) .string (firsts (l.map Mc.name)))
  (fun r=>.ret (.tup [.v (.map (some r)),.v (.bool (dupB (l.map Mc.name)))]) 1 []):=by
 have hl:=rws_len Mc.row l
 have hn:(l.map Mc.name).length=l.length:=List.length_map _
 refine FnX.of Tryz.func53 (by kernel_rfl) rfl Tryz.ntmps53 rfl fun E0 F G h N hP w0 cs=>?_
 conv=>whnf
 refine gS ?_;conv=>whnf
 refine RunsS.lenB 0 (fun m0=>?_)
 refine RunsS.makeMap .string ?_
 refine gS ?_;conv=>whnf
 refine RunsS.subR [] (RunsS.loop (fun (⟨k,b⟩:Nat×Bool)=>[(13,.v (.int .i64 k)),(12,.v (.int .i64 (rws Mc.row l).length)),(11,.buf 0),(4,.buf 1),(5,.v (.bool b)),(1,.v (.func (.func 54) #[] #[]))]) (fun (⟨k,b⟩:Nat×Bool)=>[(1,.map .string (firstsK (l.map Mc.name) k)),(0,.ro 4 (rws Mc.row l))]) 2 (fun (⟨k,b⟩:Nat×Bool)=>k≤l.length∧b=dupB ((l.map Mc.name).take k)) (fun (⟨k,b⟩:Nat×Bool)=>l.length - k) ?round7 ((0,false)) ?J07) sH sH
 case J07=>exact (⟨Nat.zero_le _,rfl⟩)
 rintro ⟨k,b⟩ hJ back
 try dsimp only at hJ back
 conv=>whnf
 try dsimp only
 refine gS ?_;conv=>whnf
 refine ⟨fun hk=>?_,fun hk=>?_⟩<;>conv=>whnf
 ·have hk:k<l.length:=by omega
  have hk2:k<(l.map Mc.name).length:=by rw [hn];exact hk
  have e:(l.map Mc.name)[k]=l[k].name:=List.getElem_map ..
  conv=>whnf
  repeat ((first|refine oL ?_|refine oR ?_);(try intro _);conv=>whnf)
  refine ⟨_,rws_get hk,?_⟩;conv=>whnf
  try (refine oN ?_;conv=>whnf)
  refine RunsS.callV (fun Ez Hz Az Sz K=>machineName_fn l[k]) ?_
  conv=>whnf
  refine gS ?_;conv=>whnf
  by_cases hm:(l.map Mc.name)[k]∈(l.map Mc.name).take k
  ·obtain ⟨j,hj⟩:=firsts_old hk2 hm
   rw [e] at hj
   refine RunsS.lookup (some (.int .i64 j)) siU strU intZ hj ?_
   refine gS ?_;conv=>whnf
   repeat ((first|refine oL ?_|refine oR ?_);(try intro _);conv=>whnf)
   refine RunsS.mapEq 1 (firstsK_old hk2 hm).symm ?_;conv=>whnf
   refine RunsS.subR [] (back ((k+1,true)) (by exact (⟨hk,dup_old hk2 hm⟩)) (by (try dsimp only);omega)) sH sH
  have hj:=firsts_new hk2 hm
  rw [e] at hj
  have hs:=firstsK_new hk2 hm
  rw [e] at hs
  refine RunsS.lookup none siU strU intZ hj ?_
  refine gS ?_;conv=>whnf
  refine RunsS.callV (fun Ez Hz Az Sz K=>machineName_fn l[k]) ?_
  conv=>whnf
  refine gS ?_;conv=>whnf
  refine RunsS.insert siU strU hj hs ?_
  refine gS ?_;conv=>whnf
  repeat ((first|refine oL ?_|refine oR ?_);(try intro _);conv=>whnf)
  refine RunsS.subR [] (back ((k+1,b)) (by exact (⟨hk,hJ.2.trans (dup_new hk2 hm)⟩)) (by (try dsimp only);omega)) sH sH
 have hk:k=l.length:=by omega
 have hb:=hJ.2
 rw [hk,←hn,List.take_length] at hb
 clear back hJ
 subst hk hb
 conv=>whnf
 refine RunsS.concM N.gsub 1 (fun r G' h' N' R=>?_)
 conv=>whnf
 refine RunsS.retU ?_
 exact UnwS.ret tab Tryz.func53 rfl (eX (N.trans N') (r) (fun h U=>by unfold firsts;rw [hn];exact R.up U))
theorem collectOption_fn (l:List OpV):FnX Tryz.prog 55 1 [.buf 0,.v (.func (.func 56) #[] #[])] [(0,.ro 2 (rws OpV.row l))] (fun _ _=>True) (fun (r:Nat) G h=>MapF G h (.map (some r)) .string (firsts (l.map OpV.name)))
  (fun r=>.ret (.tup [.v (.map (some r)),.v (.bool (dupB (l.map OpV.name)))]) 1 []):=by
 have hl:=rws_len OpV.row l
 have hn:(l.map OpV.name).length=l.length:=List.length_map _
 refine FnX.of Tryz.func55 (by kernel_rfl) rfl Tryz.ntmps55 rfl fun E0 F G h N hP w0 cs=>?_
 conv=>whnf
 refine gS ?_;conv=>whnf
 refine RunsS.lenB 0 (fun m0=>?_)
 refine RunsS.makeMap .string ?_
 refine gS ?_;conv=>whnf
 refine RunsS.subR [] (RunsS.loop (fun (⟨k,b⟩:Nat×Bool)=>[(13,.v (.int .i64 k)),(12,.v (.int .i64 (rws OpV.row l).length)),(11,.buf 0),(4,.buf 1),(5,.v (.bool b)),(1,.v (.func (.func 56) #[] #[]))]) (fun (⟨k,b⟩:Nat×Bool)=>[(1,.map .string (firstsK (l.map OpV.name) k)),(0,.ro 2 (rws OpV.row l))]) 2 (fun (⟨k,b⟩:Nat×Bool)=>k≤l.length∧b=dupB ((l.map OpV.name).take k)) (fun (⟨k,b⟩:Nat×Bool)=>l.length - k) ?round10 ((0,false)) ?J010) sH sH
 case J010=>exact (⟨Nat.zero_le _,rfl⟩)
 rintro ⟨k,b⟩ hJ back
 try dsimp only at hJ back
 conv=>whnf
 try dsimp only
 refine gS ?_;conv=>whnf
 refine ⟨fun hk=>?_,fun hk=>?_⟩<;>conv=>whnf
 ·have hk:k<l.length:=by omega
  have hk2:k<(l.map OpV.name).length:=by rw [hn];exact hk
  have e:(l.map OpV.name)[k]=l[k].name:=List.getElem_map ..
  conv=>whnf
  repeat ((first|refine oL ?_|refine oR ?_);(try intro _);conv=>whnf)
  refine ⟨_,rws_get hk,?_⟩;conv=>whnf
  try (refine oN ?_;conv=>whnf)
  refine RunsS.callV (fun Ez Hz Az Sz K=>optionName_fn l[k]) ?_
  conv=>whnf
  refine gS ?_;conv=>whnf
  by_cases hm:(l.map OpV.name)[k]∈(l.map OpV.name).take k
  ·obtain ⟨j,hj⟩:=firsts_old hk2 hm
   rw [e] at hj
   refine RunsS.lookup (some (.int .i64 j)) siU strU intZ hj ?_
   refine gS ?_;conv=>whnf
   repeat ((first|refine oL ?_|refine oR ?_);(try intro _);conv=>whnf)
   refine RunsS.mapEq 1 (firstsK_old hk2 hm).symm ?_;conv=>whnf
   refine RunsS.subR [] (back ((k+1,true)) (by exact (⟨hk,dup_old hk2 hm⟩)) (by (try dsimp only);omega)) sH sH
  have hj:=firsts_new hk2 hm
  rw [e] at hj
  have hs:=firstsK_new hk2 hm
  rw [e] at hs
  refine RunsS.lookup none siU strU intZ hj ?_
  refine gS ?_;conv=>whnf
  refine RunsS.callV (fun Ez Hz Az Sz K=>optionName_fn l[k]) ?_
  conv=>whnf
  refine gS ?_;conv=>whnf
  refine RunsS.insert siU strU hj hs ?_
  refine gS ?_;conv=>whnf
  repeat ((first|refine oL ?_|refine oR ?_);(try intro _);conv=>whnf)
  refine RunsS.subR [] (back ((k+1,b)) (by exact (⟨hk,hJ.2.trans (dup_new hk2 hm)⟩)) (by (try dsimp only);omega)) sH sH
 have hk:k=l.length:=by omega
 have hb:=hJ.2
 rw [hk,←hn,List.take_length] at hb
 clear back hJ
 subst hk hb
 conv=>whnf
 refine RunsS.concM N.gsub 1 (fun r G' h' N' R=>?_)
 conv=>whnf
 refine RunsS.retU ?_
 exact UnwS.ret tab Tryz.func55 rfl (eX (N.trans N') (r) (fun h U=>by unfold firsts;rw [hn];exact R.up U))
theorem collectstring_fn (l:List ByteArray):FnX Tryz.prog 52 1 [.buf 0,.v (.func (.func 47) #[] #[])] [(0,.ro 1 (rwsB l))] (fun _ _=>True) (fun (r:Nat) G h=>MapF G h (.map (some r)) .string (firsts l))
  (fun r=>.ret (.tup [.v (.map (some r)),.v (.bool (dupB l))]) 1 []):=by
 have hl:=rwsB_len l
 have hn:l.length=l.length:=rfl
 refine FnX.of Tryz.func52 (by kernel_rfl) rfl Tryz.ntmps52 rfl fun E0 F G h N hP w0 cs=>?_
 conv=>whnf
 refine gS ?_;conv=>whnf
 refine RunsS.lenB 0 (fun m0=>?_)
 refine RunsS.makeMap .string ?_
 refine gS ?_;conv=>whnf
 refine RunsS.subR [] (RunsS.loop (fun (⟨k,b⟩:Nat×Bool)=>[(13,.v (.int .i64 k)),(12,.v (.int .i64 (rwsB l).length)),(11,.buf 0),(4,.buf 1),(5,.v (.bool b)),(1,.v (.func (.func 47) #[] #[]))]) (fun (⟨k,b⟩:Nat×Bool)=>[(1,.map .string (firstsK l k)),(0,.ro 1 (rwsB l))]) 2 (fun (⟨k,b⟩:Nat×Bool)=>k≤l.length∧b=dupB (l.take k)) (fun (⟨k,b⟩:Nat×Bool)=>l.length - k) ?round13 ((0,false)) ?J013) sH sH
 case J013=>exact (⟨Nat.zero_le _,rfl⟩)
 rintro ⟨k,b⟩ hJ back
 try dsimp only at hJ back
 conv=>whnf
 try dsimp only
 refine gS ?_;conv=>whnf
 refine ⟨fun hk=>?_,fun hk=>?_⟩<;>conv=>whnf
 ·have hk:k<l.length:=by omega
  have hk2:k<l.length:=by rw [hn];exact hk
  have e:l[k]=l[k]:=rfl
  conv=>whnf
  repeat ((first|refine oL ?_|refine oR ?_);(try intro _);conv=>whnf)
  refine ⟨_,rws_get hk,?_⟩;conv=>whnf
  refine RunsS.callV (fun Ez Hz Az Sz K=>itself_fn l[k]) ?_
  conv=>whnf
  refine gS ?_;conv=>whnf
  by_cases hm:l[k]∈l.take k
  ·obtain ⟨j,hj⟩:=firsts_old hk2 hm
   rw [e] at hj
   refine RunsS.lookup (some (.int .i64 j)) siU strU intZ hj ?_
   refine gS ?_;conv=>whnf
   repeat ((first|refine oL ?_|refine oR ?_);(try intro _);conv=>whnf)
   refine RunsS.mapEq 1 (firstsK_old hk2 hm).symm ?_;conv=>whnf
   refine RunsS.subR [] (back ((k+1,true)) (by exact (⟨hk,dup_old hk2 hm⟩)) (by (try dsimp only);omega)) sH sH
  have hj:=firsts_new hk2 hm
  rw [e] at hj
  have hs:=firstsK_new hk2 hm
  rw [e] at hs
  refine RunsS.lookup none siU strU intZ hj ?_
  refine gS ?_;conv=>whnf
  refine RunsS.callV (fun Ez Hz Az Sz K=>itself_fn l[k]) ?_
  conv=>whnf
  refine gS ?_;conv=>whnf
  refine RunsS.insert siU strU hj hs ?_
  refine gS ?_;conv=>whnf
  repeat ((first|refine oL ?_|refine oR ?_);(try intro _);conv=>whnf)
  refine RunsS.subR [] (back ((k+1,b)) (by exact (⟨hk,hJ.2.trans (dup_new hk2 hm)⟩)) (by (try dsimp only);omega)) sH sH
 have hk:k=l.length:=by omega
 have hb:=hJ.2
 rw [hk,←hn,List.take_length] at hb
 clear back hJ
 subst hk hb
 conv=>whnf
 refine RunsS.concM N.gsub 1 (fun r G' h' N' R=>?_)
 conv=>whnf
 refine RunsS.retU ?_
 exact UnwS.ret tab Tryz.func52 rfl (eX (N.trans N') (r) (fun h U=>by unfold firsts;rw [hn];exact R.up U))
def failCh:List PanicEntry:=[{v:=.iface 161 (.agg #[]),recovered:=false}]
theorem find_fn {h:Array Obj} {v:Value} {l:List ByteArray} (hv:MapF (fun k=>k<h.size) h v .string (firsts l)) (nm:ByteArray):FnO Tryz.prog failCh 68 #[v,.string nm] h (intO (findN l nm)):=by
 have hg:=firsts_all (l:=l) nm
 refine Fn.ofS (args:=[v,.string nm]) Tryz.func68 (by kernel_rfl) rfl Tryz.ntmps68 rfl fun w0 cs=>?_
 conv=>whnf
 refine gS ?_;conv=>whnf
 cases hf:findN l nm with
 |some k=>
  rw [hf] at hg
  refine RunsS.lookupF hv (some (.int .i64 k)) siU strU intZ hg ?_
  refine gS ?_;conv=>whnf
  refine RunsS.retU (UnwS.ret tab Tryz.func68 rfl fun Ez Hz Az Sz K=>⟨rfl,K.keeps⟩)
 |none=>
  rw [hf] at hg
  refine RunsS.lookupF hv none siU strU intZ hg ?_
  refine gS ?_;conv=>whnf
  refine RunsS.build0 ?_
  refine gS ?_;conv=>whnf
  refine RunsS.iface0 ?_ failU
  refine gS ?_;conv=>whnf
  refine RunsS.panicX (v:=.agg #[]) ?_ (fun E=>rfl)
  refine UnwS.pan Tryz.func68 fun Ez Hz Az Sz K=>⟨rfl,K.keeps⟩
end Go.Proofs.YtofjdbmcloemnaaGreatDoor

namespace Go.Proofs.YtofjdbmcloemnaaGreatDoor
open Go Go.Fw Go.NatM Go.RatM Go.SrcM
set_option maxRecDepth 100000
set_option maxHeartbeats 99999999
theorem cloneIt_fn (rows:List (List Value)) (hb:rows.length≤1000000):FnS Tryz.prog 105 1 [.buf 0] [(0,.ro 6 rows)] (fun _:Unit=>True) (fun _=>.ret (.buf 1) 2 [(1,.own 41 6 rows)]):=by
 refine FnS.of Tryz.func105 (by kernel_rfl) rfl Tryz.ntmps105 rfl fun E0 F h w0 cs=>?_
 conv=>whnf
 refine gS ?_;conv=>whnf
 refine RunsS.isNil tab (k:=3) (fun hr=>?_) ?_ rfl<;>conv=>whnf
 ·refine gS ?_
  conv=>whnf
  refine RunsS.subR (nx':=1) (l':=[(2,.v (.slice none 0 0))]) (H':=[(0,.ro 6 rows)]) [] ?_ sH sH
  refine RunsS.nilOwn (l':=[(2,.buf 1)]) (H':=[(0,.ro 6 rows)]) 41 6 ?_ (by rfl) (by rfl) (by rfl)
  refine RunsS.rowsEq 1 hr.symm ?_;conv=>whnf
  refine RunsS.retU ?_
  exact UnwS.ret tab Tryz.func105 rfl (eN () trivial)
 refine gS ?_;conv=>whnf
 refine And.intro (appOb2 (show 0+rows.length≤1000000 by omega)) ?_
 conv=>whnf
 refine gS ?_;conv=>whnf
 refine RunsS.retU ?_
 exact UnwS.ret tab Tryz.func105 rfl (EndS.mk (()) (trivial) [(1,2)] sH rfl rfl (okRet rfl rfl))
theorem cloneMc_fn (rows:List (List Value)) (hb:rows.length≤1000000):FnS Tryz.prog 106 1 [.buf 0] [(0,.ro 4 rows)] (fun _:Unit=>True) (fun _=>.ret (.buf 1) 2 [(1,.own 43 4 rows)]):=by
 refine FnS.of Tryz.func106 (by kernel_rfl) rfl Tryz.ntmps106 rfl fun E0 F h w0 cs=>?_
 conv=>whnf
 refine gS ?_;conv=>whnf
 refine RunsS.isNil tab (k:=3) (fun hr=>?_) ?_ rfl<;>conv=>whnf
 ·refine gS ?_
  conv=>whnf
  refine RunsS.subR (nx':=1) (l':=[(2,.v (.slice none 0 0))]) (H':=[(0,.ro 4 rows)]) [] ?_ sH sH
  refine RunsS.nilOwn (l':=[(2,.buf 1)]) (H':=[(0,.ro 4 rows)]) 43 4 ?_ (by rfl) (by rfl) (by rfl)
  refine RunsS.rowsEq 1 hr.symm ?_;conv=>whnf
  refine RunsS.retU ?_
  exact UnwS.ret tab Tryz.func106 rfl (eN () trivial)
 refine gS ?_;conv=>whnf
 refine And.intro (appOb2 (show 0+rows.length≤1000000 by omega)) ?_
 conv=>whnf
 refine gS ?_;conv=>whnf
 refine RunsS.retU ?_
 exact UnwS.ret tab Tryz.func106 rfl (EndS.mk (()) (trivial) [(1,2)] sH rfl rfl (okRet rfl rfl))
theorem cloneOp_fn (rows:List (List Value)) (hb:rows.length≤1000000):FnS Tryz.prog 107 1 [.buf 0] [(0,.ro 2 rows)] (fun _:Unit=>True) (fun _=>.ret (.buf 1) 2 [(1,.own 61 2 rows)]):=by
 refine FnS.of Tryz.func107 (by kernel_rfl) rfl Tryz.ntmps107 rfl fun E0 F h w0 cs=>?_
 conv=>whnf
 refine gS ?_;conv=>whnf
 refine RunsS.isNil tab (k:=3) (fun hr=>?_) ?_ rfl<;>conv=>whnf
 ·refine gS ?_
  conv=>whnf
  refine RunsS.subR (nx':=1) (l':=[(2,.v (.slice none 0 0))]) (H':=[(0,.ro 2 rows)]) [] ?_ sH sH
  refine RunsS.nilOwn (l':=[(2,.buf 1)]) (H':=[(0,.ro 2 rows)]) 61 2 ?_ (by rfl) (by rfl) (by rfl)
  refine RunsS.rowsEq 1 hr.symm ?_;conv=>whnf
  refine RunsS.retU ?_
  exact UnwS.ret tab Tryz.func107 rfl (eN () trivial)
 refine gS ?_;conv=>whnf
 refine And.intro (appOb2 (show 0+rows.length≤1000000 by omega)) ?_
 conv=>whnf
 refine gS ?_;conv=>whnf
 refine RunsS.retU ?_
 exact UnwS.ret tab Tryz.func107 rfl (EndS.mk (()) (trivial) [(1,2)] sH rfl rfl (okRet rfl rfl))
theorem cloneFb_fn (rows:List (List Value)) (hb:rows.length≤1000000):FnS Tryz.prog 108 1 [.buf 0] [(0,.ro 1 rows)] (fun _:Unit=>True) (fun _=>.ret (.buf 1) 2 [(1,.own 45 1 rows)]):=by
 refine FnS.of Tryz.func108 (by kernel_rfl) rfl Tryz.ntmps108 rfl fun E0 F h w0 cs=>?_
 conv=>whnf
 refine gS ?_;conv=>whnf
 refine RunsS.isNil tab (k:=3) (fun hr=>?_) ?_ rfl<;>conv=>whnf
 ·refine gS ?_
  conv=>whnf
  refine RunsS.subR (nx':=1) (l':=[(2,.v (.slice none 0 0))]) (H':=[(0,.ro 1 rows)]) [] ?_ sH sH
  refine RunsS.nilOwn (l':=[(2,.buf 1)]) (H':=[(0,.ro 1 rows)]) 45 1 ?_ (by rfl) (by rfl) (by rfl)
  refine RunsS.rowsEq 1 hr.symm ?_;conv=>whnf
  refine RunsS.retU ?_
  exact UnwS.ret tab Tryz.func108 rfl (eN () trivial)
 refine gS ?_;conv=>whnf
 refine And.intro (appOb2 (show 0+rows.length≤1000000 by omega)) ?_
 conv=>whnf
 refine gS ?_;conv=>whnf
 refine RunsS.retU ?_
 exact UnwS.ret tab Tryz.func108 rfl (EndS.mk (()) (trivial) [(1,2)] sH rfl rfl (okRet rfl rfl))
theorem cloneRc_fn (rows:List (List Value)) (hb:rows.length≤1000000):FnS Tryz.prog 111 1 [.buf 0] [(0,.ro 17 rows)] (fun _:Unit=>True) (fun _=>.ret (.buf 1) 2 [(1,.own 49 17 rows)]):=by
 refine FnS.of Tryz.func111 (by kernel_rfl) rfl Tryz.ntmps111 rfl fun E0 F h w0 cs=>?_
 conv=>whnf
 refine gS ?_;conv=>whnf
 refine RunsS.isNil tab (k:=3) (fun hr=>?_) ?_ rfl<;>conv=>whnf
 ·refine gS ?_
  conv=>whnf
  refine RunsS.subR (nx':=1) (l':=[(2,.v (.slice none 0 0))]) (H':=[(0,.ro 17 rows)]) [] ?_ sH sH
  refine RunsS.nilOwn (l':=[(2,.buf 1)]) (H':=[(0,.ro 17 rows)]) 49 17 ?_ (by rfl) (by rfl) (by rfl)
  refine RunsS.rowsEq 1 hr.symm ?_;conv=>whnf
  refine RunsS.retU ?_
  exact UnwS.ret tab Tryz.func111 rfl (eN () trivial)
 refine gS ?_;conv=>whnf
 refine And.intro (appOb2 (show 0+rows.length≤1000000 by omega)) ?_
 conv=>whnf
 refine gS ?_;conv=>whnf
 refine RunsS.retU ?_
 exact UnwS.ret tab Tryz.func111 rfl (EndS.mk (()) (trivial) [(1,2)] sH rfl rfl (okRet rfl rfl))
theorem cloneRn_fn (rows:List (List Value)) (hb:rows.length≤1000000):FnS Tryz.prog 114 1 [.buf 0] [(0,.ro 3 rows)] (fun _:Unit=>True) (fun _=>.ret (.buf 1) 2 [(1,.own 52 3 rows)]):=by
 refine FnS.of Tryz.func114 (by kernel_rfl) rfl Tryz.ntmps114 rfl fun E0 F h w0 cs=>?_
 conv=>whnf
 refine gS ?_;conv=>whnf
 refine RunsS.isNil tab (k:=3) (fun hr=>?_) ?_ rfl<;>conv=>whnf
 ·refine gS ?_
  conv=>whnf
  refine RunsS.subR (nx':=1) (l':=[(2,.v (.slice none 0 0))]) (H':=[(0,.ro 3 rows)]) [] ?_ sH sH
  refine RunsS.nilOwn (l':=[(2,.buf 1)]) (H':=[(0,.ro 3 rows)]) 52 3 ?_ (by rfl) (by rfl) (by rfl)
  refine RunsS.rowsEq 1 hr.symm ?_;conv=>whnf
  refine RunsS.retU ?_
  exact UnwS.ret tab Tryz.func114 rfl (eN () trivial)
 refine gS ?_;conv=>whnf
 refine And.intro (appOb2 (show 0+rows.length≤1000000 by omega)) ?_
 conv=>whnf
 refine gS ?_;conv=>whnf
 refine RunsS.retU ?_
 exact UnwS.ret tab Tryz.func114 rfl (EndS.mk (()) (trivial) [(1,2)] sH rfl rfl (okRet rfl rfl))
theorem cloneSw_fn (rows:List (List Value)) (hb:rows.length≤1000000):FnS Tryz.prog 115 1 [.buf 0] [(0,.ro 4 rows)] (fun _:Unit=>True) (fun _=>.ret (.buf 1) 2 [(1,.own 54 4 rows)]):=by
 refine FnS.of Tryz.func115 (by kernel_rfl) rfl Tryz.ntmps115 rfl fun E0 F h w0 cs=>?_
 conv=>whnf
 refine gS ?_;conv=>whnf
 refine RunsS.isNil tab (k:=3) (fun hr=>?_) ?_ rfl<;>conv=>whnf
 ·refine gS ?_
  conv=>whnf
  refine RunsS.subR (nx':=1) (l':=[(2,.v (.slice none 0 0))]) (H':=[(0,.ro 4 rows)]) [] ?_ sH sH
  refine RunsS.nilOwn (l':=[(2,.buf 1)]) (H':=[(0,.ro 4 rows)]) 54 4 ?_ (by rfl) (by rfl) (by rfl)
  refine RunsS.rowsEq 1 hr.symm ?_;conv=>whnf
  refine RunsS.retU ?_
  exact UnwS.ret tab Tryz.func115 rfl (eN () trivial)
 refine gS ?_;conv=>whnf
 refine And.intro (appOb2 (show 0+rows.length≤1000000 by omega)) ?_
 conv=>whnf
 refine gS ?_;conv=>whnf
 refine RunsS.retU ?_
 exact UnwS.ret tab Tryz.func115 rfl (EndS.mk (()) (trivial) [(1,2)] sH rfl rfl (okRet rfl rfl))
theorem cloneCd_fn (rows:List (List Value)) (hb:rows.length≤1000000):FnS Tryz.prog 128 1 [.buf 0] [(0,.ro 4 rows)] (fun _:Unit=>True) (fun _=>.ret (.buf 1) 2 [(1,.own 64 4 rows)]):=by
 refine FnS.of Tryz.func128 (by kernel_rfl) rfl Tryz.ntmps128 rfl fun E0 F h w0 cs=>?_
 conv=>whnf
 refine gS ?_;conv=>whnf
 refine RunsS.isNil tab (k:=3) (fun hr=>?_) ?_ rfl<;>conv=>whnf
 ·refine gS ?_
  conv=>whnf
  refine RunsS.subR (nx':=1) (l':=[(2,.v (.slice none 0 0))]) (H':=[(0,.ro 4 rows)]) [] ?_ sH sH
  refine RunsS.nilOwn (l':=[(2,.buf 1)]) (H':=[(0,.ro 4 rows)]) 64 4 ?_ (by rfl) (by rfl) (by rfl)
  refine RunsS.rowsEq 1 hr.symm ?_;conv=>whnf
  refine RunsS.retU ?_
  exact UnwS.ret tab Tryz.func128 rfl (eN () trivial)
 refine gS ?_;conv=>whnf
 refine And.intro (appOb2 (show 0+rows.length≤1000000 by omega)) ?_
 conv=>whnf
 refine gS ?_;conv=>whnf
 refine RunsS.retU ?_
 exact UnwS.ret tab Tryz.func128 rfl (EndS.mk (()) (trivial) [(1,2)] sH rfl rfl (okRet rfl rfl))
theorem cloneAm_fn (rows:List (List Value)) (hb:rows.length≤1000000):FnS Tryz.prog 129 1 [.buf 0] [(0,.ro 7 rows)] (fun _:Unit=>True) (fun _=>.ret (.buf 1) 2 [(1,.own 71 7 rows)]):=by
 refine FnS.of Tryz.func129 (by kernel_rfl) rfl Tryz.ntmps129 rfl fun E0 F h w0 cs=>?_
 conv=>whnf
 refine gS ?_;conv=>whnf
 refine RunsS.isNil tab (k:=3) (fun hr=>?_) ?_ rfl<;>conv=>whnf
 ·refine gS ?_
  conv=>whnf
  refine RunsS.subR (nx':=1) (l':=[(2,.v (.slice none 0 0))]) (H':=[(0,.ro 7 rows)]) [] ?_ sH sH
  refine RunsS.nilOwn (l':=[(2,.buf 1)]) (H':=[(0,.ro 7 rows)]) 71 7 ?_ (by rfl) (by rfl) (by rfl)
  refine RunsS.rowsEq 1 hr.symm ?_;conv=>whnf
  refine RunsS.retU ?_
  exact UnwS.ret tab Tryz.func129 rfl (eN () trivial)
 refine gS ?_;conv=>whnf
 refine And.intro (appOb2 (show 0+rows.length≤1000000 by omega)) ?_
 conv=>whnf
 refine gS ?_;conv=>whnf
 refine RunsS.retU ?_
 exact UnwS.ret tab Tryz.func129 rfl (EndS.mk (()) (trivial) [(1,2)] sH rfl rfl (okRet rfl rfl))
theorem cloneSt_fn (rows:List (List Value)) (hb:rows.length≤1000000):FnS Tryz.prog 69 1 [.buf 0] [(0,.ro 1 rows)] (fun _:Unit=>True) (fun _=>.ret (.buf 1) 2 [(1,.own 9 1 rows)]):=by
 refine FnS.of Tryz.func69 (by kernel_rfl) rfl Tryz.ntmps69 rfl fun E0 F h w0 cs=>?_
 conv=>whnf
 refine gS ?_;conv=>whnf
 refine RunsS.isNil tab (k:=3) (fun hr=>?_) ?_ rfl<;>conv=>whnf
 ·refine gS ?_
  conv=>whnf
  refine RunsS.subR (nx':=1) (l':=[(2,.v (.slice none 0 0))]) (H':=[(0,.ro 1 rows)]) [] ?_ sH sH
  refine RunsS.nilOwn (l':=[(2,.buf 1)]) (H':=[(0,.ro 1 rows)]) 9 1 ?_ (by rfl) (by rfl) (by rfl)
  refine RunsS.rowsEq 1 hr.symm ?_;conv=>whnf
  refine RunsS.retU ?_
  exact UnwS.ret tab Tryz.func69 rfl (eN () trivial)
 refine gS ?_;conv=>whnf
 refine And.intro (appOb2 (show 0+rows.length≤1000000 by omega)) ?_
 conv=>whnf
 refine gS ?_;conv=>whnf
 refine RunsS.retU ?_
 exact UnwS.ret tab Tryz.func69 rfl (EndS.mk (()) (trivial) [(1,2)] sH rfl rfl (okRet rfl rfl))
structure ResF (G:Nat→Prop) (h:Array Obj) (s:SrcV) (mU mI mP mM mO vC:Value):Prop where
 u:MapF G h mU .string (firsts (s.units.map Un.name))
 i:MapF G h mI .string (firsts (s.items.map It.name))
 p:MapF G h mP .string (firsts s.plants)
 m:MapF G h mM .string (firsts (s.machines.map Mc.name))
 o:MapF G h mO .string (firsts (s.options.map OpV.name))
 c:∃ms:List Value,RoF G h vC 1 (ms.map fun m=>[m])∧ms.length=s.options.length ∧ ∀k (h1:k<ms.length) (h2:k<s.options.length),MapF G h ms[k] .string (firsts s.options[k].ch)
theorem ResF.up {G G':Nat→Prop} {h h':Array Obj} {s:SrcV} {mU mI mP mM mO vC:Value} (H:ResF G h s mU mI mP mM mO vC) (U:Up G h G' h'):ResF G' h' s mU mI mP mM mO vC:=by
 obtain ⟨ms,c1,c2,c3⟩:=H.c
 exact ⟨H.u.up U,H.i.up U,H.p.up U,H.m.up U,H.o.up U,ms,RoF.up U c1,c2,fun k h1 h2=>(c3 k h1 h2).up U⟩
theorem ResF.tok (s:SrcV) (mU mI mP mM mO vC:Value):TOk (fun F h=>ResF F h s mU mI mP mM mO vC):=⟨fun _ _ _ hs H=>H.up ⟨hs,fun _ _=>rfl⟩,fun _ _ _ H K=>H.up ⟨fun _ x=>x,K.same⟩⟩
abbrev rsvC (b:Nat) (mU mI mP mM mO vC:Value):Nat×Fw.Blk:=(b,.cells 75 [.v mU,.v mI,.v mP,.v mM,.v mO,.v vC])
theorem find_some {h:Array Obj} {v:Value} {l:List ByteArray} (hv:MapF (fun k=>k<h.size) h v .string (firsts l)) {nm:ByteArray} {k:Nat} (hf:findN l nm=some k):FnO Tryz.prog failCh 68 #[v,.string nm] h (some (.int .i64 k)):=by
 have:=find_fn hv nm
 rw [hf] at this
 exact this
theorem find_no {h:Array Obj} {v:Value} {l:List ByteArray} (hv:MapF (fun k=>k<h.size) h v .string (firsts l)) {nm:ByteArray} (hf:findN l nm=none):FnO Tryz.prog failCh 68 #[v,.string nm] h none:=by
 have:=find_fn hv nm
 rw [hf] at this
 exact this
section
variable {s:SrcV} {mU mI mP mM mO vC:Value}
abbrev ResT (s:SrcV) (mU mI mP mM mO vC:Value) (F:Nat→Prop) (h:Array Obj):Prop:=ResF F h s mU mI mP mM mO vC
abbrev clOut (e sz:Nat) (rows:List (List Value)) (k:Nat) (mU mI mP mM mO vC:Value):Option (List Value)→OutS
 |some r=>.ret (.tup []) 2 [(0,.own e sz (rows.set k r)),rsvC 1 mU mI mP mM mO vC]
 |none=>.pan failCh 2 [(0,.own e sz rows),rsvC 1 mU mI mP mM mO vC]
theorem clIt_fn (rows:List (List Value)) (k:Nat) (i:It) (hrow:rows[k]? = some i.row):FnT Tryz.prog (ResT s mU mI mP mM mO vC) 67 2 [.row 0 k 0 6,.ptr 1 0] [(0,.own 41 6 rows),rsvC 1 mU mI mP mM mO vC] (fun x=>x=(resIt s i).map It.row) (clOut 41 6 rows k mU mI mP mM mO vC):=by
 have hr':rows[((k:Nat):Int).toNat]? = some i.row:=hrow
 refine FnT.of Tryz.func67 (by kernel_rfl) rfl Tryz.ntmps67 rfl fun E0 F h hT w0 cs=>?_
 conv=>whnf
 refine gS ?_;conv=>whnf
 refine RunsS.held tab (.fl 0 (.fl 1 (.fl 2 (.fl 3 (.fl 4 (.fl 5 (.fl 6 (.e1 7 [] (.fl 8 (.fl 9 (.e1 10 [] .done))))))))))) (by kernel_rfl) ?_;conv=>whnf
 try refine gR ?_;conv=>whnf
 conv=>whnf
 refine ⟨_,hr',?_⟩;conv=>whnf
 conv=>whnf
 cases hf:findN (s.units.map Un.name) i.unit with
 |none=>
  refine EffR.callF (fun Ez Hz Az Sz K=>find_no (hT.u.up (Up.kp K)) hf) (by (conv=>whnf);(repeat (guard_target=_∧_;refine And.intro (by (conv=>whnf);first|rfl|exact trivial) ?_;conv=>whnf));exact trivial) ?_
  exact UnwS.pan Tryz.func67 (EndS.mk (none) ((by unfold resIt;rw [hf];rfl)) [] sH rfl rfl (okPan rfl))
 |some u=>
  refine EffR.callS (fun Ez Hz Az Sz K=>find_some (hT.u.up (Up.kp K)) hf) (by (conv=>whnf);(repeat (guard_target=_∧_;refine And.intro (by (conv=>whnf);first|rfl|exact trivial) ?_;conv=>whnf));exact trivial) ?_
  conv=>whnf
  try refine gR ?_;conv=>whnf
  conv=>whnf
  refine EffR.rput tab (_) (hr') ?_;conv=>whnf
  try refine oB ?_
  try refine gR ?_;conv=>whnf
  refine gS ?_;conv=>whnf
  refine RunsS.finU ?_
  exact UnwS.ret tab Tryz.func67 rfl (EndS.mk (some (It.row {i with un:=(u:Nat)})) ((by unfold resIt;rw [hf];rfl)) [] sH rfl rfl (okRet rfl rfl))
theorem clMc_fn (rows:List (List Value)) (k:Nat) (i:Mc) (hrow:rows[k]? = some i.row):FnT Tryz.prog (ResT s mU mI mP mM mO vC) 71 2 [.row 0 k 0 4,.ptr 1 0] [(0,.own 43 4 rows),rsvC 1 mU mI mP mM mO vC] (fun x=>x=(resMc s i).map Mc.row) (clOut 43 4 rows k mU mI mP mM mO vC):=by
 have hr':rows[((k:Nat):Int).toNat]? = some i.row:=hrow
 refine FnT.of Tryz.func71 (by kernel_rfl) rfl Tryz.ntmps71 rfl fun E0 F h hT w0 cs=>?_
 conv=>whnf
 refine gS ?_;conv=>whnf
 refine RunsS.held tab (.fl 0 (.fl 1 (.fl 2 (.fl 3 (.fl 4 (.fl 5 (.fl 6 (.e1 7 [] (.fl 8 (.fl 9 (.e1 10 [] .done))))))))))) (by kernel_rfl) ?_;conv=>whnf
 try refine gR ?_;conv=>whnf
 conv=>whnf
 refine ⟨_,hr',?_⟩;conv=>whnf
 conv=>whnf
 cases hf:findN (s.plants) i.plant with
 |none=>
  refine EffR.callF (fun Ez Hz Az Sz K=>find_no (hT.p.up (Up.kp K)) hf) (by (conv=>whnf);(repeat (guard_target=_∧_;refine And.intro (by (conv=>whnf);first|rfl|exact trivial) ?_;conv=>whnf));exact trivial) ?_
  exact UnwS.pan Tryz.func71 (EndS.mk (none) ((by unfold resMc;rw [hf];rfl)) [] sH rfl rfl (okPan rfl))
 |some u=>
  refine EffR.callS (fun Ez Hz Az Sz K=>find_some (hT.p.up (Up.kp K)) hf) (by (conv=>whnf);(repeat (guard_target=_∧_;refine And.intro (by (conv=>whnf);first|rfl|exact trivial) ?_;conv=>whnf));exact trivial) ?_
  conv=>whnf
  try refine gR ?_;conv=>whnf
  conv=>whnf
  refine EffR.rput tab (_) (hr') ?_;conv=>whnf
  try refine oB ?_
  try refine gR ?_;conv=>whnf
  refine gS ?_;conv=>whnf
  refine RunsS.finU ?_
  exact UnwS.ret tab Tryz.func71 rfl (EndS.mk (some (Mc.row {i with pn:=(u:Nat)})) ((by unfold resMc;rw [hf];rfl)) [] sH rfl rfl (okRet rfl rfl))
theorem clRn_fn (rows:List (List Value)) (k:Nat) (i:Rn) (hrow:rows[k]? = some i.row):FnT Tryz.prog (ResT s mU mI mP mM mO vC) 81 2 [.row 0 k 0 3,.ptr 1 0] [(0,.own 52 3 rows),rsvC 1 mU mI mP mM mO vC] (fun x=>x=(resRn s i).map Rn.row) (clOut 52 3 rows k mU mI mP mM mO vC):=by
 have hr':rows[((k:Nat):Int).toNat]? = some i.row:=hrow
 refine FnT.of Tryz.func81 (by kernel_rfl) rfl Tryz.ntmps81 rfl fun E0 F h hT w0 cs=>?_
 conv=>whnf
 refine gS ?_;conv=>whnf
 refine RunsS.held tab (.fl 0 (.fl 1 (.fl 2 (.fl 3 (.fl 4 (.fl 5 (.fl 6 (.e1 7 [] (.fl 8 (.fl 9 (.e1 10 [] .done))))))))))) (by kernel_rfl) ?_;conv=>whnf
 try refine gR ?_;conv=>whnf
 conv=>whnf
 refine ⟨_,hr',?_⟩;conv=>whnf
 conv=>whnf
 cases hf:findN (s.machines.map Mc.name) i.mach with
 |none=>
  refine EffR.callF (fun Ez Hz Az Sz K=>find_no (hT.m.up (Up.kp K)) hf) (by (conv=>whnf);(repeat (guard_target=_∧_;refine And.intro (by (conv=>whnf);first|rfl|exact trivial) ?_;conv=>whnf));exact trivial) ?_
  exact UnwS.pan Tryz.func81 (EndS.mk (none) ((by unfold resRn;rw [hf];rfl)) [] sH rfl rfl (okPan rfl))
 |some u=>
  refine EffR.callS (fun Ez Hz Az Sz K=>find_some (hT.m.up (Up.kp K)) hf) (by (conv=>whnf);(repeat (guard_target=_∧_;refine And.intro (by (conv=>whnf);first|rfl|exact trivial) ?_;conv=>whnf));exact trivial) ?_
  conv=>whnf
  try refine gR ?_;conv=>whnf
  conv=>whnf
  refine EffR.rput tab (_) (hr') ?_;conv=>whnf
  try refine oB ?_
  try refine gR ?_;conv=>whnf
  refine gS ?_;conv=>whnf
  refine RunsS.finU ?_
  exact UnwS.ret tab Tryz.func81 rfl (EndS.mk (some (Rn.row {i with mn:=(u:Nat)})) ((by unfold resRn;rw [hf];rfl)) [] sH rfl rfl (okRet rfl rfl))
end
end Go.Proofs.YtofjdbmcloemnaaGreatDoor

namespace Go.Proofs.YtofjdbmcloemnaaGreatDoor
open Go Go.Fw Go.NatM Go.RatM Go.SrcM
set_option maxRecDepth 100000
set_option maxHeartbeats 99999999
section
variable {s:SrcV} {mU mI mP mM mO vC:Value}
theorem flat1 {α:Type}:∀l:List α,(l.map fun m=>[m]).flatten=l
 | []=>rfl
 |a::l=>congrArg (a :: ·) (flat1 l)
theorem set_at {α:Type} {l:List α} {k:Nat} {a b:α} (h:l[k]? = some a):(l.set k b)[k]? = some b:=by
 rw [List.getElem?_set_self (List.getElem?_eq_some_iff.1 h).1]
theorem clSw_fn (rows:List (List Value)) (k:Nat) (i:Sw) (hrow:rows[k]? = some i.row):FnT Tryz.prog (ResT s mU mI mP mM mO vC) 83 2 [.row 0 k 0 4,.ptr 1 0] [(0,.own 54 4 rows),rsvC 1 mU mI mP mM mO vC] (fun x=>x=(resSw s i).map Sw.row) (clOut 54 4 rows k mU mI mP mM mO vC):=by
 have hr':rows[((k:Nat):Int).toNat]? = some i.row:=hrow
 have hlt:k<rows.length:=(List.getElem?_eq_some_iff.1 hrow).1
 refine FnT.of Tryz.func83 (by kernel_rfl) rfl Tryz.ntmps83 rfl fun E0 F h hT w0 cs=>?_
 conv=>whnf
 refine gS ?_;conv=>whnf
 refine RunsS.held tab (.fl 0 (.fl 1 (.fl 2 (.fl 3 (.fl 4 (.fl 5 (.fl 6 (.fl 7 (.fl 9 (.fl 10 (.fl 11 (.fl 12 (.fl 13 (.fl 14 (.e1 8 [10,14] (.e1 15 [] (.fl 16 (.fl 17 (.e1 18 [] (.fl 19 (.fl 20 (.e1 21 [] .done)))))))))))))))))))))) (by kernel_rfl) ?_;conv=>whnf
 try refine gR ?_;conv=>whnf
 conv=>whnf
 refine ⟨_,hr',?_⟩;conv=>whnf
 conv=>whnf
 refine ⟨_,hr',?_⟩;conv=>whnf
 conv=>whnf
 cases hf:findN (s.items.map It.name) i.a with
 |none=>
  refine EffR.callF (fun Ez Hz Az Sz K=>find_no (hT.i.up (Up.kp K)) hf) (by (conv=>whnf);(repeat (guard_target=_∧_;refine And.intro (by (conv=>whnf);first|rfl|exact trivial) ?_;conv=>whnf));exact trivial) ?_
  exact UnwS.pan Tryz.func83 (EndS.mk (none) ((by unfold resSw;rw [hf];rfl)) [] sH rfl rfl (okPan rfl))
 |some u=>
  refine EffR.callS (fun Ez Hz Az Sz K=>find_some (hT.i.up (Up.kp K)) hf) (by (conv=>whnf);(repeat (guard_target=_∧_;refine And.intro (by (conv=>whnf);first|rfl|exact trivial) ?_;conv=>whnf));exact trivial) ?_
  conv=>whnf
  try refine gR ?_;conv=>whnf
  conv=>whnf
  cases hg:findN (s.items.map It.name) i.b with
  |none=>
   refine EffR.callF (fun Ez Hz Az Sz K=>find_no (hT.i.up (Up.kp K)) hg) (by (conv=>whnf);(repeat (guard_target=_∧_;refine And.intro (by (conv=>whnf);first|rfl|exact trivial) ?_;conv=>whnf));exact trivial) ?_
   exact UnwS.pan Tryz.func83 (EndS.mk (none) ((by unfold resSw;rw [hf];simp only [hg];rfl)) [] sH rfl rfl (okPan rfl))
  |some v=>
   have hl2:(rows.set ((k:Nat):Int).toNat (splV i.row 2 [.int .i64 u])).length=rows.length:=List.length_set
   refine EffR.callS (fun Ez Hz Az Sz K=>find_some (hT.i.up (Up.kp K)) hg) (by (conv=>whnf);(repeat (guard_target=_∧_;refine And.intro (by (conv=>whnf);first|rfl|exact trivial) ?_;conv=>whnf));exact trivial) ?_
   conv=>whnf
   try refine gR ?_;conv=>whnf
   conv=>whnf
   refine EffR.rput tab (_) (hr') ?_;conv=>whnf
   try refine oB ?_
   try refine gR ?_;conv=>whnf
   conv=>whnf
   refine EffR.rput tab (_) (set_at hr') ?_;conv=>whnf
   try refine oB ?_
   try refine gR ?_;conv=>whnf
   refine gS ?_;conv=>whnf
   refine RunsS.rowsEq 0 (show (rows.set k (splV i.row 2 [.int .i64 u])).set k (splV (splV i.row 2 [.int .i64 u]) 3 [.int .i64 v])=rows.set k (Sw.row {i with an:=(u:Nat),bn:=(v:Nat)}) by rw [List.set_set];rfl) ?_
   conv=>whnf
   refine RunsS.finU ?_
   exact UnwS.ret tab Tryz.func83 rfl (EndS.mk (some (Sw.row {i with an:=(u:Nat),bn:=(v:Nat)})) ((by unfold resSw;rw [hf];simp only [hg];rfl)) [] sH rfl rfl (okRet rfl rfl))
theorem clAm_fn (rows:List (List Value)) (k:Nat) (i:Am) (hrow:rows[k]? = some i.row):FnT Tryz.prog (ResT s mU mI mP mM mO vC) 113 2 [.row 0 k 0 7,.ptr 1 0] [(0,.own 71 7 rows),rsvC 1 mU mI mP mM mO vC] (fun x=>x=(resAm s i).map Am.row) (clOut 71 7 rows k mU mI mP mM mO vC):=by
 have hr':rows[((k:Nat):Int).toNat]? = some i.row:=hrow
 have hlt:k<rows.length:=(List.getElem?_eq_some_iff.1 hrow).1
 refine FnT.of Tryz.func113 (by kernel_rfl) rfl Tryz.ntmps113 rfl fun E0 F h hT w0 cs=>?_
 conv=>whnf
 refine gS ?_;conv=>whnf
 refine RunsS.held tab (.fl 0 (.fl 1 (.fl 2 (.fl 3 (.fl 4 (.fl 5 (.fl 6 (.fl 7 (.fl 9 (.fl 10 (.fl 11 (.fl 12 (.fl 13 (.fl 14 (.e1 8 [10,14] (.e1 15 [] (.fl 16 (.fl 17 (.e1 18 [] (.fl 19 (.fl 20 (.e1 21 [] .done)))))))))))))))))))))) (by kernel_rfl) ?_;conv=>whnf
 try refine gR ?_;conv=>whnf
 conv=>whnf
 refine ⟨_,hr',?_⟩;conv=>whnf
 conv=>whnf
 refine ⟨_,hr',?_⟩;conv=>whnf
 conv=>whnf
 cases hf:findN (s.units.map Un.name) i.unit with
 |none=>
  refine EffR.callF (fun Ez Hz Az Sz K=>find_no (hT.u.up (Up.kp K)) hf) (by (conv=>whnf);(repeat (guard_target=_∧_;refine And.intro (by (conv=>whnf);first|rfl|exact trivial) ?_;conv=>whnf));exact trivial) ?_
  exact UnwS.pan Tryz.func113 (EndS.mk (none) ((by unfold resAm;rw [hf];rfl)) [] sH rfl rfl (okPan rfl))
 |some u=>
  refine EffR.callS (fun Ez Hz Az Sz K=>find_some (hT.u.up (Up.kp K)) hf) (by (conv=>whnf);(repeat (guard_target=_∧_;refine And.intro (by (conv=>whnf);first|rfl|exact trivial) ?_;conv=>whnf));exact trivial) ?_
  conv=>whnf
  try refine gR ?_;conv=>whnf
  conv=>whnf
  cases hg:findN (s.items.map It.name) i.item with
  |none=>
   refine EffR.callF (fun Ez Hz Az Sz K=>find_no (hT.i.up (Up.kp K)) hg) (by (conv=>whnf);(repeat (guard_target=_∧_;refine And.intro (by (conv=>whnf);first|rfl|exact trivial) ?_;conv=>whnf));exact trivial) ?_
   exact UnwS.pan Tryz.func113 (EndS.mk (none) ((by unfold resAm;rw [hf];simp only [hg];rfl)) [] sH rfl rfl (okPan rfl))
  |some v=>
   have hl2:(rows.set ((k:Nat):Int).toNat (splV i.row 5 [.int .i64 u])).length=rows.length:=List.length_set
   refine EffR.callS (fun Ez Hz Az Sz K=>find_some (hT.i.up (Up.kp K)) hg) (by (conv=>whnf);(repeat (guard_target=_∧_;refine And.intro (by (conv=>whnf);first|rfl|exact trivial) ?_;conv=>whnf));exact trivial) ?_
   conv=>whnf
   try refine gR ?_;conv=>whnf
   conv=>whnf
   refine EffR.rput tab (_) (hr') ?_;conv=>whnf
   try refine oB ?_
   try refine gR ?_;conv=>whnf
   conv=>whnf
   refine EffR.rput tab (_) (set_at hr') ?_;conv=>whnf
   try refine oB ?_
   try refine gR ?_;conv=>whnf
   refine gS ?_;conv=>whnf
   refine RunsS.rowsEq 0 (show (rows.set k (splV i.row 5 [.int .i64 u])).set k (splV (splV i.row 5 [.int .i64 u]) 6 [.int .i64 v])=rows.set k (Am.row {i with un:=(u:Nat),inn:=(v:Nat)}) by rw [List.set_set];rfl) ?_
   conv=>whnf
   refine RunsS.finU ?_
   exact UnwS.ret tab Tryz.func113 rfl (EndS.mk (some (Am.row {i with un:=(u:Nat),inn:=(v:Nat)})) ((by unfold resAm;rw [hf];simp only [hg];rfl)) [] sH rfl rfl (okRet rfl rfl))
theorem clCd_fn (rows:List (List Value)) (k:Nat) (i:Cd) (hrow:rows[k]? = some i.row):FnT Tryz.prog (ResT s mU mI mP mM mO vC) 110 2 [.row 0 k 0 4,.ptr 1 0] [(0,.own 64 4 rows),rsvC 1 mU mI mP mM mO vC] (fun (x:Option Cd)=>x=resCd s i)
  (fun x=>match x with
   |some j=>.ret (.tup []) 2 [(0,.own 64 4 (rows.set k j.row)),rsvC 1 mU mI mP mM mO vC]
   |none=>.pan failCh 3 [rsvC 1 mU mI mP mM mO vC]):=by
 have hr':rows[((k:Nat):Int).toNat]? = some i.row:=hrow
 have hlt:k<rows.length:=(List.getElem?_eq_some_iff.1 hrow).1
 refine FnT.of Tryz.func110 (by kernel_rfl) rfl Tryz.ntmps110 rfl fun E0 F h hT w0 cs=>?_
 conv=>whnf
 refine gS ?_;conv=>whnf
 refine RunsS.held tab (.fl 0 (.fl 1 (.fl 2 (.fl 3 (.fl 4 (.fl 5 (.fl 6 (.e1 7 [] (.fl 8 (.fl 9 (.e1 10 [] .done))))))))))) (by kernel_rfl) ?_;conv=>whnf
 try refine gR ?_;conv=>whnf
 conv=>whnf
 refine ⟨_,hr',?_⟩;conv=>whnf
 conv=>whnf
 cases hf:findN (s.options.map OpV.name) i.opt with
 |none=>
  refine EffR.callF (fun Ez Hz Az Sz K=>find_no (hT.o.up (Up.kp K)) hf) (by (conv=>whnf);(repeat (guard_target=_∧_;refine And.intro (by (conv=>whnf);first|rfl|exact trivial) ?_;conv=>whnf));exact trivial) ?_
  exact UnwS.pan Tryz.func110 (EndS.mk (none) ((by unfold resCd;rw [hf])) [] sH rfl rfl (okPan rfl))
 |some u=>
  refine EffR.callS (fun Ez Hz Az Sz K=>find_some (hT.o.up (Up.kp K)) hf) (by (conv=>whnf);(repeat (guard_target=_∧_;refine And.intro (by (conv=>whnf);first|rfl|exact trivial) ?_;conv=>whnf));exact trivial) ?_
  conv=>whnf
  try refine gR ?_;conv=>whnf
  conv=>whnf
  refine EffR.rput tab (_) (hr') ?_;conv=>whnf
  try refine oB ?_
  try refine gR ?_;conv=>whnf
  refine gS ?_;conv=>whnf
  obtain ⟨hu,_,_⟩:=findN_some.1 hf
  rw [List.length_map] at hu
  obtain ⟨ms,⟨c1,c2,a,cap,rfl,c3⟩,c4,c5⟩:=hT.c
  have hms:u<ms.length:=by rw [c4];exact hu
  rcases c3 with c3|⟨g,o,rfl,c6,c7⟩
  ·have h0:ms=[]:=List.map_eq_nil_iff.1 c3
   rw [h0] at hms
   cases hms
  have hcell:cellH h g (o+u)=some ms[u]:=c7 u _ (by rw [flat1];exact List.getElem?_eq_getElem hms)
  have hl3:(ms.map fun m=>[m]).length=ms.length:=List.length_map _
  refine RunsS.held tab (.fl 0 (.fl 1 (.fl 2 (.fl 3 (.fl 4 (.fl 5 (.fl 6 (.fl 7 (.fl 8 (.fl 9 (.fl 10 (.fl 11 (.fl 12 (.e1 13 [] (.fl 14 (.fl 15 (.e1 16 [] .done))))))))))))))))) (by kernel_rfl) ?_;conv=>whnf
  try refine gR ?_;conv=>whnf
  conv=>whnf
  refine ⟨_,(set_at hr'),?_⟩;conv=>whnf
  try (refine oN ?_;conv=>whnf)
  conv=>whnf
  refine ⟨_,⟨c6,hcell⟩,?_⟩;conv=>whnf
  conv=>whnf
  have h2:u<s.options.length:=hu
  refine ⟨_,(set_at hr'),?_⟩;conv=>whnf
  conv=>whnf
  cases hg:findN s.options[u].ch i.ch with
  |none=>
   refine EffR.callF (fun Ez Hz Az Sz K=>find_no ((c5 u hms h2).up (Up.kp K)) hg) (by (conv=>whnf);(repeat (guard_target=_∧_;refine And.intro (by (conv=>whnf);first|rfl|exact trivial) ?_;conv=>whnf));exact trivial) ?_
   exact UnwS.pan Tryz.func110 (EndS.mk (none) ((by unfold resCd;rw [hf];simp only [List.getElem?_eq_getElem h2,hg];rfl)) [] sH rfl rfl (okPan rfl))
  |some v=>
   refine EffR.callS (fun Ez Hz Az Sz K=>find_some ((c5 u hms h2).up (Up.kp K)) hg) (by (conv=>whnf);(repeat (guard_target=_∧_;refine And.intro (by (conv=>whnf);first|rfl|exact trivial) ?_;conv=>whnf));exact trivial) ?_
   conv=>whnf
   try refine gR ?_;conv=>whnf
   conv=>whnf
   refine EffR.rput tab (_) (set_at hr') ?_;conv=>whnf
   try refine oB ?_
   try refine gR ?_;conv=>whnf
   refine gS ?_;conv=>whnf
   refine RunsS.rowsEq 0 (show (rows.set k (splV i.row 2 [.int .i64 u])).set k (splV (splV i.row 2 [.int .i64 u]) 3 [.int .i64 v])=rows.set k (Cd.row {i with on:=(u:Nat),cn:=(v:Nat)}) by rw [List.set_set];rfl) ?_
   conv=>whnf
   refine RunsS.finU ?_
   exact UnwS.ret tab Tryz.func110 rfl (EndS.mk (some {i with on:=(u:Nat),cn:=(v:Nat)}) ((by unfold resCd;rw [hf];simp only [List.getElem?_eq_getElem h2,hg];rfl)) [] sH rfl rfl (okRet rfl rfl))
end
end Go.Proofs.YtofjdbmcloemnaaGreatDoor

namespace Go.Proofs.YtofjdbmcloemnaaGreatDoor
open Go Go.Fw Go.NatM Go.RatM Go.SrcM
set_option maxRecDepth 100000
set_option maxHeartbeats 99999999
section
variable {s:SrcV} {mU mI mP mM mO vC:Value}
abbrev numOut {α:Type} (row:α→List Value) (e sz:Nat) (mU mI mP mM mO vC:Value):Option (List α)→OutS
 |some m=>.ret (.buf 1) 2 [(1,.own e sz (rws row m)),rsvC 0 mU mI mP mM mO vC]
 |none=>.pan failCh 1 [rsvC 0 mU mI mP mM mO vC]
abbrev NumT (v:Value) (sz:Nat) (rows:List (List Value)) (s:SrcV) (mU mI mP mM mO vC:Value) (F:Nat→Prop) (h:Array Obj):Prop:=RoF F h v sz rows∧ResF F h s mU mI mP mM mO vC
theorem NumT.tok (v:Value) (sz:Nat) (rows:List (List Value)) (s:SrcV) (mU mI mP mM mO vC:Value):TOk (NumT v sz rows s mU mI mP mM mO vC):=
 ⟨fun _ _ _ hs H=>⟨RoF.up ⟨hs,fun _ _=>rfl⟩ H.1,H.2.up ⟨hs,fun _ _=>rfl⟩⟩,fun _ _ _ H K=>⟨RoF.up ⟨fun _ x=>x,K.same⟩ H.1,H.2.up ⟨fun _ x=>x,K.same⟩⟩⟩
theorem len_at {α:Type} {f:α→List Value} {g:α→α} {l:List α} {k:Nat} (hk:k<l.length):(rws f (mixN g l k)).length=l.length:=mixN_len (Nat.le_of_lt hk)
theorem mix_next {α:Type} {f:α→List Value} {res:α→Option α} {l:List α} {k:Nat} (hk:k<l.length) {b:α} (hr:res l[k]=some b):(rws f (mixN (fun a=>(res a).getD a) l k)).set k (f b)=rws f (mixN (fun a=>(res a).getD a) l (k+1)):=
 mixN_step hk (show f b=f ((res l[k]).getD l[k]) by rw [hr];rfl)
theorem snoc_all {α:Type} {res:α→Option α} {l:List α} {k:Nat} (hk:k<l.length) {b:α} (hr:res l[k]=some b) (h:∀i (hi:i<l.length),i<k→res l[i]≠none):∀i (hi:i<l.length),i<k+1→res l[i]≠none:=by
 intro i hi h1
 rcases Nat.lt_or_eq_of_le (Nat.le_of_lt_succ h1) with h2|rfl
 ·exact h i hi h2
 rw [hr];exact Option.some_ne_none _
theorem all_done {α:Type} {res:α→Option α} {l:List α} {k:Nat} (h:∀i (hi:i<l.length),i<k→res l[i]≠none) (hk:k=l.length):allO res l=some (l.map fun a=>(res a).getD a):=
 allO_getD (fun i hi=>h i hi (hk▸hi))
theorem numIt_fn (v:Value) (l:List It) (hb:l.length≤1000000):FnT Tryz.prog (NumT v 6 (rws It.row l) s mU mI mP mM mO vC) 66 1 [.v v,.fn (.func 67) [] [.ptr 0 0]] [rsvC 0 mU mI mP mM mO vC] (fun x=>x=allO (resIt s) l) (numOut It.row 41 6 mU mI mP mM mO vC):=by
 have hl:=rws_len It.row l
 refine FnT.of Tryz.func66 (by kernel_rfl) rfl Tryz.ntmps66 rfl fun E0 F h hT w0 cs=>?_
 conv=>whnf
 refine gS ?_;conv=>whnf
 refine RunsS.nameAt (fun _ x=>x) 6 (by exact hT.1) ?_
 conv=>whnf
 refine gS ?_;conv=>whnf
 refine RunsS.callN (cloneIt_fn (rws It.row l) (by omega)) [1] ?_ sH ?CNa1
 case CNa1=>rfl
 intro _ _
 conv=>whnf
 refine gS ?_;conv=>whnf
 refine RunsS.subR [] (RunsS.loop (fun (k:Nat)=>[(10,.v (.int .i64 k)),(9,.v (.int .i64 (rws It.row l).length)),(0,.buf 2),(1,.fn (.func 67) [] [.ptr 0 0])]) (fun (k:Nat)=>[(2,.own 41 6 (rws It.row (mixN (fun a=>(resIt s a).getD a) l k))),rsvC 0 mU mI mP mM mO vC]) 3 (fun (k:Nat)=>k≤l.length ∧ ∀i (hi:i<l.length),i<k→resIt s l[i]≠none) (fun (k:Nat)=>l.length - k) ?round2 (0) ?J02) sH sH
 case J02=>exact (⟨Nat.zero_le _,fun _ _ h=>absurd h (Nat.not_lt_zero _)⟩)
 rintro k hJ back
 conv=>whnf
 refine gS ?_;conv=>whnf
 refine ⟨fun hk=>?_,fun hk=>?_⟩<;>conv=>whnf
 ·have hk:k<l.length:=by omega
  have hm:=len_at (f:=It.row) (g:=fun a=>(resIt s a).getD a) hk
  conv=>whnf
  repeat ((first|refine oL ?_|refine oR ?_);(try intro _);conv=>whnf)
  refine RunsS.callT (ResF.tok s mU mI mP mM mO vC) (hT.2) (clIt_fn _ k l[k] (mixN_get hk)) [2,0] sH ?CNa3 ?_
  case CNa3=>rfl
  rintro x hx
  cases hr:resIt s l[k] with
  |none=>
   rw [hr] at hx
   subst hx
   conv=>whnf
   exact UnwS.pan Tryz.func66 (EndS.mk (none) ((allO_none.2 ⟨l[k],List.getElem_mem hk,hr⟩).symm) [] sH rfl rfl (okPan rfl))
  |some i=>
   rw [hr] at hx
   subst hx
   conv=>whnf
   refine gS ?_;conv=>whnf
   repeat ((first|refine oL ?_|refine oR ?_);(try intro _);conv=>whnf)
   refine RunsS.rowsEq 2 (mix_next (f:=It.row) hk hr) ?_;conv=>whnf
   refine RunsS.subR [] (back (k+1) (by exact (⟨hk,snoc_all hk hr hJ.2⟩)) (by (try dsimp only);omega)) sH sH
 have hk:k=l.length:=by omega
 have h3:=all_done hJ.2 hk
 clear back hJ
 subst hk
 conv=>whnf
 refine RunsS.rowsEq 2 (congrArg (rws It.row) mixN_all) ?_;conv=>whnf
 refine RunsS.retU ?_
 exact UnwS.ret tab Tryz.func66 rfl (EndS.mk (some _) (h3.symm) [(1,2)] sH rfl rfl (okRet rfl rfl))
theorem numMc_fn (v:Value) (l:List Mc) (hb:l.length≤1000000):FnT Tryz.prog (NumT v 4 (rws Mc.row l) s mU mI mP mM mO vC) 70 1 [.v v,.fn (.func 71) [] [.ptr 0 0]] [rsvC 0 mU mI mP mM mO vC] (fun x=>x=allO (resMc s) l) (numOut Mc.row 43 4 mU mI mP mM mO vC):=by
 have hl:=rws_len Mc.row l
 refine FnT.of Tryz.func70 (by kernel_rfl) rfl Tryz.ntmps70 rfl fun E0 F h hT w0 cs=>?_
 conv=>whnf
 refine gS ?_;conv=>whnf
 refine RunsS.nameAt (fun _ x=>x) 6 (by exact hT.1) ?_
 conv=>whnf
 refine gS ?_;conv=>whnf
 refine RunsS.callN (cloneMc_fn (rws Mc.row l) (by omega)) [1] ?_ sH ?CNa5
 case CNa5=>rfl
 intro _ _
 conv=>whnf
 refine gS ?_;conv=>whnf
 refine RunsS.subR [] (RunsS.loop (fun (k:Nat)=>[(10,.v (.int .i64 k)),(9,.v (.int .i64 (rws Mc.row l).length)),(0,.buf 2),(1,.fn (.func 71) [] [.ptr 0 0])]) (fun (k:Nat)=>[(2,.own 43 4 (rws Mc.row (mixN (fun a=>(resMc s a).getD a) l k))),rsvC 0 mU mI mP mM mO vC]) 3 (fun (k:Nat)=>k≤l.length ∧ ∀i (hi:i<l.length),i<k→resMc s l[i]≠none) (fun (k:Nat)=>l.length - k) ?round6 (0) ?J06) sH sH
 case J06=>exact (⟨Nat.zero_le _,fun _ _ h=>absurd h (Nat.not_lt_zero _)⟩)
 rintro k hJ back
 conv=>whnf
 refine gS ?_;conv=>whnf
 refine ⟨fun hk=>?_,fun hk=>?_⟩<;>conv=>whnf
 ·have hk:k<l.length:=by omega
  have hm:=len_at (f:=Mc.row) (g:=fun a=>(resMc s a).getD a) hk
  conv=>whnf
  repeat ((first|refine oL ?_|refine oR ?_);(try intro _);conv=>whnf)
  refine RunsS.callT (ResF.tok s mU mI mP mM mO vC) (hT.2) (clMc_fn _ k l[k] (mixN_get hk)) [2,0] sH ?CNa7 ?_
  case CNa7=>rfl
  rintro x hx
  cases hr:resMc s l[k] with
  |none=>
   rw [hr] at hx
   subst hx
   conv=>whnf
   exact UnwS.pan Tryz.func70 (EndS.mk (none) ((allO_none.2 ⟨l[k],List.getElem_mem hk,hr⟩).symm) [] sH rfl rfl (okPan rfl))
  |some i=>
   rw [hr] at hx
   subst hx
   conv=>whnf
   refine gS ?_;conv=>whnf
   repeat ((first|refine oL ?_|refine oR ?_);(try intro _);conv=>whnf)
   refine RunsS.rowsEq 2 (mix_next (f:=Mc.row) hk hr) ?_;conv=>whnf
   refine RunsS.subR [] (back (k+1) (by exact (⟨hk,snoc_all hk hr hJ.2⟩)) (by (try dsimp only);omega)) sH sH
 have hk:k=l.length:=by omega
 have h3:=all_done hJ.2 hk
 clear back hJ
 subst hk
 conv=>whnf
 refine RunsS.rowsEq 2 (congrArg (rws Mc.row) mixN_all) ?_;conv=>whnf
 refine RunsS.retU ?_
 exact UnwS.ret tab Tryz.func70 rfl (EndS.mk (some _) (h3.symm) [(1,2)] sH rfl rfl (okRet rfl rfl))
theorem numRn_fn (v:Value) (l:List Rn) (hb:l.length≤1000000):FnT Tryz.prog (NumT v 3 (rws Rn.row l) s mU mI mP mM mO vC) 80 1 [.v v,.fn (.func 81) [] [.ptr 0 0]] [rsvC 0 mU mI mP mM mO vC] (fun x=>x=allO (resRn s) l) (numOut Rn.row 52 3 mU mI mP mM mO vC):=by
 have hl:=rws_len Rn.row l
 refine FnT.of Tryz.func80 (by kernel_rfl) rfl Tryz.ntmps80 rfl fun E0 F h hT w0 cs=>?_
 conv=>whnf
 refine gS ?_;conv=>whnf
 refine RunsS.nameAt (fun _ x=>x) 6 (by exact hT.1) ?_
 conv=>whnf
 refine gS ?_;conv=>whnf
 refine RunsS.callN (cloneRn_fn (rws Rn.row l) (by omega)) [1] ?_ sH ?CNa9
 case CNa9=>rfl
 intro _ _
 conv=>whnf
 refine gS ?_;conv=>whnf
 refine RunsS.subR [] (RunsS.loop (fun (k:Nat)=>[(10,.v (.int .i64 k)),(9,.v (.int .i64 (rws Rn.row l).length)),(0,.buf 2),(1,.fn (.func 81) [] [.ptr 0 0])]) (fun (k:Nat)=>[(2,.own 52 3 (rws Rn.row (mixN (fun a=>(resRn s a).getD a) l k))),rsvC 0 mU mI mP mM mO vC]) 3 (fun (k:Nat)=>k≤l.length ∧ ∀i (hi:i<l.length),i<k→resRn s l[i]≠none) (fun (k:Nat)=>l.length - k) ?round10 (0) ?J010) sH sH
 case J010=>exact (⟨Nat.zero_le _,fun _ _ h=>absurd h (Nat.not_lt_zero _)⟩)
 rintro k hJ back
 conv=>whnf
 refine gS ?_;conv=>whnf
 refine ⟨fun hk=>?_,fun hk=>?_⟩<;>conv=>whnf
 ·have hk:k<l.length:=by omega
  have hm:=len_at (f:=Rn.row) (g:=fun a=>(resRn s a).getD a) hk
  conv=>whnf
  repeat ((first|refine oL ?_|refine oR ?_);(try intro _);conv=>whnf)
  refine RunsS.callT (ResF.tok s mU mI mP mM mO vC) (hT.2) (clRn_fn _ k l[k] (mixN_get hk)) [2,0] sH ?CNa11 ?_
  case CNa11=>rfl
  rintro x hx
  cases hr:resRn s l[k] with
  |none=>
   rw [hr] at hx
   subst hx
   conv=>whnf
   exact UnwS.pan Tryz.func80 (EndS.mk (none) ((allO_none.2 ⟨l[k],List.getElem_mem hk,hr⟩).symm) [] sH rfl rfl (okPan rfl))
  |some i=>
   rw [hr] at hx
   subst hx
   conv=>whnf
   refine gS ?_;conv=>whnf
   repeat ((first|refine oL ?_|refine oR ?_);(try intro _);conv=>whnf)
   refine RunsS.rowsEq 2 (mix_next (f:=Rn.row) hk hr) ?_;conv=>whnf
   refine RunsS.subR [] (back (k+1) (by exact (⟨hk,snoc_all hk hr hJ.2⟩)) (by (try dsimp only);omega)) sH sH
 have hk:k=l.length:=by omega
 have h3:=all_done hJ.2 hk
 clear back hJ
 subst hk
 conv=>whnf
 refine RunsS.rowsEq 2 (congrArg (rws Rn.row) mixN_all) ?_;conv=>whnf
 refine RunsS.retU ?_
 exact UnwS.ret tab Tryz.func80 rfl (EndS.mk (some _) (h3.symm) [(1,2)] sH rfl rfl (okRet rfl rfl))
theorem numSw_fn (v:Value) (l:List Sw) (hb:l.length≤1000000):FnT Tryz.prog (NumT v 4 (rws Sw.row l) s mU mI mP mM mO vC) 82 1 [.v v,.fn (.func 83) [] [.ptr 0 0]] [rsvC 0 mU mI mP mM mO vC] (fun x=>x=allO (resSw s) l) (numOut Sw.row 54 4 mU mI mP mM mO vC):=by
 have hl:=rws_len Sw.row l
 refine FnT.of Tryz.func82 (by kernel_rfl) rfl Tryz.ntmps82 rfl fun E0 F h hT w0 cs=>?_
 conv=>whnf
 refine gS ?_;conv=>whnf
 refine RunsS.nameAt (fun _ x=>x) 6 (by exact hT.1) ?_
 conv=>whnf
 refine gS ?_;conv=>whnf
 refine RunsS.callN (cloneSw_fn (rws Sw.row l) (by omega)) [1] ?_ sH ?CNa13
 case CNa13=>rfl
 intro _ _
 conv=>whnf
 refine gS ?_;conv=>whnf
 refine RunsS.subR [] (RunsS.loop (fun (k:Nat)=>[(10,.v (.int .i64 k)),(9,.v (.int .i64 (rws Sw.row l).length)),(0,.buf 2),(1,.fn (.func 83) [] [.ptr 0 0])]) (fun (k:Nat)=>[(2,.own 54 4 (rws Sw.row (mixN (fun a=>(resSw s a).getD a) l k))),rsvC 0 mU mI mP mM mO vC]) 3 (fun (k:Nat)=>k≤l.length ∧ ∀i (hi:i<l.length),i<k→resSw s l[i]≠none) (fun (k:Nat)=>l.length - k) ?round14 (0) ?J014) sH sH
 case J014=>exact (⟨Nat.zero_le _,fun _ _ h=>absurd h (Nat.not_lt_zero _)⟩)
 rintro k hJ back
 conv=>whnf
 refine gS ?_;conv=>whnf
 refine ⟨fun hk=>?_,fun hk=>?_⟩<;>conv=>whnf
 ·have hk:k<l.length:=by omega
  have hm:=len_at (f:=Sw.row) (g:=fun a=>(resSw s a).getD a) hk
  conv=>whnf
  repeat ((first|refine oL ?_|refine oR ?_);(try intro _);conv=>whnf)
  refine RunsS.callT (ResF.tok s mU mI mP mM mO vC) (hT.2) (clSw_fn _ k l[k] (mixN_get hk)) [2,0] sH ?CNa15 ?_
  case CNa15=>rfl
  rintro x hx
  cases hr:resSw s l[k] with
  |none=>
   rw [hr] at hx
   subst hx
   conv=>whnf
   exact UnwS.pan Tryz.func82 (EndS.mk (none) ((allO_none.2 ⟨l[k],List.getElem_mem hk,hr⟩).symm) [] sH rfl rfl (okPan rfl))
  |some i=>
   rw [hr] at hx
   subst hx
   conv=>whnf
   refine gS ?_;conv=>whnf
   repeat ((first|refine oL ?_|refine oR ?_);(try intro _);conv=>whnf)
   refine RunsS.rowsEq 2 (mix_next (f:=Sw.row) hk hr) ?_;conv=>whnf
   refine RunsS.subR [] (back (k+1) (by exact (⟨hk,snoc_all hk hr hJ.2⟩)) (by (try dsimp only);omega)) sH sH
 have hk:k=l.length:=by omega
 have h3:=all_done hJ.2 hk
 clear back hJ
 subst hk
 conv=>whnf
 refine RunsS.rowsEq 2 (congrArg (rws Sw.row) mixN_all) ?_;conv=>whnf
 refine RunsS.retU ?_
 exact UnwS.ret tab Tryz.func82 rfl (EndS.mk (some _) (h3.symm) [(1,2)] sH rfl rfl (okRet rfl rfl))
theorem numAm_fn (v:Value) (l:List Am) (hb:l.length≤1000000):FnT Tryz.prog (NumT v 7 (rws Am.row l) s mU mI mP mM mO vC) 112 1 [.v v,.fn (.func 113) [] [.ptr 0 0]] [rsvC 0 mU mI mP mM mO vC] (fun x=>x=allO (resAm s) l) (numOut Am.row 71 7 mU mI mP mM mO vC):=by
 have hl:=rws_len Am.row l
 refine FnT.of Tryz.func112 (by kernel_rfl) rfl Tryz.ntmps112 rfl fun E0 F h hT w0 cs=>?_
 conv=>whnf
 refine gS ?_;conv=>whnf
 refine RunsS.nameAt (fun _ x=>x) 6 (by exact hT.1) ?_
 conv=>whnf
 refine gS ?_;conv=>whnf
 refine RunsS.callN (cloneAm_fn (rws Am.row l) (by omega)) [1] ?_ sH ?CNa17
 case CNa17=>rfl
 intro _ _
 conv=>whnf
 refine gS ?_;conv=>whnf
 refine RunsS.subR [] (RunsS.loop (fun (k:Nat)=>[(10,.v (.int .i64 k)),(9,.v (.int .i64 (rws Am.row l).length)),(0,.buf 2),(1,.fn (.func 113) [] [.ptr 0 0])]) (fun (k:Nat)=>[(2,.own 71 7 (rws Am.row (mixN (fun a=>(resAm s a).getD a) l k))),rsvC 0 mU mI mP mM mO vC]) 3 (fun (k:Nat)=>k≤l.length ∧ ∀i (hi:i<l.length),i<k→resAm s l[i]≠none) (fun (k:Nat)=>l.length - k) ?round18 (0) ?J018) sH sH
 case J018=>exact (⟨Nat.zero_le _,fun _ _ h=>absurd h (Nat.not_lt_zero _)⟩)
 rintro k hJ back
 conv=>whnf
 refine gS ?_;conv=>whnf
 refine ⟨fun hk=>?_,fun hk=>?_⟩<;>conv=>whnf
 ·have hk:k<l.length:=by omega
  have hm:=len_at (f:=Am.row) (g:=fun a=>(resAm s a).getD a) hk
  conv=>whnf
  repeat ((first|refine oL ?_|refine oR ?_);(try intro _);conv=>whnf)
  refine RunsS.callT (ResF.tok s mU mI mP mM mO vC) (hT.2) (clAm_fn _ k l[k] (mixN_get hk)) [2,0] sH ?CNa19 ?_
  case CNa19=>rfl
  rintro x hx
  cases hr:resAm s l[k] with
  |none=>
   rw [hr] at hx
   subst hx
   conv=>whnf
   exact UnwS.pan Tryz.func112 (EndS.mk (none) ((allO_none.2 ⟨l[k],List.getElem_mem hk,hr⟩).symm) [] sH rfl rfl (okPan rfl))
  |some i=>
   rw [hr] at hx
   subst hx
   conv=>whnf
   refine gS ?_;conv=>whnf
   repeat ((first|refine oL ?_|refine oR ?_);(try intro _);conv=>whnf)
   refine RunsS.rowsEq 2 (mix_next (f:=Am.row) hk hr) ?_;conv=>whnf
   refine RunsS.subR [] (back (k+1) (by exact (⟨hk,snoc_all hk hr hJ.2⟩)) (by (try dsimp only);omega)) sH sH
 have hk:k=l.length:=by omega
 have h3:=all_done hJ.2 hk
 clear back hJ
 subst hk
 conv=>whnf
 refine RunsS.rowsEq 2 (congrArg (rws Am.row) mixN_all) ?_;conv=>whnf
 refine RunsS.retU ?_
 exact UnwS.ret tab Tryz.func112 rfl (EndS.mk (some _) (h3.symm) [(1,2)] sH rfl rfl (okRet rfl rfl))
theorem numCd_fn (v:Value) (l:List Cd) (hb:l.length≤1000000):FnT Tryz.prog (NumT v 4 (rws Cd.row l) s mU mI mP mM mO vC) 109 1 [.v v,.fn (.func 110) [] [.ptr 0 0]] [rsvC 0 mU mI mP mM mO vC] (fun x=>x=allO (resCd s) l) (numOut Cd.row 64 4 mU mI mP mM mO vC):=by
 have hl:=rws_len Cd.row l
 refine FnT.of Tryz.func109 (by kernel_rfl) rfl Tryz.ntmps109 rfl fun E0 F h hT w0 cs=>?_
 conv=>whnf
 refine gS ?_;conv=>whnf
 refine RunsS.nameAt (fun _ x=>x) 6 (by exact hT.1) ?_
 conv=>whnf
 refine gS ?_;conv=>whnf
 refine RunsS.callN (cloneCd_fn (rws Cd.row l) (by omega)) [1] ?_ sH ?CNa21
 case CNa21=>rfl
 intro _ _
 conv=>whnf
 refine gS ?_;conv=>whnf
 refine RunsS.subR [] (RunsS.loop (fun (k:Nat)=>[(10,.v (.int .i64 k)),(9,.v (.int .i64 (rws Cd.row l).length)),(0,.buf 2),(1,.fn (.func 110) [] [.ptr 0 0])]) (fun (k:Nat)=>[(2,.own 64 4 (rws Cd.row (mixN (fun a=>(resCd s a).getD a) l k))),rsvC 0 mU mI mP mM mO vC]) 3 (fun (k:Nat)=>k≤l.length ∧ ∀i (hi:i<l.length),i<k→resCd s l[i]≠none) (fun (k:Nat)=>l.length - k) ?round22 (0) ?J022) sH sH
 case J022=>exact (⟨Nat.zero_le _,fun _ _ h=>absurd h (Nat.not_lt_zero _)⟩)
 rintro k hJ back
 conv=>whnf
 refine gS ?_;conv=>whnf
 refine ⟨fun hk=>?_,fun hk=>?_⟩<;>conv=>whnf
 ·have hk:k<l.length:=by omega
  have hm:=len_at (f:=Cd.row) (g:=fun a=>(resCd s a).getD a) hk
  conv=>whnf
  repeat ((first|refine oL ?_|refine oR ?_);(try intro _);conv=>whnf)
  refine RunsS.callT (ResF.tok s mU mI mP mM mO vC) (hT.2) (clCd_fn _ k l[k] (mixN_get hk)) [2,0] sH ?CNa23 ?_
  case CNa23=>rfl
  rintro x hx
  cases hr:resCd s l[k] with
  |none=>
   rw [hr] at hx
   subst hx
   conv=>whnf
   exact UnwS.pan Tryz.func109 (EndS.mk (none) ((allO_none.2 ⟨l[k],List.getElem_mem hk,hr⟩).symm) [] sH rfl rfl (okPan rfl))
  |some i=>
   rw [hr] at hx
   subst hx
   conv=>whnf
   refine gS ?_;conv=>whnf
   repeat ((first|refine oL ?_|refine oR ?_);(try intro _);conv=>whnf)
   refine RunsS.rowsEq 2 (mix_next (f:=Cd.row) hk hr) ?_;conv=>whnf
   refine RunsS.subR [] (back (k+1) (by exact (⟨hk,snoc_all hk hr hJ.2⟩)) (by (try dsimp only);omega)) sH sH
 have hk:k=l.length:=by omega
 have h3:=all_done hJ.2 hk
 clear back hJ
 subst hk
 conv=>whnf
 refine RunsS.rowsEq 2 (congrArg (rws Cd.row) mixN_all) ?_;conv=>whnf
 refine RunsS.retU ?_
 exact UnwS.ret tab Tryz.func109 rfl (EndS.mk (some _) (h3.symm) [(1,2)] sH rfl rfl (okRet rfl rfl))
end
end Go.Proofs.YtofjdbmcloemnaaGreatDoor

namespace Go.Proofs.YtofjdbmcloemnaaGreatDoor
open Go Go.Fw Go.NatM Go.RatM Go.SrcM
set_option maxRecDepth 100000
set_option maxHeartbeats 99999999
theorem NumT.up {v:Value} {sz:Nat} {rows:List (List Value)} {s:SrcV} {mU mI mP mM mO vC:Value} {G G':Nat→Prop} {h h':Array Obj} (H:NumT v sz rows s mU mI mP mM mO vC G h) (U:Up G h G' h'):NumT v sz rows s mU mI mP mM mO vC G' h':=
 ⟨RoF.up U H.1,H.2.up U⟩
abbrev SliJ {α β:Type} (row:β→List Value) (sz:Nat) (f:α→Option β) (l:List α) (x:Option Value) (G:Nat→Prop) (h:Array Obj):Prop:=match x with
 |some r=>∃m,allO f l=some m∧RoF G h r sz (rws row m)
 |none=>allO f l=none
abbrev sliOut:Option Value→OutS
 |some r=>.ret (.v r) 0 []
 |none=>.pan failCh 0 []
section
variable {s:SrcV} {mU mI mP mM mO vC:Value}
theorem conds_fn (v:Value) (l:List Cd) (hb:l.length≤1000000):FnX Tryz.prog 76 0 [.agg [.v mU,.v mI,.v mP,.v mM,.v mO,.v vC],.v v] [] (NumT v 4 (rws Cd.row l) s mU mI mP mM mO vC) (SliJ Cd.row 4 (resCd s) l) sliOut:=by
 refine FnX.of Tryz.func76 (by kernel_rfl) rfl Tryz.ntmps76 rfl fun E0 F G h N hP w0 cs=>?_
 conv=>whnf
 refine gS ?_;conv=>whnf
 refine RunsS.callT (NumT.tok _ _ _ _ _ _ _ _ _ _) (hP.up ⟨N.gsub,fun _ _=>rfl⟩) (numCd_fn v l hb) [0] sH ?CNa1 ?_
 case CNa1=>rfl
 rintro x hx
 cases hm:allO (resCd s) l with
 |none=>
  rw [hm] at hx
  subst hx
  conv=>whnf
  exact UnwS.pan Tryz.func76 (EndX.mk (N) (none) (fun h U=>hm) [] sH rfl rfl (okPan rfl))
 |some m=>
  rw [hm] at hx
  subst hx
  conv=>whnf
  refine gS ?_;conv=>whnf
  refine RunsS.conc (n:=m.length) (N.gsub) 1 ?_ (hlen:=rws_len Cd.row m)
  intro a1 c1 G1 h1 N1 R1
  conv=>whnf
  refine gS ?_;conv=>whnf
  refine RunsS.retU ?_
  exact UnwS.ret tab Tryz.func76 rfl (eX (N.trans N1) (some _) (fun h U=>⟨m,hm,RoF.up U R1⟩))
theorem amounts_fn (v:Value) (l:List Am) (hb:l.length≤1000000):FnX Tryz.prog 79 0 [.agg [.v mU,.v mI,.v mP,.v mM,.v mO,.v vC],.v v] [] (NumT v 7 (rws Am.row l) s mU mI mP mM mO vC) (SliJ Am.row 7 (resAm s) l) sliOut:=by
 refine FnX.of Tryz.func79 (by kernel_rfl) rfl Tryz.ntmps79 rfl fun E0 F G h N hP w0 cs=>?_
 conv=>whnf
 refine gS ?_;conv=>whnf
 refine RunsS.callT (NumT.tok _ _ _ _ _ _ _ _ _ _) (hP.up ⟨N.gsub,fun _ _=>rfl⟩) (numAm_fn v l hb) [0] sH ?CNa2 ?_
 case CNa2=>rfl
 rintro x hx
 cases hm:allO (resAm s) l with
 |none=>
  rw [hm] at hx
  subst hx
  conv=>whnf
  exact UnwS.pan Tryz.func79 (EndX.mk (N) (none) (fun h U=>hm) [] sH rfl rfl (okPan rfl))
 |some m=>
  rw [hm] at hx
  subst hx
  conv=>whnf
  refine gS ?_;conv=>whnf
  refine RunsS.conc (n:=m.length) (N.gsub) 1 ?_ (hlen:=rws_len Am.row m)
  intro a1 c1 G1 h1 N1 R1
  conv=>whnf
  refine gS ?_;conv=>whnf
  refine RunsS.retU ?_
  exact UnwS.ret tab Tryz.func79 rfl (eX (N.trans N1) (some _) (fun h U=>⟨m,hm,RoF.up U R1⟩))
end
end Go.Proofs.YtofjdbmcloemnaaGreatDoor

namespace Go.Proofs.YtofjdbmcloemnaaGreatDoor
open Go Go.Fw Go.NatM Go.RatM Go.SrcM
set_option maxRecDepth 100000
set_option maxHeartbeats 99999999
section
variable {s:SrcV} {mU mI mP mM mO vC:Value}
theorem RoF.sli {G:Nat→Prop} {h:Array Obj} {v:Value} {sz n:Nat} {rows:List (List Value)} (H:RoF G h v sz rows) (e:rows.length=n):∃a c,v=.slice a n c:=by
 obtain ⟨_,_,a,c,rfl,_⟩:=H
 exact ⟨a,c,by rw [e]⟩
theorem clOp_fn (rows:List (List Value)) (k:Nat) (i:OpV) (hrow:rows[k]? = some i.row) (hb:i.ch.length≤1000000):FnX Tryz.prog 73 1 [.row 0 k 0 2] [(0,.own 61 2 rows)] (fun G h=>i.ok G h) (fun (x:Hd) G h=>OpV.ok G h {i with hd:=x})
  (fun x=>.ret (.tup []) 1 [(0,.own 61 2 (rows.set k (OpV.row {i with hd:=x})))]):=by
 have hr':rows[((k:Nat):Int).toNat]? = some i.row:=hrow
 have hlt:k<rows.length:=(List.getElem?_eq_some_iff.1 hrow).1
 have hl:=rwsB_len i.ch
 refine FnX.of Tryz.func73 (by kernel_rfl) rfl Tryz.ntmps73 rfl fun E0 F G h N hP w0 cs=>?_
 conv=>whnf
 refine gS ?_;conv=>whnf
 refine ⟨_,hr',?_⟩;conv=>whnf
 refine RunsS.nameAt (fun _ x=>x) 6 (by exact OpV.ok.up hP ⟨N.gsub,fun _ _=>rfl⟩) ?_
 conv=>whnf
 refine gS ?_;conv=>whnf
 refine RunsS.callN (cloneSt_fn (rwsB i.ch) (by omega)) [1] ?_ sH ?CNa1
 case CNa1=>rfl
 intro _ _
 conv=>whnf
 refine gS ?_;conv=>whnf
 refine RunsS.conc (n:=i.ch.length) (N.gsub) 2 ?_ (hlen:=hl)
 intro a1 c1 G1 h1 N1 R1
 conv=>whnf
 refine gS ?_;conv=>whnf
 refine ⟨_,hr',?_⟩;conv=>whnf
 refine RunsS.finU ?_
 exact UnwS.ret tab Tryz.func73 rfl (eX (N.trans N1) (⟨a1,c1⟩) (fun h U=>RoF.up U R1))
abbrev fbOut (e sz:Nat) (rows:List (List Value)) (k:Nat) (mU mI mP mM mO vC:Value):Option FbV→OutS
 |some j=>.ret (.tup []) 2 [(0,.own e sz (rows.set k j.row)),rsvC 1 mU mI mP mM mO vC]
 |none=>.pan failCh 2 []
theorem clFb_fn (rows:List (List Value)) (k:Nat) (i:FbV) (hrow:rows[k]? = some i.row) (hb:i.cs.length≤1000000):FnX Tryz.prog 75 2 [.row 0 k 0 1,.ptr 1 0] [(0,.own 45 1 rows),rsvC 1 mU mI mP mM mO vC] (fun G h=>i.ok G h∧ResF G h s mU mI mP mM mO vC)
  (fun (x:Option FbV) G h=>match x with
   |some j=>allO (resCd s) i.cs=some j.cs∧j.ok G h
   |none=>allO (resCd s) i.cs=none) (fbOut 45 1 rows k mU mI mP mM mO vC):=by
 have hr':rows[((k:Nat):Int).toNat]? = some i.row:=hrow
 have hlt:k<rows.length:=(List.getElem?_eq_some_iff.1 hrow).1
 refine FnX.of Tryz.func75 (by kernel_rfl) rfl Tryz.ntmps75 rfl fun E0 F G h N hP w0 cs=>?_
 conv=>whnf
 refine gS ?_;conv=>whnf
 refine RunsS.held tab (.fl 0 (.fl 1 (.fl 2 (.fl 3 (.fl 4 (.e1 5 [] (.fl 6 (.e1 7 [] .done)))))))) (by kernel_rfl) ?_;conv=>whnf
 try refine gR ?_;conv=>whnf
 conv=>whnf
 refine ⟨_,hr',?_⟩;conv=>whnf
 conv=>whnf
 refine EffR.callX (N.gsub) (conds_fn _ i.cs hb) (fun h U=>⟨RoF.up U hP.1,hP.2.up U⟩) [] sH ?CNa2 ?_
 case CNa2=>rfl
 rintro (_|r) G1 h1 N1 J1
 ·conv=>whnf
  exact UnwS.pan Tryz.func75 (EndX.mk (N.trans N1) (none) (fun h U=>J1) [] sH rfl rfl (okPan rfl))
 obtain ⟨m,hm,R1⟩:=J1
 obtain ⟨a1,c1,rfl⟩:=RoF.sli R1 (rws_len Cd.row m)
 conv=>whnf
 try refine oB ?_
 try refine gR ?_;conv=>whnf
 conv=>whnf
 refine EffR.rput tab (_) (hr') ?_;conv=>whnf
 try refine oB ?_
 try refine gR ?_;conv=>whnf
 refine gS ?_;conv=>whnf
 refine RunsS.finU ?_
 exact UnwS.ret tab Tryz.func75 rfl (eX (N.trans N1) (some ⟨⟨a1,c1⟩,m⟩) (fun h U=>⟨hm,RoF.up U R1⟩))
end
end Go.Proofs.YtofjdbmcloemnaaGreatDoor

namespace Go.Proofs.YtofjdbmcloemnaaGreatDoor
open Go Go.Fw Go.NatM Go.RatM Go.SrcM
set_option maxRecDepth 100000
set_option maxHeartbeats 99999999
section
variable {s:SrcV} {mU mI mP mM mO vC:Value}
theorem set5 (l:List (List Value)) (k:Nat) (a b c d e:List Value):((((l.set k a).set k b).set k c).set k d).set k e=l.set k e:=by simp only [List.set_set]
abbrev rcOut (e sz:Nat) (rows:List (List Value)) (k:Nat) (mU mI mP mM mO vC:Value):Option RcV→OutS
 |some j=>.ret (.tup []) 2 [(0,.own e sz (rows.set k j.row)),rsvC 1 mU mI mP mM mO vC]
 |none=>.pan failCh 2 []
theorem clRc_fn (rows:List (List Value)) (k:Nat) (i:RcV) (hrow:rows[k]? = some i.row) (hc:i.cs.length≤1000000) (hi:i.inn.length≤1000000) (ho:i.out.length≤1000000) (hn:i.runs.length≤1000000):FnX Tryz.prog 78 2 [.row 0 k 0 17,.ptr 1 0] [(0,.own 49 17 rows),rsvC 1 mU mI mP mM mO vC] (fun G h=>i.ok G h∧ResF G h s mU mI mP mM mO vC)
  (fun (x:Option RcV) G h=>match x with
   |some j=>(resRc s i).map RcV.bare=some j.bare∧j.ok G h
   |none=>resRc s i=none) (rcOut 49 17 rows k mU mI mP mM mO vC):=by
 have hr':rows[((k:Nat):Int).toNat]? = some i.row:=hrow
 have hlt:k<rows.length:=(List.getElem?_eq_some_iff.1 hrow).1
 obtain ⟨y,hy⟩:∃y,y=resRc s i:=⟨_,rfl⟩
 rw [←hy]
 unfold resRc at hy
 refine FnX.of Tryz.func78 (by kernel_rfl) rfl Tryz.ntmps78 rfl fun E0 F G h N hP w0 cs=>?_
 conv=>whnf
 refine gS ?_;conv=>whnf
 refine RunsS.held tab (.fl 0 (.fl 1 (.fl 2 (.fl 3 (.fl 4 (.fl 5 (.fl 6 (.fl 7 (.fl 9 (.fl 10 (.fl 11 (.fl 12 (.fl 13 (.fl 14 (.e1 8 [10,14] (.e1 15 [] (.fl 16 (.fl 17 (.e1 18 [] (.fl 19 (.fl 20 (.e1 21 [] .done)))))))))))))))))))))) (by kernel_rfl) ?_;conv=>whnf
 try refine gR ?_;conv=>whnf
 conv=>whnf
 refine ⟨_,hr',?_⟩;conv=>whnf
 conv=>whnf
 refine ⟨_,hr',?_⟩;conv=>whnf
 conv=>whnf
 have hT:=hP.2.up (G':=F) (h':=h) ⟨N.gsub,fun _ _=>rfl⟩
 cases hf:findN (s.items.map It.name) i.item with
 |none=>
  rw [hf] at hy
  refine EffR.callF (fun Ez Hz Az Sz K=>find_no (hT.i.up (Up.kp K)) hf) (by (conv=>whnf);(repeat (guard_target=_∧_;refine And.intro (by (conv=>whnf);first|rfl|exact trivial) ?_;conv=>whnf));exact trivial) ?_
  exact UnwS.pan Tryz.func78 (EndX.mk (N) (none) (fun h U=>hy) [] sH rfl rfl (okPan rfl))
 |some u=>
  rw [hf] at hy
  refine EffR.callS (fun Ez Hz Az Sz K=>find_some (hT.i.up (Up.kp K)) hf) (by (conv=>whnf);(repeat (guard_target=_∧_;refine And.intro (by (conv=>whnf);first|rfl|exact trivial) ?_;conv=>whnf));exact trivial) ?_
  conv=>whnf
  try refine gR ?_;conv=>whnf
  conv=>whnf
  cases hg:findN s.plants i.plant with
  |none=>
   simp only [hg] at hy
   refine EffR.callF (fun Ez Hz Az Sz K=>find_no (hT.p.up (Up.kp K)) hg) (by (conv=>whnf);(repeat (guard_target=_∧_;refine And.intro (by (conv=>whnf);first|rfl|exact trivial) ?_;conv=>whnf));exact trivial) ?_
   exact UnwS.pan Tryz.func78 (EndX.mk (N) (none) (fun h U=>hy) [] sH rfl rfl (okPan rfl))
  |some p=>
   simp only [hg] at hy
   refine EffR.callS (fun Ez Hz Az Sz K=>find_some (hT.p.up (Up.kp K)) hg) (by (conv=>whnf);(repeat (guard_target=_∧_;refine And.intro (by (conv=>whnf);first|rfl|exact trivial) ?_;conv=>whnf));exact trivial) ?_
   conv=>whnf
   try refine gR ?_;conv=>whnf
   conv=>whnf
   refine EffR.rput tab (_) (hr') ?_;conv=>whnf
   try refine oB ?_
   try refine gR ?_;conv=>whnf
   conv=>whnf
   refine EffR.rput tab (_) (set_at hr') ?_;conv=>whnf
   try refine oB ?_
   try refine gR ?_;conv=>whnf
   refine gS ?_;conv=>whnf
   obtain ⟨i1,hi1⟩:∃i1:RcV,i1 = {i with inum:=(u:Nat),pnum:=(p:Nat)}:=⟨_,rfl⟩
   obtain ⟨rs,hrs⟩:∃rs,rs=rows.set k (RcV.row i1):=⟨_,rfl⟩
   have hr1:rs[((k:Nat):Int).toNat]? = some (RcV.row i1):=by rw [hrs];exact set_at hr'
   have hlt1:k<rs.length:=(List.getElem?_eq_some_iff.1 hr1).1
   refine RunsS.rowsEq 0 (show (rows.set k (splV i.row 15 [.int .i64 u])).set k (splV (splV i.row 15 [.int .i64 u]) 16 [.int .i64 p])=rs by rw [hrs,hi1,List.set_set];rfl) ?_
   have c1:i1.cs=i.cs:=by rw [hi1]
   have c2:i1.inn=i.inn:=by rw [hi1]
   have c3:i1.out=i.out:=by rw [hi1]
   have c4:i1.runs=i.runs:=by rw [hi1]
   have ok1:i1.ok G h:=by rw [hi1];exact ⟨hP.1.c,hP.1.i,hP.1.o,hP.1.rn⟩
   conv=>whnf
   refine gS ?_;conv=>whnf
   refine RunsS.held tab (.fl 0 (.fl 1 (.fl 2 (.fl 3 (.fl 4 (.fl 5 (.fl 6 (.fl 7 (.fl 9 (.fl 10 (.fl 11 (.fl 12 (.fl 13 (.fl 15 (.fl 16 (.fl 17 (.fl 18 (.fl 19 (.e1 8 [9,13,15,19] (.e1 14 [15,19] (.e1 20 [] (.fl 21 (.fl 22 (.e1 23 [] (.fl 24 (.fl 25 (.e1 26 [] (.fl 27 (.fl 28 (.e1 29 [] .done)))))))))))))))))))))))))))))) (by kernel_rfl) ?_;conv=>whnf
   try refine gR ?_;conv=>whnf
   conv=>whnf
   refine ⟨_,hr1,?_⟩;conv=>whnf
   conv=>whnf
   refine ⟨_,hr1,?_⟩;conv=>whnf
   conv=>whnf
   refine ⟨_,hr1,?_⟩;conv=>whnf
   conv=>whnf
   refine EffR.callX (N.gsub) (conds_fn _ i1.cs (by rw [c1];exact hc)) (fun h U=>⟨RoF.up U ok1.c,hP.2.up U⟩) [] sH ?CNa1 ?_
   case CNa1=>rfl
   rintro (_|v1) G1 h1 N1 J1
   ·conv=>whnf
    rw [c1] at J1
    simp only [J1] at hy
    exact UnwS.pan Tryz.func78 (EndX.mk (N.trans N1) (none) (fun h U=>hy) [] sH rfl rfl (okPan rfl))
   obtain ⟨m1,hm1,R1⟩:=J1
   have U1:=Now.step N.gsub N1
   obtain ⟨a1,d1,rfl⟩:=RoF.sli R1 (rws_len Cd.row m1)
   rw [c1] at hm1
   simp only [hm1] at hy
   conv=>whnf
   try refine oB ?_
   try refine gR ?_;conv=>whnf
   conv=>whnf
   refine EffR.callX (N1.gsub) (amounts_fn _ i1.inn (by rw [c2];exact hi)) (fun h U=>⟨RoF.up (U1.trans U) ok1.i,hP.2.up (U1.trans U)⟩) [] sH ?CNa2 ?_
   case CNa2=>rfl
   rintro (_|v2) G2 h2 N2 J2
   ·conv=>whnf
    rw [c2] at J2
    simp only [J2] at hy
    exact UnwS.pan Tryz.func78 (EndX.mk ((N.trans N1).trans N2) (none) (fun h U=>hy) [] sH rfl rfl (okPan rfl))
   obtain ⟨m2,hm2,R2⟩:=J2
   have U2:=Now.step N1.gsub N2
   obtain ⟨a2,d2,rfl⟩:=RoF.sli R2 (rws_len Am.row m2)
   rw [c2] at hm2
   simp only [hm2] at hy
   conv=>whnf
   try refine oB ?_
   try refine gR ?_;conv=>whnf
   conv=>whnf
   refine EffR.callX (N2.gsub) (amounts_fn _ i1.out (by rw [c3];exact ho)) (fun h U=>⟨RoF.up (U1.trans (U2.trans U)) ok1.o,hP.2.up (U1.trans (U2.trans U))⟩) [] sH ?CNa3 ?_
   case CNa3=>rfl
   rintro (_|v3) G3 h3 N3 J3
   ·conv=>whnf
    rw [c3] at J3
    simp only [J3] at hy
    exact UnwS.pan Tryz.func78 (EndX.mk (((N.trans N1).trans N2).trans N3) (none) (fun h U=>hy) [] sH rfl rfl (okPan rfl))
   obtain ⟨m3,hm3,R3⟩:=J3
   have U3:=Now.step N2.gsub N3
   obtain ⟨a3,d3,rfl⟩:=RoF.sli R3 (rws_len Am.row m3)
   rw [c3] at hm3
   simp only [hm3] at hy
   conv=>whnf
   try refine oB ?_
   try refine gR ?_;conv=>whnf
   conv=>whnf
   refine EffR.rput tab (_) (hr1) ?_;conv=>whnf
   try refine oB ?_
   try refine gR ?_;conv=>whnf
   conv=>whnf
   refine EffR.rput tab (_) (set_at hr1) ?_;conv=>whnf
   try refine oB ?_
   try refine gR ?_;conv=>whnf
   conv=>whnf
   refine EffR.rput tab (_) (set_at (set_at hr1)) ?_;conv=>whnf
   try refine oB ?_
   try refine gR ?_;conv=>whnf
   refine gS ?_;conv=>whnf
   refine ⟨_,set_at (set_at (set_at hr1)),?_⟩;conv=>whnf
   have U4:=U1.trans (U2.trans (U3.trans ⟨N3.gsub,fun _ _=>rfl⟩))
   refine RunsS.callT (NumT.tok _ _ _ _ _ _ _ _ _ _) (⟨RoF.up U4 ok1.rn,hP.2.up U4⟩) (numRn_fn _ i1.runs (by rw [c4];exact hn)) [1] sH ?CNa4 ?_
   case CNa4=>rfl
   rintro x hx
   rw [c4] at hx
   cases hm:allO (resRn s) i.runs with
   |none=>
    rw [hm] at hx
    subst hx
    simp only [hm] at hy
    conv=>whnf
    exact UnwS.pan Tryz.func78 (EndX.mk (((N.trans N1).trans N2).trans N3) (none) (fun h U=>hy) [] sH rfl rfl (okPan rfl))
   |some m4=>
    rw [hm] at hx
    subst hx
    simp only [hm] at hy
    conv=>whnf
    refine gS ?_;conv=>whnf
    refine RunsS.conc (n:=m4.length) (N3.gsub) 2 ?_ (hlen:=rws_len Rn.row m4)
    intro a4 d4 G4 h4 N4 R4
    conv=>whnf
    refine gS ?_;conv=>whnf
    have U5:=Now.step N3.gsub N4
    refine ⟨_,set_at (set_at (set_at hr1)),?_⟩;conv=>whnf
    subst hrs
    subst hi1
    refine RunsS.rowsEq 0 ((set5 rows k _ _ _ _ _).trans (show _=rows.set k (RcV.row {i with inum:=(u:Nat),pnum:=(p:Nat),hc:=⟨a1,d1⟩,cs:=m1,hi:=⟨a2,d2⟩,inn:=m2,ho:=⟨a3,d3⟩,out:=m3,hr:=⟨a4,d4⟩,runs:=m4}) from rfl)) ?_;conv=>whnf
    refine RunsS.finU ?_
    exact UnwS.ret tab Tryz.func78 rfl (eX ((((N.trans N1).trans N2).trans N3).trans N4) (some {i with inum:=(u:Nat),pnum:=(p:Nat),hc:=⟨a1,d1⟩,cs:=m1,hi:=⟨a2,d2⟩,inn:=m2,ho:=⟨a3,d3⟩,out:=m3,hr:=⟨a4,d4⟩,runs:=m4}) (fun h U=>⟨by rw [hy];rfl,RoF.up (U2.trans (U3.trans (U5.trans U))) R1,RoF.up (U3.trans (U5.trans U)) R2,RoF.up (U5.trans U) R3,RoF.up U R4⟩))
end
end Go.Proofs.YtofjdbmcloemnaaGreatDoor

namespace Go.Proofs.YtofjdbmcloemnaaGreatDoor
open Go Go.Fw Go.NatM Go.RatM Go.SrcM
set_option maxRecDepth 100000
set_option maxHeartbeats 99999999
section
variable {α β:Type} {f:α→List Value} {l m:List α} {k:Nat}
theorem mid_len (hk:k<l.length) (e:m.length=k):(rws f (m++l.drop k)).length=l.length:=by
 rw [rws_len,List.length_append,List.length_drop];omega
theorem mid_get (hk:k<l.length) (e:m.length=k):(rws f (m++l.drop k))[k]? = some (f l[k]):=by
 subst e
 rw [rws,List.map_append,List.getElem?_append_right (by simp)]
 simp [hk]
theorem mid_set (hk:k<l.length) (e:m.length=k) (y:α):(rws f (m++l.drop k)).set k (f y)=rws f ((m++[y])++l.drop (k+1)):=by
 subst e
 have e:l.drop m.length=l[m.length]::l.drop (m.length+1):=(List.getElem_cons_drop ..).symm
 rw [e]
 simp only [rws,List.map_append,List.map_cons,List.map_nil]
 rw [List.set_append_right _ _ (by simp)]
 simp
theorem mid_all (e:m.length=l.length):rws f (m++l.drop l.length)=rws f m:=by rw [List.drop_length,List.append_nil]
theorem allO_snoc {g:α→Option β} (hk:k<l.length) {a:List β} {b:β} (h1:allO g (l.take k)=some a) (h2:g l[k]=some b):allO g (l.take (k+1))=some (a++[b]):=by
 obtain ⟨e,h⟩:=allO_some.1 h1
 rw [List.length_take,Nat.min_eq_left (Nat.le_of_lt hk)] at e
 refine allO_some.2 ⟨by rw [List.length_append,e,List.length_take,Nat.min_eq_left hk];rfl,fun i h3 h4=>?_⟩
 rw [List.length_take,Nat.min_eq_left hk] at h3
 rw [List.getElem_take]
 rcases Nat.lt_or_eq_of_le (Nat.le_of_lt_succ h3) with h5|rfl
 ·rw [List.getElem_append_left (by omega)]
  have:=h i (by rw [List.length_take,Nat.min_eq_left (Nat.le_of_lt hk)];exact h5) (by omega)
  rw [List.getElem_take] at this
  exact this
 rw [List.getElem_append_right (by omega)]
 simp [e,h2]
theorem mid_ok {p:α→Prop} {y:α} (h:∀a∈m,p a) (hy:p y):∀a∈m++[y],p a:=fun a ha=>by
 rcases List.mem_append.1 ha with ha|ha
 ·exact h a ha
 rw [List.mem_singleton.1 ha];exact hy
end
section
variable {s:SrcV} {mU mI mP mM mO vC:Value}
abbrev nmxOut {α:Type} (row:α→List Value) (e sz:Nat) (mU mI mP mM mO vC:Value):Option (List α)→OutS
 |some m=>.ret (.buf 1) 2 [(1,.own e sz (rws row m)),rsvC 0 mU mI mP mM mO vC]
 |none=>.pan failCh 1 []
theorem numFb_fn (v:Value) (l:List FbV) (hb:l.length≤1000000) (hs:∀a∈l,a.cs.length≤1000000):FnX Tryz.prog 74 1 [.v v,.fn (.func 75) [] [.ptr 0 0]] [rsvC 0 mU mI mP mM mO vC] (fun G h=>NumT v 1 (rws FbV.row l) s mU mI mP mM mO vC G h ∧ ∀a∈l,a.ok G h)
  (fun (x:Option (List FbV)) G h=>match x with
   |some m=>allO (fun a=>(resFb s a).map FbV.bare) l=some (m.map FbV.bare) ∧ ∀a∈m,a.ok G h
   |none=>allO (fun a=>(resFb s a).map FbV.bare) l=none) (nmxOut FbV.row 45 1 mU mI mP mM mO vC):=by
 have hl:=rws_len FbV.row l
 refine FnX.of Tryz.func74 (by kernel_rfl) rfl Tryz.ntmps74 rfl fun E0 F G h N hP w0 cs=>?_
 conv=>whnf
 refine gS ?_;conv=>whnf
 refine RunsS.nameAt (fun _ x=>x) 6 (by exact RoF.up ⟨N.gsub,fun _ _=>rfl⟩ hP.1.1) ?_
 conv=>whnf
 refine gS ?_;conv=>whnf
 refine RunsS.callN (cloneFb_fn (rws FbV.row l) (by omega)) [1] ?_ sH ?CNa1
 case CNa1=>rfl
 intro _ _
 conv=>whnf
 refine gS ?_;conv=>whnf
 refine RunsS.subR [] (RunsS.loopB (fun (⟨k,m,F1,G1,h1⟩:Nat×List FbV×(Nat→Prop)×(Nat→Prop)×Array Obj)=>(F1,h1)) (fun (⟨k,m,F1,G1,h1⟩:Nat×List FbV×(Nat→Prop)×(Nat→Prop)×Array Obj)=>[(10,.v (.int .i64 k)),(9,.v (.int .i64 (rws FbV.row l).length)),(0,.buf 2),(1,.fn (.func 75) [] [.ptr 0 0])]) (fun (⟨k,m,F1,G1,h1⟩:Nat×List FbV×(Nat→Prop)×(Nat→Prop)×Array Obj)=>[(2,.own 45 1 (rws FbV.row (m++l.drop k))),rsvC 0 mU mI mP mM mO vC]) 3 (fun (⟨k,m,F1,G1,h1⟩:Nat×List FbV×(Nat→Prop)×(Nat→Prop)×Array Obj)=>Now F G h F1 G1 h1∧k≤l.length∧m.length=k∧allO (fun a=>(resFb s a).map FbV.bare) (l.take k)=some (m.map FbV.bare) ∧ ∀a∈m,a.ok G1 h1) (fun (⟨k,m,F1,G1,h1⟩:Nat×List FbV×(Nat→Prop)×(Nat→Prop)×Array Obj)=>l.length - k) ?round2 (⟨0,[],F,G,h⟩) ?J02) sH sH
 case J02=>exact (⟨N,Nat.zero_le _,rfl,rfl,fun _ h=>absurd h List.not_mem_nil⟩)
 rintro ⟨k,m,F1,G1,h1⟩ hJ back
 try dsimp only at hJ back
 conv=>whnf
 try dsimp only
 refine gS ?_;conv=>whnf
 refine ⟨fun hk=>?_,fun hk=>?_⟩<;>conv=>whnf
 ·obtain ⟨N1,_,em,ea,ho⟩:=hJ
  have U1:=Now.step N.gsub N1
  have hk:k<l.length:=by omega
  have hm:=mid_len (f:=FbV.row) hk em
  conv=>whnf
  repeat ((first|refine oL ?_|refine oR ?_);(try intro _);conv=>whnf)
  refine RunsS.callX (N1.gsub) (clFb_fn _ k l[k] (mid_get hk em) (hs _ (List.getElem_mem hk))) (fun h U=>⟨(hP.2 _ (List.getElem_mem hk)).up (U1.trans U),hP.1.2.up (U1.trans U)⟩) [2,0] sH ?CNa3 ?_
  case CNa3=>rfl
  rintro (_|j) G2 h2 N2 J2
  ·conv=>whnf
   have e:resFb s l[k]=none:=by unfold resFb;rw [show _=none from J2];rfl
   exact UnwS.pan Tryz.func74 (EndX.mk (N.trans (N1.trans N2)) (none) (fun h U=>allO_none.2 ⟨l[k],List.getElem_mem hk,by rw [e];rfl⟩) [] sH rfl rfl (okPan rfl))
  have e:(resFb s l[k]).map FbV.bare=some j.bare:=by unfold resFb;rw [J2.1];rfl
  conv=>whnf
  refine gS ?_;conv=>whnf
  repeat ((first|refine oL ?_|refine oR ?_);(try intro _);conv=>whnf)
  refine RunsS.rowsEq 2 (mid_set hk em j) ?_;conv=>whnf
  have U2:=Now.step N1.gsub N2
  refine RunsS.subR [] (back (⟨k+1,m++[j],_,G2,h2⟩) (by exact (⟨N1.trans N2,hk,by rw [List.length_append,em];rfl,by rw [List.map_append];exact allO_snoc hk ea e,mid_ok (fun a ha=>(ho a ha).up U2) J2.2⟩)) (by (try dsimp only);omega)) sH sH
 obtain ⟨N1,_,em,ea,ho⟩:=hJ
 have hk:k=l.length:=by omega
 clear back
 subst hk
 rw [List.take_length] at ea
 conv=>whnf
 refine RunsS.rowsEq 2 (mid_all em) ?_;conv=>whnf
 refine RunsS.retU ?_
 exact UnwS.ret tab Tryz.func74 rfl (EndX.mk (N.trans N1) (some m) (fun h U=>⟨ea,fun a ha=>(ho a ha).up U⟩) [(1,2)] sH rfl rfl (okRet rfl rfl))
theorem numRc_fn (v:Value) (l:List RcV) (hb:l.length≤1000000) (hs:∀a∈l,a.cs.length≤1000000∧a.inn.length≤1000000∧a.out.length≤1000000∧a.runs.length≤1000000):FnX Tryz.prog 77 1 [.v v,.fn (.func 78) [] [.ptr 0 0]] [rsvC 0 mU mI mP mM mO vC] (fun G h=>NumT v 17 (rws RcV.row l) s mU mI mP mM mO vC G h ∧ ∀a∈l,a.ok G h)
  (fun (x:Option (List RcV)) G h=>match x with
   |some m=>allO (fun a=>(resRc s a).map RcV.bare) l=some (m.map RcV.bare) ∧ ∀a∈m,a.ok G h
   |none=>allO (fun a=>(resRc s a).map RcV.bare) l=none) (nmxOut RcV.row 49 17 mU mI mP mM mO vC):=by
 have hl:=rws_len RcV.row l
 refine FnX.of Tryz.func77 (by kernel_rfl) rfl Tryz.ntmps77 rfl fun E0 F G h N hP w0 cs=>?_
 conv=>whnf
 refine gS ?_;conv=>whnf
 refine RunsS.nameAt (fun _ x=>x) 6 (by exact RoF.up ⟨N.gsub,fun _ _=>rfl⟩ hP.1.1) ?_
 conv=>whnf
 refine gS ?_;conv=>whnf
 refine RunsS.callN (cloneRc_fn (rws RcV.row l) (by omega)) [1] ?_ sH ?CNa5
 case CNa5=>rfl
 intro _ _
 conv=>whnf
 refine gS ?_;conv=>whnf
 refine RunsS.subR [] (RunsS.loopB (fun (⟨k,m,F1,G1,h1⟩:Nat×List RcV×(Nat→Prop)×(Nat→Prop)×Array Obj)=>(F1,h1)) (fun (⟨k,m,F1,G1,h1⟩:Nat×List RcV×(Nat→Prop)×(Nat→Prop)×Array Obj)=>[(10,.v (.int .i64 k)),(9,.v (.int .i64 (rws RcV.row l).length)),(0,.buf 2),(1,.fn (.func 78) [] [.ptr 0 0])]) (fun (⟨k,m,F1,G1,h1⟩:Nat×List RcV×(Nat→Prop)×(Nat→Prop)×Array Obj)=>[(2,.own 49 17 (rws RcV.row (m++l.drop k))),rsvC 0 mU mI mP mM mO vC]) 3 (fun (⟨k,m,F1,G1,h1⟩:Nat×List RcV×(Nat→Prop)×(Nat→Prop)×Array Obj)=>Now F G h F1 G1 h1∧k≤l.length∧m.length=k∧allO (fun a=>(resRc s a).map RcV.bare) (l.take k)=some (m.map RcV.bare) ∧ ∀a∈m,a.ok G1 h1) (fun (⟨k,m,F1,G1,h1⟩:Nat×List RcV×(Nat→Prop)×(Nat→Prop)×Array Obj)=>l.length - k) ?round6 (⟨0,[],F,G,h⟩) ?J06) sH sH
 case J06=>exact (⟨N,Nat.zero_le _,rfl,rfl,fun _ h=>absurd h List.not_mem_nil⟩)
 rintro ⟨k,m,F1,G1,h1⟩ hJ back
 try dsimp only at hJ back
 conv=>whnf
 try dsimp only
 refine gS ?_;conv=>whnf
 refine ⟨fun hk=>?_,fun hk=>?_⟩<;>conv=>whnf
 ·obtain ⟨N1,_,em,ea,ho⟩:=hJ
  have U1:=Now.step N.gsub N1
  have hk:k<l.length:=by omega
  have hm:=mid_len (f:=RcV.row) hk em
  conv=>whnf
  repeat ((first|refine oL ?_|refine oR ?_);(try intro _);conv=>whnf)
  refine RunsS.callX (N1.gsub) (clRc_fn _ k l[k] (mid_get hk em) (hs _ (List.getElem_mem hk)).1 (hs _ (List.getElem_mem hk)).2.1 (hs _ (List.getElem_mem hk)).2.2.1 (hs _ (List.getElem_mem hk)).2.2.2) (fun h U=>⟨(hP.2 _ (List.getElem_mem hk)).up (U1.trans U),hP.1.2.up (U1.trans U)⟩) [2,0] sH ?CNa7 ?_
  case CNa7=>rfl
  rintro (_|j) G2 h2 N2 J2
  ·conv=>whnf
   have e:resRc s l[k]=none:=J2
   exact UnwS.pan Tryz.func77 (EndX.mk (N.trans (N1.trans N2)) (none) (fun h U=>allO_none.2 ⟨l[k],List.getElem_mem hk,by rw [e];rfl⟩) [] sH rfl rfl (okPan rfl))
  have e:(resRc s l[k]).map RcV.bare=some j.bare:=J2.1
  conv=>whnf
  refine gS ?_;conv=>whnf
  repeat ((first|refine oL ?_|refine oR ?_);(try intro _);conv=>whnf)
  refine RunsS.rowsEq 2 (mid_set hk em j) ?_;conv=>whnf
  have U2:=Now.step N1.gsub N2
  refine RunsS.subR [] (back (⟨k+1,m++[j],_,G2,h2⟩) (by exact (⟨N1.trans N2,hk,by rw [List.length_append,em];rfl,by rw [List.map_append];exact allO_snoc hk ea e,mid_ok (fun a ha=>(ho a ha).up U2) J2.2⟩)) (by (try dsimp only);omega)) sH sH
 obtain ⟨N1,_,em,ea,ho⟩:=hJ
 have hk:k=l.length:=by omega
 clear back
 subst hk
 rw [List.take_length] at ea
 conv=>whnf
 refine RunsS.rowsEq 2 (mid_all em) ?_;conv=>whnf
 refine RunsS.retU ?_
 exact UnwS.ret tab Tryz.func77 rfl (EndX.mk (N.trans N1) (some m) (fun h U=>⟨ea,fun a ha=>(ho a ha).up U⟩) [(1,2)] sH rfl rfl (okRet rfl rfl))
theorem numOp_fn (v:Value) (l:List OpV) (hb:l.length≤1000000) (hs:∀a∈l,a.ch.length≤1000000):FnX Tryz.prog 72 0 [.v v,.v (.func (.func 73) #[] #[])] [] (fun G h=>RoF G h v 2 (rws OpV.row l) ∧ ∀a∈l,a.ok G h)
  (fun (m:List OpV) G h=>l.map OpV.bare=m.map OpV.bare ∧ ∀a∈m,a.ok G h) (fun m=>.ret (.buf 0) 1 [(0,.own 61 2 (rws OpV.row m))]):=by
 have hl:=rws_len OpV.row l
 refine FnX.of Tryz.func72 (by kernel_rfl) rfl Tryz.ntmps72 rfl fun E0 F G h N hP w0 cs=>?_
 conv=>whnf
 refine gS ?_;conv=>whnf
 refine RunsS.nameAt (fun _ x=>x) 6 (by exact RoF.up ⟨N.gsub,fun _ _=>rfl⟩ hP.1) ?_
 conv=>whnf
 refine gS ?_;conv=>whnf
 refine RunsS.callN (cloneOp_fn (rws OpV.row l) (by omega)) [0] ?_ sH ?CNa9
 case CNa9=>rfl
 intro _ _
 conv=>whnf
 refine gS ?_;conv=>whnf
 refine RunsS.subR [] (RunsS.loopB (fun (⟨k,m,F1,G1,h1⟩:Nat×List OpV×(Nat→Prop)×(Nat→Prop)×Array Obj)=>(F1,h1)) (fun (⟨k,m,F1,G1,h1⟩:Nat×List OpV×(Nat→Prop)×(Nat→Prop)×Array Obj)=>[(10,.v (.int .i64 k)),(9,.v (.int .i64 (rws OpV.row l).length)),(0,.buf 1),(1,.v (.func (.func 73) #[] #[]))]) (fun (⟨k,m,F1,G1,h1⟩:Nat×List OpV×(Nat→Prop)×(Nat→Prop)×Array Obj)=>[(1,.own 61 2 (rws OpV.row (m++l.drop k)))]) 2 (fun (⟨k,m,F1,G1,h1⟩:Nat×List OpV×(Nat→Prop)×(Nat→Prop)×Array Obj)=>Now F G h F1 G1 h1∧k≤l.length∧m.length=k∧(l.take k).map OpV.bare=m.map OpV.bare ∧ ∀a∈m,a.ok G1 h1) (fun (⟨k,m,F1,G1,h1⟩:Nat×List OpV×(Nat→Prop)×(Nat→Prop)×Array Obj)=>l.length - k) ?round10 (⟨0,[],F,G,h⟩) ?J010) sH sH
 case J010=>exact (⟨N,Nat.zero_le _,rfl,rfl,fun _ h=>absurd h List.not_mem_nil⟩)
 rintro ⟨k,m,F1,G1,h1⟩ hJ back
 try dsimp only at hJ back
 conv=>whnf
 try dsimp only
 refine gS ?_;conv=>whnf
 refine ⟨fun hk=>?_,fun hk=>?_⟩<;>conv=>whnf
 ·obtain ⟨N1,_,em,ea,ho⟩:=hJ
  have U1:=Now.step N.gsub N1
  have hk:k<l.length:=by omega
  have hm:=mid_len (f:=OpV.row) hk em
  conv=>whnf
  repeat ((first|refine oL ?_|refine oR ?_);(try intro _);conv=>whnf)
  refine RunsS.callX (N1.gsub) (clOp_fn _ k l[k] (mid_get hk em) (hs _ (List.getElem_mem hk))) (fun h U=>(hP.2 _ (List.getElem_mem hk)).up (U1.trans U)) [1] sH ?CNa11 ?_
  case CNa11=>rfl
  rintro x G2 h2 N2 J2
  conv=>whnf
  refine gS ?_;conv=>whnf
  repeat ((first|refine oL ?_|refine oR ?_);(try intro _);conv=>whnf)
  refine RunsS.rowsEq 1 (mid_set hk em _) ?_;conv=>whnf
  have U2:=Now.step N1.gsub N2
  refine RunsS.subR [] (back (⟨k+1,m++[{l[k] with hd:=x}],_,G2,h2⟩) (by exact (⟨N1.trans N2,hk,by rw [List.length_append,em];rfl,by rw [List.map_append,take_snoc hk,List.map_append,ea];rfl,mid_ok (fun a ha=>(ho a ha).up U2) J2⟩)) (by (try dsimp only);omega)) sH sH
 obtain ⟨N1,_,em,ea,ho⟩:=hJ
 have hk:k=l.length:=by omega
 clear back
 subst hk
 rw [List.take_length] at ea
 conv=>whnf
 refine RunsS.rowsEq 1 (mid_all em) ?_;conv=>whnf
 refine RunsS.retU ?_
 exact UnwS.ret tab Tryz.func72 rfl (EndX.mk (N.trans N1) (m) (fun h U=>⟨ea,fun a ha=>(ho a ha).up U⟩) [(0,1)] sH rfl rfl (okRet rfl rfl))
end
end Go.Proofs.YtofjdbmcloemnaaGreatDoor

namespace Go.SrcM
open Go Go.Fw Go.RatM
structure TopF (G:Nat→Prop) (h:Array Obj) (vU vI vP vM vO vF vR vS:Value) (s:SrcV):Prop where
 U:RoF G h vU 8 (rowsU s.units)
 I:RoF G h vI 6 (rws It.row s.items)
 P:RoF G h vP 1 (rwsB s.plants)
 M:RoF G h vM 4 (rws Mc.row s.machines)
 O:RoF G h vO 2 (rws OpV.row s.options)
 F:RoF G h vF 1 (rws FbV.row s.forbids)
 R:RoF G h vR 17 (rws RcV.row s.recipes)
 S:RoF G h vS 4 (rws Sw.row s.swaps)
 below:s.sub G h
theorem TopF.up {G G':Nat→Prop} {h h':Array Obj} {vU vI vP vM vO vF vR vS:Value} {s:SrcV} (H:TopF G h vU vI vP vM vO vF vR vS s) (U:Up G h G' h'):TopF G' h' vU vI vP vM vO vF vR vS s:=
 ⟨RoF.up U H.U,RoF.up U H.I,RoF.up U H.P,RoF.up U H.M,RoF.up U H.O,RoF.up U H.F,RoF.up U H.R,RoF.up U H.S,H.below.up U⟩
structure Lens (s:SrcV):Prop where
 U:s.units.length≤1000000
 I:s.items.length≤1000000
 P:s.plants.length≤1000000
 M:s.machines.length≤1000000
 O:s.options.length≤1000000
 F:s.forbids.length≤1000000
 R:s.recipes.length≤1000000
 S:s.swaps.length≤1000000
 o:∀a∈s.options,a.ch.length≤1000000
 f:∀a∈s.forbids,a.cs.length≤1000000
 r:∀a∈s.recipes,a.cs.length≤1000000∧a.inn.length≤1000000∧a.out.length≤1000000∧a.runs.length≤1000000
theorem allO_mapB {α β γ:Type} {f:α→Option β} {b:β→γ}:∀l:List α,allO (fun a=>(f a).map b) l=(allO f l).map (List.map b)
 | []=>rfl
 |a::l=>by
  simp only [allO]
  cases f a with
  |none=>rfl
  |some x=>
   rw [allO_mapB l]
   cases allO f l<;>rfl
end Go.SrcM
namespace Go.Proofs.YtofjdbmcloemnaaGreatDoor
open Go Go.Fw Go.NatM Go.RatM Go.SrcM
set_option maxRecDepth 100000
set_option maxHeartbeats 99999999
section
variable {s:SrcV} {mU mI mP mM mO vC:Value}
abbrev srcOut:Option (SrcV×Value×Value×Value×Value×Value×Value×Value×Value)→OutS
 |some (_,vU,vI,vP,vM,vO,vF,vR,vS)=>.ret (.agg [.v vU,.v vI,.v vP,.v vM,.v vO,.v vF,.v vR,.v vS]) 0 []
 |none=>.pan failCh 0 []
theorem source_fn (vU vI vP vM vO vF vR vS:Value) (hL:Lens s):FnX Tryz.prog 30 0 [.agg [.v mU,.v mI,.v mP,.v mM,.v mO,.v vC],.agg [.v vU,.v vI,.v vP,.v vM,.v vO,.v vF,.v vR,.v vS]] [] (fun G h=>TopF G h vU vI vP vM vO vF vR vS s∧ResF G h s mU mI mP mM mO vC)
  (fun x G h=>match x with
   |some (t,wU,wI,wP,wM,wO,wF,wR,wS)=>(SrcM.resS s).map SrcV.bare=some t.bare∧t.units=s.units∧TopF G h wU wI wP wM wO wF wR wS t
   |none=>SrcM.resS s=none) srcOut:=by
 obtain ⟨y,hy⟩:∃y,y=SrcM.resS s:=⟨_,rfl⟩
 rw [←hy]
 unfold SrcM.resS at hy
 refine FnX.of Tryz.func30 (by kernel_rfl) rfl Tryz.ntmps30 rfl fun E0 F G h N hP w0 cs=>?_
 conv=>whnf
 refine gS ?_;conv=>whnf
 obtain ⟨aU,cU,rfl⟩:=RoF.sli hP.1.U rfl
 have T0:=N
 have V0:=Now.step N.gsub N
 refine RunsS.callT (NumT.tok _ _ _ _ _ _ _ _ _ _) (⟨RoF.up (V0.trans ⟨T0.gsub,fun _ _=>rfl⟩) hP.1.I,hP.2.up (V0.trans ⟨T0.gsub,fun _ _=>rfl⟩)⟩) (numIt_fn vI s.items hL.I) [0] sH ?CNa1 ?_
 case CNa1=>rfl
 rintro x1 hx1
 cases hm1:allO (resIt s) s.items with
 |none=>
  rw [hm1] at hx1
  subst hx1
  simp only [hm1] at hy
  conv=>whnf
  exact UnwS.pan Tryz.func30 (EndX.mk (T0) (none) (fun h U=>hy) [] sH rfl rfl (okPan rfl))
 |some m1=>
 rw [hm1] at hx1
 subst hx1
 simp only [hm1] at hy
 conv=>whnf
 refine gS ?_;conv=>whnf
 refine RunsS.conc (n:=m1.length) (T0.gsub) 3 ?_ (hlen:=rws_len It.row m1)
 intro a1 c1 G1 h1 N1 R1
 conv=>whnf
 refine gS ?_;conv=>whnf
 have T1:=T0.trans N1
 have V1:=Now.step N.gsub T1
 have W1:=Now.step T0.gsub N1
 refine RunsS.subR (nx':=3) (l':=[(11,.v vP),(2,.ptr 0 0),(3,.ptr 1 0),(4,.ptr 2 0)]) (H':=[rsvC 0 mU mI mP mM mO vC,(1,.cells 31 [.v (.slice aU (rowsU s.units).length cU),.v (.slice a1 m1.length c1),.v vP,.v vM,.v vO,.v vF,.v vR,.v vS]),(2,.cells 31 [.v (.slice none 0 0),.v (.slice none 0 0),.v (.slice none 0 0),.v (.slice none 0 0),.v (.slice none 0 0),.v (.slice none 0 0),.v (.slice none 0 0),.v (.slice none 0 0)])]) [] ?_ sH sH
 refine RunsS.nameAt (fun _ x=>x) 11 (by exact RoF.up (V1.trans ⟨T1.gsub,fun _ _=>rfl⟩) hP.1.P) ?_
 conv=>whnf
 refine gS ?_;conv=>whnf
 refine RunsS.callN (cloneSt_fn (rwsB s.plants) (by rw [rwsB_len];exact hL.P)) [3] ?_ sH ?CNa2
 case CNa2=>rfl
 intro _ _
 conv=>whnf
 refine gS ?_;conv=>whnf
 refine RunsS.conc (n:=s.plants.length) (T1.gsub) 4 ?_ (hlen:=rwsB_len s.plants)
 intro a2 c2 G2 h2 N2 R2
 conv=>whnf
 refine gS ?_;conv=>whnf
 have T2:=T1.trans N2
 have V2:=Now.step N.gsub T2
 have W2:=Now.step T1.gsub N2
 refine RunsS.subR (nx':=3) (l':=[(15,.v vM),(16,.fn (.func 71) [] [.ptr 0 0]),(2,.ptr 0 0),(3,.ptr 1 0),(4,.ptr 2 0)]) (H':=[rsvC 0 mU mI mP mM mO vC,(1,.cells 31 [.v (.slice aU (rowsU s.units).length cU),.v (.slice a1 m1.length c1),.v (.slice a2 s.plants.length c2),.v vM,.v vO,.v vF,.v vR,.v vS]),(2,.cells 31 [.v (.slice none 0 0),.v (.slice none 0 0),.v (.slice none 0 0),.v (.slice none 0 0),.v (.slice none 0 0),.v (.slice none 0 0),.v (.slice none 0 0),.v (.slice none 0 0)])]) [] ?_ sH sH
 refine RunsS.callT (NumT.tok _ _ _ _ _ _ _ _ _ _) (⟨RoF.up (V2.trans ⟨T2.gsub,fun _ _=>rfl⟩) hP.1.M,hP.2.up (V2.trans ⟨T2.gsub,fun _ _=>rfl⟩)⟩) (numMc_fn vM s.machines hL.M) [0] sH ?CNa3 ?_
 case CNa3=>rfl
 rintro x3 hx3
 cases hm3:allO (resMc s) s.machines with
 |none=>
  rw [hm3] at hx3
  subst hx3
  simp only [hm3] at hy
  conv=>whnf
  exact UnwS.pan Tryz.func30 (EndX.mk (T2) (none) (fun h U=>hy) [] sH rfl rfl (okPan rfl))
 |some m3=>
 rw [hm3] at hx3
 subst hx3
 simp only [hm3] at hy
 conv=>whnf
 refine gS ?_;conv=>whnf
 refine RunsS.conc (n:=m3.length) (T2.gsub) 3 ?_ (hlen:=rws_len Mc.row m3)
 intro a3 c3 G3 h3 N3 R3
 conv=>whnf
 refine gS ?_;conv=>whnf
 have T3:=T2.trans N3
 have V3:=Now.step N.gsub T3
 have W3:=Now.step T2.gsub N3
 refine RunsS.subR (nx':=3) (l':=[(20,.v vO),(2,.ptr 0 0),(3,.ptr 1 0),(4,.ptr 2 0)]) (H':=[rsvC 0 mU mI mP mM mO vC,(1,.cells 31 [.v (.slice aU (rowsU s.units).length cU),.v (.slice a1 m1.length c1),.v (.slice a2 s.plants.length c2),.v (.slice a3 m3.length c3),.v vO,.v vF,.v vR,.v vS]),(2,.cells 31 [.v (.slice none 0 0),.v (.slice none 0 0),.v (.slice none 0 0),.v (.slice none 0 0),.v (.slice none 0 0),.v (.slice none 0 0),.v (.slice none 0 0),.v (.slice none 0 0)])]) [] ?_ sH sH
 refine RunsS.callX (T3.gsub) (numOp_fn vO s.options hL.O hL.o) (fun h U=>⟨RoF.up (V3.trans U) hP.1.O,fun a ha=>(hP.1.below.o a ha).up (V3.trans U)⟩) [] sH ?CNa4 ?_
 case CNa4=>rfl
 rintro m4 G4 h4 N4 J4
 conv=>whnf
 refine gS ?_;conv=>whnf
 have T4:=T3.trans N4
 have V4:=Now.step N.gsub T4
 have W4:=Now.step T3.gsub N4
 refine RunsS.conc (n:=m4.length) (T4.gsub) 3 ?_ (hlen:=rws_len OpV.row m4)
 intro a5 c5 G5 h5 N5 R5
 conv=>whnf
 refine gS ?_;conv=>whnf
 have T5:=T4.trans N5
 have V5:=Now.step N.gsub T5
 have W5:=Now.step T4.gsub N5
 refine RunsS.subR (nx':=3) (l':=[(24,.v vF),(25,.fn (.func 75) [] [.ptr 0 0]),(2,.ptr 0 0),(3,.ptr 1 0),(4,.ptr 2 0)]) (H':=[rsvC 0 mU mI mP mM mO vC,(1,.cells 31 [.v (.slice aU (rowsU s.units).length cU),.v (.slice a1 m1.length c1),.v (.slice a2 s.plants.length c2),.v (.slice a3 m3.length c3),.v (.slice a5 m4.length c5),.v vF,.v vR,.v vS]),(2,.cells 31 [.v (.slice none 0 0),.v (.slice none 0 0),.v (.slice none 0 0),.v (.slice none 0 0),.v (.slice none 0 0),.v (.slice none 0 0),.v (.slice none 0 0),.v (.slice none 0 0)])]) [] ?_ sH sH
 refine RunsS.callX (T5.gsub) (numFb_fn vF s.forbids hL.F hL.f) (fun h U=>⟨⟨RoF.up (V5.trans U) hP.1.F,hP.2.up (V5.trans U)⟩,fun a ha=>(hP.1.below.f a ha).up (V5.trans U)⟩) [0] sH ?CNa5 ?_
 case CNa5=>rfl
 rintro (_|m6) G6 h6 N6 J6
 ·conv=>whnf
  rw [allO_mapB] at J6
  simp only [Option.map_eq_none_iff.1 J6] at hy
  exact UnwS.pan Tryz.func30 (EndX.mk (T5.trans N6) (none) (fun h U=>hy) [] sH rfl rfl (okPan rfl))
 have e6:=J6.1
 rw [allO_mapB] at e6
 obtain ⟨l6,hm6,b6⟩:=opt_map e6
 simp only [hm6] at hy
 have T6:=T5.trans N6
 have V6:=Now.step N.gsub T6
 have W6:=Now.step T5.gsub N6
 conv=>whnf
 refine gS ?_;conv=>whnf
 refine RunsS.conc (n:=m6.length) (T6.gsub) 3 ?_ (hlen:=rws_len FbV.row m6)
 intro a7 c7 G7 h7 N7 R7
 conv=>whnf
 refine gS ?_;conv=>whnf
 have T7:=T6.trans N7
 have V7:=Now.step N.gsub T7
 have W7:=Now.step T6.gsub N7
 refine RunsS.subR (nx':=3) (l':=[(29,.v vR),(30,.fn (.func 78) [] [.ptr 0 0]),(2,.ptr 0 0),(3,.ptr 1 0),(4,.ptr 2 0)]) (H':=[rsvC 0 mU mI mP mM mO vC,(1,.cells 31 [.v (.slice aU (rowsU s.units).length cU),.v (.slice a1 m1.length c1),.v (.slice a2 s.plants.length c2),.v (.slice a3 m3.length c3),.v (.slice a5 m4.length c5),.v (.slice a7 m6.length c7),.v vR,.v vS]),(2,.cells 31 [.v (.slice none 0 0),.v (.slice none 0 0),.v (.slice none 0 0),.v (.slice none 0 0),.v (.slice none 0 0),.v (.slice none 0 0),.v (.slice none 0 0),.v (.slice none 0 0)])]) [] ?_ sH sH
 refine RunsS.callX (T7.gsub) (numRc_fn vR s.recipes hL.R hL.r) (fun h U=>⟨⟨RoF.up (V7.trans U) hP.1.R,hP.2.up (V7.trans U)⟩,fun a ha=>(hP.1.below.r a ha).up (V7.trans U)⟩) [0] sH ?CNa6 ?_
 case CNa6=>rfl
 rintro (_|m8) G8 h8 N8 J8
 ·conv=>whnf
  rw [allO_mapB] at J8
  simp only [Option.map_eq_none_iff.1 J8] at hy
  exact UnwS.pan Tryz.func30 (EndX.mk (T7.trans N8) (none) (fun h U=>hy) [] sH rfl rfl (okPan rfl))
 have e8:=J8.1
 rw [allO_mapB] at e8
 obtain ⟨l8,hm8,b8⟩:=opt_map e8
 simp only [hm8] at hy
 have T8:=T7.trans N8
 have V8:=Now.step N.gsub T8
 have W8:=Now.step T7.gsub N8
 conv=>whnf
 refine gS ?_;conv=>whnf
 refine RunsS.conc (n:=m8.length) (T8.gsub) 3 ?_ (hlen:=rws_len RcV.row m8)
 intro a9 c9 G9 h9 N9 R9
 conv=>whnf
 refine gS ?_;conv=>whnf
 have T9:=T8.trans N9
 have V9:=Now.step N.gsub T9
 have W9:=Now.step T8.gsub N9
 refine RunsS.subR (nx':=3) (l':=[(34,.v vS),(35,.fn (.func 83) [] [.ptr 0 0]),(2,.ptr 0 0),(3,.ptr 1 0),(4,.ptr 2 0)]) (H':=[rsvC 0 mU mI mP mM mO vC,(1,.cells 31 [.v (.slice aU (rowsU s.units).length cU),.v (.slice a1 m1.length c1),.v (.slice a2 s.plants.length c2),.v (.slice a3 m3.length c3),.v (.slice a5 m4.length c5),.v (.slice a7 m6.length c7),.v (.slice a9 m8.length c9),.v vS]),(2,.cells 31 [.v (.slice none 0 0),.v (.slice none 0 0),.v (.slice none 0 0),.v (.slice none 0 0),.v (.slice none 0 0),.v (.slice none 0 0),.v (.slice none 0 0),.v (.slice none 0 0)])]) [] ?_ sH sH
 refine RunsS.callT (NumT.tok _ _ _ _ _ _ _ _ _ _) (⟨RoF.up (V9.trans ⟨T9.gsub,fun _ _=>rfl⟩) hP.1.S,hP.2.up (V9.trans ⟨T9.gsub,fun _ _=>rfl⟩)⟩) (numSw_fn vS s.swaps hL.S) [0] sH ?CNa7 ?_
 case CNa7=>rfl
 rintro x10 hx10
 cases hm10:allO (resSw s) s.swaps with
 |none=>
  rw [hm10] at hx10
  subst hx10
  simp only [hm10] at hy
  conv=>whnf
  exact UnwS.pan Tryz.func30 (EndX.mk (T9) (none) (fun h U=>hy) [] sH rfl rfl (okPan rfl))
 |some m10=>
 rw [hm10] at hx10
 subst hx10
 simp only [hm10] at hy
 conv=>whnf
 refine RunsS.conc (n:=m10.length) (T9.gsub) 3 ?_ (hlen:=rws_len Sw.row m10)
 intro a10 c10 G10 h10 N10 R10
 conv=>whnf
 refine gS ?_;conv=>whnf
 have T10:=T9.trans N10
 have V10:=Now.step N.gsub T10
 have W10:=Now.step T9.gsub N10
 refine RunsS.retU ?_
 exact UnwS.ret tab Tryz.func30 rfl (eX (T10) (some (⟨s.units,m1,s.plants,m3,m4,m6,m8,m10⟩,_,_,_,_,_,_,_,_)) (fun h U=>⟨by rw [hy];simp only [Option.map,SrcV.bare,J4.1,b6,b8],rfl,RoF.up (V10.trans U) hP.1.U,RoF.up (W2.trans (W3.trans (W4.trans (W5.trans (W6.trans (W7.trans (W8.trans (W9.trans (W10.trans U))))))))) R1,RoF.up (W3.trans (W4.trans (W5.trans (W6.trans (W7.trans (W8.trans (W9.trans (W10.trans U)))))))) R2,RoF.up (W4.trans (W5.trans (W6.trans (W7.trans (W8.trans (W9.trans (W10.trans U))))))) R3,RoF.up (W6.trans (W7.trans (W8.trans (W9.trans (W10.trans U))))) R5,RoF.up (W8.trans (W9.trans (W10.trans U))) R7,RoF.up (W10.trans U) R9,RoF.up U R10,fun a ha=>(J4.2 a ha).up (W5.trans (W6.trans (W7.trans (W8.trans (W9.trans (W10.trans U)))))),fun a ha=>(J6.2 a ha).up (W7.trans (W8.trans (W9.trans (W10.trans U)))),fun a ha=>(J8.2 a ha).up (W9.trans (W10.trans U))⟩))
end
end Go.Proofs.YtofjdbmcloemnaaGreatDoor

namespace Go.Proofs.YtofjdbmcloemnaaGreatDoor
open Go Go.Fw Go.NatM Go.RatM Go.SrcM
set_option maxRecDepth 100000
set_option maxHeartbeats 99999999
section
variable {s:SrcV}
def twiceK (s:SrcV) (k:Nat):Prop:=(¬(s.units.map Un.name).Nodup ∨ ¬(s.items.map It.name).Nodup ∨ ¬s.plants.Nodup ∨ ¬(s.machines.map Mc.name).Nodup ∨ ¬(s.options.map OpV.name).Nodup) ∨ ∃o∈s.options.take k,¬o.ch.Nodup
instance (s:SrcV) (k:Nat):Decidable (twiceK s k):=by unfold twiceK;infer_instance
theorem twice0 (s:SrcV):decide (true ∈ [dupB (s.units.map Un.name),dupB (s.items.map It.name),dupB s.plants,dupB (s.machines.map Mc.name),dupB (s.options.map OpV.name)])=decide (twiceK s 0):=by
 unfold twiceK dupB
 refine decide_eq_decide.2 ?_
 simp only [List.mem_cons,List.not_mem_nil,or_false,List.take_zero,false_and,exists_false,eq_comm (a:=true),decide_eq_true_eq]
theorem twice_end (s:SrcV):decide (twiceK s s.options.length)=decide (twiceN s):=by
 unfold twiceK twiceN
 refine decide_eq_decide.2 ?_
 rw [List.take_length]
 simp only [Classical.not_forall,or_assoc,exists_prop]
theorem twice_step (s:SrcV) {k:Nat} (hk:k<s.options.length):(decide (twiceK s k)||dupB s.options[k].ch)=decide (twiceK s (k+1)):=by
 unfold dupB
 rw [Bool.eq_iff_iff]
 simp only [Bool.or_eq_true,decide_eq_true_eq]
 unfold twiceK
 rw [take_snoc hk]
 simp only [List.mem_append,List.mem_singleton,or_assoc,or_and_right,exists_or,exists_eq_left]
theorem maps_snoc {s:SrcV} {G:Nat→Prop} {h:Array Obj} {rs:List Nat} {r k:Nat} (em:rs.length=k) (ho:∀i (h1:i<rs.length) (h2:i<s.options.length),MapF G h (.map (some rs[i])) .string (firsts s.options[i].ch)) {hk:k<s.options.length} (hr:MapF G h (.map (some r)) .string (firsts s.options[k].ch)):
  ∀i (h1:i<(rs++[r]).length) (h2:i<s.options.length),MapF G h (.map (some (rs++[r])[i])) .string (firsts s.options[i].ch):=by
 intro i h1 h2
 by_cases h:i<rs.length
 ·rw [List.getElem_append_left h];exact ho i h h2
 have e:i=k:=by simp at h1;omega
 subst e
 rw [List.getElem_append_right (by omega)]
 simpa [em] using hr
theorem arrU:Tryz.prog.underlying 97=some (.array 5 4):=by kernel_rfl
theorem boolS:(Tryz.prog.info? 4).map (·.size)=some 1:=by kernel_rfl
abbrev rowsT (bs:List Bool):List (List Value):=(bs.map Value.bool).map fun m=>[m]
theorem rowsT_len (bs:List Bool):(rowsT bs).length=bs.length:=by simp
theorem rowsT_get {bs:List Bool} {k:Nat} (hk:k<bs.length):(rowsT bs)[k]? = some [.bool bs[k]]:=by simp [hk]
theorem no_true {bs:List Bool} (h:∀j (hj:j<bs.length),bs[j]=false):¬true∈bs:=fun hm=>by
 obtain ⟨j,hj,e⟩:=List.getElem_of_mem hm
 rw [h j hj] at e
 cases e
theorem indexB_fn (bs:List Bool) (hb:bs.length≤1000000):FnS Tryz.prog 97 1 [.buf 0,.v (.bool true)] [(0,.ro 1 (rowsT bs))] (fun n:Int=> -1≤n∧n≤1000000∧(0≤n↔true∈bs)) (fun n=>.ret (.v (.int .i64 n)) 1 []):=by
 have hl:=rowsT_len bs
 refine FnS.of Tryz.func97 (by kernel_rfl) rfl Tryz.ntmps97 rfl fun E0 F h w0 cs=>?_
 conv=>whnf
 refine gS ?_;conv=>whnf
 refine RunsS.lenB 0 (fun m0=>?_)
 conv=>whnf
 refine gS ?_;conv=>whnf
 refine RunsS.subR [] (RunsS.loop (fun (k:Nat)=>[(8,.v (.int .i64 k)),(7,.v (.int .i64 (rowsT bs).length)),(0,.buf 0),(1,.v (.bool true))]) (fun (k:Nat)=>[(0,.ro 1 (rowsT bs))]) 1 (fun (k:Nat)=>k≤bs.length ∧ ∀j (hj:j<bs.length),j<k→bs[j]=false) (fun (k:Nat)=>bs.length - k) ?round1 (0) ?J01) sH sH
 case J01=>exact (⟨Nat.zero_le _,fun _ _ h=>absurd h (Nat.not_lt_zero _)⟩)
 rintro k hJ back
 conv=>whnf
 refine gS ?_;conv=>whnf
 refine ⟨fun hk=>?_,fun hk=>?_⟩<;>conv=>whnf
 ·have hk:k<bs.length:=by omega
  conv=>whnf
  repeat ((first|refine oL ?_|refine oR ?_);(try intro _);conv=>whnf)
  refine ⟨_,rowsT_get hk,?_⟩;conv=>whnf
  cases hv:bs[k] with
  |true=>
   conv=>whnf
   refine RunsS.retU ?_
   exact UnwS.ret tab Tryz.func97 rfl (EndS.mk ((k:Int)) (⟨by omega,by omega,⟨fun _=>hv▸List.getElem_mem hk,fun _=>by omega⟩⟩) [] sH rfl rfl (okRet rfl rfl))
  |false=>
   conv=>whnf
   repeat ((first|refine oL ?_|refine oR ?_);(try intro _);conv=>whnf)
   refine gS ?_;conv=>whnf
   refine RunsS.subR [] (back (k+1) (by exact (⟨hk,fun j hj h1=>(Nat.lt_or_eq_of_le (Nat.le_of_lt_succ h1)).elim (hJ.2 j hj) (fun e=>by subst e;exact hv)⟩)) (by (try dsimp only);omega)) sH sH
 conv=>whnf
 refine RunsS.retU ?_
 exact UnwS.ret tab Tryz.func97 rfl (EndS.mk ((-1:Int)) (⟨by omega,by omega,⟨fun h=>by omega,fun h=>(no_true (fun j hj=>hJ.2 j hj (by omega)) h).elim⟩⟩) [] sH rfl rfl (okRet rfl rfl))
theorem containsB_fn (bs:List Bool) (hb:bs.length≤1000000):FnS Tryz.prog 57 1 [.buf 0,.v (.bool true)] [(0,.ro 1 (rowsT bs))] (fun b:Bool=>b=decide (true∈bs)) (fun b=>.ret (.v (.bool b)) 1 []):=by
 refine FnS.of Tryz.func57 (by kernel_rfl) rfl Tryz.ntmps57 rfl fun E0 F h w0 cs=>?_
 conv=>whnf
 refine gS ?_;conv=>whnf
 refine RunsS.callN (indexB_fn bs hb) [0] ?_ sH ?CNa3
 case CNa3=>rfl
 intro _ _
 conv=>whnf
 refine gS ?_;conv=>whnf
 rename_i y hy
 refine RunsS.retU ?_
 exact UnwS.ret tab Tryz.func57 rfl (EndS.mk ((decide (0≤y))) ((show decide (0≤y)=decide (true∈bs) from decide_eq_decide.2 hy.2.2)) [] sH rfl rfl (okRet rfl rfl))
theorem gather_fn (vU vI vP vM vO vF vR vS:Value) (hL:Lens s):FnX Tryz.prog 27 0 [.agg [.v vU,.v vI,.v vP,.v vM,.v vO,.v vF,.v vR,.v vS]] [] (fun G h=>TopF G h vU vI vP vM vO vF vR vS s)
  (fun (y:Nat×Nat×Nat×Nat×Nat×Option Addr×Nat) G h=>ResF G h s (.map (some y.1)) (.map (some y.2.1)) (.map (some y.2.2.1)) (.map (some y.2.2.2.1)) (.map (some y.2.2.2.2.1)) (.slice y.2.2.2.2.2.1 s.options.length y.2.2.2.2.2.2))
  (fun y=>.ret (.tup [.agg [.v (.map (some y.1)),.v (.map (some y.2.1)),.v (.map (some y.2.2.1)),.v (.map (some y.2.2.2.1)),.v (.map (some y.2.2.2.2.1)),.v (.slice y.2.2.2.2.2.1 s.options.length y.2.2.2.2.2.2)],.v (.bool (decide (twiceN s)))]) 0 []):=by
 refine FnX.of Tryz.func27 (by kernel_rfl) rfl Tryz.ntmps27 rfl fun E0 F G h N hP w0 cs=>?_
 conv=>whnf
 refine gS ?_;conv=>whnf
 obtain ⟨aO,cO,rfl⟩:=RoF.sli hP.O (rws_len OpV.row s.options)
 have T0:=N
 have V0:=Now.step N.gsub N
 refine RunsS.nameAt (fun _ x=>x) 11 (by exact RoF.up (V0.trans ⟨T0.gsub,fun _ _=>rfl⟩) hP.U) ?_
 conv=>whnf
 refine gS ?_;conv=>whnf
 refine RunsS.callX (T0.gsub) (collectUnit_fn s.units) (fun _ _=>trivial) [3] sH ?CNa4 ?_
 case CNa4=>rfl
 rintro r1 G1 h1 N1 J1
 conv=>whnf
 refine gS ?_;conv=>whnf
 repeat ((first|refine oL ?_|refine oR ?_);(try intro _);conv=>whnf)
 have T1:=T0.trans N1
 have V1:=Now.step N.gsub T1
 have W1:=Now.step T0.gsub N1
 refine RunsS.subR (nx':=3) (l':=[(1,.ptr 0 0),(2,.ptr 1 0),(4,.ptr 2 0),(19,.v vI)]) (H':=[(0,.cells 31 [.v vU,.v vI,.v vP,.v vM,.v (.slice aO s.options.length cO),.v vF,.v vR,.v vS]),(1,.cells 75 [.v (.map (some r1)),.v (.map none),.v (.map none),.v (.map none),.v (.map none),.v (.slice none 0 0)]),(2,.cells 97 [.v (.bool (dupB (s.units.map Un.name))),.v (.bool false),.v (.bool false),.v (.bool false),.v (.bool false)])]) [] ?_ sH sH
 refine RunsS.nameAt (fun _ x=>x) 19 (by exact RoF.up (V1.trans ⟨T1.gsub,fun _ _=>rfl⟩) hP.I) ?_
 conv=>whnf
 refine gS ?_;conv=>whnf
 refine RunsS.callX (T1.gsub) (collectItem_fn s.items) (fun _ _=>trivial) [3] sH ?CNa5 ?_
 case CNa5=>rfl
 rintro r2 G2 h2 N2 J2
 conv=>whnf
 refine gS ?_;conv=>whnf
 repeat ((first|refine oL ?_|refine oR ?_);(try intro _);conv=>whnf)
 have T2:=T1.trans N2
 have V2:=Now.step N.gsub T2
 have W2:=Now.step T1.gsub N2
 refine RunsS.subR (nx':=3) (l':=[(1,.ptr 0 0),(2,.ptr 1 0),(4,.ptr 2 0),(27,.v vP)]) (H':=[(0,.cells 31 [.v vU,.v vI,.v vP,.v vM,.v (.slice aO s.options.length cO),.v vF,.v vR,.v vS]),(1,.cells 75 [.v (.map (some r1)),.v (.map (some r2)),.v (.map none),.v (.map none),.v (.map none),.v (.slice none 0 0)]),(2,.cells 97 [.v (.bool (dupB (s.units.map Un.name))),.v (.bool (dupB (s.items.map It.name))),.v (.bool false),.v (.bool false),.v (.bool false)])]) [] ?_ sH sH
 refine RunsS.nameAt (fun _ x=>x) 27 (by exact RoF.up (V2.trans ⟨T2.gsub,fun _ _=>rfl⟩) hP.P) ?_
 conv=>whnf
 refine gS ?_;conv=>whnf
 refine RunsS.callX (T2.gsub) (collectstring_fn s.plants) (fun _ _=>trivial) [3] sH ?CNa6 ?_
 case CNa6=>rfl
 rintro r3 G3 h3 N3 J3
 conv=>whnf
 refine gS ?_;conv=>whnf
 repeat ((first|refine oL ?_|refine oR ?_);(try intro _);conv=>whnf)
 have T3:=T2.trans N3
 have V3:=Now.step N.gsub T3
 have W3:=Now.step T2.gsub N3
 refine RunsS.subR (nx':=3) (l':=[(1,.ptr 0 0),(2,.ptr 1 0),(4,.ptr 2 0),(35,.v vM)]) (H':=[(0,.cells 31 [.v vU,.v vI,.v vP,.v vM,.v (.slice aO s.options.length cO),.v vF,.v vR,.v vS]),(1,.cells 75 [.v (.map (some r1)),.v (.map (some r2)),.v (.map (some r3)),.v (.map none),.v (.map none),.v (.slice none 0 0)]),(2,.cells 97 [.v (.bool (dupB (s.units.map Un.name))),.v (.bool (dupB (s.items.map It.name))),.v (.bool (dupB (s.plants))),.v (.bool false),.v (.bool false)])]) [] ?_ sH sH
 refine RunsS.nameAt (fun _ x=>x) 35 (by exact RoF.up (V3.trans ⟨T3.gsub,fun _ _=>rfl⟩) hP.M) ?_
 conv=>whnf
 refine gS ?_;conv=>whnf
 refine RunsS.callX (T3.gsub) (collectMachine_fn s.machines) (fun _ _=>trivial) [3] sH ?CNa7 ?_
 case CNa7=>rfl
 rintro r4 G4 h4 N4 J4
 conv=>whnf
 refine gS ?_;conv=>whnf
 repeat ((first|refine oL ?_|refine oR ?_);(try intro _);conv=>whnf)
 have T4:=T3.trans N4
 have V4:=Now.step N.gsub T4
 have W4:=Now.step T3.gsub N4
 refine RunsS.subR (nx':=3) (l':=[(1,.ptr 0 0),(2,.ptr 1 0),(4,.ptr 2 0),(43,.v (.slice aO s.options.length cO))]) (H':=[(0,.cells 31 [.v vU,.v vI,.v vP,.v vM,.v (.slice aO s.options.length cO),.v vF,.v vR,.v vS]),(1,.cells 75 [.v (.map (some r1)),.v (.map (some r2)),.v (.map (some r3)),.v (.map (some r4)),.v (.map none),.v (.slice none 0 0)]),(2,.cells 97 [.v (.bool (dupB (s.units.map Un.name))),.v (.bool (dupB (s.items.map It.name))),.v (.bool (dupB (s.plants))),.v (.bool (dupB (s.machines.map Mc.name))),.v (.bool false)])]) [] ?_ sH sH
 refine RunsS.nameAt (fun _ x=>x) 43 (by exact RoF.up (V4.trans ⟨T4.gsub,fun _ _=>rfl⟩) hP.O) ?_
 conv=>whnf
 refine gS ?_;conv=>whnf
 refine RunsS.callX (T4.gsub) (collectOption_fn s.options) (fun _ _=>trivial) [3] sH ?CNa8 ?_
 case CNa8=>rfl
 rintro r5 G5 h5 N5 J5
 conv=>whnf
 refine gS ?_;conv=>whnf
 repeat ((first|refine oL ?_|refine oR ?_);(try intro _);conv=>whnf)
 have T5:=T4.trans N5
 have V5:=Now.step N.gsub T5
 have W5:=Now.step T4.gsub N5
 refine RunsS.subR (nx':=3) (l':=[(1,.ptr 0 0),(2,.ptr 1 0),(4,.ptr 2 0)]) (H':=[(0,.cells 31 [.v vU,.v vI,.v vP,.v vM,.v (.slice aO s.options.length cO),.v vF,.v vR,.v vS]),(1,.cells 75 [.v (.map (some r1)),.v (.map (some r2)),.v (.map (some r3)),.v (.map (some r4)),.v (.map (some r5)),.v (.slice none 0 0)]),(2,.cells 97 [.v (.bool (dupB (s.units.map Un.name))),.v (.bool (dupB (s.items.map It.name))),.v (.bool (dupB (s.plants))),.v (.bool (dupB (s.machines.map Mc.name))),.v (.bool (dupB (s.options.map OpV.name)))])]) [] ?_ sH sH
 obtain ⟨bs,hbs⟩:∃bs,bs=[dupB (s.units.map Un.name),dupB (s.items.map It.name),dupB (s.plants),dupB (s.machines.map Mc.name),dupB (s.options.map OpV.name)]:=⟨_,rfl⟩
 refine RunsS.concA (n:=5) (hsm:=by decide) (vs:=[.bool (dupB (s.units.map Un.name)),.bool (dupB (s.items.map It.name)),.bool (dupB (s.plants)),.bool (dupB (s.machines.map Mc.name)),.bool (dupB (s.options.map OpV.name))]) T5.gsub 2 (fun v hv=>by simp only [List.mem_cons,List.not_mem_nil,or_false] at hv;rcases hv with rfl|rfl|rfl|rfl|rfl<;>rfl) (fun g G6 h6 N6 R6=>?_)
 conv=>whnf
 refine RunsS.sliceArr (n:=5) ?_ arrU boolS (by decide);conv=>whnf
 refine gS ?_;conv=>whnf
 refine RunsS.nameAt (fun _ x=>x) 49 (by exact RoF.up ⟨N6.gsub,fun _ _=>rfl⟩ R6) ?_
 conv=>whnf
 refine gS ?_;conv=>whnf
 refine RunsS.callN (containsB_fn [dupB (s.units.map Un.name),dupB (s.items.map It.name),dupB (s.plants),dupB (s.machines.map Mc.name),dupB (s.options.map OpV.name)] (Nat.le_of_ble_eq_true rfl)) [3] ?_ sH ?CNa9
 case CNa9=>rfl
 intro _ _
 conv=>whnf
 refine gS ?_;conv=>whnf
 rename_i b hb
 have T6:=T5.trans N6
 have V6:=Now.step N.gsub T6
 have W6:=Now.step T5.gsub N6
 refine RunsS.nameAt (fun _ x=>x) 52 (by exact RoF.up (V6.trans ⟨T6.gsub,fun _ _=>rfl⟩) hP.O) ?_
 conv=>whnf
 refine gS ?_;conv=>whnf
 have hm:=rws_len OpV.row s.options
 refine RunsS.subR (nx':=5) (l':=[(2,.ptr 1 0),(3,.v (.bool b)),(52,.buf 4),(53,.v (.int .i64 s.options.length)),(54,.v (.int .i64 0))]) (H':=[(1,.cells 75 [.v (.map (some r1)),.v (.map (some r2)),.v (.map (some r3)),.v (.map (some r4)),.v (.map (some r5)),.v (.slice none 0 0)]),(4,.ro 2 (rws OpV.row s.options))]) [] ?_ sH sH
 refine RunsS.nilOwn (l':=[(2,.ptr 1 0),(3,.v (.bool b)),(52,.buf 4),(53,.v (.int .i64 s.options.length)),(54,.v (.int .i64 0))]) (H':=[(1,.cells 75 [.v (.map (some r1)),.v (.map (some r2)),.v (.map (some r3)),.v (.map (some r4)),.v (.map (some r5)),.buf 5]),(4,.ro 2 (rws OpV.row s.options))]) 72 1 ?_ (by rfl) (by rfl) (by rfl)
 have hb0:b=decide (twiceK s 0):=hb.trans (twice0 s)
 refine RunsS.subR [] (RunsS.loopB (fun (⟨k,b,rs,F',G',h'⟩:Nat×Bool×List Nat×(Nat→Prop)×(Nat→Prop)×Array Obj)=>(F',h')) (fun (⟨k,b,rs,F',G',h'⟩:Nat×Bool×List Nat×(Nat→Prop)×(Nat→Prop)×Array Obj)=>[(2,.ptr 1 0),(3,.v (.bool b)),(52,.buf 4),(53,.v (.int .i64 s.options.length)),(54,.v (.int .i64 k))]) (fun (⟨k,b,rs,F',G',h'⟩:Nat×Bool×List Nat×(Nat→Prop)×(Nat→Prop)×Array Obj)=>[(1,.cells 75 [.v (.map (some r1)),.v (.map (some r2)),.v (.map (some r3)),.v (.map (some r4)),.v (.map (some r5)),.buf 5]),(4,.ro 2 (rws OpV.row s.options)),(5,.own 72 1 (rs.map fun r=>[Value.map (some r)]))]) 6 (fun (⟨k,b,rs,F',G',h'⟩:Nat×Bool×List Nat×(Nat→Prop)×(Nat→Prop)×Array Obj)=>Now F G h F' G' h'∧Up G6 h6 G' h'∧k≤s.options.length∧rs.length=k∧b=decide (twiceK s k) ∧ ∀i (h1:i<rs.length) (h2:i<s.options.length),MapF G' h' (.map (some rs[i])) .string (firsts s.options[i].ch)) (fun (⟨k,b,rs,F',G',h'⟩:Nat×Bool×List Nat×(Nat→Prop)×(Nat→Prop)×Array Obj)=>s.options.length - k) ?round10 (⟨0,b,[],_,G6,h6⟩) ?J010) sH sH
 case J010=>exact (⟨T6,Up.refl _ _,Nat.zero_le _,rfl,hb0,fun i h1=>absurd h1 (Nat.not_lt_zero _)⟩)
 rintro ⟨k,b,rs,F',G',h'⟩ hJ back
 try dsimp only at hJ back
 conv=>whnf
 try dsimp only
 refine gS ?_;conv=>whnf
 refine ⟨fun hk=>?_,fun hk=>?_⟩<;>conv=>whnf
 ·obtain ⟨N7,U7,_,em,eb,ho⟩:=hJ
  have hk:k<s.options.length:=by omega
  conv=>whnf
  repeat ((first|refine oL ?_|refine oR ?_);(try intro _);conv=>whnf)
  refine ⟨_,rws_get hk,?_⟩;conv=>whnf
  try (refine oN ?_;conv=>whnf)
  refine RunsS.nameAt (fun _ x=>x) 60 (by exact OpV.ok.up (hP.below.o _ (List.getElem_mem hk)) ((V6.trans U7).trans ⟨N7.gsub,fun _ _=>rfl⟩)) ?_
  conv=>whnf
  refine gS ?_;conv=>whnf
  refine RunsS.callX (N7.gsub) (collectstring_fn s.options[k].ch) (fun _ _=>trivial) [7] sH ?CNa11 ?_
  case CNa11=>rfl
  rintro r G8 h8 N8 J8
  conv=>whnf
  refine gS ?_;conv=>whnf
  have hrl:(rs.map fun r=>[Value.map (some r)]).length=rs.length:=List.length_map _
  have hL:=hL.O
  refine And.intro (appOb (show (rs.map fun r=>[Value.map (some r)]).length≤1000000 by omega)) ?_
  conv=>whnf
  have U8:=Now.step N7.gsub N8
  have em':(rs++[r]).length=k+1:=by rw [List.length_append,em];rfl
  have ho':=maps_snoc em (fun i h1 h2=>(ho i h1 h2).up U8) J8
  have er:(rs.map fun r=>[Value.map (some r)])++[[Value.map (some r)]]=(rs++[r]).map fun r=>[Value.map (some r)]:=by rw [List.map_append];rfl
  have es:=twice_step s hk
  rw [←eb] at es
  cases b with
  |true=>
   conv=>whnf
   repeat ((first|refine oL ?_|refine oR ?_);(try intro _);conv=>whnf)
   refine gS ?_;conv=>whnf
   refine RunsS.rowsEq 9 er ?_;conv=>whnf
   refine RunsS.subR [(5,9)] (back (⟨k+1,true,rs++[r],_,G8,h8⟩) (by exact (⟨N7.trans N8,U7.trans U8,hk,em',es,ho'⟩)) (by (try dsimp only);omega)) sH sH
  |false=>
   conv=>whnf
   repeat ((first|refine oL ?_|refine oR ?_);(try intro _);conv=>whnf)
   refine gS ?_;conv=>whnf
   refine RunsS.rowsEq 9 er ?_;conv=>whnf
   refine RunsS.subR [(5,9)] (back (⟨k+1,dupB s.options[k].ch,rs++[r],_,G8,h8⟩) (by exact (⟨N7.trans N8,U7.trans U8,hk,em',es,ho'⟩)) (by (try dsimp only);omega)) sH sH
 obtain ⟨N7,U7,_,em,eb,ho⟩:=hJ
 have hk:k=s.options.length:=by omega
 clear back
 rw [hk,twice_end] at eb
 subst eb
 conv=>whnf
 refine RunsS.conc (n:=s.options.length) (N7.gsub) 5 ?_ (hlen:=(by rw [List.length_map,em,hk]))
 intro aC cC G9 h9 N9 R9
 conv=>whnf
 refine gS ?_;conv=>whnf
 have U9:=U7.trans (Now.step N7.gsub N9)
 have W6':=W6.trans U9
 refine RunsS.retU ?_
 exact UnwS.ret tab Tryz.func27 rfl (eX (N7.trans N9) ((r1,r2,r3,r4,r5,aC,cC)) (fun h U=>⟨J1.up (W2.trans (W3.trans (W4.trans (W5.trans (W6'.trans U))))),J2.up (W3.trans (W4.trans (W5.trans (W6'.trans U)))),J3.up (W4.trans (W5.trans (W6'.trans U))),J4.up (W5.trans (W6'.trans U)),J5.up (W6'.trans U),rs.map fun r=>Value.map (some r),by rw [List.map_map];exact RoF.up U R9,by rw [List.length_map,em,hk],fun i h1 h2=>by rw [List.getElem_map];exact (ho i (by simpa using h1) h2).up ((Now.step N7.gsub N9).trans U)⟩))
end
end Go.Proofs.YtofjdbmcloemnaaGreatDoor

namespace Go.Proofs.YtofjdbmcloemnaaGreatDoor
open Go Go.Fw Go.NatM Go.RatM Go.SrcM
set_option maxRecDepth 100000
set_option maxHeartbeats 99999999
theorem resDN_fn:FnDS Tryz.prog 29 2 [.ptr 0 0,.ptr 1 0] [] .returning (fun _:Unit=>True) (fun _=>⟨.returning,2,[]⟩):=by
 refine FnDS.of Tryz.func29 (by kernel_rfl) rfl Tryz.ntmps29 rfl fun E0 F h w0 c0 cs=>?_
 refine gS ?_;conv=>whnf
 refine RunsS.recoverN ?_
 refine gS ?_;conv=>whnf
 refine RunsS.effV (fun E h=>eff_neNil0 Tryz.underlying20) ?_
 refine gS ?_;conv=>whnf
 refine RunsS.finU (UnwS.retD tab Tryz.func29 rfl (EndD.mk () trivial [] trivial rfl rfl rfl))
theorem resDP_fn (y:Value):FnDS Tryz.prog 29 2 [.ptr 0 0,.ptr 1 0] [(0,.cells 31 [.v (.slice none 0 0),.v (.slice none 0 0),.v (.slice none 0 0),.v (.slice none 0 0),.v (.slice none 0 0),.v (.slice none 0 0),.v (.slice none 0 0),.v (.slice none 0 0)]),(1,.cells 34 [.v y])] (.panicking failCh) (fun _:Unit=>True)
  (fun _=>⟨.panicking [{v:=.iface 161 (.agg #[]),recovered:=true}],2,[(0,.cells 31 [.v (.slice none 0 0),.v (.slice none 0 0),.v (.slice none 0 0),.v (.slice none 0 0),.v (.slice none 0 0),.v (.slice none 0 0),.v (.slice none 0 0),.v (.slice none 0 0)]),(1,.cells 34 [.v (.int .i64 110)])]⟩):=by
 refine FnDS.of Tryz.func29 (by kernel_rfl) rfl Tryz.ntmps29 rfl fun E0 F h w0 c0 cs=>?_
 refine gS ?_;conv=>whnf
 refine RunsS.recoverP ?_
 refine gS ?_;conv=>whnf
 refine RunsS.finU (UnwS.retD tab Tryz.func29 rfl (EndD.mk () trivial [] ⟨by rfl,by rfl,trivial⟩ rfl rfl rfl))
theorem TabT.up {F F' G':Nat→Prop} {h h':Array Obj} {G:Nat→Prop} (H:TabT F h) (N:Now F G h F' G' h'):TabT F' h':=tabOk.mono _ _ _ N.sub (tabOk.keep _ _ _ H N.kp)
theorem RoF.nil (G:Nat→Prop) (h:Array Obj) (sz:Nat):RoF G h (.slice none 0 0) sz []:=⟨fun _ h=>absurd h List.not_mem_nil,⟨Nat.zero_le _,Nat.le_refl _⟩,none,0,rfl,.inl rfl⟩
theorem TopF.none (G:Nat→Prop) (h:Array Obj):TopF G h (.slice none 0 0) (.slice none 0 0) (.slice none 0 0) (.slice none 0 0) (.slice none 0 0) (.slice none 0 0) (.slice none 0 0) (.slice none 0 0) noSrc:=
 ⟨RoF.nil _ _ _,RoF.nil _ _ _,RoF.nil _ _ _,RoF.nil _ _ _,RoF.nil _ _ _,RoF.nil _ _ _,RoF.nil _ _ _,RoF.nil _ _ _,fun _ h=>absurd h List.not_mem_nil,fun _ h=>absurd h List.not_mem_nil,fun _ h=>absurd h List.not_mem_nil⟩
structure RsV where
 t:SrcV
 e:Int
 U:Value
 I:Value
 P:Value
 M:Value
 O:Value
 F:Value
 R:Value
 S:Value
abbrev rsvOut (x:RsV):OutS:=.ret (.tup [.agg [.v x.U,.v x.I,.v x.P,.v x.M,.v x.O,.v x.F,.v x.R,.v x.S],.v (.int .i64 x.e)]) 0 []
structure RsJ (s:SrcV) (x:RsV) (G:Nat→Prop) (h:Array Obj):Prop where
 t:(resolveN s).1.bare=x.t.bare
 e:(resolveN s).2=x.e
 top:TopF G h x.U x.I x.P x.M x.O x.F x.R x.S x.t
abbrev nilV:Value:=.slice none 0 0
theorem rsj_no {s:SrcV} {e:Int} (h:resolveN s=(noSrc,e)) (G:Nat→Prop) (hh:Array Obj):RsJ s ⟨noSrc,e,nilV,nilV,nilV,nilV,nilV,nilV,nilV,nilV⟩ G hh:=⟨by rw [h],by rw [h],TopF.none _ _⟩
theorem nResolve_fn (s:SrcV) (vU vI vP vM vO vF vR vS:Value) (hL:Lens s) (hw:∀u∈s.units,i64 u.n∧i64 u.d):FnX Tryz.prog 11 0 [.agg [.v vU,.v vI,.v vP,.v vM,.v vO,.v vF,.v vR,.v vS]] [] (fun G h=>TopF G h vU vI vP vM vO vF vR vS s∧TabT G h) (RsJ s) rsvOut:=by
 have hlU:=hL.U
 refine FnX.of Tryz.func11 (by kernel_rfl) rfl Tryz.ntmps11 rfl fun E0 F G h N hP w0 cs=>?_
 conv=>whnf
 refine gS ?_;conv=>whnf
 obtain ⟨aU,cU,rfl⟩:=RoF.sli hP.1.U (rowsU_len s.units)
 refine RunsS.callX (N.gsub) (gather_fn (s:=s) _ vI vP vM vO vF vR vS hL) (fun h U=>hP.1.up U) [] sH ?CNa1 ?_
 case CNa1=>rfl
 rintro ⟨r1,r2,r3,r4,r5,aC,cC⟩ G1 h1 N1 J1
 conv=>whnf
 refine gS ?_;conv=>whnf
 have hTF:=TabT.up (tabOk.mono _ _ _ N.gsub hP.2) N1
 have V1:=Now.step N.gsub N1
 dsimp only at J1
 by_cases ht:twiceN s
 ·have hr:resolveN s=(noSrc,111):=by unfold resolveN;rw [if_pos ht]
  rw [decide_eq_true ht]
  conv=>whnf
  refine RunsS.retU ?_
  exact UnwS.ret tab Tryz.func11 rfl (eX (N1) (⟨noSrc,111,nilV,nilV,nilV,nilV,nilV,nilV,nilV,nilV⟩) (fun h U=>rsj_no hr _ _))
 rw [decide_eq_false ht]
 conv=>whnf
 refine RunsS.nameAt (fun _ x=>x) 16 (by exact RoF.up (V1.trans ⟨N1.gsub,fun _ _=>rfl⟩) hP.1.U) ?_
 conv=>whnf
 refine gS ?_;conv=>whnf
 refine RunsS.subR (nx':=5) (l':=[(1,.ptr 0 0),(2,.ptr 1 0),(3,.ptr 2 0),(4,.ptr 3 0),(16,.buf 4)]) (H':=[(0,.cells 31 [.v (.slice aU s.units.length cU),.v vI,.v vP,.v vM,.v vO,.v vF,.v vR,.v vS]),(1,.cells 31 [.v (.slice none 0 0),.v (.slice none 0 0),.v (.slice none 0 0),.v (.slice none 0 0),.v (.slice none 0 0),.v (.slice none 0 0),.v (.slice none 0 0),.v (.slice none 0 0)]),(2,.cells 34 [.v (.int .i64 0)]),(3,.cells 75 [.v (.map (some r1)),.v (.map (some r2)),.v (.map (some r3)),.v (.map (some r4)),.v (.map (some r5)),.v (.slice aC s.options.length cC)]),(4,.ro 8 (rowsU s.units))]) [] ?_ sH sH
 refine RunsS.callT (tabOk) (hTF) (resolve_fn s.units (by omega) hw) [4] sH ?CNa2 ?_
 case CNa2=>rfl
 rintro _ _
 cases hu:resolveU s.units with
 |inr e=>
  have hr:resolveN s=(noSrc,e):=by unfold resolveN;rw [if_neg ht,hu]
  have he:=resolveU_nz' hu
  conv=>whnf
  refine gS ?_;conv=>whnf
  repeat ((first|refine oL ?_|refine oR ?_);(try intro _);conv=>whnf)
  refine RunsS.held tab (.fl 0 (.fl 1 (.e1 2 [1] (.e1 3 [] .done)))) (by kernel_rfl) ?_;conv=>whnf
  try refine gR ?_;conv=>whnf
  repeat ((first|refine oL ?_|refine oR ?_|refine oB ?_);(try intro _);conv=>whnf)
  refine gS ?_;conv=>whnf
  conv=>whnf
  refine gS ?_;conv=>whnf
  refine RunsS.retU ?_
  exact UnwS.ret tab Tryz.func11 rfl (eX (N1) (⟨noSrc,e,nilV,nilV,nilV,nilV,nilV,nilV,nilV,nilV⟩) (fun h U=>rsj_no hr _ _))
 |inl u=>
  conv=>whnf
  refine gS ?_;conv=>whnf
  repeat ((first|refine oL ?_|refine oR ?_);(try intro _);conv=>whnf)
  refine RunsS.deferU ?_
  refine gS ?_;conv=>whnf
  refine RunsS.callX (N1.gsub) (source_fn _ vI vP vM vO vF vR vS hL) (fun h U=>⟨hP.1.up (V1.trans U),J1.up U⟩) [] sH ?CNa3 ?_
  case CNa3=>rfl
  rintro (_|⟨t,wU,wI,wP,wM,wO,wF,wR,wS⟩) G2 h2 N2 J2
  ·have hr:resolveN s=(noSrc,110):=by unfold resolveN;rw [if_neg ht,hu];simp only [show SrcM.resS s=none from J2]
   conv=>whnf
   refine UnwS.deferN (resDP_fn _) [1,2] ?_ ⟨by rfl,by rfl,trivial⟩ rfl (fun e=>by cases e)
   intro _ _
   (conv=>whnf)
   exact UnwS.ret tab Tryz.func11 rfl (eX (N1.trans N2) (⟨noSrc,110,nilV,nilV,nilV,nilV,nilV,nilV,nilV,nilV⟩) (fun h U=>rsj_no hr _ _))
  obtain ⟨j1,j2,j3⟩:=J2
  obtain ⟨t0,e0,e1⟩:=opt_map j1
  have hr:resolveN s=({t0 with units:=u},0):=by unfold resolveN;rw [if_neg ht,hu];simp only [e0]
  obtain ⟨b1,c1,rfl⟩:=RoF.sli j3.U rfl
  obtain ⟨b2,c2,rfl⟩:=RoF.sli j3.I rfl
  obtain ⟨b3,c3,rfl⟩:=RoF.sli j3.P rfl
  obtain ⟨b4,c4,rfl⟩:=RoF.sli j3.M rfl
  obtain ⟨b5,c5,rfl⟩:=RoF.sli j3.O rfl
  obtain ⟨b6,c6,rfl⟩:=RoF.sli j3.F rfl
  obtain ⟨b7,c7,rfl⟩:=RoF.sli j3.R rfl
  obtain ⟨b8,c8,rfl⟩:=RoF.sli j3.S rfl
  conv=>whnf
  refine RunsS.conc (n:=u.length) (N2.gsub) 5 ?_ (hlen:=rowsU_len u)
  intro b9 c9 G3 h3 N3 R3
  conv=>whnf
  refine gS ?_;conv=>whnf
  have U3:=Now.step N2.gsub N3
  refine RunsS.retU ?_
  refine UnwS.deferN resDN_fn [1,2] ?_ trivial rfl (fun e=>by cases e)
  intro _ _
  conv=>whnf
  exact UnwS.ret tab Tryz.func11 rfl (eX ((N1.trans N2).trans N3) (⟨{t with units:=u},0,_,_,_,_,_,_,_,_⟩) (fun h U=>⟨by rw [hr];exact congrArg (fun z:SrcV=>{z with units:=u}) e1,by rw [hr],RoF.up U R3,RoF.up (U3.trans U) j3.I,RoF.up (U3.trans U) j3.P,RoF.up (U3.trans U) j3.M,RoF.up (U3.trans U) j3.O,RoF.up (U3.trans U) j3.F,RoF.up (U3.trans U) j3.R,RoF.up (U3.trans U) j3.S,(j3.below.up (U3.trans U)).o,(j3.below.up (U3.trans U)).f,(j3.below.up (U3.trans U)).r⟩))

def idxO:Option Nat→Int
 |some k=>k
 |none=> -1
abbrev fndS:Option Nat→SV
 |some k=>.tup [.v (.int .i64 (k:Nat)),.v (.bool true)]
 |none=>.tup [.v (.int .i64 0),.v (.bool false)]
theorem findN_here {l:List ByteArray} {nm:ByteArray} {k:Nat} (hk:k<l.length) (e:l[k]=nm) (h:∀j (hj:j<l.length),j<k→l[j]≠nm):findN l nm=some k:=
 findN_some.2 ⟨hk,e,fun j hj=>h j (by omega) hj⟩
theorem findN_not {l:List ByteArray} {nm:ByteArray} (h:∀j (hj:j<l.length),j<l.length→l[j]≠nm):findN l nm=none:=
 findN_none.2 fun hm=>by
  obtain ⟨j,hj,e⟩:=List.getElem_of_mem hm
  exact h j hj hj e
theorem idxStc_fn (i:ByteArray) (nm:ByteArray):FnS Tryz.prog 96 2 [.v (.string i),.ptr 0 0,.ptr 1 0] [(0,.cells 95 [.v (.func (.func 47) #[] #[])]),(1,.cells 9 [.v (.string nm)])] (fun _:Unit=>True) (fun _=>.ret (.v (.bool (decide (i=nm)))) 2 [(0,.cells 95 [.v (.func (.func 47) #[] #[])]),(1,.cells 9 [.v (.string nm)])]):=by
 refine FnS.of Tryz.func96 (by kernel_rfl) rfl Tryz.ntmps96 rfl fun E0 F h w0 cs=>?_
 conv=>whnf
 refine gS ?_;conv=>whnf
 refine RunsS.held tab (.fl 0 (.fl 1 (.fl 3 (.e1 2 [3] (.fl 4 (.fl 5 .done)))))) (by kernel_rfl) ?_;conv=>whnf
 try refine gR ?_;conv=>whnf
 conv=>whnf
 refine EffR.callV (fun Ez Hz Az Sz K=>itself_fn i) (by (conv=>whnf);(repeat (guard_target=_∧_;refine And.intro (by (conv=>whnf);first|rfl|exact trivial) ?_;conv=>whnf));exact trivial) ?_
 conv=>whnf
 try refine gR ?_;conv=>whnf
 refine gS ?_;conv=>whnf
 refine RunsS.retU ?_
 exact UnwS.ret tab Tryz.func96 rfl (eN () trivial)
theorem idxStf_fn (l:List ByteArray) (nm:ByteArray):FnS Tryz.prog 95 3 [.buf 0,.fn (.func 96) [] [.ptr 1 0,.ptr 2 0]] [(0,.ro 1 (rwsB l)),(1,.cells 95 [.v (.func (.func 47) #[] #[])]),(2,.cells 9 [.v (.string nm)])] (fun _:Unit=>True) (fun _=>.ret (.v (.int .i64 (idxO (findN (l) nm)))) 3 []):=by
 have hl:(rwsB l).length=l.length:=rws_len _ l
 have hn:(l).length=l.length:=by first|rfl|exact List.length_map _
 obtain ⟨r,hr⟩:∃r,r=findN (l) nm:=⟨_,rfl⟩
 rw [←hr]
 refine FnS.of Tryz.func95 (by kernel_rfl) rfl Tryz.ntmps95 rfl fun E0 F h w0 cs=>?_
 conv=>whnf
 refine gS ?_;conv=>whnf
 refine RunsS.lenB 0 (fun m0=>?_)
 conv=>whnf
 refine gS ?_;conv=>whnf
 refine RunsS.subR [] (RunsS.loop (fun (k:Nat)=>[(8,.v (.int .i64 k)),(7,.v (.int .i64 (rwsB l).length)),(0,.buf 0),(1,.fn (.func 96) [] [.ptr 1 0,.ptr 2 0])]) (fun (k:Nat)=>[(0,.ro 1 (rwsB l)),(1,.cells 95 [.v (.func (.func 47) #[] #[])]),(2,.cells 9 [.v (.string nm)])]) 3 (fun (k:Nat)=>k≤l.length ∧ ∀j (hj:j<(l).length),j<k→(l)[j]≠nm) (fun (k:Nat)=>l.length - k) ?round6 (0) ?J06) sH sH
 case J06=>exact (⟨Nat.zero_le _,fun _ _ h=>absurd h (Nat.not_lt_zero _)⟩)
 rintro k hJ back
 conv=>whnf
 refine gS ?_;conv=>whnf
 refine ⟨fun hk=>?_,fun hk=>?_⟩<;>conv=>whnf
 ·have hk:k<l.length:=by omega
  have hk2:k<(l).length:=by rw [hn];exact hk
  have e:(l)[k]=l[k]:=by first|rfl|exact List.getElem_map ..
  conv=>whnf
  repeat ((first|refine oL ?_|refine oR ?_);(try intro _);conv=>whnf)
  refine ⟨_,rws_get hk,?_⟩;conv=>whnf
  have C:=idxStc_fn l[k] nm
  by_cases hm:l[k]=nm
  ·rw [decide_eq_true hm] at C
   refine RunsS.callN (C) [1,2] ?_ sH ?CNa7
   case CNa7=>rfl
   intro _ _
   conv=>whnf
   refine gS ?_;conv=>whnf
   have:r=some k:=by rw [hr];exact findN_here hk2 (e.trans hm) hJ.2
   rw [this]
   refine RunsS.retU ?_
   exact UnwS.ret tab Tryz.func95 rfl (eN () trivial)
  rw [decide_eq_false hm] at C
  refine RunsS.callN (C) [1,2] ?_ sH ?CNa8
  case CNa8=>rfl
  intro _ _
  conv=>whnf
  refine gS ?_;conv=>whnf
  repeat ((first|refine oL ?_|refine oR ?_);(try intro _);conv=>whnf)
  refine RunsS.subR [] (back (k+1) (by exact (⟨hk,fun j hj h1=>(Nat.lt_or_eq_of_le (Nat.le_of_lt_succ h1)).elim (hJ.2 j hj) (fun e2=>by subst e2;rw [e];exact hm)⟩)) (by (try dsimp only);omega)) sH sH
 conv=>whnf
 have hk:k=(l).length:=by omega
 have:r=none:=by rw [hr];exact findN_not (fun j hj h=>hJ.2 j hj (by omega))
 rw [this]
 refine RunsS.retU ?_
 exact UnwS.ret tab Tryz.func95 rfl (eN () trivial)
theorem indexSt_fn (l:List ByteArray) (nm:ByteArray):FnS Tryz.prog 46 1 [.buf 0,.v (.string nm),.v (.func (.func 47) #[] #[])] [(0,.ro 1 (rwsB l))] (fun _:Unit=>True) (fun _=>.ret (fndS (findN (l) nm)) 1 []):=by
 refine FnS.of Tryz.func46 (by kernel_rfl) rfl Tryz.ntmps46 rfl fun E0 F h w0 cs=>?_
 conv=>whnf
 refine gS ?_;conv=>whnf
 refine RunsS.callN (idxStf_fn l nm) [0,2,1] ?_ sH ?CNa10
 case CNa10=>rfl
 intro _ _
 conv=>whnf
 refine gS ?_;conv=>whnf
 cases findN (l) nm with
 |some k=>
  refine And.intro (fun hp=>absurd hp (Int.not_lt.2 (Int.natCast_nonneg k))) (fun _=>?_)
  conv=>whnf
  refine RunsS.retU ?_
  exact UnwS.ret tab Tryz.func46 rfl (eN () trivial)
 |none=>
  refine And.intro (fun _=>?_) (fun hn=>absurd (show (-1:Int)<0 by decide) hn)
  conv=>whnf
  refine RunsS.retU ?_
  exact UnwS.ret tab Tryz.func46 rfl (eN () trivial)
end Go.Proofs.YtofjdbmcloemnaaGreatDoor

namespace Go.SrcM
open Go Go.Fw Go.RatM
theorem TopF.tok (vU vI vP vM vO vF vR vS:Value) (s:SrcV):TOk (fun F h=>TopF F h vU vI vP vM vO vF vR vS s):=⟨fun _ _ _ hs H=>H.up ⟨hs,fun _ _=>rfl⟩,fun _ _ _ H K=>H.up ⟨fun _ x=>x,K.same⟩⟩
def chOf (s:SrcV) (o:Int):List ByteArray:=if 0≤o∧o<s.options.length then ((s.options[o.toNat]?).map OpV.ch).getD [] else []
theorem chOf_in {s:SrcV} {o:Int} (h:0≤o∧o<s.options.length):∃k:Nat,∃hk:k<s.options.length,o=k∧chOf s o=s.options[k].ch:=by
 refine ⟨o.toNat,by omega,by omega,?_⟩
 unfold chOf
 rw [if_pos h,List.getElem?_eq_getElem (by omega)]
 rfl
end Go.SrcM
namespace Go.Proofs.YtofjdbmcloemnaaGreatDoor
open Go Go.Fw Go.NatM Go.RatM Go.SrcM
set_option maxRecDepth 100000
set_option maxHeartbeats 99999999
section
variable {vU vI vP vM vO vF vR vS:Value}
abbrev zC:Fw.Blk:=.cells 31 [.v (.slice none 0 0),.v (.slice none 0 0),.v (.slice none 0 0),.v (.slice none 0 0),.v (.slice none 0 0),.v (.slice none 0 0),.v (.slice none 0 0),.v (.slice none 0 0)]
abbrev vC (vU vI vP vM vO vF vR vS:Value):Fw.Blk:=.cells 31 [.v vU,.v vI,.v vP,.v vM,.v vO,.v vF,.v vR,.v vS]
abbrev sC (aU:Option Addr) (cU:Nat) (aI:Option Addr) (cI:Nat) (aP:Option Addr) (cP:Nat) (aM:Option Addr) (cM:Nat) (aO:Option Addr) (cO:Nat) (aF:Option Addr) (cF:Nat) (aR:Option Addr) (cR:Nat) (aS:Option Addr) (cS:Nat) (s:SrcV):Fw.Blk:=.cells 31 [.v (.slice aU s.units.length cU),.v (.slice aI s.items.length cI),.v (.slice aP s.plants.length cP),.v (.slice aM s.machines.length cM),.v (.slice aO s.options.length cO),.v (.slice aF s.forbids.length cF),.v (.slice aR s.recipes.length cR),.v (.slice aS s.swaps.length cS)]
abbrev srcA (vU vI vP vM vO vF vR vS:Value):SV:=.agg [.v vU,.v vI,.v vP,.v vM,.v vO,.v vF,.v vR,.v vS]
abbrev TopT (vU vI vP vM vO vF vR vS:Value) (s:SrcV) (F:Nat→Prop) (h:Array Obj):Prop:=TopF F h vU vI vP vM vO vF vR vS s
theorem nChoice_fn (s:SrcV) (o:Int) (nm:ByteArray):FnT Tryz.prog (TopT vU vI vP vM vO vF vR vS s) 24 0 [srcA vU vI vP vM vO vF vR vS,.v (.int .i64 o),.v (.string nm)] [] (fun _:Unit=>True) (fun _=>.ret (fndS (findN (chOf s o) nm)) 0 []):=by
 refine FnT.of Tryz.func24 (by kernel_rfl) rfl Tryz.ntmps24 rfl fun E0 F h hT w0 cs=>?_
 (conv=>whnf)
 obtain ⟨aO,cO,rfl⟩:=RoF.sli hT.O (rws_len OpV.row s.options)
 have hl:=rws_len OpV.row s.options
 refine goS_run tab 4 _ _ _ _ ?_
 (conv=>whnf)
 refine RunsS.nameCell (fun _ x=>x) 0 4 (by exact hT.O) ?_
 conv=>whnf
 refine gS ?_;conv=>whnf
 refine ⟨fun h0=>?_,fun h0=>?_⟩<;>conv=>whnf
 ·have:findN (chOf s o) nm=none:=by unfold chOf;rw [if_neg (by omega)];rfl
  rw [this]
  conv=>whnf
  refine RunsS.retU ?_
  exact UnwS.ret tab Tryz.func24 rfl (eN () trivial)
 conv=>whnf
 refine ⟨fun h1=>?_,fun h1=>?_⟩<;>conv=>whnf
 ·have:findN (chOf s o) nm=none:=by unfold chOf;rw [if_neg (by omega)];rfl
  rw [this]
  conv=>whnf
  refine RunsS.retU ?_
  exact UnwS.ret tab Tryz.func24 rfl (eN () trivial)
 obtain ⟨k,hk,rfl,e⟩:=chOf_in (show 0≤o∧o<s.options.length by omega)
 rw [e]
 conv=>whnf
 repeat ((first|refine oL ?_|refine oR ?_);(try intro _);conv=>whnf)
 refine ⟨_,rws_get hk,?_⟩;conv=>whnf
 refine RunsS.nameAt (fun _ x=>x) 22 (by exact hT.below.o _ (List.getElem_mem hk)) ?_
 conv=>whnf
 refine gS ?_;conv=>whnf
 refine RunsS.callN (indexSt_fn s.options[k].ch nm) [2] ?_ sH ?CNa3
 case CNa3=>rfl
 intro _ _
 conv=>whnf
 refine gS ?_;conv=>whnf
 cases findN s.options[k].ch nm with
 |some j=>
  conv=>whnf
  refine gS ?_;conv=>whnf
  refine RunsS.retU ?_
  exact UnwS.ret tab Tryz.func24 rfl (eN () trivial)
 |none=>
  conv=>whnf
  refine gS ?_;conv=>whnf
  refine RunsS.retU ?_
  exact UnwS.ret tab Tryz.func24 rfl (eN () trivial)
end
end Go.Proofs.YtofjdbmcloemnaaGreatDoor

namespace Go.Proofs.YtofjdbmcloemnaaGreatDoor
open Go Go.Fw Go.NatM Go.RatM Go.SrcM
set_option maxRecDepth 100000
set_option maxHeartbeats 99999999
theorem nodupN_find {l:List ByteArray} (h:∀j (hj:j<l.length),j<l.length→findN l l[j]=some j):l.Nodup:=by
 rw [List.nodup_iff_pairwise_ne,List.pairwise_iff_getElem]
 intro i j hi hj hij e
 have h1:=h i hi hi
 have h2:=h j hj hj
 rw [←e,h1] at h2
 injection h2 with h2
 omega
theorem findN_nodup {l:List ByteArray} (hn:l.Nodup) {k:Nat} (hk:k<l.length):findN l l[k]=some k:=by
 rw [List.nodup_iff_pairwise_ne,List.pairwise_iff_getElem] at hn
 exact findN_some.2 ⟨hk,rfl,fun j hj=>hn j k (by omega) hk hj⟩
theorem dupB_no {l:List ByteArray} (h:∀j (hj:j<l.length),j<l.length→findN l l[j]=some j):dupB l=false:=decide_eq_false (not_not_intro (nodupN_find h))
theorem dupB_yes {l:List ByteArray} {k:Nat} (hk:k<l.length) (h:findN l l[k]≠some k):dupB l=true:=decide_eq_true fun hn=>h (findN_nodup hn hk)
theorem idxO_ne {l:List ByteArray} {nm:ByteArray} {k:Nat}:idxO (findN l nm)≠(k:Int)↔findN l nm≠some k:=by
 cases findN l nm with
 |some j=>
  simp only [idxO,ne_eq,Option.some.injEq,Int.natCast_inj]
 |none=>simp only [idxO,ne_eq,reduceCtorEq,not_false_eq_true,iff_true]
theorem rfindR_fn (l:List ByteArray) (nm:ByteArray) (hb:l.length≤1000000):FnS Tryz.prog 33 1 [.buf 0,.v (.string nm)] [(0,.ro 1 (rwsB l))] (fun _:Unit=>True) (fun _=>.ret (.v (.int .i64 (idxO (findN l nm)))) 1 [(0,.ro 1 (rwsB l))]):=by
 have hl:=rwsB_len l
 obtain ⟨r,hr⟩:∃r,r=findN l nm:=⟨_,rfl⟩
 rw [←hr]
 refine FnS.of Tryz.func33 (by kernel_rfl) rfl Tryz.ntmps33 rfl fun E0 F h w0 cs=>?_
 conv=>whnf
 refine gS ?_;conv=>whnf
 refine RunsS.subR [] (RunsS.loop (fun (k:Nat)=>[(5,.v (.int .i64 k)),(0,.buf 0),(1,.v (.string nm))]) (fun (k:Nat)=>[(0,.ro 1 (rwsB l))]) 1 (fun (k:Nat)=>k≤l.length ∧ ∀j (hj:j<l.length),j<k→l[j]≠nm) (fun (k:Nat)=>l.length - k) ?round1 (0) ?J01) sH sH
 case J01=>exact (⟨Nat.zero_le _,fun _ _ h=>absurd h (Nat.not_lt_zero _)⟩)
 rintro k hJ back
 conv=>whnf
 refine gS ?_;conv=>whnf
 refine ⟨fun hk=>?_,fun hk=>?_⟩<;>conv=>whnf
 ·have hk:k<l.length:=by omega
  conv=>whnf
  repeat ((first|refine oL ?_|refine oR ?_);(try intro _);conv=>whnf)
  refine ⟨_,rws_get hk,?_⟩;conv=>whnf
  by_cases hm:l[k]=nm
  ·refine And.intro (fun _=>?_) (fun hn=>absurd (hm) hn)
   conv=>whnf
   have:r=some k:=by rw [hr];exact findN_here hk hm hJ.2
   rw [this]
   refine RunsS.retU ?_
   exact UnwS.ret tab Tryz.func33 rfl (eN () trivial)
  refine And.intro (fun hp=>absurd hp (hm)) (fun _=>?_)
  conv=>whnf
  repeat ((first|refine oL ?_|refine oR ?_);(try intro _);conv=>whnf)
  refine RunsS.subR [] (back (k+1) (by exact (⟨hk,fun j hj h1=>(Nat.lt_or_eq_of_le (Nat.le_of_lt_succ h1)).elim (hJ.2 j hj) (fun e2=>by subst e2;exact hm)⟩)) (by (try dsimp only);omega)) sH sH
 conv=>whnf
 have:r=none:=by rw [hr];exact findN_not (fun j hj h=>hJ.2 j hj (by omega))
 rw [this]
 refine RunsS.retU ?_
 exact UnwS.ret tab Tryz.func33 rfl (eN () trivial)
theorem rtwiceR_fn (l:List ByteArray) (hb:l.length≤1000000):FnS Tryz.prog 84 1 [.buf 0] [(0,.ro 1 (rwsB l))] (fun _:Unit=>True) (fun _=>.ret (.v (.bool (dupB l))) 1 [(0,.ro 1 (rwsB l))]):=by
 have hl:=rwsB_len l
 obtain ⟨r,hr⟩:∃r,r=dupB l:=⟨_,rfl⟩
 rw [←hr]
 refine FnS.of Tryz.func84 (by kernel_rfl) rfl Tryz.ntmps84 rfl fun E0 F h w0 cs=>?_
 conv=>whnf
 refine gS ?_;conv=>whnf
 refine RunsS.subR [] (RunsS.loop (fun (k:Nat)=>[(3,.v (.int .i64 k)),(0,.buf 0)]) (fun (k:Nat)=>[(0,.ro 1 (rwsB l))]) 1 (fun (k:Nat)=>k≤l.length ∧ ∀j (hj:j<l.length),j<k→findN l l[j]=some j) (fun (k:Nat)=>l.length - k) ?round3 (0) ?J03) sH sH
 case J03=>exact (⟨Nat.zero_le _,fun _ _ h=>absurd h (Nat.not_lt_zero _)⟩)
 rintro k hJ back
 conv=>whnf
 refine gS ?_;conv=>whnf
 refine ⟨fun hk=>?_,fun hk=>?_⟩<;>conv=>whnf
 ·have hk:k<l.length:=by omega
  conv=>whnf
  repeat ((first|refine oL ?_|refine oR ?_);(try intro _);conv=>whnf)
  refine ⟨_,rws_get hk,?_⟩;conv=>whnf
  refine RunsS.callN (rfindR_fn l l[k] hb) [0] ?_ sH ?CNa4
  case CNa4=>rfl
  intro _ _
  conv=>whnf
  refine gS ?_;conv=>whnf
  by_cases hm:findN l l[k]=some k
  ·refine And.intro (fun _=>?_) (fun hn=>absurd (congrArg idxO hm) hn)
   conv=>whnf
   repeat ((first|refine oL ?_|refine oR ?_);(try intro _);conv=>whnf)
   refine RunsS.subR [] (back (k+1) (by exact (⟨hk,fun j hj h1=>(Nat.lt_or_eq_of_le (Nat.le_of_lt_succ h1)).elim (hJ.2 j hj) (fun e2=>by subst e2;exact hm)⟩)) (by (try dsimp only);omega)) sH sH
  refine And.intro (fun hp=>absurd hp ((idxO_ne (k:=k)).2 hm)) (fun _=>?_)
  conv=>whnf
  have:r=true:=by rw [hr];exact dupB_yes hk hm
  rw [this]
  refine RunsS.retU ?_
  exact UnwS.ret tab Tryz.func84 rfl (eN () trivial)
 conv=>whnf
 have:r=false:=by rw [hr];exact dupB_no (fun j hj h=>hJ.2 j hj (by omega))
 rw [this]
 refine RunsS.retU ?_
 exact UnwS.ret tab Tryz.func84 rfl (eN () trivial)
theorem rfindO_fn (l:List ByteArray) (nm:ByteArray) (hb:l.length≤1000000):FnS Tryz.prog 33 1 [.buf 0,.v (.string nm)] [(0,.own 9 1 (rwsB l))] (fun _:Unit=>True) (fun _=>.ret (.v (.int .i64 (idxO (findN l nm)))) 1 [(0,.own 9 1 (rwsB l))]):=by
 have hl:=rwsB_len l
 obtain ⟨r,hr⟩:∃r,r=findN l nm:=⟨_,rfl⟩
 rw [←hr]
 refine FnS.of Tryz.func33 (by kernel_rfl) rfl Tryz.ntmps33 rfl fun E0 F h w0 cs=>?_
 conv=>whnf
 refine gS ?_;conv=>whnf
 refine RunsS.subR [] (RunsS.loop (fun (k:Nat)=>[(5,.v (.int .i64 k)),(0,.buf 0),(1,.v (.string nm))]) (fun (k:Nat)=>[(0,.own 9 1 (rwsB l))]) 1 (fun (k:Nat)=>k≤l.length ∧ ∀j (hj:j<l.length),j<k→l[j]≠nm) (fun (k:Nat)=>l.length - k) ?round6 (0) ?J06) sH sH
 case J06=>exact (⟨Nat.zero_le _,fun _ _ h=>absurd h (Nat.not_lt_zero _)⟩)
 rintro k hJ back
 conv=>whnf
 refine gS ?_;conv=>whnf
 refine ⟨fun hk=>?_,fun hk=>?_⟩<;>conv=>whnf
 ·have hk:k<l.length:=by omega
  conv=>whnf
  repeat ((first|refine oL ?_|refine oR ?_);(try intro _);conv=>whnf)
  refine ⟨_,rws_get hk,?_⟩;conv=>whnf
  by_cases hm:l[k]=nm
  ·refine And.intro (fun _=>?_) (fun hn=>absurd (hm) hn)
   conv=>whnf
   have:r=some k:=by rw [hr];exact findN_here hk hm hJ.2
   rw [this]
   refine RunsS.retU ?_
   exact UnwS.ret tab Tryz.func33 rfl (eN () trivial)
  refine And.intro (fun hp=>absurd hp (hm)) (fun _=>?_)
  conv=>whnf
  repeat ((first|refine oL ?_|refine oR ?_);(try intro _);conv=>whnf)
  refine RunsS.subR [] (back (k+1) (by exact (⟨hk,fun j hj h1=>(Nat.lt_or_eq_of_le (Nat.le_of_lt_succ h1)).elim (hJ.2 j hj) (fun e2=>by subst e2;exact hm)⟩)) (by (try dsimp only);omega)) sH sH
 conv=>whnf
 have:r=none:=by rw [hr];exact findN_not (fun j hj h=>hJ.2 j hj (by omega))
 rw [this]
 refine RunsS.retU ?_
 exact UnwS.ret tab Tryz.func33 rfl (eN () trivial)
theorem rtwiceO_fn (l:List ByteArray) (hb:l.length≤1000000):FnS Tryz.prog 84 1 [.buf 0] [(0,.own 9 1 (rwsB l))] (fun _:Unit=>True) (fun _=>.ret (.v (.bool (dupB l))) 1 [(0,.own 9 1 (rwsB l))]):=by
 have hl:=rwsB_len l
 obtain ⟨r,hr⟩:∃r,r=dupB l:=⟨_,rfl⟩
 rw [←hr]
 refine FnS.of Tryz.func84 (by kernel_rfl) rfl Tryz.ntmps84 rfl fun E0 F h w0 cs=>?_
 conv=>whnf
 refine gS ?_;conv=>whnf
 refine RunsS.subR [] (RunsS.loop (fun (k:Nat)=>[(3,.v (.int .i64 k)),(0,.buf 0)]) (fun (k:Nat)=>[(0,.own 9 1 (rwsB l))]) 1 (fun (k:Nat)=>k≤l.length ∧ ∀j (hj:j<l.length),j<k→findN l l[j]=some j) (fun (k:Nat)=>l.length - k) ?round8 (0) ?J08) sH sH
 case J08=>exact (⟨Nat.zero_le _,fun _ _ h=>absurd h (Nat.not_lt_zero _)⟩)
 rintro k hJ back
 conv=>whnf
 refine gS ?_;conv=>whnf
 refine ⟨fun hk=>?_,fun hk=>?_⟩<;>conv=>whnf
 ·have hk:k<l.length:=by omega
  conv=>whnf
  repeat ((first|refine oL ?_|refine oR ?_);(try intro _);conv=>whnf)
  refine ⟨_,rws_get hk,?_⟩;conv=>whnf
  refine RunsS.callN (rfindO_fn l l[k] hb) [0] ?_ sH ?CNa9
  case CNa9=>rfl
  intro _ _
  conv=>whnf
  refine gS ?_;conv=>whnf
  by_cases hm:findN l l[k]=some k
  ·refine And.intro (fun _=>?_) (fun hn=>absurd (congrArg idxO hm) hn)
   conv=>whnf
   repeat ((first|refine oL ?_|refine oR ?_);(try intro _);conv=>whnf)
   refine RunsS.subR [] (back (k+1) (by exact (⟨hk,fun j hj h1=>(Nat.lt_or_eq_of_le (Nat.le_of_lt_succ h1)).elim (hJ.2 j hj) (fun e2=>by subst e2;exact hm)⟩)) (by (try dsimp only);omega)) sH sH
  refine And.intro (fun hp=>absurd hp ((idxO_ne (k:=k)).2 hm)) (fun _=>?_)
  conv=>whnf
  have:r=true:=by rw [hr];exact dupB_yes hk hm
  rw [this]
  refine RunsS.retU ?_
  exact UnwS.ret tab Tryz.func84 rfl (eN () trivial)
 conv=>whnf
 have:r=false:=by rw [hr];exact dupB_no (fun j hj h=>hJ.2 j hj (by omega))
 rw [this]
 refine RunsS.retU ?_
 exact UnwS.ret tab Tryz.func84 rfl (eN () trivial)
section
variable {vU vI vP vM vO vF vR vS:Value}
theorem take_names {l:List ByteArray} {k:Nat} (hk:k<l.length):rwsB (l.take k)++[[Value.string l[k]]]=rwsB (l.take (k+1)):=by
 rw [take_snoc hk];show _=(l.take k++[l[k]]).map _;rw [List.map_append];rfl
theorem runits_fn (s:SrcV) (hL:Lens s):FnT Tryz.prog (TopT vU vI vP vM vO vF vR vS s) 34 0 [srcA vU vI vP vM vO vF vR vS] [] (fun _:Unit=>True) (fun _=>.ret (.buf 0) 1 [(0,.own 9 1 (rwsB (s.units.map Un.name)))]):=by
 have hl:=hL.U
 have hn:(s.units.map Un.name).length=s.units.length:=List.length_map _
 have hr:(rowsU s.units).length=s.units.length:=by first|exact rowsU_len _|exact rws_len _ _
 refine FnT.of Tryz.func34 (by kernel_rfl) rfl Tryz.ntmps34 rfl fun E0 F h hT w0 cs=>?_
 conv=>whnf
 refine gS ?_;conv=>whnf
 refine RunsS.nameCell (fun _ x=>x) 0 0 (by exact hT.U) ?_
 conv=>whnf
 refine gS ?_;conv=>whnf
 refine RunsS.subR [] (RunsS.loop (fun (k:Nat)=>[(4,.v (.int .i64 k)),(3,.buf 1),(1,.ptr 0 0)]) (fun (k:Nat)=>[(2,.ro 8 (rowsU s.units)),(1,.own 9 1 (rwsB ((s.units.map Un.name).take k))),(0,.cells 31 [.buf 2,.v vI,.v vP,.v vM,.v vO,.v vF,.v vR,.v vS])]) 3 (fun (k:Nat)=>k≤s.units.length) (fun (k:Nat)=>s.units.length - k) ?round11 (0) ?J011) sH sH
 case J011=>first|omega|trivial
 rintro k hJ back
 conv=>whnf
 refine gS ?_;conv=>whnf
 refine ⟨fun hk=>?_,fun hk=>?_⟩<;>conv=>whnf
 ·have hk:k<s.units.length:=by omega
  have hk2:k<(s.units.map Un.name).length:=by rw [hn];exact hk
  have e:(s.units.map Un.name)[k]=s.units[k].name:=List.getElem_map ..
  have hkl:=rwsB_len ((s.units.map Un.name).take k)
  rw [List.length_take,Nat.min_eq_left (Nat.le_of_lt hk2)] at hkl
  conv=>whnf
  repeat ((first|refine oL ?_|refine oR ?_);(try intro _);conv=>whnf)
  refine ⟨_,rowsU_get hk,?_⟩;conv=>whnf
  refine And.intro (appOb (show (rwsB ((s.units.map Un.name).take k)).length≤1000000 by omega)) ?_
  conv=>whnf
  repeat ((first|refine oL ?_|refine oR ?_);(try intro _);conv=>whnf)
  refine RunsS.rowsEq 4 ((congrArg (fun z=>rwsB ((s.units.map Un.name).take k)++[[Value.string z]]) e.symm).trans (take_names hk2)) ?_
  conv=>whnf
  refine RunsS.subR [(1,4)] (back (k+1) (by (try dsimp only);first|omega|trivial) (by (try dsimp only);omega)) sH sH
 conv=>whnf
 have hk:k=(s.units.map Un.name).length:=by omega
 clear back
 refine RunsS.rowsEq 1 (show rwsB ((s.units.map Un.name).take k)=rwsB (s.units.map Un.name) by rw [hk,List.take_length]) ?_
 conv=>whnf
 refine RunsS.retU ?_
 exact UnwS.ret tab Tryz.func34 rfl (EndS.mk (()) (trivial) [(0,1)] sH rfl rfl (okRet rfl rfl))
theorem ritems_fn (s:SrcV) (hL:Lens s):FnT Tryz.prog (TopT vU vI vP vM vO vF vR vS s) 37 0 [srcA vU vI vP vM vO vF vR vS] [] (fun _:Unit=>True) (fun _=>.ret (.buf 0) 1 [(0,.own 9 1 (rwsB (s.items.map It.name)))]):=by
 have hl:=hL.I
 have hn:(s.items.map It.name).length=s.items.length:=List.length_map _
 have hr:(rws It.row s.items).length=s.items.length:=by first|exact rowsU_len _|exact rws_len _ _
 refine FnT.of Tryz.func37 (by kernel_rfl) rfl Tryz.ntmps37 rfl fun E0 F h hT w0 cs=>?_
 conv=>whnf
 refine gS ?_;conv=>whnf
 refine RunsS.nameCell (fun _ x=>x) 0 1 (by exact hT.I) ?_
 conv=>whnf
 refine gS ?_;conv=>whnf
 refine RunsS.subR [] (RunsS.loop (fun (k:Nat)=>[(4,.v (.int .i64 k)),(3,.buf 1),(1,.ptr 0 0)]) (fun (k:Nat)=>[(2,.ro 6 (rws It.row s.items)),(1,.own 9 1 (rwsB ((s.items.map It.name).take k))),(0,.cells 31 [.v vU,.buf 2,.v vP,.v vM,.v vO,.v vF,.v vR,.v vS])]) 3 (fun (k:Nat)=>k≤s.items.length) (fun (k:Nat)=>s.items.length - k) ?round13 (0) ?J013) sH sH
 case J013=>first|omega|trivial
 rintro k hJ back
 conv=>whnf
 refine gS ?_;conv=>whnf
 refine ⟨fun hk=>?_,fun hk=>?_⟩<;>conv=>whnf
 ·have hk:k<s.items.length:=by omega
  have hk2:k<(s.items.map It.name).length:=by rw [hn];exact hk
  have e:(s.items.map It.name)[k]=s.items[k].name:=List.getElem_map ..
  have hkl:=rwsB_len ((s.items.map It.name).take k)
  rw [List.length_take,Nat.min_eq_left (Nat.le_of_lt hk2)] at hkl
  conv=>whnf
  repeat ((first|refine oL ?_|refine oR ?_);(try intro _);conv=>whnf)
  refine ⟨_,rws_get hk,?_⟩;conv=>whnf
  refine And.intro (appOb (show (rwsB ((s.items.map It.name).take k)).length≤1000000 by omega)) ?_
  conv=>whnf
  repeat ((first|refine oL ?_|refine oR ?_);(try intro _);conv=>whnf)
  refine RunsS.rowsEq 4 ((congrArg (fun z=>rwsB ((s.items.map It.name).take k)++[[Value.string z]]) e.symm).trans (take_names hk2)) ?_
  conv=>whnf
  refine RunsS.subR [(1,4)] (back (k+1) (by (try dsimp only);first|omega|trivial) (by (try dsimp only);omega)) sH sH
 conv=>whnf
 have hk:k=(s.items.map It.name).length:=by omega
 clear back
 refine RunsS.rowsEq 1 (show rwsB ((s.items.map It.name).take k)=rwsB (s.items.map It.name) by rw [hk,List.take_length]) ?_
 conv=>whnf
 refine RunsS.retU ?_
 exact UnwS.ret tab Tryz.func37 rfl (EndS.mk (()) (trivial) [(0,1)] sH rfl rfl (okRet rfl rfl))
theorem rmachines_fn (s:SrcV) (hL:Lens s):FnT Tryz.prog (TopT vU vI vP vM vO vF vR vS s) 85 0 [srcA vU vI vP vM vO vF vR vS] [] (fun _:Unit=>True) (fun _=>.ret (.buf 0) 1 [(0,.own 9 1 (rwsB (s.machines.map Mc.name)))]):=by
 have hl:=hL.M
 have hn:(s.machines.map Mc.name).length=s.machines.length:=List.length_map _
 have hr:(rws Mc.row s.machines).length=s.machines.length:=by first|exact rowsU_len _|exact rws_len _ _
 refine FnT.of Tryz.func85 (by kernel_rfl) rfl Tryz.ntmps85 rfl fun E0 F h hT w0 cs=>?_
 conv=>whnf
 refine gS ?_;conv=>whnf
 refine RunsS.nameCell (fun _ x=>x) 0 3 (by exact hT.M) ?_
 conv=>whnf
 refine gS ?_;conv=>whnf
 refine RunsS.subR [] (RunsS.loop (fun (k:Nat)=>[(4,.v (.int .i64 k)),(3,.buf 1),(1,.ptr 0 0)]) (fun (k:Nat)=>[(2,.ro 4 (rws Mc.row s.machines)),(1,.own 9 1 (rwsB ((s.machines.map Mc.name).take k))),(0,.cells 31 [.v vU,.v vI,.v vP,.buf 2,.v vO,.v vF,.v vR,.v vS])]) 3 (fun (k:Nat)=>k≤s.machines.length) (fun (k:Nat)=>s.machines.length - k) ?round15 (0) ?J015) sH sH
 case J015=>first|omega|trivial
 rintro k hJ back
 conv=>whnf
 refine gS ?_;conv=>whnf
 refine ⟨fun hk=>?_,fun hk=>?_⟩<;>conv=>whnf
 ·have hk:k<s.machines.length:=by omega
  have hk2:k<(s.machines.map Mc.name).length:=by rw [hn];exact hk
  have e:(s.machines.map Mc.name)[k]=s.machines[k].name:=List.getElem_map ..
  have hkl:=rwsB_len ((s.machines.map Mc.name).take k)
  rw [List.length_take,Nat.min_eq_left (Nat.le_of_lt hk2)] at hkl
  conv=>whnf
  repeat ((first|refine oL ?_|refine oR ?_);(try intro _);conv=>whnf)
  refine ⟨_,rws_get hk,?_⟩;conv=>whnf
  refine And.intro (appOb (show (rwsB ((s.machines.map Mc.name).take k)).length≤1000000 by omega)) ?_
  conv=>whnf
  repeat ((first|refine oL ?_|refine oR ?_);(try intro _);conv=>whnf)
  refine RunsS.rowsEq 4 ((congrArg (fun z=>rwsB ((s.machines.map Mc.name).take k)++[[Value.string z]]) e.symm).trans (take_names hk2)) ?_
  conv=>whnf
  refine RunsS.subR [(1,4)] (back (k+1) (by (try dsimp only);first|omega|trivial) (by (try dsimp only);omega)) sH sH
 conv=>whnf
 have hk:k=(s.machines.map Mc.name).length:=by omega
 clear back
 refine RunsS.rowsEq 1 (show rwsB ((s.machines.map Mc.name).take k)=rwsB (s.machines.map Mc.name) by rw [hk,List.take_length]) ?_
 conv=>whnf
 refine RunsS.retU ?_
 exact UnwS.ret tab Tryz.func85 rfl (EndS.mk (()) (trivial) [(0,1)] sH rfl rfl (okRet rfl rfl))
theorem roptions_fn (s:SrcV) (hL:Lens s):FnT Tryz.prog (TopT vU vI vP vM vO vF vR vS s) 86 0 [srcA vU vI vP vM vO vF vR vS] [] (fun _:Unit=>True) (fun _=>.ret (.buf 0) 1 [(0,.own 9 1 (rwsB (s.options.map OpV.name)))]):=by
 have hl:=hL.O
 have hn:(s.options.map OpV.name).length=s.options.length:=List.length_map _
 have hr:(rws OpV.row s.options).length=s.options.length:=by first|exact rowsU_len _|exact rws_len _ _
 refine FnT.of Tryz.func86 (by kernel_rfl) rfl Tryz.ntmps86 rfl fun E0 F h hT w0 cs=>?_
 conv=>whnf
 refine gS ?_;conv=>whnf
 refine RunsS.nameCell (fun _ x=>x) 0 4 (by exact hT.O) ?_
 conv=>whnf
 refine gS ?_;conv=>whnf
 refine RunsS.subR [] (RunsS.loop (fun (k:Nat)=>[(4,.v (.int .i64 k)),(3,.buf 1),(1,.ptr 0 0)]) (fun (k:Nat)=>[(2,.ro 2 (rws OpV.row s.options)),(1,.own 9 1 (rwsB ((s.options.map OpV.name).take k))),(0,.cells 31 [.v vU,.v vI,.v vP,.v vM,.buf 2,.v vF,.v vR,.v vS])]) 3 (fun (k:Nat)=>k≤s.options.length) (fun (k:Nat)=>s.options.length - k) ?round17 (0) ?J017) sH sH
 case J017=>first|omega|trivial
 rintro k hJ back
 conv=>whnf
 refine gS ?_;conv=>whnf
 refine ⟨fun hk=>?_,fun hk=>?_⟩<;>conv=>whnf
 ·have hk:k<s.options.length:=by omega
  have hk2:k<(s.options.map OpV.name).length:=by rw [hn];exact hk
  have e:(s.options.map OpV.name)[k]=s.options[k].name:=List.getElem_map ..
  have hkl:=rwsB_len ((s.options.map OpV.name).take k)
  rw [List.length_take,Nat.min_eq_left (Nat.le_of_lt hk2)] at hkl
  conv=>whnf
  repeat ((first|refine oL ?_|refine oR ?_);(try intro _);conv=>whnf)
  refine ⟨_,rws_get hk,?_⟩;conv=>whnf
  refine And.intro (appOb (show (rwsB ((s.options.map OpV.name).take k)).length≤1000000 by omega)) ?_
  conv=>whnf
  repeat ((first|refine oL ?_|refine oR ?_);(try intro _);conv=>whnf)
  refine RunsS.rowsEq 4 ((congrArg (fun z=>rwsB ((s.options.map OpV.name).take k)++[[Value.string z]]) e.symm).trans (take_names hk2)) ?_
  conv=>whnf
  refine RunsS.subR [(1,4)] (back (k+1) (by (try dsimp only);first|omega|trivial) (by (try dsimp only);omega)) sH sH
 conv=>whnf
 have hk:k=(s.options.map OpV.name).length:=by omega
 clear back
 refine RunsS.rowsEq 1 (show rwsB ((s.options.map OpV.name).take k)=rwsB (s.options.map OpV.name) by rw [hk,List.take_length]) ?_
 conv=>whnf
 refine RunsS.retU ?_
 exact UnwS.ret tab Tryz.func86 rfl (EndS.mk (()) (trivial) [(0,1)] sH rfl rfl (okRet rfl rfl))
end
end Go.Proofs.YtofjdbmcloemnaaGreatDoor

namespace Go.SrcM
open Go Go.Fw Go.RatM
def chV (s:SrcV) (o:Int):Value:=if 0≤o∧o<s.options.length then ((s.options[o.toNat]?).map fun q=>q.hd.v q.ch.length).getD (.slice none 0 0) else .slice none 0 0
theorem chV_in {s:SrcV} {k:Nat} (hk:k<s.options.length):chV s k=s.options[k].hd.v s.options[k].ch.length∧chOf s k=s.options[k].ch:=by
 unfold chV chOf
 rw [if_pos (by omega),if_pos (by omega)]
 simp [List.getElem?_eq_getElem hk]
theorem chV_out {s:SrcV} {o:Int} (h:¬(0≤o∧o<s.options.length)):chV s o=.slice none 0 0∧chOf s o=[]:=by
 unfold chV chOf
 rw [if_neg h,if_neg h]
 exact ⟨rfl,rfl⟩
theorem Lens.ch {s:SrcV} (hL:Lens s) (o:Int):(chOf s o).length≤1000000:=by
 by_cases h:0≤o∧o<s.options.length
 ·obtain ⟨k,hk,_,e⟩:=chOf_in h
  rw [e];exact hL.o _ (List.getElem_mem hk)
 rw [(chV_out h).2];exact Nat.zero_le _
end Go.SrcM
namespace Go.Proofs.YtofjdbmcloemnaaGreatDoor
open Go Go.Fw Go.NatM Go.RatM Go.SrcM
set_option maxRecDepth 100000
set_option maxHeartbeats 99999999
theorem chV_ok {s:SrcV} {G:Nat→Prop} {h:Array Obj} (H:s.sub G h) (o:Int):RoF G h (chV s o) 1 (rwsB (chOf s o)):=by
 by_cases hi:0≤o∧o<s.options.length
 ·obtain ⟨k,hk,rfl,_⟩:=chOf_in hi
  rw [(chV_in hk).1,(chV_in hk).2]
  exact H.o _ (List.getElem_mem hk)
 rw [(chV_out hi).1,(chV_out hi).2]
 exact RoF.nil _ _ _
section
variable {vU vI vP vM vO vF vR vS:Value}
theorem rchoices_fn (s:SrcV) (o:Int):FnT Tryz.prog (TopT vU vI vP vM vO vF vR vS s) 48 0 [srcA vU vI vP vM vO vF vR vS,.v (.int .i64 o)] [] (fun _:Unit=>True) (fun _=>.ret (.v (chV s o)) 0 []):=by
 refine FnT.of Tryz.func48 (by kernel_rfl) rfl Tryz.ntmps48 rfl fun E0 F h hT w0 cs=>?_
 (conv=>whnf)
 have hl:=rws_len OpV.row s.options
 refine goS_run tab 3 _ _ _ _ ?_
 (conv=>whnf)
 refine RunsS.nameCell (fun _ x=>x) 0 4 (by exact hT.O) ?_
 conv=>whnf
 refine gS ?_;conv=>whnf
 refine ⟨fun h0=>?_,fun h0=>?_⟩<;>conv=>whnf
 ·rw [(chV_out (show ¬(0≤o∧o<s.options.length) by omega)).1]
  conv=>whnf
  refine RunsS.retU ?_
  exact UnwS.ret tab Tryz.func48 rfl (eN () trivial)
 conv=>whnf
 refine ⟨fun h1=>?_,fun h1=>?_⟩<;>conv=>whnf
 ·rw [(chV_out (show ¬(0≤o∧o<s.options.length) by omega)).1]
  conv=>whnf
  refine RunsS.retU ?_
  exact UnwS.ret tab Tryz.func48 rfl (eN () trivial)
 obtain ⟨k,hk,rfl,e⟩:=chOf_in (show 0≤o∧o<s.options.length by omega)
 rw [(chV_in hk).1]
 conv=>whnf
 repeat ((first|refine oL ?_|refine oR ?_);(try intro _);conv=>whnf)
 refine ⟨_,rws_get hk,?_⟩;conv=>whnf
 refine RunsS.retU ?_
 exact UnwS.ret tab Tryz.func48 rfl (eN () trivial)
theorem rTwice_fn (s:SrcV) (hL:Lens s):FnT Tryz.prog (TopT vU vI vP vM vO vF vR vS s) 31 0 [srcA vU vI vP vM vO vF vR vS] [] (fun _:Unit=>True) (fun _=>.ret (.v (.bool (decide (twiceN s)))) 0 []):=by
 obtain ⟨r,hr⟩:∃r,r=decide (twiceN s):=⟨_,rfl⟩
 rw [←hr]
 have lU:=hL.U
 have lI:=hL.I
 have lP:=hL.P
 have lM:=hL.M
 have lO:=hL.O
 refine FnT.of Tryz.func31 (by kernel_rfl) rfl Tryz.ntmps31 rfl fun E0 F h hT w0 cs=>?_
 conv=>whnf
 refine gS ?_;conv=>whnf
 obtain ⟨aO,cO,rfl⟩:=RoF.sli hT.O (rws_len OpV.row s.options)
 refine RunsS.subR [] (RunsS.loop (fun (k:Nat)=>[(3,.v (.int .i64 k)),(1,.ptr 0 0)]) (fun (k:Nat)=>[(0,.cells 31 [.v vU,.v vI,.v vP,.v vM,.v (.slice aO s.options.length cO),.v vF,.v vR,.v vS])]) 1 (fun (k:Nat)=>k≤s.options.length ∧ ∀j (hj:j<s.options.length),j<k→s.options[j].ch.Nodup) (fun (k:Nat)=>s.options.length - k) ?round1 (0) ?J01) sH sH
 case J01=>exact (⟨Nat.zero_le _,fun _ _ h=>absurd h (Nat.not_lt_zero _)⟩)
 rintro k hJ back
 conv=>whnf
 refine gS ?_;conv=>whnf
 refine ⟨fun hk=>?_,fun hk=>?_⟩<;>conv=>whnf
 ·have hk:k<s.options.length:=by omega
  conv=>whnf
  refine RunsS.callT (TopF.tok _ _ _ _ _ _ _ _ _) (hT) (rchoices_fn s k) [] sH ?CNa2 ?_
  case CNa2=>rfl
  rintro _ _
  conv=>whnf
  rw [(chV_in hk).1]
  refine gS ?_;conv=>whnf
  refine RunsS.nameAt (fun _ x=>x) 13 (by exact hT.below.o _ (List.getElem_mem hk)) ?_
  conv=>whnf
  refine gS ?_;conv=>whnf
  refine RunsS.callN (rtwiceR_fn s.options[k].ch (hL.o _ (List.getElem_mem hk))) [1] ?_ sH ?CNa3
  case CNa3=>rfl
  intro _ _
  conv=>whnf
  refine gS ?_;conv=>whnf
  cases hd:dupB s.options[k].ch with
  |true=>
   have:r=true:=by rw [hr];exact decide_eq_true (.inr (.inr (.inr (.inr (.inr fun h=>of_decide_eq_true hd (h _ (List.getElem_mem hk)))))))
   rw [this]
   conv=>whnf
   refine RunsS.retU ?_
   exact UnwS.ret tab Tryz.func31 rfl (eN () trivial)
  |false=>
   conv=>whnf
   repeat ((first|refine oL ?_|refine oR ?_);(try intro _);conv=>whnf)
   refine RunsS.subR [] (back (k+1) (by exact (⟨hk,fun j hj h1=>(Nat.lt_or_eq_of_le (Nat.le_of_lt_succ h1)).elim (hJ.2 j hj) (fun e2=>by subst e2;exact Decidable.not_not.1 (of_decide_eq_false hd))⟩)) (by (try dsimp only);omega)) sH sH
 conv=>whnf
 have ho:∀o∈s.options,o.ch.Nodup:=fun o hm=>by
  obtain ⟨j,hj,e⟩:=List.getElem_of_mem hm
  rw [←e];exact hJ.2 j hj (by omega)
 refine RunsS.callT (TopF.tok _ _ _ _ _ _ _ _ _) (hT) (runits_fn s hL) [] sH ?CNa5 ?_
 case CNa5=>rfl
 rintro _ _
 conv=>whnf
 refine gS ?_;conv=>whnf
 refine RunsS.callN (rtwiceO_fn (s.units.map Un.name) (by rw [List.length_map];exact lU)) [1] ?_ sH ?CNa6
 case CNa6=>rfl
 intro _ _
 conv=>whnf
 refine gS ?_;conv=>whnf
 cases h0:dupB (s.units.map Un.name) with
 |true=>
  have:r=true:=by rw [hr];exact decide_eq_true (.inl (of_decide_eq_true h0))
  rw [this]
  conv=>whnf
  refine RunsS.retU ?_
  exact UnwS.ret tab Tryz.func31 rfl (eN () trivial)
 |false=>
 conv=>whnf
 refine RunsS.callT (TopF.tok _ _ _ _ _ _ _ _ _) (hT) (ritems_fn s hL) [] sH ?CNa7 ?_
 case CNa7=>rfl
 rintro _ _
 conv=>whnf
 refine gS ?_;conv=>whnf
 refine RunsS.callN (rtwiceO_fn (s.items.map It.name) (by rw [List.length_map];exact lI)) [2] ?_ sH ?CNa8
 case CNa8=>rfl
 intro _ _
 conv=>whnf
 refine gS ?_;conv=>whnf
 cases h1:dupB (s.items.map It.name) with
 |true=>
  have:r=true:=by rw [hr];exact decide_eq_true (.inr (.inl (of_decide_eq_true h1)))
  rw [this]
  conv=>whnf
  refine RunsS.retU ?_
  exact UnwS.ret tab Tryz.func31 rfl (eN () trivial)
 |false=>
 conv=>whnf
 refine RunsS.nameAt (fun _ x=>x) 25 (by exact hT.P) ?_
 conv=>whnf
 refine gS ?_;conv=>whnf
 refine RunsS.callN (rtwiceR_fn s.plants lP) [3] ?_ sH ?CNa9
 case CNa9=>rfl
 intro _ _
 conv=>whnf
 refine gS ?_;conv=>whnf
 cases h2:dupB (s.plants) with
 |true=>
  have:r=true:=by rw [hr];exact decide_eq_true (.inr (.inr (.inl (of_decide_eq_true h2))))
  rw [this]
  conv=>whnf
  refine RunsS.retU ?_
  exact UnwS.ret tab Tryz.func31 rfl (eN () trivial)
 |false=>
 conv=>whnf
 refine RunsS.callT (TopF.tok _ _ _ _ _ _ _ _ _) (hT) (rmachines_fn s hL) [] sH ?CNa10 ?_
 case CNa10=>rfl
 rintro _ _
 conv=>whnf
 refine gS ?_;conv=>whnf
 refine RunsS.callN (rtwiceO_fn (s.machines.map Mc.name) (by rw [List.length_map];exact lM)) [4] ?_ sH ?CNa11
 case CNa11=>rfl
 intro _ _
 conv=>whnf
 refine gS ?_;conv=>whnf
 cases h3:dupB (s.machines.map Mc.name) with
 |true=>
  have:r=true:=by rw [hr];exact decide_eq_true (.inr (.inr (.inr (.inl (of_decide_eq_true h3)))))
  rw [this]
  conv=>whnf
  refine RunsS.retU ?_
  exact UnwS.ret tab Tryz.func31 rfl (eN () trivial)
 |false=>
 conv=>whnf
 refine RunsS.callT (TopF.tok _ _ _ _ _ _ _ _ _) (hT) (roptions_fn s hL) [] sH ?CNa12 ?_
 case CNa12=>rfl
 rintro _ _
 conv=>whnf
 refine gS ?_;conv=>whnf
 refine RunsS.callN (rtwiceO_fn (s.options.map OpV.name) (by rw [List.length_map];exact lO)) [5] ?_ sH ?CNa13
 case CNa13=>rfl
 intro _ _
 conv=>whnf
 refine gS ?_;conv=>whnf
 cases h4:dupB (s.options.map OpV.name) with
 |true=>
  have:r=true:=by rw [hr];exact decide_eq_true (.inr (.inr (.inr (.inr (.inl (of_decide_eq_true h4))))))
  rw [this]
  conv=>whnf
  refine RunsS.retU ?_
  exact UnwS.ret tab Tryz.func31 rfl (eN () trivial)
 |false=>
 conv=>whnf
 have:r=false:=by
  rw [hr]
  refine decide_eq_false fun h=>?_
  rcases h with h|h|h|h|h|h
  ·exact of_decide_eq_false h0 h
  ·exact of_decide_eq_false h1 h
  ·exact of_decide_eq_false h2 h
  ·exact of_decide_eq_false h3 h
  ·exact of_decide_eq_false h4 h
  exact h ho
 rw [this]
 refine RunsS.retU ?_
 exact UnwS.ret tab Tryz.func31 rfl (eN () trivial)
end
end Go.Proofs.YtofjdbmcloemnaaGreatDoor

namespace Go.SrcM
open Go Go.Fw Go.RatM
def idxOf (l:List ByteArray) (nm:ByteArray):Int:=match findN l nm with
 |some k=>k
 |none=> -1
def refCd (s:SrcV) (c:Cd):Cd:={c with on:=idxOf (s.options.map OpV.name) c.opt,cn:=idxOf (chOf s (idxOf (s.options.map OpV.name) c.opt)) c.ch}
def refAm (s:SrcV) (a:Am):Am:={a with un:=idxOf (s.units.map Un.name) a.unit,inn:=idxOf (s.items.map It.name) a.item}
theorem idxOf_some {l:List ByteArray} {nm:ByteArray} {k:Nat} (h:findN l nm=some k):idxOf l nm=k:=by unfold idxOf;rw [h]
theorem idxOf_none {l:List ByteArray} {nm:ByteArray} (h:findN l nm=none):idxOf l nm = -1:=by unfold idxOf;rw [h]
theorem idxOf_pos {l:List ByteArray} {nm:ByteArray}:decide (0≤idxOf l nm)=(findN l nm).isSome:=by
 cases h:findN l nm with
 |some k=>rw [idxOf_some h];exact decide_eq_true (Int.natCast_nonneg k)
 |none=>rw [idxOf_none h];rfl
theorem resCd_ref (s:SrcV) (c:Cd):(decide (0≤(refCd s c).on)&&decide (0≤(refCd s c).cn))=(resCd s c).isSome ∧ ∀d,resCd s c=some d→d=refCd s c:=by
 unfold refCd resCd
 dsimp only
 rw [idxOf_pos,idxOf_pos]
 cases h:findN (s.options.map OpV.name) c.opt with
 |none=>exact ⟨rfl,fun d h=>by cases h⟩
 |some k=>
  obtain ⟨hk,_,_⟩:=findN_some.1 h
  rw [List.length_map] at hk
  rw [idxOf_some h,(chV_in hk).2]
  simp only [List.getElem?_eq_getElem hk]
  cases h2:findN s.options[k].ch c.ch with
  |none=>exact ⟨rfl,fun d h=>by cases h⟩
  |some j=>rw [idxOf_some h2];exact ⟨rfl,fun d h=>by cases h;rfl⟩
theorem resAm_ref (s:SrcV) (c:Am):(decide (0≤(refAm s c).un)&&decide (0≤(refAm s c).inn))=(resAm s c).isSome ∧ ∀d,resAm s c=some d→d=refAm s c:=by
 unfold refAm resAm
 dsimp only
 rw [idxOf_pos,idxOf_pos]
 cases h:findN (s.units.map Un.name) c.unit with
 |none=>exact ⟨rfl,fun d h=>by cases h⟩
 |some k=>
  cases h2:findN (s.items.map It.name) c.item with
  |none=>exact ⟨rfl,fun d h=>by cases h⟩
  |some j=>rw [idxOf_some h2,idxOf_some h];exact ⟨rfl,fun d h=>by cases h;rfl⟩
theorem all_snoc {α:Type} {p:α→Bool} {l:List α} {k:Nat} (hk:k<l.length):(l.take (k+1)).all p=((l.take k).all p&&p l[k]):=by
 rw [take_snoc hk,List.all_append];simp
theorem map_take_snoc {α:Type} {f:α→List Value} {g:α→α} {l:List α} {k:Nat} (hk:k<l.length):rws f ((l.take k).map g)++[f (g l[k])]=rws f ((l.take (k+1)).map g):=by
 rw [take_snoc hk,List.map_append];show _=((l.take k).map g++[g l[k]]).map f;rw [List.map_append];rfl
end Go.SrcM
namespace Go.Proofs.YtofjdbmcloemnaaGreatDoor
open Go Go.Fw Go.NatM Go.RatM Go.SrcM
set_option maxRecDepth 100000
set_option maxHeartbeats 99999999
theorem idxO_Of (l:List ByteArray) (nm:ByteArray):idxO (findN l nm)=idxOf l nm:=by unfold idxOf idxO;rfl
theorem rfindV_fn (v:Value) (l:List ByteArray) (nm:ByteArray) (hb:l.length≤1000000):FnT Tryz.prog (fun F h=>RoF F h v 1 (rwsB l)) 33 0 [.v v,.v (.string nm)] [] (fun _:Unit=>True) (fun _=>.ret (.v (.int .i64 (idxOf l nm))) 0 []):=by
 have hl:=rwsB_len l
 rw [←idxO_Of]
 obtain ⟨r,hr⟩:∃r,r=findN l nm:=⟨_,rfl⟩
 rw [←hr]
 refine FnT.of Tryz.func33 (by kernel_rfl) rfl Tryz.ntmps33 rfl fun E0 F h hT w0 cs=>?_
 (conv=>whnf)
 refine RunsS.nameAt (fun _ x=>x) 0 (by exact hT) ?_
 conv=>whnf
 refine gS ?_;conv=>whnf
 refine RunsS.subR [] (RunsS.loop (fun (k:Nat)=>[(5,.v (.int .i64 k)),(0,.buf 0),(1,.v (.string nm))]) (fun (k:Nat)=>[(0,.ro 1 (rwsB l))]) 1 (fun (k:Nat)=>k≤l.length ∧ ∀j (hj:j<l.length),j<k→l[j]≠nm) (fun (k:Nat)=>l.length - k) ?round1 (0) ?J01) sH sH
 case J01=>exact (⟨Nat.zero_le _,fun _ _ h=>absurd h (Nat.not_lt_zero _)⟩)
 rintro k hJ back
 conv=>whnf
 refine gS ?_;conv=>whnf
 refine ⟨fun hk=>?_,fun hk=>?_⟩<;>conv=>whnf
 ·have hk:k<l.length:=by omega
  conv=>whnf
  repeat ((first|refine oL ?_|refine oR ?_);(try intro _);conv=>whnf)
  refine ⟨_,rws_get hk,?_⟩;conv=>whnf
  by_cases hm:l[k]=nm
  ·refine And.intro (fun _=>?_) (fun hn=>absurd (hm) hn)
   conv=>whnf
   have:r=some k:=by rw [hr];exact findN_here hk hm hJ.2
   rw [this]
   refine RunsS.retU ?_
   exact UnwS.ret tab Tryz.func33 rfl (eN () trivial)
  refine And.intro (fun hp=>absurd hp (hm)) (fun _=>?_)
  conv=>whnf
  repeat ((first|refine oL ?_|refine oR ?_);(try intro _);conv=>whnf)
  refine RunsS.subR [] (back (k+1) (by exact (⟨hk,fun j hj h1=>(Nat.lt_or_eq_of_le (Nat.le_of_lt_succ h1)).elim (hJ.2 j hj) (fun e2=>by subst e2;exact hm)⟩)) (by (try dsimp only);omega)) sH sH
 conv=>whnf
 have:r=none:=by rw [hr];exact findN_not (fun j hj h=>hJ.2 j hj (by omega))
 rw [this]
 refine RunsS.retU ?_
 exact UnwS.ret tab Tryz.func33 rfl (eN () trivial)
section
variable {vU vI vP vM vO vF vR vS:Value}
abbrev TopL (vU vI vP vM vO vF vR vS:Value) (s:SrcV) (v:Value) (sz:Nat) (rows:List (List Value)) (F:Nat→Prop) (h:Array Obj):Prop:=TopF F h vU vI vP vM vO vF vR vS s∧RoF F h v sz rows
theorem rconds_fn (s:SrcV) (hL:Lens s) (v:Value) (l:List Cd) (hb:l.length≤1000000):FnT Tryz.prog (TopL vU vI vP vM vO vF vR vS s v 4 (rws Cd.row l)) 35 0 [srcA vU vI vP vM vO vF vR vS,.v v] [] (fun _:Unit=>True) (fun _=>.ret (.tup [.buf 0,.v (.bool (l.all fun c=>(resCd s c).isSome))]) 1 [(0,.own 64 4 (rws Cd.row (l.map (refCd s))))]):=by
 have hl:=rws_len Cd.row l
 refine FnT.of Tryz.func35 (by kernel_rfl) rfl Tryz.ntmps35 rfl fun E0 F h hT w0 cs=>?_
 conv=>whnf
 refine gS ?_;conv=>whnf
 refine RunsS.nameAt (fun _ x=>x) 1 (by exact hT.2) ?_
 conv=>whnf
 refine gS ?_;conv=>whnf
 refine RunsS.subR [] (RunsS.loop (fun (⟨k,b⟩:Nat×Bool)=>[(8,.v (.int .i64 k)),(7,.v (.bool b)),(6,.buf 1),(2,.ptr 0 0),(1,.buf 2)]) (fun (⟨k,b⟩:Nat×Bool)=>[(2,.ro 4 (rws Cd.row l)),(1,.own 64 4 (rws Cd.row ((l.take k).map (refCd s)))),(0,vC vU vI vP vM vO vF vR vS)]) 3 (fun (⟨k,b⟩:Nat×Bool)=>k≤l.length∧b=(l.take k).all fun c=>(resCd s c).isSome) (fun (⟨k,b⟩:Nat×Bool)=>l.length - k) ?round3 ((0,true)) ?J03) sH sH
 case J03=>exact (⟨Nat.zero_le _,rfl⟩)
 rintro ⟨k,b⟩ hJ back
 try dsimp only at hJ back
 conv=>whnf
 try dsimp only
 refine gS ?_;conv=>whnf
 refine ⟨fun hk=>?_,fun hk=>?_⟩<;>conv=>whnf
 ·have hk:k<l.length:=by omega
  conv=>whnf
  repeat ((first|refine oL ?_|refine oR ?_);(try intro _);conv=>whnf)
  refine ⟨_,rws_get hk,?_⟩;conv=>whnf
  try (refine oN ?_;conv=>whnf)
  refine RunsS.held tab (.fl 0 (.fl 2 (.fl 3 (.e1 1 [3] (.e1 4 [] (.fl 5 (.e1 6 [] .done))))))) (by kernel_rfl) ?_;conv=>whnf
  try refine gR ?_;conv=>whnf
  conv=>whnf
  have C:=rfindO_fn (s.options.map OpV.name) l[k].opt (by rw [List.length_map];exact hL.O)
  rw [idxO_Of] at C
  refine EffR.callT (TopF.tok _ _ _ _ _ _ _ _ _) (hT.1) (roptions_fn s hL) [] ?_ sH ?CNa4
  case CNa4=>rfl
  intro _ _
  conv=>whnf
  try refine oB ?_
  try refine gR ?_;conv=>whnf
  conv=>whnf
  refine EffR.callN (C) [4] ?_ sH ?CNa5
  case CNa5=>rfl
  intro _ _
  conv=>whnf
  try refine oB ?_
  try refine gR ?_;conv=>whnf
  repeat ((first|refine oL ?_|refine oR ?_|refine oB ?_);(try intro _);conv=>whnf)
  refine gS ?_;conv=>whnf
  obtain ⟨o,ho⟩:∃o,o=idxOf (s.options.map OpV.name) l[k].opt:=⟨_,rfl⟩
  rw [←ho]
  refine RunsS.held tab (.fl 0 (.fl 1 (.fl 2 (.fl 4 (.fl 5 (.e1 3 [5] (.e1 6 [] (.fl 7 (.e1 8 [] .done))))))))) (by kernel_rfl) ?_;conv=>whnf
  try refine gR ?_;conv=>whnf
  conv=>whnf
  refine EffR.callT (TopF.tok _ _ _ _ _ _ _ _ _) (hT.1) (rchoices_fn s o) [] ?_ sH ?CNa6
  case CNa6=>rfl
  intro _ _
  conv=>whnf
  try refine oB ?_
  try refine gR ?_;conv=>whnf
  conv=>whnf
  refine EffR.callT (RoF.tok _ _ _) (chV_ok hT.1.below o) (rfindV_fn (chV s o) (chOf s o) l[k].ch (hL.ch o)) [] ?_ sH ?CNa7
  case CNa7=>rfl
  intro _ _
  conv=>whnf
  try refine oB ?_
  try refine gR ?_;conv=>whnf
  repeat ((first|refine oL ?_|refine oR ?_|refine oB ?_);(try intro _);conv=>whnf)
  refine gS ?_;conv=>whnf
  obtain ⟨c,hc⟩:∃c,c=idxOf (chOf s o) l[k].ch:=⟨_,rfl⟩
  rw [←hc]
  have es:((l.take (k+1)).all fun c=>(resCd s c).isSome)=(b&&(decide (0≤o)&&decide (0≤c))):=by
   rw [all_snoc hk,←hJ.2,←(resCd_ref s l[k]).1]
   subst ho
   subst hc
   rfl
  have er:rws Cd.row ((l.take k).map (refCd s))++[Cd.row {l[k] with on:=o,cn:=c}]=rws Cd.row ((l.take (k+1)).map (refCd s)):=by
   subst ho
   subst hc
   exact map_take_snoc hk
  have el:(rws Cd.row ((l.take k).map (refCd s))).length=k:=by rw [rws_len,List.length_map,List.length_take];omega
  cases b with
  |false=>
   conv=>whnf
   refine And.intro (appOb (show (rws Cd.row ((l.take k).map (refCd s))).length≤1000000 by omega)) ?_
   conv=>whnf
   repeat ((first|refine oL ?_|refine oR ?_);(try intro _);conv=>whnf)
   refine RunsS.rowsEq 6 er ?_;conv=>whnf
   refine RunsS.subR [(1,6)] (back ((k+1,false)) (by exact (⟨hk,by rw [es];rfl⟩)) (by (try dsimp only);omega)) sH sH
  |true=>
   conv=>whnf
   refine ⟨fun h1=>?_,fun h1=>?_⟩<;>conv=>whnf
   ·conv=>whnf
    refine And.intro (appOb (show (rws Cd.row ((l.take k).map (refCd s))).length≤1000000 by omega)) ?_
    conv=>whnf
    repeat ((first|refine oL ?_|refine oR ?_);(try intro _);conv=>whnf)
    refine RunsS.rowsEq 6 er ?_;conv=>whnf
    refine RunsS.subR [(1,6)] (back ((k+1,decide (0≤c))) (by exact (⟨hk,by rw [es,decide_eq_true h1];rfl⟩)) (by (try dsimp only);omega)) sH sH
   conv=>whnf
   refine And.intro (appOb (show (rws Cd.row ((l.take k).map (refCd s))).length≤1000000 by omega)) ?_
   conv=>whnf
   repeat ((first|refine oL ?_|refine oR ?_);(try intro _);conv=>whnf)
   refine RunsS.rowsEq 6 er ?_;conv=>whnf
   refine RunsS.subR [(1,6)] (back ((k+1,false)) (by exact (⟨hk,by rw [es,decide_eq_false h1];rfl⟩)) (by (try dsimp only);omega)) sH sH
 conv=>whnf
 have hk:k=l.length:=by omega
 have hb2:=hJ.2
 rw [hk,List.take_length] at hb2
 clear back
 subst hb2
 refine RunsS.rowsEq 1 (show rws Cd.row ((l.take k).map (refCd s))=rws Cd.row (l.map (refCd s)) by rw [hk,List.take_length]) ?_
 conv=>whnf
 refine RunsS.retU ?_
 exact UnwS.ret tab Tryz.func35 rfl (EndS.mk (()) (trivial) [(0,1)] sH rfl rfl (okRet rfl rfl))
theorem ramounts_fn (s:SrcV) (hL:Lens s) (v:Value) (l:List Am) (hb:l.length≤1000000):FnT Tryz.prog (TopL vU vI vP vM vO vF vR vS s v 7 (rws Am.row l)) 91 0 [srcA vU vI vP vM vO vF vR vS,.v v] [] (fun _:Unit=>True) (fun _=>.ret (.tup [.buf 0,.v (.bool (l.all fun c=>(resAm s c).isSome))]) 1 [(0,.own 71 7 (rws Am.row (l.map (refAm s))))]):=by
 have hl:=rws_len Am.row l
 refine FnT.of Tryz.func91 (by kernel_rfl) rfl Tryz.ntmps91 rfl fun E0 F h hT w0 cs=>?_
 conv=>whnf
 refine gS ?_;conv=>whnf
 refine RunsS.nameAt (fun _ x=>x) 1 (by exact hT.2) ?_
 conv=>whnf
 refine gS ?_;conv=>whnf
 refine RunsS.subR [] (RunsS.loop (fun (⟨k,b⟩:Nat×Bool)=>[(8,.v (.int .i64 k)),(7,.v (.bool b)),(6,.buf 1),(2,.ptr 0 0),(1,.buf 2)]) (fun (⟨k,b⟩:Nat×Bool)=>[(2,.ro 7 (rws Am.row l)),(1,.own 71 7 (rws Am.row ((l.take k).map (refAm s)))),(0,vC vU vI vP vM vO vF vR vS)]) 3 (fun (⟨k,b⟩:Nat×Bool)=>k≤l.length∧b=(l.take k).all fun c=>(resAm s c).isSome) (fun (⟨k,b⟩:Nat×Bool)=>l.length - k) ?round11 ((0,true)) ?J011) sH sH
 case J011=>exact (⟨Nat.zero_le _,rfl⟩)
 rintro ⟨k,b⟩ hJ back
 try dsimp only at hJ back
 conv=>whnf
 try dsimp only
 refine gS ?_;conv=>whnf
 refine ⟨fun hk=>?_,fun hk=>?_⟩<;>conv=>whnf
 ·have hk:k<l.length:=by omega
  conv=>whnf
  repeat ((first|refine oL ?_|refine oR ?_);(try intro _);conv=>whnf)
  refine ⟨_,rws_get hk,?_⟩;conv=>whnf
  try (refine oN ?_;conv=>whnf)
  refine RunsS.held tab (.fl 0 (.fl 2 (.fl 3 (.e1 1 [3] (.e1 4 [] (.fl 5 (.e1 6 [] .done))))))) (by kernel_rfl) ?_;conv=>whnf
  try refine gR ?_;conv=>whnf
  conv=>whnf
  have C:=rfindO_fn (s.units.map Un.name) l[k].unit (by rw [List.length_map];exact hL.U)
  rw [idxO_Of] at C
  refine EffR.callT (TopF.tok _ _ _ _ _ _ _ _ _) (hT.1) (runits_fn s hL) [] ?_ sH ?CNa12
  case CNa12=>rfl
  intro _ _
  conv=>whnf
  try refine oB ?_
  try refine gR ?_;conv=>whnf
  conv=>whnf
  refine EffR.callN (C) [4] ?_ sH ?CNa13
  case CNa13=>rfl
  intro _ _
  conv=>whnf
  try refine oB ?_
  try refine gR ?_;conv=>whnf
  repeat ((first|refine oL ?_|refine oR ?_|refine oB ?_);(try intro _);conv=>whnf)
  refine gS ?_;conv=>whnf
  obtain ⟨o,ho⟩:∃o,o=idxOf (s.units.map Un.name) l[k].unit:=⟨_,rfl⟩
  rw [←ho]
  refine RunsS.held tab (.fl 0 (.fl 2 (.fl 3 (.e1 1 [3] (.e1 4 [] (.fl 5 (.e1 6 [] .done))))))) (by kernel_rfl) ?_;conv=>whnf
  try refine gR ?_;conv=>whnf
  conv=>whnf
  have C2:=rfindO_fn (s.items.map It.name) l[k].item (by rw [List.length_map];exact hL.I)
  rw [idxO_Of] at C2
  refine EffR.callT (TopF.tok _ _ _ _ _ _ _ _ _) (hT.1) (ritems_fn s hL) [] ?_ sH ?CNa14
  case CNa14=>rfl
  intro _ _
  conv=>whnf
  try refine oB ?_
  try refine gR ?_;conv=>whnf
  conv=>whnf
  refine EffR.callN (C2) [5] ?_ sH ?CNa15
  case CNa15=>rfl
  intro _ _
  conv=>whnf
  try refine oB ?_
  try refine gR ?_;conv=>whnf
  repeat ((first|refine oL ?_|refine oR ?_|refine oB ?_);(try intro _);conv=>whnf)
  refine gS ?_;conv=>whnf
  obtain ⟨c,hc⟩:∃c,c=idxOf (s.items.map It.name) l[k].item:=⟨_,rfl⟩
  rw [←hc]
  have es:((l.take (k+1)).all fun c=>(resAm s c).isSome)=(b&&(decide (0≤o)&&decide (0≤c))):=by
   rw [all_snoc hk,←hJ.2,←(resAm_ref s l[k]).1]
   subst ho
   subst hc
   rfl
  have er:rws Am.row ((l.take k).map (refAm s))++[Am.row {l[k] with un:=o,inn:=c}]=rws Am.row ((l.take (k+1)).map (refAm s)):=by
   subst ho
   subst hc
   exact map_take_snoc hk
  have el:(rws Am.row ((l.take k).map (refAm s))).length=k:=by rw [rws_len,List.length_map,List.length_take];omega
  cases b with
  |false=>
   conv=>whnf
   refine And.intro (appOb (show (rws Am.row ((l.take k).map (refAm s))).length≤1000000 by omega)) ?_
   conv=>whnf
   repeat ((first|refine oL ?_|refine oR ?_);(try intro _);conv=>whnf)
   refine RunsS.rowsEq 7 er ?_;conv=>whnf
   refine RunsS.subR [(1,7)] (back ((k+1,false)) (by exact (⟨hk,by rw [es];rfl⟩)) (by (try dsimp only);omega)) sH sH
  |true=>
   conv=>whnf
   refine ⟨fun h1=>?_,fun h1=>?_⟩<;>conv=>whnf
   ·conv=>whnf
    refine And.intro (appOb (show (rws Am.row ((l.take k).map (refAm s))).length≤1000000 by omega)) ?_
    conv=>whnf
    repeat ((first|refine oL ?_|refine oR ?_);(try intro _);conv=>whnf)
    refine RunsS.rowsEq 7 er ?_;conv=>whnf
    refine RunsS.subR [(1,7)] (back ((k+1,decide (0≤c))) (by exact (⟨hk,by rw [es,decide_eq_true h1];rfl⟩)) (by (try dsimp only);omega)) sH sH
   conv=>whnf
   refine And.intro (appOb (show (rws Am.row ((l.take k).map (refAm s))).length≤1000000 by omega)) ?_
   conv=>whnf
   repeat ((first|refine oL ?_|refine oR ?_);(try intro _);conv=>whnf)
   refine RunsS.rowsEq 7 er ?_;conv=>whnf
   refine RunsS.subR [(1,7)] (back ((k+1,false)) (by exact (⟨hk,by rw [es,decide_eq_false h1];rfl⟩)) (by (try dsimp only);omega)) sH sH
 conv=>whnf
 have hk:k=l.length:=by omega
 have hb2:=hJ.2
 rw [hk,List.take_length] at hb2
 clear back
 subst hb2
 refine RunsS.rowsEq 1 (show rws Am.row ((l.take k).map (refAm s))=rws Am.row (l.map (refAm s)) by rw [hk,List.take_length]) ?_
 conv=>whnf
 refine RunsS.retU ?_
 exact UnwS.ret tab Tryz.func91 rfl (EndS.mk (()) (trivial) [(0,1)] sH rfl rfl (okRet rfl rfl))
end
end Go.Proofs.YtofjdbmcloemnaaGreatDoor

namespace Go.SrcM
open Go Go.Fw Go.RatM
def refRn (s:SrcV) (r:Rn):Rn:={r with mn:=idxOf (s.machines.map Mc.name) r.mach}
def okRc (s:SrcV) (r:RcV):Bool:=(r.cs.all fun c=>(resCd s c).isSome)&&(r.inn.all fun c=>(resAm s c).isSome)&&(r.out.all fun c=>(resAm s c).isSome)&&decide (0≤idxOf (s.items.map It.name) r.item)&&decide (0≤idxOf s.plants r.plant)
theorem resRn_ref (s:SrcV) (c:Rn):decide (0≤(refRn s c).mn)=(resRn s c).isSome ∧ ∀d,resRn s c=some d→d=refRn s c:=by
 unfold refRn resRn
 dsimp only
 rw [idxOf_pos]
 cases h:findN (s.machines.map Mc.name) c.mach with
 |none=>exact ⟨rfl,fun d h=>by cases h⟩
 |some k=>rw [idxOf_some h];exact ⟨rfl,fun d h=>by cases h;rfl⟩
def refRc (s:SrcV) (r:RcV) (hc hi ho hr:Hd):RcV:={r with inum:=idxOf (s.items.map It.name) r.item,pnum:=idxOf s.plants r.plant,hc:=hc,cs:=r.cs.map (refCd s),hi:=hi,inn:=r.inn.map (refAm s),ho:=ho,out:=r.out.map (refAm s),hr:=hr,runs:=r.runs.map (refRn s)}
end Go.SrcM
namespace Go.Proofs.YtofjdbmcloemnaaGreatDoor
open Go Go.Fw Go.NatM Go.RatM Go.SrcM
set_option maxRecDepth 100000
set_option maxHeartbeats 99999999
section
variable {vU vI vP vM vO vF vR vS:Value}
abbrev rcK (r:RcV) (c i o:Value) (n:SV) (iN pN:Int):Fw.Blk:=.cells 49 [.v (.string r.item),.v (.string r.plant),.v (.int .i64 r.fr),.v (.int .i64 r.to),.v c,.v i,.v o,.v (.int .i64 r.rwN),.v (.int .i64 r.rwD),.v (.int .i64 r.yN),.v (.int .i64 r.yD),.v (.int .i64 r.tN),.v (.int .i64 r.tD),.v (.int .i64 r.lead),n,.v (.int .i64 iN),.v (.int .i64 pN)]
abbrev zrK:Fw.Blk:=.cells 49 [.v (.string ⟨#[]⟩),.v (.string ⟨#[]⟩),.v (.int .i64 0),.v (.int .i64 0),.v (.slice none 0 0),.v (.slice none 0 0),.v (.slice none 0 0),.v (.int .i64 0),.v (.int .i64 0),.v (.int .i64 0),.v (.int .i64 0),.v (.int .i64 0),.v (.int .i64 0),.v (.int .i64 0),.v (.slice none 0 0),.v (.int .i64 0),.v (.int .i64 0)]
theorem TopL.tok (vU vI vP vM vO vF vR vS:Value) (s:SrcV) (v:Value) (sz:Nat) (rows:List (List Value)):TOk (TopL vU vI vP vM vO vF vR vS s v sz rows):=
 ⟨fun _ _ _ hs H=>⟨H.1.up ⟨hs,fun _ _=>rfl⟩,RoF.up ⟨hs,fun _ _=>rfl⟩ H.2⟩,fun _ _ _ H K=>⟨H.1.up ⟨fun _ x=>x,K.same⟩,RoF.up ⟨fun _ x=>x,K.same⟩ H.2⟩⟩
theorem rrecipe_fn (s:SrcV) (hL:Lens s) (r:RcV) (hc:r.cs.length≤1000000) (hi:r.inn.length≤1000000) (ho:r.out.length≤1000000) (hn:r.runs.length≤1000000):FnX Tryz.prog 36 0 [srcA vU vI vP vM vO vF vR vS,.agg (toV r.row)] []
  (fun G h=>TopF G h vU vI vP vM vO vF vR vS s∧r.ok G h) (fun (x:Hd×Hd×Hd×Hd) G h=>(refRc s r x.1 x.2.1 x.2.2.1 x.2.2.2).ok G h)
  (fun x=>.ret (.tup [.agg (toV (refRc s r x.1 x.2.1 x.2.2.1 x.2.2.2).row),.v (.bool (okRc s r&&r.runs.all fun c=>(resRn s c).isSome))]) 0 []):=by
 refine FnX.of Tryz.func36 (by kernel_rfl) rfl Tryz.ntmps36 rfl fun E0 F G h N hP w0 cs=>?_
 conv=>whnf
 refine gS ?_;conv=>whnf
 refine RunsS.held tab (.fl 0 (.fl 2 (.fl 3 (.e1 1 [3] (.e1 4 [] (.fl 5 (.e1 6 [] .done))))))) (by kernel_rfl) ?_;conv=>whnf
 try refine gR ?_;conv=>whnf
 conv=>whnf
 have C:=rfindO_fn (s.items.map It.name) r.item (by rw [List.length_map];exact hL.I)
 rw [idxO_Of] at C
 refine EffR.callT (TopF.tok _ _ _ _ _ _ _ _ _) (hP.1.up ⟨N.gsub,fun _ _=>rfl⟩) (ritems_fn s hL) [] ?_ sH ?CNa1
 case CNa1=>rfl
 intro _ _
 conv=>whnf
 try refine oB ?_
 try refine gR ?_;conv=>whnf
 conv=>whnf
 refine EffR.callN (C) [3] ?_ sH ?CNa2
 case CNa2=>rfl
 intro _ _
 conv=>whnf
 try refine oB ?_
 try refine gR ?_;conv=>whnf
 repeat ((first|refine oL ?_|refine oR ?_|refine oB ?_);(try intro _);conv=>whnf)
 refine gS ?_;conv=>whnf
 obtain ⟨iN,hiN⟩:∃o,o=idxOf (s.items.map It.name) r.item:=⟨_,rfl⟩
 rw [←hiN]
 refine RunsS.callT (RoF.tok _ _ _) (RoF.up ⟨N.gsub,fun _ _=>rfl⟩ hP.1.P) (rfindV_fn vP s.plants r.plant hL.P) [] sH ?CNa3 ?_
 case CNa3=>rfl
 rintro _ _
 obtain ⟨pN,hpN⟩:∃o,o=idxOf s.plants r.plant:=⟨_,rfl⟩
 rw [←hpN]
 conv=>whnf
 refine gS ?_;conv=>whnf
 have V0:=Now.step N.gsub N
 have W0:Up G h F h:=V0.trans ⟨N.gsub,fun _ _=>rfl⟩
 refine RunsS.callT (TopL.tok _ _ _ _ _ _ _ _ _ _ _ _) (⟨hP.1.up W0,RoF.up W0 hP.2.c⟩) (rconds_fn s hL (.slice r.hc.a r.cs.length r.hc.c) r.cs hc) [] sH ?CNa4 ?_
 case CNa4=>rfl
 rintro _ _
 obtain ⟨q1,hq1⟩:∃b,b=r.cs.all fun c=>(resCd s c).isSome:=⟨_,rfl⟩
 rw [←hq1]
 conv=>whnf
 refine gS ?_;conv=>whnf
 refine RunsS.conc (n:=(r.cs.map (refCd s)).length) (N.gsub) 4 ?_ (hlen:=(rws_len _ _))
 intro a1 c1 G1 h1 N1 R1
 conv=>whnf
 refine gS ?_;conv=>whnf
 refine RunsS.subR (nx':=3) (l':=[(2,.ptr 0 0),(3,.ptr 1 0),(4,.ptr 2 0),(34,srcA vU vI vP vM vO vF vR vS),(36,.v (.slice r.hi.a r.inn.length r.hi.c)),(6,.v (.bool q1))]) (H':=[(0,vC vU vI vP vM vO vF vR vS),(1,rcK r (.slice a1 (r.cs.map (refCd s)).length c1) (.slice r.hi.a r.inn.length r.hi.c) (.slice r.ho.a r.out.length r.ho.c) (.v (.slice r.hr.a r.runs.length r.hr.c)) iN pN),(2,zrK)]) [] ?_ sH sH
 have V1:=Now.step N.gsub N1
 have W1:Up G h _ h1:=V1.trans ⟨N1.gsub,fun _ _=>rfl⟩
 refine RunsS.callT (TopL.tok _ _ _ _ _ _ _ _ _ _ _ _) (⟨hP.1.up W1,RoF.up W1 hP.2.i⟩) (ramounts_fn s hL (.slice r.hi.a r.inn.length r.hi.c) r.inn hi) [] sH ?CNa5 ?_
 case CNa5=>rfl
 rintro _ _
 obtain ⟨q2,hq2⟩:∃b,b=r.inn.all fun c=>(resAm s c).isSome:=⟨_,rfl⟩
 rw [←hq2]
 conv=>whnf
 refine gS ?_;conv=>whnf
 refine RunsS.conc (n:=(r.inn.map (refAm s)).length) (N1.gsub) 3 ?_ (hlen:=(rws_len _ _))
 intro a2 c2 G2 h2 N2 R2
 conv=>whnf
 refine gS ?_;conv=>whnf
 refine RunsS.subR (nx':=3) (l':=[(2,.ptr 0 0),(3,.ptr 1 0),(4,.ptr 2 0),(42,srcA vU vI vP vM vO vF vR vS),(44,.v (.slice r.ho.a r.out.length r.ho.c)),(6,.v (.bool q1)),(7,.v (.bool q2))]) (H':=[(0,vC vU vI vP vM vO vF vR vS),(1,rcK r (.slice a1 (r.cs.map (refCd s)).length c1) (.slice a2 (r.inn.map (refAm s)).length c2) (.slice r.ho.a r.out.length r.ho.c) (.v (.slice r.hr.a r.runs.length r.hr.c)) iN pN),(2,zrK)]) [] ?_ sH sH
 have V2:=V1.trans (Now.step N1.gsub N2)
 have W2:Up G h _ h2:=V2.trans ⟨N2.gsub,fun _ _=>rfl⟩
 refine RunsS.callT (TopL.tok _ _ _ _ _ _ _ _ _ _ _ _) (⟨hP.1.up W2,RoF.up W2 hP.2.o⟩) (ramounts_fn s hL (.slice r.ho.a r.out.length r.ho.c) r.out ho) [] sH ?CNa6 ?_
 case CNa6=>rfl
 rintro _ _
 obtain ⟨q3,hq3⟩:∃b,b=r.out.all fun c=>(resAm s c).isSome:=⟨_,rfl⟩
 rw [←hq3]
 conv=>whnf
 refine RunsS.conc (n:=(r.out.map (refAm s)).length) N2.gsub 3 ?_ (hlen:=(rws_len _ _))
 intro a3 c3 G3 h3 N3 R3
 conv=>whnf
 have V3:=V2.trans (Now.step N2.gsub N3)
 have W3:Up G h _ h3:=V3.trans ⟨N3.gsub,fun _ _=>rfl⟩
 refine RunsS.joinO (fun (_:Unit)=>[(2,.ptr 0 0),(3,.ptr 1 0),(4,.ptr 2 0),(6,.v (.bool q1)),(7,.v (.bool q2)),(8,.v (.bool q3))]) (fun (_:Unit)=>[(0,vC vU vI vP vM vO vF vR vS),(1,rcK r (.slice a1 (r.cs.map (refCd s)).length c1) (.slice a2 (r.inn.map (refAm s)).length c2) (.slice a3 (r.out.map (refAm s)).length c3) (.v (.slice r.hr.a r.runs.length r.hr.c)) iN pN),(2,zrK)]) 3 (fun (_:Unit)=>True) ?_ (fun meet=>?_)
 rotate_left
 ·refine gS ?_
  conv=>whnf
  refine RunsS.subR [] (meet (()) (by first|trivial|omega|((try dsimp only);omega))) sH sH
 intro _ _
 refine goS_run tab 2 _ _ _ _ ?_
 (conv=>whnf)
 refine RunsS.joinO (fun (b:Bool)=>[(2,.ptr 0 0),(3,.ptr 1 0),(4,.ptr 2 0),(9,.v (.bool b))]) (fun (b:Bool)=>[(0,vC vU vI vP vM vO vF vR vS),(1,rcK r (.slice a1 (r.cs.map (refCd s)).length c1) (.slice a2 (r.inn.map (refAm s)).length c2) (.slice a3 (r.out.map (refAm s)).length c3) (.v (.slice r.hr.a r.runs.length r.hr.c)) iN pN),(2,zrK)]) 3 (fun (b:Bool)=>b=okRc s r) ?_ (fun meet=>?_)
 rotate_left
 ·have ok:okRc s r=(q1&&q2&&q3&&decide (0≤iN)&&decide (0≤pN)):=by rw [hq1,hq2,hq3,hiN,hpN];rfl
  clear hq1 hq2 hq3
  cases q1 with
  |false=>
   refine gS ?_;conv=>whnf
   refine RunsS.subR [] (meet (false) (by exact (ok.symm))) sH sH
  |true=>
   cases q2 with
   |false=>
    refine gS ?_;conv=>whnf
    refine RunsS.subR [] (meet (false) (by exact (ok.symm))) sH sH
   |true=>
    cases q3 with
    |false=>
     refine gS ?_;conv=>whnf
     refine RunsS.subR [] (meet (false) (by exact (ok.symm))) sH sH
    |true=>
     refine gS ?_;conv=>whnf
     refine ⟨fun hx=>?_,fun hx=>?_⟩<;>conv=>whnf
     ·rw [decide_eq_true hx] at ok
      conv=>whnf
      refine RunsS.subR [] (meet (decide (0≤pN)) (by exact (ok.symm))) sH sH
     rw [decide_eq_false hx] at ok
     conv=>whnf
     refine RunsS.subR [] (meet (false) (by exact (ok.symm))) sH sH
 intro b hb
 refine gS ?_;conv=>whnf
 have hl:=rws_len Rn.row r.runs
 refine RunsS.nameCell (fun _ x=>x) 1 14 (by exact RoF.up W3 hP.2.rn) ?_
 conv=>whnf
 refine gS ?_;conv=>whnf
 refine RunsS.subR [] (RunsS.loop (fun (⟨k,c⟩:Nat×Bool)=>[(11,.v (.int .i64 k)),(9,.v (.bool c)),(10,.buf 3),(2,.ptr 0 0),(3,.ptr 1 0),(4,.ptr 2 0)]) (fun (⟨k,c⟩:Nat×Bool)=>[(0,vC vU vI vP vM vO vF vR vS),(1,rcK r (.slice a1 (r.cs.map (refCd s)).length c1) (.slice a2 (r.inn.map (refAm s)).length c2) (.slice a3 (r.out.map (refAm s)).length c3) (.buf 4) iN pN),(2,zrK),(4,.ro 3 (rws Rn.row r.runs)),(3,.own 52 3 (rws Rn.row ((r.runs.take k).map (refRn s))))]) 5 (fun (⟨k,c⟩:Nat×Bool)=>k≤r.runs.length∧c=(b&&(r.runs.take k).all fun c=>(resRn s c).isSome)) (fun (⟨k,c⟩:Nat×Bool)=>r.runs.length - k) ?round13 ((0,b)) ?J013) sH sH
 case J013=>exact (⟨Nat.zero_le _,(Bool.and_true b).symm⟩)
 rintro ⟨k,c⟩ hJ back
 try dsimp only at hJ back
 conv=>whnf
 try dsimp only
 refine gS ?_;conv=>whnf
 refine ⟨fun hk=>?_,fun hk=>?_⟩<;>conv=>whnf
 ·have hk:k<r.runs.length:=by omega
  conv=>whnf
  repeat ((first|refine oL ?_|refine oR ?_);(try intro _);conv=>whnf)
  refine ⟨_,rws_get hk,?_⟩;conv=>whnf
  try (refine oN ?_;conv=>whnf)
  refine RunsS.held tab (.fl 0 (.fl 2 (.fl 3 (.e1 1 [3] (.e1 4 [] (.fl 5 (.e1 6 [] .done))))))) (by kernel_rfl) ?_;conv=>whnf
  try refine gR ?_;conv=>whnf
  conv=>whnf
  have C:=rfindO_fn (s.machines.map Mc.name) r.runs[k].mach (by rw [List.length_map];exact hL.M)
  rw [idxO_Of] at C
  refine EffR.callT (TopF.tok _ _ _ _ _ _ _ _ _) (hP.1.up W3) (rmachines_fn s hL) [] ?_ sH ?CNa14
  case CNa14=>rfl
  intro _ _
  conv=>whnf
  try refine oB ?_
  try refine gR ?_;conv=>whnf
  conv=>whnf
  refine EffR.callN (C) [6] ?_ sH ?CNa15
  case CNa15=>rfl
  intro _ _
  conv=>whnf
  try refine oB ?_
  try refine gR ?_;conv=>whnf
  repeat ((first|refine oL ?_|refine oR ?_|refine oB ?_);(try intro _);conv=>whnf)
  refine gS ?_;conv=>whnf
  obtain ⟨o,ho⟩:∃o,o=idxOf (s.machines.map Mc.name) r.runs[k].mach:=⟨_,rfl⟩
  rw [←ho]
  have es:(b&&(r.runs.take (k+1)).all fun c=>(resRn s c).isSome)=(c&&decide (0≤o)):=by
   rw [all_snoc hk,←Bool.and_assoc,←hJ.2,←(resRn_ref s r.runs[k]).1]
   subst ho
   rfl
  have er:rws Rn.row ((r.runs.take k).map (refRn s))++[Rn.row {r.runs[k] with mn:=o}]=rws Rn.row ((r.runs.take (k+1)).map (refRn s)):=by
   subst ho
   exact map_take_snoc hk
  have el:(rws Rn.row ((r.runs.take k).map (refRn s))).length=k:=by rw [rws_len,List.length_map,List.length_take];omega
  cases c with
  |false=>
   conv=>whnf
   refine And.intro (appOb (show (rws Rn.row ((r.runs.take k).map (refRn s))).length≤1000000 by omega)) ?_
   conv=>whnf
   repeat ((first|refine oL ?_|refine oR ?_);(try intro _);conv=>whnf)
   refine RunsS.rowsEq 8 er ?_;conv=>whnf
   refine RunsS.subR [(3,8)] (back ((k+1,false)) (by exact (⟨hk,es.symm⟩)) (by (try dsimp only);omega)) sH sH
  |true=>
   conv=>whnf
   refine And.intro (appOb (show (rws Rn.row ((r.runs.take k).map (refRn s))).length≤1000000 by omega)) ?_
   conv=>whnf
   repeat ((first|refine oL ?_|refine oR ?_);(try intro _);conv=>whnf)
   refine RunsS.rowsEq 8 er ?_;conv=>whnf
   refine RunsS.subR [(3,8)] (back ((k+1,decide (0≤o))) (by exact (⟨hk,es.symm⟩)) (by (try dsimp only);omega)) sH sH
 conv=>whnf
 have hk:k=r.runs.length:=by omega
 have hc2:=hJ.2
 rw [hk,List.take_length,hb] at hc2
 clear back hJ
 subst hc2
 refine RunsS.rowsEq 3 (show rws Rn.row ((r.runs.take k).map (refRn s))=rws Rn.row (r.runs.map (refRn s)) by rw [hk,List.take_length]) ?_
 conv=>whnf
 refine RunsS.conc (n:=(r.runs.map (refRn s)).length) (N3.gsub) 3 ?_ (hlen:=(rws_len _ _))
 intro a4 c4 G4 h4 N4 R4
 conv=>whnf
 refine gS ?_;conv=>whnf
 subst hiN
 subst hpN
 have U2:=Now.step N1.gsub N2
 have U3:=Now.step N2.gsub N3
 have U4:=Now.step N3.gsub N4
 refine RunsS.retU ?_
 exact UnwS.ret tab Tryz.func36 rfl (eX (((N1.trans N2).trans N3).trans N4) ((⟨a1,c1⟩,⟨a2,c2⟩,⟨a3,c3⟩,⟨a4,c4⟩)) (fun h U=>⟨RoF.up (U2.trans (U3.trans (U4.trans U))) R1,RoF.up (U3.trans (U4.trans U)) R2,RoF.up (U4.trans U) R3,RoF.up U R4⟩))
end
end Go.Proofs.YtofjdbmcloemnaaGreatDoor

namespace Go.Proofs.YtofjdbmcloemnaaGreatDoor
open Go Go.Fw Go.NatM Go.RatM Go.SrcM
set_option maxRecDepth 100000
set_option maxHeartbeats 99999999
end Go.Proofs.YtofjdbmcloemnaaGreatDoor

namespace Go.SrcM
open Go Go.Fw Go.RatM
def refIt (s:SrcV) (i:It):It:={i with un:=idxOf (s.units.map Un.name) i.unit}
def refMc (s:SrcV) (m:Mc):Mc:={m with pn:=idxOf s.plants m.plant}
def refSw (s:SrcV) (x:Sw):Sw:={x with an:=idxOf (s.items.map It.name) x.a,bn:=idxOf (s.items.map It.name) x.b}
def refFb (s:SrcV) (f:FbV):FbV:={f with cs:=f.cs.map (refCd s)}
def refRq (s:SrcV) (r:RcV):RcV:=refRc s r r.hc r.hi r.ho r.hr
theorem resIt_ref (s:SrcV) (c:It):decide (0≤(refIt s c).un)=(resIt s c).isSome ∧ ∀d,resIt s c=some d→d=refIt s c:=by
 unfold refIt resIt
 dsimp only
 rw [idxOf_pos]
 cases h:findN (s.units.map Un.name) c.unit with
 |none=>exact ⟨rfl,fun d h=>by cases h⟩
 |some k=>rw [idxOf_some h];exact ⟨rfl,fun d h=>by cases h;rfl⟩
theorem resMc_ref (s:SrcV) (c:Mc):decide (0≤(refMc s c).pn)=(resMc s c).isSome ∧ ∀d,resMc s c=some d→d=refMc s c:=by
 unfold refMc resMc
 dsimp only
 rw [idxOf_pos]
 cases h:findN s.plants c.plant with
 |none=>exact ⟨rfl,fun d h=>by cases h⟩
 |some k=>rw [idxOf_some h];exact ⟨rfl,fun d h=>by cases h;rfl⟩
theorem resSw_ref (s:SrcV) (c:Sw):(decide (0≤(refSw s c).an)&&decide (0≤(refSw s c).bn))=(resSw s c).isSome ∧ ∀d,resSw s c=some d→d=refSw s c:=by
 unfold refSw resSw
 dsimp only
 rw [idxOf_pos,idxOf_pos]
 cases h:findN (s.items.map It.name) c.a with
 |none=>exact ⟨rfl,fun d h=>by cases h⟩
 |some k=>
  cases h2:findN (s.items.map It.name) c.b with
  |none=>exact ⟨rfl,fun d h=>by cases h⟩
  |some j=>rw [idxOf_some h2,idxOf_some h];exact ⟨rfl,fun d h=>by cases h;rfl⟩
theorem allO_yes {α β:Type} {f:α→Option β} {g:α→β} (h:∀a d,f a=some d→d=g a):∀ {l:List α},(l.all fun a=>(f a).isSome)=true→allO f l=some (l.map g)
 | [],_=>rfl
 |a::l,h1=>by
  simp only [List.all_cons,Bool.and_eq_true] at h1
  cases ha:f a with
  |none=>rw [ha] at h1;exact absurd h1.1 Bool.false_ne_true
  |some b=>simp only [allO,ha,allO_yes h h1.2,List.map_cons,h a b ha]
theorem allO_no {α β:Type} {f:α→Option β}:∀ {l:List α},(l.all fun a=>(f a).isSome)=false→allO f l=none
 | [],h=>by cases h
 |a::l,h1=>by
  simp only [List.all_cons,Bool.and_eq_false_iff] at h1
  cases ha:f a with
  |none=>simp only [allO,ha]
  |some b=>
   rcases h1 with h1|h1
   ·rw [ha] at h1;cases h1
   simp only [allO,ha,allO_no h1]
theorem resFb_ref (s:SrcV) (f:FbV):(f.cs.all fun c=>(resCd s c).isSome)=(resFb s f).isSome ∧ ∀d,resFb s f=some d→d=refFb s f:=by
 unfold resFb refFb
 cases h:f.cs.all fun c=>(resCd s c).isSome with
 |true=>rw [allO_yes (fun a d=>(resCd_ref s a).2 d) h];exact ⟨rfl,fun d h=>by cases h;rfl⟩
 |false=>rw [allO_no h];exact ⟨rfl,fun d h=>by cases h⟩
theorem resRc_ref (s:SrcV) (r:RcV):(okRc s r&&r.runs.all fun c=>(resRn s c).isSome)=(resRc s r).isSome ∧ ∀d,resRc s r=some d→d=refRq s r:=by
 unfold okRc resRc refRq refRc
 rw [idxOf_pos,idxOf_pos]
 cases h1:findN (s.items.map It.name) r.item with
 |none=>exact ⟨by simp,fun d h=>by cases h⟩
 |some i=>
  cases h2:findN s.plants r.plant with
  |none=>exact ⟨by simp,fun d h=>by cases h⟩
  |some p=>
   rw [idxOf_some h1,idxOf_some h2]
   cases h3:r.cs.all fun c=>(resCd s c).isSome with
   |false=>simp only [allO_no h3];exact ⟨by simp,fun d h=>by cases h⟩
   |true=>
    simp only [allO_yes (fun a d=>(resCd_ref s a).2 d) h3]
    cases h4:r.inn.all fun c=>(resAm s c).isSome with
    |false=>simp only [allO_no h4];exact ⟨by simp,fun d h=>by cases h⟩
    |true=>
     simp only [allO_yes (fun a d=>(resAm_ref s a).2 d) h4]
     cases h5:r.out.all fun c=>(resAm s c).isSome with
     |false=>simp only [allO_no h5];exact ⟨by simp,fun d h=>by cases h⟩
     |true=>
      simp only [allO_yes (fun a d=>(resAm_ref s a).2 d) h5]
      cases h6:r.runs.all fun c=>(resRn s c).isSome with
      |false=>simp only [allO_no h6];exact ⟨by simp,fun d h=>by cases h⟩
      |true=>
       simp only [allO_yes (fun a d=>(resRn_ref s a).2 d) h6]
       exact ⟨rfl,fun d h=>by cases h;rfl⟩
def allS (s:SrcV):Bool:=(s.items.all fun c=>(resIt s c).isSome)&&(s.machines.all fun c=>(resMc s c).isSome)&&(s.forbids.all fun c=>(resFb s c).isSome)&&(s.recipes.all fun c=>(resRc s c).isSome)&&(s.swaps.all fun c=>(resSw s c).isSome)
def refS (s:SrcV):SrcV:={s with items:=s.items.map (refIt s),machines:=s.machines.map (refMc s),forbids:=s.forbids.map (refFb s),recipes:=s.recipes.map (refRq s),swaps:=s.swaps.map (refSw s)}
theorem resS_ref (s:SrcV):SrcM.resS s=if allS s=true then some (refS s) else none:=by
 unfold SrcM.resS allS refS
 cases h1:s.items.all fun c=>(resIt s c).isSome with
 |false=>simp [allO_no h1]
 |true=>
  simp only [allO_yes (fun a d=>(resIt_ref s a).2 d) h1]
  cases h2:s.machines.all fun c=>(resMc s c).isSome with
  |false=>simp [allO_no h2]
  |true=>
   simp only [allO_yes (fun a d=>(resMc_ref s a).2 d) h2]
   cases h3:s.forbids.all fun c=>(resFb s c).isSome with
   |false=>simp [allO_no h3]
   |true=>
    simp only [allO_yes (fun a d=>(resFb_ref s a).2 d) h3]
    cases h4:s.recipes.all fun c=>(resRc s c).isSome with
    |false=>simp [allO_no h4]
    |true=>
     simp only [allO_yes (fun a d=>(resRc_ref s a).2 d) h4]
     cases h5:s.swaps.all fun c=>(resSw s c).isSome with
     |false=>simp [allO_no h5]
     |true=>simp [allO_yes (fun a d=>(resSw_ref s a).2 d) h5]
end Go.SrcM

namespace Go.RatM
open Go Go.Fw Go.NatM
def Un.sv (u:Un):Rat:=(decQ u.scale).val
theorem Sc1.sv {k:Nat} {u:Un} (h:Sc1 k u):∃q:Q,u.scale=encQ q∧q.Ok∧q.le k∧q.val=u.sv∧0<u.sv:=by
 obtain ⟨q,h1,h2,h3,h4⟩:=h
 refine ⟨q,h1,h2,h3,?_,?_⟩
 ·unfold Un.sv;rw [h1,dec_enc]
 unfold Un.sv;rw [h1,dec_enc];exact h4
theorem cvU_in {l:List Un} {i j:Nat} {r:Rt} (h:checkU l=0) (hi:i<l.length) (hj:j<l.length) (hb:l[i].base=l[j].base):convU l i j r =
  if (mulR r l[i].scale).2≠0 then (zr,(mulR r l[i].scale).2) else divR (mulR r l[i].scale).1 l[j].scale:=by
 unfold convU
 rw [if_neg (fun e=>e h),Int.toNat_natCast,Int.toNat_natCast,List.getElem?_eq_getElem hi,List.getElem?_eq_getElem hj]
 dsimp only
 rw [if_neg (by omega)]
 rfl
theorem conv_ok {l:List Un} {m k i j:Nat} {R:Q} (h:checkU l=0) (hs:∀u∈l,Sc1 m u) (hk:k+m+m≤256) (hi:i<l.length) (hj:j<l.length) (hb:l[i].base=l[j].base) (oR:R.Ok) (lR:R.le k):
  ∃P:Q,convU l i j (encQ R)=(encQ P,0)∧P.Ok∧P.le (k+m+m)∧P.val=R.val*l[i].sv*l[j].sv⁻¹:=by
 obtain ⟨a,a1,a2,a3,a4,a5⟩:=(hs _ (List.getElem_mem hi)).sv
 obtain ⟨b,b1,b2,b3,b4,b5⟩:=(hs _ (List.getElem_mem hj)).sv
 obtain ⟨c,c1,c2,c3,c4⟩:=mulR_ok oR a2 lR a3 (by omega)
 have hz:b≠zq:=fun e=>by
  have:=(val_zero b2).2 e
  rw [b4] at this
  rw [this] at b5
  exact absurd b5 (by decide)
 obtain ⟨d,d1,d2,d3,d4⟩:=divR_ok c2 b2 c3 b3 hk hz
 refine ⟨d,?_,d2,d3,?_⟩
 ·rw [cvU_in h hi hj hb,a1,c1,if_neg (by simp),b1,d1]
 rw [d4,c4,a4,b4]
end Go.RatM

namespace Go.Proofs.YtofjdbmcloemnaaGreatDoor
open Go Go.Fw Go.NatM Go.RatM Go.SrcM
set_option maxRecDepth 100000
set_option maxHeartbeats 99999999
section
variable {vU vI vP vM vO vF vR vS:Value}
theorem rcondsX_fn (s:SrcV) (hL:Lens s) (v:Value) (l:List Cd) (hb:l.length≤1000000):FnX Tryz.prog 35 0 [srcA vU vI vP vM vO vF vR vS,.v v] [] (TopL vU vI vP vM vO vF vR vS s v 4 (rws Cd.row l))
  (fun (x:Hd) G h=>RoF G h (x.v (l.map (refCd s)).length) 4 (rws Cd.row (l.map (refCd s)))) (fun x=>.ret (.tup [.v (x.v (l.map (refCd s)).length),.v (.bool (l.all fun c=>(resCd s c).isSome))]) 0 []):=by
 have hl:=rws_len Cd.row l
 refine FnX.of Tryz.func35 (by kernel_rfl) rfl Tryz.ntmps35 rfl fun E0 F G h N hP w0 cs=>?_
 conv=>whnf
 refine gS ?_;conv=>whnf
 have hT:TopL vU vI vP vM vO vF vR vS s v 4 (rws Cd.row l) F h:=⟨hP.1.up ⟨N.gsub,fun _ _=>rfl⟩,RoF.up ⟨N.gsub,fun _ _=>rfl⟩ hP.2⟩
 refine RunsS.nameAt (fun _ x=>x) 1 (by exact hT.2) ?_
 conv=>whnf
 refine gS ?_;conv=>whnf
 refine RunsS.subR [] (RunsS.loop (fun (⟨k,b⟩:Nat×Bool)=>[(8,.v (.int .i64 k)),(7,.v (.bool b)),(6,.buf 1),(2,.ptr 0 0),(1,.buf 2)]) (fun (⟨k,b⟩:Nat×Bool)=>[(2,.ro 4 (rws Cd.row l)),(1,.own 64 4 (rws Cd.row ((l.take k).map (refCd s)))),(0,vC vU vI vP vM vO vF vR vS)]) 3 (fun (⟨k,b⟩:Nat×Bool)=>k≤l.length∧b=(l.take k).all fun c=>(resCd s c).isSome) (fun (⟨k,b⟩:Nat×Bool)=>l.length - k) ?round1 ((0,true)) ?J01) sH sH
 case J01=>exact (⟨Nat.zero_le _,rfl⟩)
 rintro ⟨k,b⟩ hJ back
 try dsimp only at hJ back
 conv=>whnf
 try dsimp only
 refine gS ?_;conv=>whnf
 refine ⟨fun hk=>?_,fun hk=>?_⟩<;>conv=>whnf
 ·have hk:k<l.length:=by omega
  conv=>whnf
  repeat ((first|refine oL ?_|refine oR ?_);(try intro _);conv=>whnf)
  refine ⟨_,rws_get hk,?_⟩;conv=>whnf
  try (refine oN ?_;conv=>whnf)
  refine RunsS.held tab (.fl 0 (.fl 2 (.fl 3 (.e1 1 [3] (.e1 4 [] (.fl 5 (.e1 6 [] .done))))))) (by kernel_rfl) ?_;conv=>whnf
  try refine gR ?_;conv=>whnf
  conv=>whnf
  have C:=rfindO_fn (s.options.map OpV.name) l[k].opt (by rw [List.length_map];exact hL.O)
  rw [idxO_Of] at C
  refine EffR.callT (TopF.tok _ _ _ _ _ _ _ _ _) (hT.1) (roptions_fn s hL) [] ?_ sH ?CNa2
  case CNa2=>rfl
  intro _ _
  conv=>whnf
  try refine oB ?_
  try refine gR ?_;conv=>whnf
  conv=>whnf
  refine EffR.callN (C) [4] ?_ sH ?CNa3
  case CNa3=>rfl
  intro _ _
  conv=>whnf
  try refine oB ?_
  try refine gR ?_;conv=>whnf
  repeat ((first|refine oL ?_|refine oR ?_|refine oB ?_);(try intro _);conv=>whnf)
  refine gS ?_;conv=>whnf
  obtain ⟨o,ho⟩:∃o,o=idxOf (s.options.map OpV.name) l[k].opt:=⟨_,rfl⟩
  rw [←ho]
  refine RunsS.held tab (.fl 0 (.fl 1 (.fl 2 (.fl 4 (.fl 5 (.e1 3 [5] (.e1 6 [] (.fl 7 (.e1 8 [] .done))))))))) (by kernel_rfl) ?_;conv=>whnf
  try refine gR ?_;conv=>whnf
  conv=>whnf
  refine EffR.callT (TopF.tok _ _ _ _ _ _ _ _ _) (hT.1) (rchoices_fn s o) [] ?_ sH ?CNa4
  case CNa4=>rfl
  intro _ _
  conv=>whnf
  try refine oB ?_
  try refine gR ?_;conv=>whnf
  conv=>whnf
  refine EffR.callT (RoF.tok _ _ _) (chV_ok hT.1.below o) (rfindV_fn (chV s o) (chOf s o) l[k].ch (hL.ch o)) [] ?_ sH ?CNa5
  case CNa5=>rfl
  intro _ _
  conv=>whnf
  try refine oB ?_
  try refine gR ?_;conv=>whnf
  repeat ((first|refine oL ?_|refine oR ?_|refine oB ?_);(try intro _);conv=>whnf)
  refine gS ?_;conv=>whnf
  obtain ⟨c,hc⟩:∃c,c=idxOf (chOf s o) l[k].ch:=⟨_,rfl⟩
  rw [←hc]
  have es:((l.take (k+1)).all fun c=>(resCd s c).isSome)=(b&&(decide (0≤o)&&decide (0≤c))):=by
   rw [all_snoc hk,←hJ.2,←(resCd_ref s l[k]).1]
   subst ho
   subst hc
   rfl
  have er:rws Cd.row ((l.take k).map (refCd s))++[Cd.row {l[k] with on:=o,cn:=c}]=rws Cd.row ((l.take (k+1)).map (refCd s)):=by
   subst ho
   subst hc
   exact map_take_snoc hk
  have el:(rws Cd.row ((l.take k).map (refCd s))).length=k:=by rw [rws_len,List.length_map,List.length_take];omega
  cases b with
  |false=>
   conv=>whnf
   refine And.intro (appOb (show (rws Cd.row ((l.take k).map (refCd s))).length≤1000000 by omega)) ?_
   conv=>whnf
   repeat ((first|refine oL ?_|refine oR ?_);(try intro _);conv=>whnf)
   refine RunsS.rowsEq 6 er ?_;conv=>whnf
   refine RunsS.subR [(1,6)] (back ((k+1,false)) (by exact (⟨hk,by rw [es];rfl⟩)) (by (try dsimp only);omega)) sH sH
  |true=>
   conv=>whnf
   refine ⟨fun h1=>?_,fun h1=>?_⟩<;>conv=>whnf
   ·conv=>whnf
    refine And.intro (appOb (show (rws Cd.row ((l.take k).map (refCd s))).length≤1000000 by omega)) ?_
    conv=>whnf
    repeat ((first|refine oL ?_|refine oR ?_);(try intro _);conv=>whnf)
    refine RunsS.rowsEq 6 er ?_;conv=>whnf
    refine RunsS.subR [(1,6)] (back ((k+1,decide (0≤c))) (by exact (⟨hk,by rw [es,decide_eq_true h1];rfl⟩)) (by (try dsimp only);omega)) sH sH
   conv=>whnf
   refine And.intro (appOb (show (rws Cd.row ((l.take k).map (refCd s))).length≤1000000 by omega)) ?_
   conv=>whnf
   repeat ((first|refine oL ?_|refine oR ?_);(try intro _);conv=>whnf)
   refine RunsS.rowsEq 6 er ?_;conv=>whnf
   refine RunsS.subR [(1,6)] (back ((k+1,false)) (by exact (⟨hk,by rw [es,decide_eq_false h1];rfl⟩)) (by (try dsimp only);omega)) sH sH
 conv=>whnf
 have hk:k=l.length:=by omega
 have hb2:=hJ.2
 rw [hk,List.take_length] at hb2
 clear back
 subst hb2
 refine RunsS.rowsEq 1 (show rws Cd.row ((l.take k).map (refCd s))=rws Cd.row (l.map (refCd s)) by rw [hk,List.take_length]) ?_
 conv=>whnf
 refine RunsS.conc (n:=(l.map (refCd s)).length) (N.gsub) 1 ?_ (hlen:=(rws_len _ _))
 intro a1 c1 G1 h1 N1 R1
 conv=>whnf
 refine gS ?_;conv=>whnf
 refine RunsS.retU ?_
 exact UnwS.ret tab Tryz.func35 rfl (eX (N.trans N1) (⟨a1,c1⟩) (fun h U=>RoF.up U R1))
end
end Go.Proofs.YtofjdbmcloemnaaGreatDoor
