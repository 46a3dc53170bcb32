/- Texts of this seat, joined: Package names: numbered of the types with lists. Package names: (resolver).source. Package names: gather. Package names: R -/
import Derived.Test.YtofjdbmcloemnaaGreatDoorJoinD
import Derived.Test.YtofjdbmcloemnaaGreatDoorCards
import Derived.Test.YtofjdbmcloemnaaGreatDoorTie
import Derived.WalkKit
import Derived.ProofKit
import Derived.OpenShut
import Derived.Deep.DeepHandedRow
import Derived.Lib.LaidTab
import Derived.WideShapes
import Derived.ChangeArms
import Derived.RowKit
set_option linter.unusedVariables false
set_option linter.unusedSimpArgs false
namespace Go.Proofs.YtofjdbmcloemnaaGreatDoor
open Go Go.Fw Go.NatM Go.RatM Go.SrcM
set_option maxRecDepth 100000
set_option maxHeartbeats 99999999
section
variable {α β:Type} {f:α→List Value} {l m:List α} {k:Nat}
theorem mid_len (hk:k<l.length) (e:m.length=k):(rws f (m++l.drop k)).length=l.length:=by
 rw [rws_len,List.length_append,List.length_drop];omega
theorem mid_get (hk:k<l.length) (e:m.length=k):(rws f (m++l.drop k))[k]? = some (f l[k]):=by
 subst e
 rw [rws,List.map_append,List.getElem?_append_right (by simp)]
 simp [hk]
theorem mid_set (hk:k<l.length) (e:m.length=k) (y:α):(rws f (m++l.drop k)).set k (f y)=rws f ((m++[y])++l.drop (k+1)):=by
 subst e
 have e:l.drop m.length=l[m.length]::l.drop (m.length+1):=(List.getElem_cons_drop ..).symm
 rw [e]
 simp only [rws,List.map_append,List.map_cons,List.map_nil]
 rw [List.set_append_right _ _ (by simp)]
 simp
theorem mid_all (e:m.length=l.length):rws f (m++l.drop l.length)=rws f m:=by rw [List.drop_length,List.append_nil]
theorem allO_snoc {g:α→Option β} (hk:k<l.length) {a:List β} {b:β} (h1:allO g (l.take k)=some a) (h2:g l[k]=some b):allO g (l.take (k+1))=some (a++[b]):=by
 obtain ⟨e,h⟩:=allO_some.1 h1
 rw [List.length_take,Nat.min_eq_left (Nat.le_of_lt hk)] at e
 refine allO_some.2 ⟨by rw [List.length_append,e,List.length_take,Nat.min_eq_left hk];rfl,fun i h3 h4=>?_⟩
 rw [List.length_take,Nat.min_eq_left hk] at h3
 rw [List.getElem_take]
 rcases Nat.lt_or_eq_of_le (Nat.le_of_lt_succ h3) with h5|rfl
 ·rw [List.getElem_append_left (by omega)]
  have:=h i (by rw [List.length_take,Nat.min_eq_left (Nat.le_of_lt hk)];exact h5) (by omega)
  rw [List.getElem_take] at this
  exact this
 rw [List.getElem_append_right (by omega)]
 simp [e,h2]
theorem mid_ok {p:α→Prop} {y:α} (h:∀a∈m,p a) (hy:p y):∀a∈m++[y],p a:=fun a ha=>by
 rcases List.mem_append.1 ha with ha|ha
 ·exact h a ha
 rw [List.mem_singleton.1 ha];exact hy
end
section
variable {s:SrcV} {mU mI mP mM mO vC:Value}
abbrev nmxOut {α:Type} (row:α→List Value) (e sz:Nat) (mU mI mP mM mO vC:Value):Option (List α)→OutS
 |some m=>.ret (.buf 1) 2 [(1,.own e sz (rws row m)),rsvC 0 mU mI mP mM mO vC]
 |none=>.pan failCh 1 []
theorem numFb_fn (v:Value) (l:List FbV) (hb:l.length≤1000000) (hs:∀a∈l,a.cs.length≤1000000):FnX Tryz.prog 74 1 [.v v,.fn (.func 75) [] [.ptr 0 0]] [rsvC 0 mU mI mP mM mO vC] (fun G h=>NumT v 1 (rws FbV.row l) s mU mI mP mM mO vC G h ∧ ∀a∈l,a.ok G h)
  (fun (x:Option (List FbV)) G h=>match x with
   |some m=>allO (fun a=>(resFb s a).map FbV.bare) l=some (m.map FbV.bare) ∧ ∀a∈m,a.ok G h
   |none=>allO (fun a=>(resFb s a).map FbV.bare) l=none) (nmxOut FbV.row 45 1 mU mI mP mM mO vC):=by
 have hl:=rws_len FbV.row l
 refine FnX.of Tryz.func74 (by kernel_rfl) rfl Tryz.ntmps74 rfl fun E0 F G h N hP w0 cs=>?_
 conv=>whnf
 refine gS ?_;conv=>whnf
 refine RunsS.nameAt (fun _ x=>x) 6 (by exact RoF.up ⟨N.gsub,fun _ _=>rfl⟩ hP.1.1) ?_
 conv=>whnf
 refine gS ?_;conv=>whnf
 refine RunsS.callN (cloneFb_fn (rws FbV.row l) (by omega)) [1] ?_ sH ?CNa1
 case CNa1=>rfl
 intro _ _
 conv=>whnf
 refine gS ?_;conv=>whnf
 refine RunsS.subR [] (RunsS.loopB (fun (⟨k,m,F1,G1,h1⟩:Nat×List FbV×(Nat→Prop)×(Nat→Prop)×Array Obj)=>(F1,h1)) (fun (⟨k,m,F1,G1,h1⟩:Nat×List FbV×(Nat→Prop)×(Nat→Prop)×Array Obj)=>[(10,.v (.int .i64 k)),(9,.v (.int .i64 (rws FbV.row l).length)),(0,.buf 2),(1,.fn (.func 75) [] [.ptr 0 0])]) (fun (⟨k,m,F1,G1,h1⟩:Nat×List FbV×(Nat→Prop)×(Nat→Prop)×Array Obj)=>[(2,.own 45 1 (rws FbV.row (m++l.drop k))),rsvC 0 mU mI mP mM mO vC]) 3 (fun (⟨k,m,F1,G1,h1⟩:Nat×List FbV×(Nat→Prop)×(Nat→Prop)×Array Obj)=>Now F G h F1 G1 h1∧k≤l.length∧m.length=k∧allO (fun a=>(resFb s a).map FbV.bare) (l.take k)=some (m.map FbV.bare) ∧ ∀a∈m,a.ok G1 h1) (fun (⟨k,m,F1,G1,h1⟩:Nat×List FbV×(Nat→Prop)×(Nat→Prop)×Array Obj)=>l.length - k) ?round2 (⟨0,[],F,G,h⟩) ?J02) sH sH
 case J02=>exact (⟨N,Nat.zero_le _,rfl,rfl,fun _ h=>absurd h List.not_mem_nil⟩)
 rintro ⟨k,m,F1,G1,h1⟩ hJ back
 try dsimp only at hJ back
 conv=>whnf
 try dsimp only
 refine gS ?_;conv=>whnf
 refine ⟨fun hk=>?_,fun hk=>?_⟩<;>conv=>whnf
 ·obtain ⟨N1,_,em,ea,ho⟩:=hJ
  have U1:=Now.step N.gsub N1
  have hk:k<l.length:=by omega
  have hm:=mid_len (f:=FbV.row) hk em
  conv=>whnf
  repeat ((first|refine oL ?_|refine oR ?_);(try intro _);conv=>whnf)
  refine RunsS.callX (N1.gsub) (clFb_fn _ k l[k] (mid_get hk em) (hs _ (List.getElem_mem hk))) (fun h U=>⟨(hP.2 _ (List.getElem_mem hk)).up (U1.trans U),hP.1.2.up (U1.trans U)⟩) [2,0] sH ?CNa3 ?_
  case CNa3=>rfl
  rintro (_|j) G2 h2 N2 J2
  ·conv=>whnf
   have e:resFb s l[k]=none:=by unfold resFb;rw [show _=none from J2];rfl
   exact UnwS.pan Tryz.func74 (EndX.mk (N.trans (N1.trans N2)) (none) (fun h U=>allO_none.2 ⟨l[k],List.getElem_mem hk,by rw [e];rfl⟩) [] sH rfl rfl (okPan rfl))
  have e:(resFb s l[k]).map FbV.bare=some j.bare:=by unfold resFb;rw [J2.1];rfl
  conv=>whnf
  refine gS ?_;conv=>whnf
  repeat ((first|refine oL ?_|refine oR ?_);(try intro _);conv=>whnf)
  refine RunsS.rowsEq 2 (mid_set hk em j) ?_;conv=>whnf
  have U2:=Now.step N1.gsub N2
  refine RunsS.subR [] (back (⟨k+1,m++[j],_,G2,h2⟩) (by exact (⟨N1.trans N2,hk,by rw [List.length_append,em];rfl,by rw [List.map_append];exact allO_snoc hk ea e,mid_ok (fun a ha=>(ho a ha).up U2) J2.2⟩)) (by (try dsimp only);omega)) sH sH
 obtain ⟨N1,_,em,ea,ho⟩:=hJ
 have hk:k=l.length:=by omega
 clear back
 subst hk
 rw [List.take_length] at ea
 conv=>whnf
 refine RunsS.rowsEq 2 (mid_all em) ?_;conv=>whnf
 refine RunsS.retU ?_
 exact UnwS.ret tab Tryz.func74 rfl (EndX.mk (N.trans N1) (some m) (fun h U=>⟨ea,fun a ha=>(ho a ha).up U⟩) [(1,2)] sH rfl rfl (okRet rfl rfl))
theorem numRc_fn (v:Value) (l:List RcV) (hb:l.length≤1000000) (hs:∀a∈l,a.cs.length≤1000000∧a.inn.length≤1000000∧a.out.length≤1000000∧a.runs.length≤1000000):FnX Tryz.prog 77 1 [.v v,.fn (.func 78) [] [.ptr 0 0]] [rsvC 0 mU mI mP mM mO vC] (fun G h=>NumT v 17 (rws RcV.row l) s mU mI mP mM mO vC G h ∧ ∀a∈l,a.ok G h)
  (fun (x:Option (List RcV)) G h=>match x with
   |some m=>allO (fun a=>(resRc s a).map RcV.bare) l=some (m.map RcV.bare) ∧ ∀a∈m,a.ok G h
   |none=>allO (fun a=>(resRc s a).map RcV.bare) l=none) (nmxOut RcV.row 49 17 mU mI mP mM mO vC):=by
 have hl:=rws_len RcV.row l
 refine FnX.of Tryz.func77 (by kernel_rfl) rfl Tryz.ntmps77 rfl fun E0 F G h N hP w0 cs=>?_
 conv=>whnf
 refine gS ?_;conv=>whnf
 refine RunsS.nameAt (fun _ x=>x) 6 (by exact RoF.up ⟨N.gsub,fun _ _=>rfl⟩ hP.1.1) ?_
 conv=>whnf
 refine gS ?_;conv=>whnf
 refine RunsS.callN (cloneRc_fn (rws RcV.row l) (by omega)) [1] ?_ sH ?CNa5
 case CNa5=>rfl
 intro _ _
 conv=>whnf
 refine gS ?_;conv=>whnf
 refine RunsS.subR [] (RunsS.loopB (fun (⟨k,m,F1,G1,h1⟩:Nat×List RcV×(Nat→Prop)×(Nat→Prop)×Array Obj)=>(F1,h1)) (fun (⟨k,m,F1,G1,h1⟩:Nat×List RcV×(Nat→Prop)×(Nat→Prop)×Array Obj)=>[(10,.v (.int .i64 k)),(9,.v (.int .i64 (rws RcV.row l).length)),(0,.buf 2),(1,.fn (.func 78) [] [.ptr 0 0])]) (fun (⟨k,m,F1,G1,h1⟩:Nat×List RcV×(Nat→Prop)×(Nat→Prop)×Array Obj)=>[(2,.own 49 17 (rws RcV.row (m++l.drop k))),rsvC 0 mU mI mP mM mO vC]) 3 (fun (⟨k,m,F1,G1,h1⟩:Nat×List RcV×(Nat→Prop)×(Nat→Prop)×Array Obj)=>Now F G h F1 G1 h1∧k≤l.length∧m.length=k∧allO (fun a=>(resRc s a).map RcV.bare) (l.take k)=some (m.map RcV.bare) ∧ ∀a∈m,a.ok G1 h1) (fun (⟨k,m,F1,G1,h1⟩:Nat×List RcV×(Nat→Prop)×(Nat→Prop)×Array Obj)=>l.length - k) ?round6 (⟨0,[],F,G,h⟩) ?J06) sH sH
 case J06=>exact (⟨N,Nat.zero_le _,rfl,rfl,fun _ h=>absurd h List.not_mem_nil⟩)
 rintro ⟨k,m,F1,G1,h1⟩ hJ back
 try dsimp only at hJ back
 conv=>whnf
 try dsimp only
 refine gS ?_;conv=>whnf
 refine ⟨fun hk=>?_,fun hk=>?_⟩<;>conv=>whnf
 ·obtain ⟨N1,_,em,ea,ho⟩:=hJ
  have U1:=Now.step N.gsub N1
  have hk:k<l.length:=by omega
  have hm:=mid_len (f:=RcV.row) hk em
  conv=>whnf
  repeat ((first|refine oL ?_|refine oR ?_);(try intro _);conv=>whnf)
  refine RunsS.callX (N1.gsub) (clRc_fn _ k l[k] (mid_get hk em) (hs _ (List.getElem_mem hk)).1 (hs _ (List.getElem_mem hk)).2.1 (hs _ (List.getElem_mem hk)).2.2.1 (hs _ (List.getElem_mem hk)).2.2.2) (fun h U=>⟨(hP.2 _ (List.getElem_mem hk)).up (U1.trans U),hP.1.2.up (U1.trans U)⟩) [2,0] sH ?CNa7 ?_
  case CNa7=>rfl
  rintro (_|j) G2 h2 N2 J2
  ·conv=>whnf
   have e:resRc s l[k]=none:=J2
   exact UnwS.pan Tryz.func77 (EndX.mk (N.trans (N1.trans N2)) (none) (fun h U=>allO_none.2 ⟨l[k],List.getElem_mem hk,by rw [e];rfl⟩) [] sH rfl rfl (okPan rfl))
  have e:(resRc s l[k]).map RcV.bare=some j.bare:=J2.1
  conv=>whnf
  refine gS ?_;conv=>whnf
  repeat ((first|refine oL ?_|refine oR ?_);(try intro _);conv=>whnf)
  refine RunsS.rowsEq 2 (mid_set hk em j) ?_;conv=>whnf
  have U2:=Now.step N1.gsub N2
  refine RunsS.subR [] (back (⟨k+1,m++[j],_,G2,h2⟩) (by exact (⟨N1.trans N2,hk,by rw [List.length_append,em];rfl,by rw [List.map_append];exact allO_snoc hk ea e,mid_ok (fun a ha=>(ho a ha).up U2) J2.2⟩)) (by (try dsimp only);omega)) sH sH
 obtain ⟨N1,_,em,ea,ho⟩:=hJ
 have hk:k=l.length:=by omega
 clear back
 subst hk
 rw [List.take_length] at ea
 conv=>whnf
 refine RunsS.rowsEq 2 (mid_all em) ?_;conv=>whnf
 refine RunsS.retU ?_
 exact UnwS.ret tab Tryz.func77 rfl (EndX.mk (N.trans N1) (some m) (fun h U=>⟨ea,fun a ha=>(ho a ha).up U⟩) [(1,2)] sH rfl rfl (okRet rfl rfl))
theorem numOp_fn (v:Value) (l:List OpV) (hb:l.length≤1000000) (hs:∀a∈l,a.ch.length≤1000000):FnX Tryz.prog 72 0 [.v v,.v (.func (.func 73) #[] #[])] [] (fun G h=>RoF G h v 2 (rws OpV.row l) ∧ ∀a∈l,a.ok G h)
  (fun (m:List OpV) G h=>l.map OpV.bare=m.map OpV.bare ∧ ∀a∈m,a.ok G h) (fun m=>.ret (.buf 0) 1 [(0,.own 61 2 (rws OpV.row m))]):=by
 have hl:=rws_len OpV.row l
 refine FnX.of Tryz.func72 (by kernel_rfl) rfl Tryz.ntmps72 rfl fun E0 F G h N hP w0 cs=>?_
 conv=>whnf
 refine gS ?_;conv=>whnf
 refine RunsS.nameAt (fun _ x=>x) 6 (by exact RoF.up ⟨N.gsub,fun _ _=>rfl⟩ hP.1) ?_
 conv=>whnf
 refine gS ?_;conv=>whnf
 refine RunsS.callN (cloneOp_fn (rws OpV.row l) (by omega)) [0] ?_ sH ?CNa9
 case CNa9=>rfl
 intro _ _
 conv=>whnf
 refine gS ?_;conv=>whnf
 refine RunsS.subR [] (RunsS.loopB (fun (⟨k,m,F1,G1,h1⟩:Nat×List OpV×(Nat→Prop)×(Nat→Prop)×Array Obj)=>(F1,h1)) (fun (⟨k,m,F1,G1,h1⟩:Nat×List OpV×(Nat→Prop)×(Nat→Prop)×Array Obj)=>[(10,.v (.int .i64 k)),(9,.v (.int .i64 (rws OpV.row l).length)),(0,.buf 1),(1,.v (.func (.func 73) #[] #[]))]) (fun (⟨k,m,F1,G1,h1⟩:Nat×List OpV×(Nat→Prop)×(Nat→Prop)×Array Obj)=>[(1,.own 61 2 (rws OpV.row (m++l.drop k)))]) 2 (fun (⟨k,m,F1,G1,h1⟩:Nat×List OpV×(Nat→Prop)×(Nat→Prop)×Array Obj)=>Now F G h F1 G1 h1∧k≤l.length∧m.length=k∧(l.take k).map OpV.bare=m.map OpV.bare ∧ ∀a∈m,a.ok G1 h1) (fun (⟨k,m,F1,G1,h1⟩:Nat×List OpV×(Nat→Prop)×(Nat→Prop)×Array Obj)=>l.length - k) ?round10 (⟨0,[],F,G,h⟩) ?J010) sH sH
 case J010=>exact (⟨N,Nat.zero_le _,rfl,rfl,fun _ h=>absurd h List.not_mem_nil⟩)
 rintro ⟨k,m,F1,G1,h1⟩ hJ back
 try dsimp only at hJ back
 conv=>whnf
 try dsimp only
 refine gS ?_;conv=>whnf
 refine ⟨fun hk=>?_,fun hk=>?_⟩<;>conv=>whnf
 ·obtain ⟨N1,_,em,ea,ho⟩:=hJ
  have U1:=Now.step N.gsub N1
  have hk:k<l.length:=by omega
  have hm:=mid_len (f:=OpV.row) hk em
  conv=>whnf
  repeat ((first|refine oL ?_|refine oR ?_);(try intro _);conv=>whnf)
  refine RunsS.callX (N1.gsub) (clOp_fn _ k l[k] (mid_get hk em) (hs _ (List.getElem_mem hk))) (fun h U=>(hP.2 _ (List.getElem_mem hk)).up (U1.trans U)) [1] sH ?CNa11 ?_
  case CNa11=>rfl
  rintro x G2 h2 N2 J2
  conv=>whnf
  refine gS ?_;conv=>whnf
  repeat ((first|refine oL ?_|refine oR ?_);(try intro _);conv=>whnf)
  refine RunsS.rowsEq 1 (mid_set hk em _) ?_;conv=>whnf
  have U2:=Now.step N1.gsub N2
  refine RunsS.subR [] (back (⟨k+1,m++[{l[k] with hd:=x}],_,G2,h2⟩) (by exact (⟨N1.trans N2,hk,by rw [List.length_append,em];rfl,by rw [List.map_append,take_snoc hk,List.map_append,ea];rfl,mid_ok (fun a ha=>(ho a ha).up U2) J2⟩)) (by (try dsimp only);omega)) sH sH
 obtain ⟨N1,_,em,ea,ho⟩:=hJ
 have hk:k=l.length:=by omega
 clear back
 subst hk
 rw [List.take_length] at ea
 conv=>whnf
 refine RunsS.rowsEq 1 (mid_all em) ?_;conv=>whnf
 refine RunsS.retU ?_
 exact UnwS.ret tab Tryz.func72 rfl (EndX.mk (N.trans N1) (m) (fun h U=>⟨ea,fun a ha=>(ho a ha).up U⟩) [(0,1)] sH rfl rfl (okRet rfl rfl))
end
end Go.Proofs.YtofjdbmcloemnaaGreatDoor

namespace Go.SrcM
open Go Go.Fw Go.RatM
structure TopF (G:Nat→Prop) (h:Array Obj) (vU vI vP vM vO vF vR vS:Value) (s:SrcV):Prop where
 U:RoF G h vU 8 (rowsU s.units)
 I:RoF G h vI 6 (rws It.row s.items)
 P:RoF G h vP 1 (rwsB s.plants)
 M:RoF G h vM 4 (rws Mc.row s.machines)
 O:RoF G h vO 2 (rws OpV.row s.options)
 F:RoF G h vF 1 (rws FbV.row s.forbids)
 R:RoF G h vR 17 (rws RcV.row s.recipes)
 S:RoF G h vS 4 (rws Sw.row s.swaps)
 below:s.sub G h
theorem TopF.up {G G':Nat→Prop} {h h':Array Obj} {vU vI vP vM vO vF vR vS:Value} {s:SrcV} (H:TopF G h vU vI vP vM vO vF vR vS s) (U:Up G h G' h'):TopF G' h' vU vI vP vM vO vF vR vS s:=
 ⟨RoF.up U H.U,RoF.up U H.I,RoF.up U H.P,RoF.up U H.M,RoF.up U H.O,RoF.up U H.F,RoF.up U H.R,RoF.up U H.S,H.below.up U⟩
structure Lens (s:SrcV):Prop where
 U:s.units.length≤1000000
 I:s.items.length≤1000000
 P:s.plants.length≤1000000
 M:s.machines.length≤1000000
 O:s.options.length≤1000000
 F:s.forbids.length≤1000000
 R:s.recipes.length≤1000000
 S:s.swaps.length≤1000000
 o:∀a∈s.options,a.ch.length≤1000000
 f:∀a∈s.forbids,a.cs.length≤1000000
 r:∀a∈s.recipes,a.cs.length≤1000000∧a.inn.length≤1000000∧a.out.length≤1000000∧a.runs.length≤1000000
theorem allO_mapB {α β γ:Type} {f:α→Option β} {b:β→γ}:∀l:List α,allO (fun a=>(f a).map b) l=(allO f l).map (List.map b)
 | []=>rfl
 |a::l=>by
  simp only [allO]
  cases f a with
  |none=>rfl
  |some x=>
   rw [allO_mapB l]
   cases allO f l<;>rfl
end Go.SrcM
namespace Go.Proofs.YtofjdbmcloemnaaGreatDoor
open Go Go.Fw Go.NatM Go.RatM Go.SrcM
set_option maxRecDepth 100000
set_option maxHeartbeats 99999999
section
variable {s:SrcV} {mU mI mP mM mO vC:Value}
abbrev srcOut:Option (SrcV×Value×Value×Value×Value×Value×Value×Value×Value)→OutS
 |some (_,vU,vI,vP,vM,vO,vF,vR,vS)=>.ret (.agg [.v vU,.v vI,.v vP,.v vM,.v vO,.v vF,.v vR,.v vS]) 0 []
 |none=>.pan failCh 0 []
theorem source_fn (vU vI vP vM vO vF vR vS:Value) (hL:Lens s):FnX Tryz.prog 30 0 [.agg [.v mU,.v mI,.v mP,.v mM,.v mO,.v vC],.agg [.v vU,.v vI,.v vP,.v vM,.v vO,.v vF,.v vR,.v vS]] [] (fun G h=>TopF G h vU vI vP vM vO vF vR vS s∧ResF G h s mU mI mP mM mO vC)
  (fun x G h=>match x with
   |some (t,wU,wI,wP,wM,wO,wF,wR,wS)=>(SrcM.resS s).map SrcV.bare=some t.bare∧t.units=s.units∧TopF G h wU wI wP wM wO wF wR wS t
   |none=>SrcM.resS s=none) srcOut:=by
 obtain ⟨y,hy⟩:∃y,y=SrcM.resS s:=⟨_,rfl⟩
 rw [←hy]
 unfold SrcM.resS at hy
 refine FnX.of Tryz.func30 (by kernel_rfl) rfl Tryz.ntmps30 rfl fun E0 F G h N hP w0 cs=>?_
 conv=>whnf
 refine gS ?_;conv=>whnf
 obtain ⟨aU,cU,rfl⟩:=RoF.sli hP.1.U rfl
 have T0:=N
 have V0:=Now.step N.gsub N
 refine RunsS.callT (NumT.tok _ _ _ _ _ _ _ _ _ _) (⟨RoF.up (V0.trans ⟨T0.gsub,fun _ _=>rfl⟩) hP.1.I,hP.2.up (V0.trans ⟨T0.gsub,fun _ _=>rfl⟩)⟩) (numIt_fn vI s.items hL.I) [0] sH ?CNa1 ?_
 case CNa1=>rfl
 rintro x1 hx1
 cases hm1:allO (resIt s) s.items with
 |none=>
  rw [hm1] at hx1
  subst hx1
  simp only [hm1] at hy
  conv=>whnf
  exact UnwS.pan Tryz.func30 (EndX.mk (T0) (none) (fun h U=>hy) [] sH rfl rfl (okPan rfl))
 |some m1=>
 rw [hm1] at hx1
 subst hx1
 simp only [hm1] at hy
 conv=>whnf
 refine gS ?_;conv=>whnf
 refine RunsS.conc (n:=m1.length) (T0.gsub) 3 ?_ (hlen:=rws_len It.row m1)
 intro a1 c1 G1 h1 N1 R1
 conv=>whnf
 refine gS ?_;conv=>whnf
 have T1:=T0.trans N1
 have V1:=Now.step N.gsub T1
 have W1:=Now.step T0.gsub N1
 refine RunsS.subR (nx':=3) (l':=[(11,.v vP),(2,.ptr 0 0),(3,.ptr 1 0),(4,.ptr 2 0)]) (H':=[rsvC 0 mU mI mP mM mO vC,(1,.cells 31 [.v (.slice aU (rowsU s.units).length cU),.v (.slice a1 m1.length c1),.v vP,.v vM,.v vO,.v vF,.v vR,.v vS]),(2,.cells 31 [.v (.slice none 0 0),.v (.slice none 0 0),.v (.slice none 0 0),.v (.slice none 0 0),.v (.slice none 0 0),.v (.slice none 0 0),.v (.slice none 0 0),.v (.slice none 0 0)])]) [] ?_ sH sH
 refine RunsS.nameAt (fun _ x=>x) 11 (by exact RoF.up (V1.trans ⟨T1.gsub,fun _ _=>rfl⟩) hP.1.P) ?_
 conv=>whnf
 refine gS ?_;conv=>whnf
 refine RunsS.callN (cloneSt_fn (rwsB s.plants) (by rw [rwsB_len];exact hL.P)) [3] ?_ sH ?CNa2
 case CNa2=>rfl
 intro _ _
 conv=>whnf
 refine gS ?_;conv=>whnf
 refine RunsS.conc (n:=s.plants.length) (T1.gsub) 4 ?_ (hlen:=rwsB_len s.plants)
 intro a2 c2 G2 h2 N2 R2
 conv=>whnf
 refine gS ?_;conv=>whnf
 have T2:=T1.trans N2
 have V2:=Now.step N.gsub T2
 have W2:=Now.step T1.gsub N2
 refine RunsS.subR (nx':=3) (l':=[(15,.v vM),(16,.fn (.func 71) [] [.ptr 0 0]),(2,.ptr 0 0),(3,.ptr 1 0),(4,.ptr 2 0)]) (H':=[rsvC 0 mU mI mP mM mO vC,(1,.cells 31 [.v (.slice aU (rowsU s.units).length cU),.v (.slice a1 m1.length c1),.v (.slice a2 s.plants.length c2),.v vM,.v vO,.v vF,.v vR,.v vS]),(2,.cells 31 [.v (.slice none 0 0),.v (.slice none 0 0),.v (.slice none 0 0),.v (.slice none 0 0),.v (.slice none 0 0),.v (.slice none 0 0),.v (.slice none 0 0),.v (.slice none 0 0)])]) [] ?_ sH sH
 refine RunsS.callT (NumT.tok _ _ _ _ _ _ _ _ _ _) (⟨RoF.up (V2.trans ⟨T2.gsub,fun _ _=>rfl⟩) hP.1.M,hP.2.up (V2.trans ⟨T2.gsub,fun _ _=>rfl⟩)⟩) (numMc_fn vM s.machines hL.M) [0] sH ?CNa3 ?_
 case CNa3=>rfl
 rintro x3 hx3
 cases hm3:allO (resMc s) s.machines with
 |none=>
  rw [hm3] at hx3
  subst hx3
  simp only [hm3] at hy
  conv=>whnf
  exact UnwS.pan Tryz.func30 (EndX.mk (T2) (none) (fun h U=>hy) [] sH rfl rfl (okPan rfl))
 |some m3=>
 rw [hm3] at hx3
 subst hx3
 simp only [hm3] at hy
 conv=>whnf
 refine gS ?_;conv=>whnf
 refine RunsS.conc (n:=m3.length) (T2.gsub) 3 ?_ (hlen:=rws_len Mc.row m3)
 intro a3 c3 G3 h3 N3 R3
 conv=>whnf
 refine gS ?_;conv=>whnf
 have T3:=T2.trans N3
 have V3:=Now.step N.gsub T3
 have W3:=Now.step T2.gsub N3
 refine RunsS.subR (nx':=3) (l':=[(20,.v vO),(2,.ptr 0 0),(3,.ptr 1 0),(4,.ptr 2 0)]) (H':=[rsvC 0 mU mI mP mM mO vC,(1,.cells 31 [.v (.slice aU (rowsU s.units).length cU),.v (.slice a1 m1.length c1),.v (.slice a2 s.plants.length c2),.v (.slice a3 m3.length c3),.v vO,.v vF,.v vR,.v vS]),(2,.cells 31 [.v (.slice none 0 0),.v (.slice none 0 0),.v (.slice none 0 0),.v (.slice none 0 0),.v (.slice none 0 0),.v (.slice none 0 0),.v (.slice none 0 0),.v (.slice none 0 0)])]) [] ?_ sH sH
 refine RunsS.callX (T3.gsub) (numOp_fn vO s.options hL.O hL.o) (fun h U=>⟨RoF.up (V3.trans U) hP.1.O,fun a ha=>(hP.1.below.o a ha).up (V3.trans U)⟩) [] sH ?CNa4 ?_
 case CNa4=>rfl
 rintro m4 G4 h4 N4 J4
 conv=>whnf
 refine gS ?_;conv=>whnf
 have T4:=T3.trans N4
 have V4:=Now.step N.gsub T4
 have W4:=Now.step T3.gsub N4
 refine RunsS.conc (n:=m4.length) (T4.gsub) 3 ?_ (hlen:=rws_len OpV.row m4)
 intro a5 c5 G5 h5 N5 R5
 conv=>whnf
 refine gS ?_;conv=>whnf
 have T5:=T4.trans N5
 have V5:=Now.step N.gsub T5
 have W5:=Now.step T4.gsub N5
 refine RunsS.subR (nx':=3) (l':=[(24,.v vF),(25,.fn (.func 75) [] [.ptr 0 0]),(2,.ptr 0 0),(3,.ptr 1 0),(4,.ptr 2 0)]) (H':=[rsvC 0 mU mI mP mM mO vC,(1,.cells 31 [.v (.slice aU (rowsU s.units).length cU),.v (.slice a1 m1.length c1),.v (.slice a2 s.plants.length c2),.v (.slice a3 m3.length c3),.v (.slice a5 m4.length c5),.v vF,.v vR,.v vS]),(2,.cells 31 [.v (.slice none 0 0),.v (.slice none 0 0),.v (.slice none 0 0),.v (.slice none 0 0),.v (.slice none 0 0),.v (.slice none 0 0),.v (.slice none 0 0),.v (.slice none 0 0)])]) [] ?_ sH sH
 refine RunsS.callX (T5.gsub) (numFb_fn vF s.forbids hL.F hL.f) (fun h U=>⟨⟨RoF.up (V5.trans U) hP.1.F,hP.2.up (V5.trans U)⟩,fun a ha=>(hP.1.below.f a ha).up (V5.trans U)⟩) [0] sH ?CNa5 ?_
 case CNa5=>rfl
 rintro (_|m6) G6 h6 N6 J6
 ·conv=>whnf
  rw [allO_mapB] at J6
  simp only [Option.map_eq_none_iff.1 J6] at hy
  exact UnwS.pan Tryz.func30 (EndX.mk (T5.trans N6) (none) (fun h U=>hy) [] sH rfl rfl (okPan rfl))
 have e6:=J6.1
 rw [allO_mapB] at e6
 obtain ⟨l6,hm6,b6⟩:=opt_map e6
 simp only [hm6] at hy
 have T6:=T5.trans N6
 have V6:=Now.step N.gsub T6
 have W6:=Now.step T5.gsub N6
 conv=>whnf
 refine gS ?_;conv=>whnf
 refine RunsS.conc (n:=m6.length) (T6.gsub) 3 ?_ (hlen:=rws_len FbV.row m6)
 intro a7 c7 G7 h7 N7 R7
 conv=>whnf
 refine gS ?_;conv=>whnf
 have T7:=T6.trans N7
 have V7:=Now.step N.gsub T7
 have W7:=Now.step T6.gsub N7
 refine RunsS.subR (nx':=3) (l':=[(29,.v vR),(30,.fn (.func 78) [] [.ptr 0 0]),(2,.ptr 0 0),(3,.ptr 1 0),(4,.ptr 2 0)]) (H':=[rsvC 0 mU mI mP mM mO vC,(1,.cells 31 [.v (.slice aU (rowsU s.units).length cU),.v (.slice a1 m1.length c1),.v (.slice a2 s.plants.length c2),.v (.slice a3 m3.length c3),.v (.slice a5 m4.length c5),.v (.slice a7 m6.length c7),.v vR,.v vS]),(2,.cells 31 [.v (.slice none 0 0),.v (.slice none 0 0),.v (.slice none 0 0),.v (.slice none 0 0),.v (.slice none 0 0),.v (.slice none 0 0),.v (.slice none 0 0),.v (.slice none 0 0)])]) [] ?_ sH sH
 refine RunsS.callX (T7.gsub) (numRc_fn vR s.recipes hL.R hL.r) (fun h U=>⟨⟨RoF.up (V7.trans U) hP.1.R,hP.2.up (V7.trans U)⟩,fun a ha=>(hP.1.below.r a ha).up (V7.trans U)⟩) [0] sH ?CNa6 ?_
 case CNa6=>rfl
 rintro (_|m8) G8 h8 N8 J8
 ·conv=>whnf
  rw [allO_mapB] at J8
  simp only [Option.map_eq_none_iff.1 J8] at hy
  exact UnwS.pan Tryz.func30 (EndX.mk (T7.trans N8) (none) (fun h U=>hy) [] sH rfl rfl (okPan rfl))
 have e8:=J8.1
 rw [allO_mapB] at e8
 obtain ⟨l8,hm8,b8⟩:=opt_map e8
 simp only [hm8] at hy
 have T8:=T7.trans N8
 have V8:=Now.step N.gsub T8
 have W8:=Now.step T7.gsub N8
 conv=>whnf
 refine gS ?_;conv=>whnf
 refine RunsS.conc (n:=m8.length) (T8.gsub) 3 ?_ (hlen:=rws_len RcV.row m8)
 intro a9 c9 G9 h9 N9 R9
 conv=>whnf
 refine gS ?_;conv=>whnf
 have T9:=T8.trans N9
 have V9:=Now.step N.gsub T9
 have W9:=Now.step T8.gsub N9
 refine RunsS.subR (nx':=3) (l':=[(34,.v vS),(35,.fn (.func 83) [] [.ptr 0 0]),(2,.ptr 0 0),(3,.ptr 1 0),(4,.ptr 2 0)]) (H':=[rsvC 0 mU mI mP mM mO vC,(1,.cells 31 [.v (.slice aU (rowsU s.units).length cU),.v (.slice a1 m1.length c1),.v (.slice a2 s.plants.length c2),.v (.slice a3 m3.length c3),.v (.slice a5 m4.length c5),.v (.slice a7 m6.length c7),.v (.slice a9 m8.length c9),.v vS]),(2,.cells 31 [.v (.slice none 0 0),.v (.slice none 0 0),.v (.slice none 0 0),.v (.slice none 0 0),.v (.slice none 0 0),.v (.slice none 0 0),.v (.slice none 0 0),.v (.slice none 0 0)])]) [] ?_ sH sH
 refine RunsS.callT (NumT.tok _ _ _ _ _ _ _ _ _ _) (⟨RoF.up (V9.trans ⟨T9.gsub,fun _ _=>rfl⟩) hP.1.S,hP.2.up (V9.trans ⟨T9.gsub,fun _ _=>rfl⟩)⟩) (numSw_fn vS s.swaps hL.S) [0] sH ?CNa7 ?_
 case CNa7=>rfl
 rintro x10 hx10
 cases hm10:allO (resSw s) s.swaps with
 |none=>
  rw [hm10] at hx10
  subst hx10
  simp only [hm10] at hy
  conv=>whnf
  exact UnwS.pan Tryz.func30 (EndX.mk (T9) (none) (fun h U=>hy) [] sH rfl rfl (okPan rfl))
 |some m10=>
 rw [hm10] at hx10
 subst hx10
 simp only [hm10] at hy
 conv=>whnf
 refine RunsS.conc (n:=m10.length) (T9.gsub) 3 ?_ (hlen:=rws_len Sw.row m10)
 intro a10 c10 G10 h10 N10 R10
 conv=>whnf
 refine gS ?_;conv=>whnf
 have T10:=T9.trans N10
 have V10:=Now.step N.gsub T10
 have W10:=Now.step T9.gsub N10
 refine RunsS.retU ?_
 exact UnwS.ret tab Tryz.func30 rfl (eX (T10) (some (⟨s.units,m1,s.plants,m3,m4,m6,m8,m10⟩,_,_,_,_,_,_,_,_)) (fun h U=>⟨by rw [hy];simp only [Option.map,SrcV.bare,J4.1,b6,b8],rfl,RoF.up (V10.trans U) hP.1.U,RoF.up (W2.trans (W3.trans (W4.trans (W5.trans (W6.trans (W7.trans (W8.trans (W9.trans (W10.trans U))))))))) R1,RoF.up (W3.trans (W4.trans (W5.trans (W6.trans (W7.trans (W8.trans (W9.trans (W10.trans U)))))))) R2,RoF.up (W4.trans (W5.trans (W6.trans (W7.trans (W8.trans (W9.trans (W10.trans U))))))) R3,RoF.up (W6.trans (W7.trans (W8.trans (W9.trans (W10.trans U))))) R5,RoF.up (W8.trans (W9.trans (W10.trans U))) R7,RoF.up (W10.trans U) R9,RoF.up U R10,fun a ha=>(J4.2 a ha).up (W5.trans (W6.trans (W7.trans (W8.trans (W9.trans (W10.trans U)))))),fun a ha=>(J6.2 a ha).up (W7.trans (W8.trans (W9.trans (W10.trans U)))),fun a ha=>(J8.2 a ha).up (W9.trans (W10.trans U))⟩))
end
end Go.Proofs.YtofjdbmcloemnaaGreatDoor

namespace Go.Proofs.YtofjdbmcloemnaaGreatDoor
open Go Go.Fw Go.NatM Go.RatM Go.SrcM
set_option maxRecDepth 100000
set_option maxHeartbeats 99999999
section
variable {s:SrcV}
def twiceK (s:SrcV) (k:Nat):Prop:=(¬(s.units.map Un.name).Nodup ∨ ¬(s.items.map It.name).Nodup ∨ ¬s.plants.Nodup ∨ ¬(s.machines.map Mc.name).Nodup ∨ ¬(s.options.map OpV.name).Nodup) ∨ ∃o∈s.options.take k,¬o.ch.Nodup
instance (s:SrcV) (k:Nat):Decidable (twiceK s k):=by unfold twiceK;infer_instance
theorem twice0 (s:SrcV):decide (true ∈ [dupB (s.units.map Un.name),dupB (s.items.map It.name),dupB s.plants,dupB (s.machines.map Mc.name),dupB (s.options.map OpV.name)])=decide (twiceK s 0):=by
 unfold twiceK dupB
 refine decide_eq_decide.2 ?_
 simp only [List.mem_cons,List.not_mem_nil,or_false,List.take_zero,false_and,exists_false,eq_comm (a:=true),decide_eq_true_eq]
theorem twice_end (s:SrcV):decide (twiceK s s.options.length)=decide (twiceN s):=by
 unfold twiceK twiceN
 refine decide_eq_decide.2 ?_
 rw [List.take_length]
 simp only [Classical.not_forall,or_assoc,exists_prop]
theorem twice_step (s:SrcV) {k:Nat} (hk:k<s.options.length):(decide (twiceK s k)||dupB s.options[k].ch)=decide (twiceK s (k+1)):=by
 unfold dupB
 rw [Bool.eq_iff_iff]
 simp only [Bool.or_eq_true,decide_eq_true_eq]
 unfold twiceK
 rw [take_snoc hk]
 simp only [List.mem_append,List.mem_singleton,or_assoc,or_and_right,exists_or,exists_eq_left]
theorem maps_snoc {s:SrcV} {G:Nat→Prop} {h:Array Obj} {rs:List Nat} {r k:Nat} (em:rs.length=k) (ho:∀i (h1:i<rs.length) (h2:i<s.options.length),MapF G h (.map (some rs[i])) .string (firsts s.options[i].ch)) {hk:k<s.options.length} (hr:MapF G h (.map (some r)) .string (firsts s.options[k].ch)):
  ∀i (h1:i<(rs++[r]).length) (h2:i<s.options.length),MapF G h (.map (some (rs++[r])[i])) .string (firsts s.options[i].ch):=by
 intro i h1 h2
 by_cases h:i<rs.length
 ·rw [List.getElem_append_left h];exact ho i h h2
 have e:i=k:=by simp at h1;omega
 subst e
 rw [List.getElem_append_right (by omega)]
 simpa [em] using hr
theorem arrU:Tryz.prog.underlying 97=some (.array 5 4):=by kernel_rfl
theorem boolS:(Tryz.prog.info? 4).map (·.size)=some 1:=by kernel_rfl
abbrev rowsT (bs:List Bool):List (List Value):=(bs.map Value.bool).map fun m=>[m]
theorem rowsT_len (bs:List Bool):(rowsT bs).length=bs.length:=by simp
theorem rowsT_get {bs:List Bool} {k:Nat} (hk:k<bs.length):(rowsT bs)[k]? = some [.bool bs[k]]:=by simp [hk]
theorem no_true {bs:List Bool} (h:∀j (hj:j<bs.length),bs[j]=false):¬true∈bs:=fun hm=>by
 obtain ⟨j,hj,e⟩:=List.getElem_of_mem hm
 rw [h j hj] at e
 cases e
theorem indexB_fn (bs:List Bool) (hb:bs.length≤1000000):FnS Tryz.prog 97 1 [.buf 0,.v (.bool true)] [(0,.ro 1 (rowsT bs))] (fun n:Int=> -1≤n∧n≤1000000∧(0≤n↔true∈bs)) (fun n=>.ret (.v (.int .i64 n)) 1 []):=by
 have hl:=rowsT_len bs
 refine FnS.of Tryz.func97 (by kernel_rfl) rfl Tryz.ntmps97 rfl fun E0 F h w0 cs=>?_
 conv=>whnf
 refine gS ?_;conv=>whnf
 refine RunsS.lenB 0 (fun m0=>?_)
 conv=>whnf
 refine gS ?_;conv=>whnf
 refine RunsS.subR [] (RunsS.loop (fun (k:Nat)=>[(8,.v (.int .i64 k)),(7,.v (.int .i64 (rowsT bs).length)),(0,.buf 0),(1,.v (.bool true))]) (fun (k:Nat)=>[(0,.ro 1 (rowsT bs))]) 1 (fun (k:Nat)=>k≤bs.length ∧ ∀j (hj:j<bs.length),j<k→bs[j]=false) (fun (k:Nat)=>bs.length - k) ?round1 (0) ?J01) sH sH
 case J01=>exact (⟨Nat.zero_le _,fun _ _ h=>absurd h (Nat.not_lt_zero _)⟩)
 rintro k hJ back
 conv=>whnf
 refine gS ?_;conv=>whnf
 refine ⟨fun hk=>?_,fun hk=>?_⟩<;>conv=>whnf
 ·have hk:k<bs.length:=by omega
  conv=>whnf
  repeat ((first|refine oL ?_|refine oR ?_);(try intro _);conv=>whnf)
  refine ⟨_,rowsT_get hk,?_⟩;conv=>whnf
  cases hv:bs[k] with
  |true=>
   conv=>whnf
   refine RunsS.retU ?_
   exact UnwS.ret tab Tryz.func97 rfl (EndS.mk ((k:Int)) (⟨by omega,by omega,⟨fun _=>hv▸List.getElem_mem hk,fun _=>by omega⟩⟩) [] sH rfl rfl (okRet rfl rfl))
  |false=>
   conv=>whnf
   repeat ((first|refine oL ?_|refine oR ?_);(try intro _);conv=>whnf)
   refine gS ?_;conv=>whnf
   refine RunsS.subR [] (back (k+1) (by exact (⟨hk,fun j hj h1=>(Nat.lt_or_eq_of_le (Nat.le_of_lt_succ h1)).elim (hJ.2 j hj) (fun e=>by subst e;exact hv)⟩)) (by (try dsimp only);omega)) sH sH
 conv=>whnf
 refine RunsS.retU ?_
 exact UnwS.ret tab Tryz.func97 rfl (EndS.mk ((-1:Int)) (⟨by omega,by omega,⟨fun h=>by omega,fun h=>(no_true (fun j hj=>hJ.2 j hj (by omega)) h).elim⟩⟩) [] sH rfl rfl (okRet rfl rfl))
theorem containsB_fn (bs:List Bool) (hb:bs.length≤1000000):FnS Tryz.prog 57 1 [.buf 0,.v (.bool true)] [(0,.ro 1 (rowsT bs))] (fun b:Bool=>b=decide (true∈bs)) (fun b=>.ret (.v (.bool b)) 1 []):=by
 refine FnS.of Tryz.func57 (by kernel_rfl) rfl Tryz.ntmps57 rfl fun E0 F h w0 cs=>?_
 conv=>whnf
 refine gS ?_;conv=>whnf
 refine RunsS.callN (indexB_fn bs hb) [0] ?_ sH ?CNa3
 case CNa3=>rfl
 intro _ _
 conv=>whnf
 refine gS ?_;conv=>whnf
 rename_i y hy
 refine RunsS.retU ?_
 exact UnwS.ret tab Tryz.func57 rfl (EndS.mk ((decide (0≤y))) ((show decide (0≤y)=decide (true∈bs) from decide_eq_decide.2 hy.2.2)) [] sH rfl rfl (okRet rfl rfl))
theorem gather_fn (vU vI vP vM vO vF vR vS:Value) (hL:Lens s):FnX Tryz.prog 27 0 [.agg [.v vU,.v vI,.v vP,.v vM,.v vO,.v vF,.v vR,.v vS]] [] (fun G h=>TopF G h vU vI vP vM vO vF vR vS s)
  (fun (y:Nat×Nat×Nat×Nat×Nat×Option Addr×Nat) G h=>ResF G h s (.map (some y.1)) (.map (some y.2.1)) (.map (some y.2.2.1)) (.map (some y.2.2.2.1)) (.map (some y.2.2.2.2.1)) (.slice y.2.2.2.2.2.1 s.options.length y.2.2.2.2.2.2))
  (fun y=>.ret (.tup [.agg [.v (.map (some y.1)),.v (.map (some y.2.1)),.v (.map (some y.2.2.1)),.v (.map (some y.2.2.2.1)),.v (.map (some y.2.2.2.2.1)),.v (.slice y.2.2.2.2.2.1 s.options.length y.2.2.2.2.2.2)],.v (.bool (decide (twiceN s)))]) 0 []):=by
 refine FnX.of Tryz.func27 (by kernel_rfl) rfl Tryz.ntmps27 rfl fun E0 F G h N hP w0 cs=>?_
 conv=>whnf
 refine gS ?_;conv=>whnf
 obtain ⟨aO,cO,rfl⟩:=RoF.sli hP.O (rws_len OpV.row s.options)
 have T0:=N
 have V0:=Now.step N.gsub N
 refine RunsS.nameAt (fun _ x=>x) 11 (by exact RoF.up (V0.trans ⟨T0.gsub,fun _ _=>rfl⟩) hP.U) ?_
 conv=>whnf
 refine gS ?_;conv=>whnf
 refine RunsS.callX (T0.gsub) (collectUnit_fn s.units) (fun _ _=>trivial) [3] sH ?CNa4 ?_
 case CNa4=>rfl
 rintro r1 G1 h1 N1 J1
 conv=>whnf
 refine gS ?_;conv=>whnf
 repeat ((first|refine oL ?_|refine oR ?_);(try intro _);conv=>whnf)
 have T1:=T0.trans N1
 have V1:=Now.step N.gsub T1
 have W1:=Now.step T0.gsub N1
 refine RunsS.subR (nx':=3) (l':=[(1,.ptr 0 0),(2,.ptr 1 0),(4,.ptr 2 0),(19,.v vI)]) (H':=[(0,.cells 31 [.v vU,.v vI,.v vP,.v vM,.v (.slice aO s.options.length cO),.v vF,.v vR,.v vS]),(1,.cells 75 [.v (.map (some r1)),.v (.map none),.v (.map none),.v (.map none),.v (.map none),.v (.slice none 0 0)]),(2,.cells 97 [.v (.bool (dupB (s.units.map Un.name))),.v (.bool false),.v (.bool false),.v (.bool false),.v (.bool false)])]) [] ?_ sH sH
 refine RunsS.nameAt (fun _ x=>x) 19 (by exact RoF.up (V1.trans ⟨T1.gsub,fun _ _=>rfl⟩) hP.I) ?_
 conv=>whnf
 refine gS ?_;conv=>whnf
 refine RunsS.callX (T1.gsub) (collectItem_fn s.items) (fun _ _=>trivial) [3] sH ?CNa5 ?_
 case CNa5=>rfl
 rintro r2 G2 h2 N2 J2
 conv=>whnf
 refine gS ?_;conv=>whnf
 repeat ((first|refine oL ?_|refine oR ?_);(try intro _);conv=>whnf)
 have T2:=T1.trans N2
 have V2:=Now.step N.gsub T2
 have W2:=Now.step T1.gsub N2
 refine RunsS.subR (nx':=3) (l':=[(1,.ptr 0 0),(2,.ptr 1 0),(4,.ptr 2 0),(27,.v vP)]) (H':=[(0,.cells 31 [.v vU,.v vI,.v vP,.v vM,.v (.slice aO s.options.length cO),.v vF,.v vR,.v vS]),(1,.cells 75 [.v (.map (some r1)),.v (.map (some r2)),.v (.map none),.v (.map none),.v (.map none),.v (.slice none 0 0)]),(2,.cells 97 [.v (.bool (dupB (s.units.map Un.name))),.v (.bool (dupB (s.items.map It.name))),.v (.bool false),.v (.bool false),.v (.bool false)])]) [] ?_ sH sH
 refine RunsS.nameAt (fun _ x=>x) 27 (by exact RoF.up (V2.trans ⟨T2.gsub,fun _ _=>rfl⟩) hP.P) ?_
 conv=>whnf
 refine gS ?_;conv=>whnf
 refine RunsS.callX (T2.gsub) (collectstring_fn s.plants) (fun _ _=>trivial) [3] sH ?CNa6 ?_
 case CNa6=>rfl
 rintro r3 G3 h3 N3 J3
 conv=>whnf
 refine gS ?_;conv=>whnf
 repeat ((first|refine oL ?_|refine oR ?_);(try intro _);conv=>whnf)
 have T3:=T2.trans N3
 have V3:=Now.step N.gsub T3
 have W3:=Now.step T2.gsub N3
 refine RunsS.subR (nx':=3) (l':=[(1,.ptr 0 0),(2,.ptr 1 0),(4,.ptr 2 0),(35,.v vM)]) (H':=[(0,.cells 31 [.v vU,.v vI,.v vP,.v vM,.v (.slice aO s.options.length cO),.v vF,.v vR,.v vS]),(1,.cells 75 [.v (.map (some r1)),.v (.map (some r2)),.v (.map (some r3)),.v (.map none),.v (.map none),.v (.slice none 0 0)]),(2,.cells 97 [.v (.bool (dupB (s.units.map Un.name))),.v (.bool (dupB (s.items.map It.name))),.v (.bool (dupB (s.plants))),.v (.bool false),.v (.bool false)])]) [] ?_ sH sH
 refine RunsS.nameAt (fun _ x=>x) 35 (by exact RoF.up (V3.trans ⟨T3.gsub,fun _ _=>rfl⟩) hP.M) ?_
 conv=>whnf
 refine gS ?_;conv=>whnf
 refine RunsS.callX (T3.gsub) (collectMachine_fn s.machines) (fun _ _=>trivial) [3] sH ?CNa7 ?_
 case CNa7=>rfl
 rintro r4 G4 h4 N4 J4
 conv=>whnf
 refine gS ?_;conv=>whnf
 repeat ((first|refine oL ?_|refine oR ?_);(try intro _);conv=>whnf)
 have T4:=T3.trans N4
 have V4:=Now.step N.gsub T4
 have W4:=Now.step T3.gsub N4
 refine RunsS.subR (nx':=3) (l':=[(1,.ptr 0 0),(2,.ptr 1 0),(4,.ptr 2 0),(43,.v (.slice aO s.options.length cO))]) (H':=[(0,.cells 31 [.v vU,.v vI,.v vP,.v vM,.v (.slice aO s.options.length cO),.v vF,.v vR,.v vS]),(1,.cells 75 [.v (.map (some r1)),.v (.map (some r2)),.v (.map (some r3)),.v (.map (some r4)),.v (.map none),.v (.slice none 0 0)]),(2,.cells 97 [.v (.bool (dupB (s.units.map Un.name))),.v (.bool (dupB (s.items.map It.name))),.v (.bool (dupB (s.plants))),.v (.bool (dupB (s.machines.map Mc.name))),.v (.bool false)])]) [] ?_ sH sH
 refine RunsS.nameAt (fun _ x=>x) 43 (by exact RoF.up (V4.trans ⟨T4.gsub,fun _ _=>rfl⟩) hP.O) ?_
 conv=>whnf
 refine gS ?_;conv=>whnf
 refine RunsS.callX (T4.gsub) (collectOption_fn s.options) (fun _ _=>trivial) [3] sH ?CNa8 ?_
 case CNa8=>rfl
 rintro r5 G5 h5 N5 J5
 conv=>whnf
 refine gS ?_;conv=>whnf
 repeat ((first|refine oL ?_|refine oR ?_);(try intro _);conv=>whnf)
 have T5:=T4.trans N5
 have V5:=Now.step N.gsub T5
 have W5:=Now.step T4.gsub N5
 refine RunsS.subR (nx':=3) (l':=[(1,.ptr 0 0),(2,.ptr 1 0),(4,.ptr 2 0)]) (H':=[(0,.cells 31 [.v vU,.v vI,.v vP,.v vM,.v (.slice aO s.options.length cO),.v vF,.v vR,.v vS]),(1,.cells 75 [.v (.map (some r1)),.v (.map (some r2)),.v (.map (some r3)),.v (.map (some r4)),.v (.map (some r5)),.v (.slice none 0 0)]),(2,.cells 97 [.v (.bool (dupB (s.units.map Un.name))),.v (.bool (dupB (s.items.map It.name))),.v (.bool (dupB (s.plants))),.v (.bool (dupB (s.machines.map Mc.name))),.v (.bool (dupB (s.options.map OpV.name)))])]) [] ?_ sH sH
 obtain ⟨bs,hbs⟩:∃bs,bs=[dupB (s.units.map Un.name),dupB (s.items.map It.name),dupB (s.plants),dupB (s.machines.map Mc.name),dupB (s.options.map OpV.name)]:=⟨_,rfl⟩
 refine RunsS.concA (n:=5) (hsm:=by decide) (vs:=[.bool (dupB (s.units.map Un.name)),.bool (dupB (s.items.map It.name)),.bool (dupB (s.plants)),.bool (dupB (s.machines.map Mc.name)),.bool (dupB (s.options.map OpV.name))]) T5.gsub 2 (fun v hv=>by simp only [List.mem_cons,List.not_mem_nil,or_false] at hv;rcases hv with rfl|rfl|rfl|rfl|rfl<;>rfl) (fun g G6 h6 N6 R6=>?_)
 conv=>whnf
 refine RunsS.sliceArr (n:=5) ?_ arrU boolS (by decide);conv=>whnf
 refine gS ?_;conv=>whnf
 refine RunsS.nameAt (fun _ x=>x) 49 (by exact RoF.up ⟨N6.gsub,fun _ _=>rfl⟩ R6) ?_
 conv=>whnf
 refine gS ?_;conv=>whnf
 refine RunsS.callN (containsB_fn [dupB (s.units.map Un.name),dupB (s.items.map It.name),dupB (s.plants),dupB (s.machines.map Mc.name),dupB (s.options.map OpV.name)] (Nat.le_of_ble_eq_true rfl)) [3] ?_ sH ?CNa9
 case CNa9=>rfl
 intro _ _
 conv=>whnf
 refine gS ?_;conv=>whnf
 rename_i b hb
 have T6:=T5.trans N6
 have V6:=Now.step N.gsub T6
 have W6:=Now.step T5.gsub N6
 refine RunsS.nameAt (fun _ x=>x) 52 (by exact RoF.up (V6.trans ⟨T6.gsub,fun _ _=>rfl⟩) hP.O) ?_
 conv=>whnf
 refine gS ?_;conv=>whnf
 have hm:=rws_len OpV.row s.options
 refine RunsS.subR (nx':=5) (l':=[(2,.ptr 1 0),(3,.v (.bool b)),(52,.buf 4),(53,.v (.int .i64 s.options.length)),(54,.v (.int .i64 0))]) (H':=[(1,.cells 75 [.v (.map (some r1)),.v (.map (some r2)),.v (.map (some r3)),.v (.map (some r4)),.v (.map (some r5)),.v (.slice none 0 0)]),(4,.ro 2 (rws OpV.row s.options))]) [] ?_ sH sH
 refine RunsS.nilOwn (l':=[(2,.ptr 1 0),(3,.v (.bool b)),(52,.buf 4),(53,.v (.int .i64 s.options.length)),(54,.v (.int .i64 0))]) (H':=[(1,.cells 75 [.v (.map (some r1)),.v (.map (some r2)),.v (.map (some r3)),.v (.map (some r4)),.v (.map (some r5)),.buf 5]),(4,.ro 2 (rws OpV.row s.options))]) 72 1 ?_ (by rfl) (by rfl) (by rfl)
 have hb0:b=decide (twiceK s 0):=hb.trans (twice0 s)
 refine RunsS.subR [] (RunsS.loopB (fun (⟨k,b,rs,F',G',h'⟩:Nat×Bool×List Nat×(Nat→Prop)×(Nat→Prop)×Array Obj)=>(F',h')) (fun (⟨k,b,rs,F',G',h'⟩:Nat×Bool×List Nat×(Nat→Prop)×(Nat→Prop)×Array Obj)=>[(2,.ptr 1 0),(3,.v (.bool b)),(52,.buf 4),(53,.v (.int .i64 s.options.length)),(54,.v (.int .i64 k))]) (fun (⟨k,b,rs,F',G',h'⟩:Nat×Bool×List Nat×(Nat→Prop)×(Nat→Prop)×Array Obj)=>[(1,.cells 75 [.v (.map (some r1)),.v (.map (some r2)),.v (.map (some r3)),.v (.map (some r4)),.v (.map (some r5)),.buf 5]),(4,.ro 2 (rws OpV.row s.options)),(5,.own 72 1 (rs.map fun r=>[Value.map (some r)]))]) 6 (fun (⟨k,b,rs,F',G',h'⟩:Nat×Bool×List Nat×(Nat→Prop)×(Nat→Prop)×Array Obj)=>Now F G h F' G' h'∧Up G6 h6 G' h'∧k≤s.options.length∧rs.length=k∧b=decide (twiceK s k) ∧ ∀i (h1:i<rs.length) (h2:i<s.options.length),MapF G' h' (.map (some rs[i])) .string (firsts s.options[i].ch)) (fun (⟨k,b,rs,F',G',h'⟩:Nat×Bool×List Nat×(Nat→Prop)×(Nat→Prop)×Array Obj)=>s.options.length - k) ?round10 (⟨0,b,[],_,G6,h6⟩) ?J010) sH sH
 case J010=>exact (⟨T6,Up.refl _ _,Nat.zero_le _,rfl,hb0,fun i h1=>absurd h1 (Nat.not_lt_zero _)⟩)
 rintro ⟨k,b,rs,F',G',h'⟩ hJ back
 try dsimp only at hJ back
 conv=>whnf
 try dsimp only
 refine gS ?_;conv=>whnf
 refine ⟨fun hk=>?_,fun hk=>?_⟩<;>conv=>whnf
 ·obtain ⟨N7,U7,_,em,eb,ho⟩:=hJ
  have hk:k<s.options.length:=by omega
  conv=>whnf
  repeat ((first|refine oL ?_|refine oR ?_);(try intro _);conv=>whnf)
  refine ⟨_,rws_get hk,?_⟩;conv=>whnf
  try (refine oN ?_;conv=>whnf)
  refine RunsS.nameAt (fun _ x=>x) 60 (by exact OpV.ok.up (hP.below.o _ (List.getElem_mem hk)) ((V6.trans U7).trans ⟨N7.gsub,fun _ _=>rfl⟩)) ?_
  conv=>whnf
  refine gS ?_;conv=>whnf
  refine RunsS.callX (N7.gsub) (collectstring_fn s.options[k].ch) (fun _ _=>trivial) [7] sH ?CNa11 ?_
  case CNa11=>rfl
  rintro r G8 h8 N8 J8
  conv=>whnf
  refine gS ?_;conv=>whnf
  have hrl:(rs.map fun r=>[Value.map (some r)]).length=rs.length:=List.length_map _
  have hL:=hL.O
  refine And.intro (appOb (show (rs.map fun r=>[Value.map (some r)]).length≤1000000 by omega)) ?_
  conv=>whnf
  have U8:=Now.step N7.gsub N8
  have em':(rs++[r]).length=k+1:=by rw [List.length_append,em];rfl
  have ho':=maps_snoc em (fun i h1 h2=>(ho i h1 h2).up U8) J8
  have er:(rs.map fun r=>[Value.map (some r)])++[[Value.map (some r)]]=(rs++[r]).map fun r=>[Value.map (some r)]:=by rw [List.map_append];rfl
  have es:=twice_step s hk
  rw [←eb] at es
  cases b with
  |true=>
   conv=>whnf
   repeat ((first|refine oL ?_|refine oR ?_);(try intro _);conv=>whnf)
   refine gS ?_;conv=>whnf
   refine RunsS.rowsEq 9 er ?_;conv=>whnf
   refine RunsS.subR [(5,9)] (back (⟨k+1,true,rs++[r],_,G8,h8⟩) (by exact (⟨N7.trans N8,U7.trans U8,hk,em',es,ho'⟩)) (by (try dsimp only);omega)) sH sH
  |false=>
   conv=>whnf
   repeat ((first|refine oL ?_|refine oR ?_);(try intro _);conv=>whnf)
   refine gS ?_;conv=>whnf
   refine RunsS.rowsEq 9 er ?_;conv=>whnf
   refine RunsS.subR [(5,9)] (back (⟨k+1,dupB s.options[k].ch,rs++[r],_,G8,h8⟩) (by exact (⟨N7.trans N8,U7.trans U8,hk,em',es,ho'⟩)) (by (try dsimp only);omega)) sH sH
 obtain ⟨N7,U7,_,em,eb,ho⟩:=hJ
 have hk:k=s.options.length:=by omega
 clear back
 rw [hk,twice_end] at eb
 subst eb
 conv=>whnf
 refine RunsS.conc (n:=s.options.length) (N7.gsub) 5 ?_ (hlen:=(by rw [List.length_map,em,hk]))
 intro aC cC G9 h9 N9 R9
 conv=>whnf
 refine gS ?_;conv=>whnf
 have U9:=U7.trans (Now.step N7.gsub N9)
 have W6':=W6.trans U9
 refine RunsS.retU ?_
 exact UnwS.ret tab Tryz.func27 rfl (eX (N7.trans N9) ((r1,r2,r3,r4,r5,aC,cC)) (fun h U=>⟨J1.up (W2.trans (W3.trans (W4.trans (W5.trans (W6'.trans U))))),J2.up (W3.trans (W4.trans (W5.trans (W6'.trans U)))),J3.up (W4.trans (W5.trans (W6'.trans U))),J4.up (W5.trans (W6'.trans U)),J5.up (W6'.trans U),rs.map fun r=>Value.map (some r),by rw [List.map_map];exact RoF.up U R9,by rw [List.length_map,em,hk],fun i h1 h2=>by rw [List.getElem_map];exact (ho i (by simpa using h1) h2).up ((Now.step N7.gsub N9).trans U)⟩))
end
end Go.Proofs.YtofjdbmcloemnaaGreatDoor

namespace Go.Proofs.YtofjdbmcloemnaaGreatDoor
open Go Go.Fw Go.NatM Go.RatM Go.SrcM
set_option maxRecDepth 100000
set_option maxHeartbeats 99999999
theorem resDN_fn:FnDS Tryz.prog 29 2 [.ptr 0 0,.ptr 1 0] [] .returning (fun _:Unit=>True) (fun _=>⟨.returning,2,[]⟩):=by
 refine FnDS.of Tryz.func29 (by kernel_rfl) rfl Tryz.ntmps29 rfl fun E0 F h w0 c0 cs=>?_
 refine gS ?_;conv=>whnf
 refine RunsS.recoverN ?_
 refine gS ?_;conv=>whnf
 refine RunsS.effV (fun E h=>eff_neNil0 Tryz.underlying20) ?_
 refine gS ?_;conv=>whnf
 refine RunsS.finU (UnwS.retD tab Tryz.func29 rfl (EndD.mk () trivial [] trivial rfl rfl rfl))
theorem resDP_fn (y:Value):FnDS Tryz.prog 29 2 [.ptr 0 0,.ptr 1 0] [(0,.cells 31 [.v (.slice none 0 0),.v (.slice none 0 0),.v (.slice none 0 0),.v (.slice none 0 0),.v (.slice none 0 0),.v (.slice none 0 0),.v (.slice none 0 0),.v (.slice none 0 0)]),(1,.cells 34 [.v y])] (.panicking failCh) (fun _:Unit=>True)
  (fun _=>⟨.panicking [{v:=.iface 161 (.agg #[]),recovered:=true}],2,[(0,.cells 31 [.v (.slice none 0 0),.v (.slice none 0 0),.v (.slice none 0 0),.v (.slice none 0 0),.v (.slice none 0 0),.v (.slice none 0 0),.v (.slice none 0 0),.v (.slice none 0 0)]),(1,.cells 34 [.v (.int .i64 110)])]⟩):=by
 refine FnDS.of Tryz.func29 (by kernel_rfl) rfl Tryz.ntmps29 rfl fun E0 F h w0 c0 cs=>?_
 refine gS ?_;conv=>whnf
 refine RunsS.recoverP ?_
 refine gS ?_;conv=>whnf
 refine RunsS.finU (UnwS.retD tab Tryz.func29 rfl (EndD.mk () trivial [] ⟨by rfl,by rfl,trivial⟩ rfl rfl rfl))
theorem TabT.up {F F' G':Nat→Prop} {h h':Array Obj} {G:Nat→Prop} (H:TabT F h) (N:Now F G h F' G' h'):TabT F' h':=tabOk.mono _ _ _ N.sub (tabOk.keep _ _ _ H N.kp)
theorem RoF.nil (G:Nat→Prop) (h:Array Obj) (sz:Nat):RoF G h (.slice none 0 0) sz []:=⟨fun _ h=>absurd h List.not_mem_nil,⟨Nat.zero_le _,Nat.le_refl _⟩,none,0,rfl,.inl rfl⟩
theorem TopF.none (G:Nat→Prop) (h:Array Obj):TopF G h (.slice none 0 0) (.slice none 0 0) (.slice none 0 0) (.slice none 0 0) (.slice none 0 0) (.slice none 0 0) (.slice none 0 0) (.slice none 0 0) noSrc:=
 ⟨RoF.nil _ _ _,RoF.nil _ _ _,RoF.nil _ _ _,RoF.nil _ _ _,RoF.nil _ _ _,RoF.nil _ _ _,RoF.nil _ _ _,RoF.nil _ _ _,fun _ h=>absurd h List.not_mem_nil,fun _ h=>absurd h List.not_mem_nil,fun _ h=>absurd h List.not_mem_nil⟩
structure RsV where
 t:SrcV
 e:Int
 U:Value
 I:Value
 P:Value
 M:Value
 O:Value
 F:Value
 R:Value
 S:Value
abbrev rsvOut (x:RsV):OutS:=.ret (.tup [.agg [.v x.U,.v x.I,.v x.P,.v x.M,.v x.O,.v x.F,.v x.R,.v x.S],.v (.int .i64 x.e)]) 0 []
structure RsJ (s:SrcV) (x:RsV) (G:Nat→Prop) (h:Array Obj):Prop where
 t:(resolveN s).1.bare=x.t.bare
 e:(resolveN s).2=x.e
 top:TopF G h x.U x.I x.P x.M x.O x.F x.R x.S x.t
abbrev nilV:Value:=.slice none 0 0
theorem rsj_no {s:SrcV} {e:Int} (h:resolveN s=(noSrc,e)) (G:Nat→Prop) (hh:Array Obj):RsJ s ⟨noSrc,e,nilV,nilV,nilV,nilV,nilV,nilV,nilV,nilV⟩ G hh:=⟨by rw [h],by rw [h],TopF.none _ _⟩
theorem nResolve_fn (s:SrcV) (vU vI vP vM vO vF vR vS:Value) (hL:Lens s) (hw:∀u∈s.units,i64 u.n∧i64 u.d):FnX Tryz.prog 11 0 [.agg [.v vU,.v vI,.v vP,.v vM,.v vO,.v vF,.v vR,.v vS]] [] (fun G h=>TopF G h vU vI vP vM vO vF vR vS s∧TabT G h) (RsJ s) rsvOut:=by
 have hlU:=hL.U
 refine FnX.of Tryz.func11 (by kernel_rfl) rfl Tryz.ntmps11 rfl fun E0 F G h N hP w0 cs=>?_
 conv=>whnf
 refine gS ?_;conv=>whnf
 obtain ⟨aU,cU,rfl⟩:=RoF.sli hP.1.U (rowsU_len s.units)
 refine RunsS.callX (N.gsub) (gather_fn (s:=s) _ vI vP vM vO vF vR vS hL) (fun h U=>hP.1.up U) [] sH ?CNa1 ?_
 case CNa1=>rfl
 rintro ⟨r1,r2,r3,r4,r5,aC,cC⟩ G1 h1 N1 J1
 conv=>whnf
 refine gS ?_;conv=>whnf
 have hTF:=TabT.up (tabOk.mono _ _ _ N.gsub hP.2) N1
 have V1:=Now.step N.gsub N1
 dsimp only at J1
 by_cases ht:twiceN s
 ·have hr:resolveN s=(noSrc,111):=by unfold resolveN;rw [if_pos ht]
  rw [decide_eq_true ht]
  conv=>whnf
  refine RunsS.retU ?_
  exact UnwS.ret tab Tryz.func11 rfl (eX (N1) (⟨noSrc,111,nilV,nilV,nilV,nilV,nilV,nilV,nilV,nilV⟩) (fun h U=>rsj_no hr _ _))
 rw [decide_eq_false ht]
 conv=>whnf
 refine RunsS.nameAt (fun _ x=>x) 16 (by exact RoF.up (V1.trans ⟨N1.gsub,fun _ _=>rfl⟩) hP.1.U) ?_
 conv=>whnf
 refine gS ?_;conv=>whnf
 refine RunsS.subR (nx':=5) (l':=[(1,.ptr 0 0),(2,.ptr 1 0),(3,.ptr 2 0),(4,.ptr 3 0),(16,.buf 4)]) (H':=[(0,.cells 31 [.v (.slice aU s.units.length cU),.v vI,.v vP,.v vM,.v vO,.v vF,.v vR,.v vS]),(1,.cells 31 [.v (.slice none 0 0),.v (.slice none 0 0),.v (.slice none 0 0),.v (.slice none 0 0),.v (.slice none 0 0),.v (.slice none 0 0),.v (.slice none 0 0),.v (.slice none 0 0)]),(2,.cells 34 [.v (.int .i64 0)]),(3,.cells 75 [.v (.map (some r1)),.v (.map (some r2)),.v (.map (some r3)),.v (.map (some r4)),.v (.map (some r5)),.v (.slice aC s.options.length cC)]),(4,.ro 8 (rowsU s.units))]) [] ?_ sH sH
 refine RunsS.callT (tabOk) (hTF) (resolve_fn s.units (by omega) hw) [4] sH ?CNa2 ?_
 case CNa2=>rfl
 rintro _ _
 cases hu:resolveU s.units with
 |inr e=>
  have hr:resolveN s=(noSrc,e):=by unfold resolveN;rw [if_neg ht,hu]
  have he:=resolveU_nz' hu
  conv=>whnf
  refine gS ?_;conv=>whnf
  repeat ((first|refine oL ?_|refine oR ?_);(try intro _);conv=>whnf)
  refine RunsS.held tab (.fl 0 (.fl 1 (.e1 2 [1] (.e1 3 [] .done)))) (by kernel_rfl) ?_;conv=>whnf
  try refine gR ?_;conv=>whnf
  repeat ((first|refine oL ?_|refine oR ?_|refine oB ?_);(try intro _);conv=>whnf)
  refine gS ?_;conv=>whnf
  conv=>whnf
  refine gS ?_;conv=>whnf
  refine RunsS.retU ?_
  exact UnwS.ret tab Tryz.func11 rfl (eX (N1) (⟨noSrc,e,nilV,nilV,nilV,nilV,nilV,nilV,nilV,nilV⟩) (fun h U=>rsj_no hr _ _))
 |inl u=>
  conv=>whnf
  refine gS ?_;conv=>whnf
  repeat ((first|refine oL ?_|refine oR ?_);(try intro _);conv=>whnf)
  refine RunsS.deferU ?_
  refine gS ?_;conv=>whnf
  refine RunsS.callX (N1.gsub) (source_fn _ vI vP vM vO vF vR vS hL) (fun h U=>⟨hP.1.up (V1.trans U),J1.up U⟩) [] sH ?CNa3 ?_
  case CNa3=>rfl
  rintro (_|⟨t,wU,wI,wP,wM,wO,wF,wR,wS⟩) G2 h2 N2 J2
  ·have hr:resolveN s=(noSrc,110):=by unfold resolveN;rw [if_neg ht,hu];simp only [show SrcM.resS s=none from J2]
   conv=>whnf
   refine UnwS.deferN (resDP_fn _) [1,2] ?_ ⟨by rfl,by rfl,trivial⟩ rfl (fun e=>by cases e)
   intro _ _
   (conv=>whnf)
   exact UnwS.ret tab Tryz.func11 rfl (eX (N1.trans N2) (⟨noSrc,110,nilV,nilV,nilV,nilV,nilV,nilV,nilV,nilV⟩) (fun h U=>rsj_no hr _ _))
  obtain ⟨j1,j2,j3⟩:=J2
  obtain ⟨t0,e0,e1⟩:=opt_map j1
  have hr:resolveN s=({t0 with units:=u},0):=by unfold resolveN;rw [if_neg ht,hu];simp only [e0]
  obtain ⟨b1,c1,rfl⟩:=RoF.sli j3.U rfl
  obtain ⟨b2,c2,rfl⟩:=RoF.sli j3.I rfl
  obtain ⟨b3,c3,rfl⟩:=RoF.sli j3.P rfl
  obtain ⟨b4,c4,rfl⟩:=RoF.sli j3.M rfl
  obtain ⟨b5,c5,rfl⟩:=RoF.sli j3.O rfl
  obtain ⟨b6,c6,rfl⟩:=RoF.sli j3.F rfl
  obtain ⟨b7,c7,rfl⟩:=RoF.sli j3.R rfl
  obtain ⟨b8,c8,rfl⟩:=RoF.sli j3.S rfl
  conv=>whnf
  refine RunsS.conc (n:=u.length) (N2.gsub) 5 ?_ (hlen:=rowsU_len u)
  intro b9 c9 G3 h3 N3 R3
  conv=>whnf
  refine gS ?_;conv=>whnf
  have U3:=Now.step N2.gsub N3
  refine RunsS.retU ?_
  refine UnwS.deferN resDN_fn [1,2] ?_ trivial rfl (fun e=>by cases e)
  intro _ _
  conv=>whnf
  exact UnwS.ret tab Tryz.func11 rfl (eX ((N1.trans N2).trans N3) (⟨{t with units:=u},0,_,_,_,_,_,_,_,_⟩) (fun h U=>⟨by rw [hr];exact congrArg (fun z:SrcV=>{z with units:=u}) e1,by rw [hr],RoF.up U R3,RoF.up (U3.trans U) j3.I,RoF.up (U3.trans U) j3.P,RoF.up (U3.trans U) j3.M,RoF.up (U3.trans U) j3.O,RoF.up (U3.trans U) j3.F,RoF.up (U3.trans U) j3.R,RoF.up (U3.trans U) j3.S,(j3.below.up (U3.trans U)).o,(j3.below.up (U3.trans U)).f,(j3.below.up (U3.trans U)).r⟩))

def idxO:Option Nat→Int
 |some k=>k
 |none=> -1
abbrev fndS:Option Nat→SV
 |some k=>.tup [.v (.int .i64 (k:Nat)),.v (.bool true)]
 |none=>.tup [.v (.int .i64 0),.v (.bool false)]
theorem findN_here {l:List ByteArray} {nm:ByteArray} {k:Nat} (hk:k<l.length) (e:l[k]=nm) (h:∀j (hj:j<l.length),j<k→l[j]≠nm):findN l nm=some k:=
 findN_some.2 ⟨hk,e,fun j hj=>h j (by omega) hj⟩
theorem findN_not {l:List ByteArray} {nm:ByteArray} (h:∀j (hj:j<l.length),j<l.length→l[j]≠nm):findN l nm=none:=
 findN_none.2 fun hm=>by
  obtain ⟨j,hj,e⟩:=List.getElem_of_mem hm
  exact h j hj hj e
theorem idxItc_fn (i:It) (nm:ByteArray):FnS Tryz.prog 94 2 [.agg (toV i.row),.ptr 0 0,.ptr 1 0] [(0,.cells 92 [.v (.func (.func 44) #[] #[])]),(1,.cells 9 [.v (.string nm)])] (fun _:Unit=>True) (fun _=>.ret (.v (.bool (decide (i.name=nm)))) 2 [(0,.cells 92 [.v (.func (.func 44) #[] #[])]),(1,.cells 9 [.v (.string nm)])]):=by
 refine FnS.of Tryz.func94 (by kernel_rfl) rfl Tryz.ntmps94 rfl fun E0 F h w0 cs=>?_
 conv=>whnf
 refine gS ?_;conv=>whnf
 refine RunsS.held tab (.fl 0 (.fl 1 (.fl 3 (.e1 2 [3] (.fl 4 (.fl 5 .done)))))) (by kernel_rfl) ?_;conv=>whnf
 try refine gR ?_;conv=>whnf
 conv=>whnf
 refine EffR.callV (fun Ez Hz Az Sz K=>itemName_fn i) (by (conv=>whnf);(repeat (guard_target=_∧_;refine And.intro (by (conv=>whnf);first|rfl|exact trivial) ?_;conv=>whnf));exact trivial) ?_
 conv=>whnf
 try refine gR ?_;conv=>whnf
 refine gS ?_;conv=>whnf
 refine RunsS.retU ?_
 exact UnwS.ret tab Tryz.func94 rfl (eN () trivial)
theorem idxItf_fn (l:List It) (nm:ByteArray):FnS Tryz.prog 93 3 [.buf 0,.fn (.func 94) [] [.ptr 1 0,.ptr 2 0]] [(0,.ro 6 (rws It.row l)),(1,.cells 92 [.v (.func (.func 44) #[] #[])]),(2,.cells 9 [.v (.string nm)])] (fun _:Unit=>True) (fun _=>.ret (.v (.int .i64 (idxO (findN (l.map It.name) nm)))) 3 []):=by
 have hl:(rws It.row l).length=l.length:=rws_len _ l
 have hn:(l.map It.name).length=l.length:=by first|rfl|exact List.length_map _
 obtain ⟨r,hr⟩:∃r,r=findN (l.map It.name) nm:=⟨_,rfl⟩
 rw [←hr]
 refine FnS.of Tryz.func93 (by kernel_rfl) rfl Tryz.ntmps93 rfl fun E0 F h w0 cs=>?_
 conv=>whnf
 refine gS ?_;conv=>whnf
 refine RunsS.lenB 0 (fun m0=>?_)
 conv=>whnf
 refine gS ?_;conv=>whnf
 refine RunsS.subR [] (RunsS.loop (fun (k:Nat)=>[(8,.v (.int .i64 k)),(7,.v (.int .i64 (rws It.row l).length)),(0,.buf 0),(1,.fn (.func 94) [] [.ptr 1 0,.ptr 2 0])]) (fun (k:Nat)=>[(0,.ro 6 (rws It.row l)),(1,.cells 92 [.v (.func (.func 44) #[] #[])]),(2,.cells 9 [.v (.string nm)])]) 3 (fun (k:Nat)=>k≤l.length ∧ ∀j (hj:j<(l.map It.name).length),j<k→(l.map It.name)[j]≠nm) (fun (k:Nat)=>l.length - k) ?round1 (0) ?J01) sH sH
 case J01=>exact (⟨Nat.zero_le _,fun _ _ h=>absurd h (Nat.not_lt_zero _)⟩)
 rintro k hJ back
 conv=>whnf
 refine gS ?_;conv=>whnf
 refine ⟨fun hk=>?_,fun hk=>?_⟩<;>conv=>whnf
 ·have hk:k<l.length:=by omega
  have hk2:k<(l.map It.name).length:=by rw [hn];exact hk
  have e:(l.map It.name)[k]=l[k].name:=by first|rfl|exact List.getElem_map ..
  conv=>whnf
  repeat ((first|refine oL ?_|refine oR ?_);(try intro _);conv=>whnf)
  refine ⟨_,rws_get hk,?_⟩;conv=>whnf
  try (refine oN ?_;conv=>whnf)
  have C:=idxItc_fn l[k] nm
  by_cases hm:l[k].name=nm
  ·rw [decide_eq_true hm] at C
   refine RunsS.callN (C) [1,2] ?_ sH ?CNa2
   case CNa2=>rfl
   intro _ _
   conv=>whnf
   refine gS ?_;conv=>whnf
   have:r=some k:=by rw [hr];exact findN_here hk2 (e.trans hm) hJ.2
   rw [this]
   refine RunsS.retU ?_
   exact UnwS.ret tab Tryz.func93 rfl (eN () trivial)
  rw [decide_eq_false hm] at C
  refine RunsS.callN (C) [1,2] ?_ sH ?CNa3
  case CNa3=>rfl
  intro _ _
  conv=>whnf
  refine gS ?_;conv=>whnf
  repeat ((first|refine oL ?_|refine oR ?_);(try intro _);conv=>whnf)
  refine RunsS.subR [] (back (k+1) (by exact (⟨hk,fun j hj h1=>(Nat.lt_or_eq_of_le (Nat.le_of_lt_succ h1)).elim (hJ.2 j hj) (fun e2=>by subst e2;rw [e];exact hm)⟩)) (by (try dsimp only);omega)) sH sH
 conv=>whnf
 have hk:k=(l.map It.name).length:=by omega
 have:r=none:=by rw [hr];exact findN_not (fun j hj h=>hJ.2 j hj (by omega))
 rw [this]
 refine RunsS.retU ?_
 exact UnwS.ret tab Tryz.func93 rfl (eN () trivial)
theorem indexIt_fn (l:List It) (nm:ByteArray):FnS Tryz.prog 43 1 [.buf 0,.v (.string nm),.v (.func (.func 44) #[] #[])] [(0,.ro 6 (rws It.row l))] (fun _:Unit=>True) (fun _=>.ret (fndS (findN (l.map It.name) nm)) 1 []):=by
 refine FnS.of Tryz.func43 (by kernel_rfl) rfl Tryz.ntmps43 rfl fun E0 F h w0 cs=>?_
 conv=>whnf
 refine gS ?_;conv=>whnf
 refine RunsS.callN (idxItf_fn l nm) [0,2,1] ?_ sH ?CNa5
 case CNa5=>rfl
 intro _ _
 conv=>whnf
 refine gS ?_;conv=>whnf
 cases findN (l.map It.name) nm with
 |some k=>
  refine And.intro (fun hp=>absurd hp (Int.not_lt.2 (Int.natCast_nonneg k))) (fun _=>?_)
  conv=>whnf
  refine RunsS.retU ?_
  exact UnwS.ret tab Tryz.func43 rfl (eN () trivial)
 |none=>
  refine And.intro (fun _=>?_) (fun hn=>absurd (show (-1:Int)<0 by decide) hn)
  conv=>whnf
  refine RunsS.retU ?_
  exact UnwS.ret tab Tryz.func43 rfl (eN () trivial)
theorem idxStc_fn (i:ByteArray) (nm:ByteArray):FnS Tryz.prog 96 2 [.v (.string i),.ptr 0 0,.ptr 1 0] [(0,.cells 95 [.v (.func (.func 47) #[] #[])]),(1,.cells 9 [.v (.string nm)])] (fun _:Unit=>True) (fun _=>.ret (.v (.bool (decide (i=nm)))) 2 [(0,.cells 95 [.v (.func (.func 47) #[] #[])]),(1,.cells 9 [.v (.string nm)])]):=by
 refine FnS.of Tryz.func96 (by kernel_rfl) rfl Tryz.ntmps96 rfl fun E0 F h w0 cs=>?_
 conv=>whnf
 refine gS ?_;conv=>whnf
 refine RunsS.held tab (.fl 0 (.fl 1 (.fl 3 (.e1 2 [3] (.fl 4 (.fl 5 .done)))))) (by kernel_rfl) ?_;conv=>whnf
 try refine gR ?_;conv=>whnf
 conv=>whnf
 refine EffR.callV (fun Ez Hz Az Sz K=>itself_fn i) (by (conv=>whnf);(repeat (guard_target=_∧_;refine And.intro (by (conv=>whnf);first|rfl|exact trivial) ?_;conv=>whnf));exact trivial) ?_
 conv=>whnf
 try refine gR ?_;conv=>whnf
 refine gS ?_;conv=>whnf
 refine RunsS.retU ?_
 exact UnwS.ret tab Tryz.func96 rfl (eN () trivial)
theorem idxStf_fn (l:List ByteArray) (nm:ByteArray):FnS Tryz.prog 95 3 [.buf 0,.fn (.func 96) [] [.ptr 1 0,.ptr 2 0]] [(0,.ro 1 (rwsB l)),(1,.cells 95 [.v (.func (.func 47) #[] #[])]),(2,.cells 9 [.v (.string nm)])] (fun _:Unit=>True) (fun _=>.ret (.v (.int .i64 (idxO (findN (l) nm)))) 3 []):=by
 have hl:(rwsB l).length=l.length:=rws_len _ l
 have hn:(l).length=l.length:=by first|rfl|exact List.length_map _
 obtain ⟨r,hr⟩:∃r,r=findN (l) nm:=⟨_,rfl⟩
 rw [←hr]
 refine FnS.of Tryz.func95 (by kernel_rfl) rfl Tryz.ntmps95 rfl fun E0 F h w0 cs=>?_
 conv=>whnf
 refine gS ?_;conv=>whnf
 refine RunsS.lenB 0 (fun m0=>?_)
 conv=>whnf
 refine gS ?_;conv=>whnf
 refine RunsS.subR [] (RunsS.loop (fun (k:Nat)=>[(8,.v (.int .i64 k)),(7,.v (.int .i64 (rwsB l).length)),(0,.buf 0),(1,.fn (.func 96) [] [.ptr 1 0,.ptr 2 0])]) (fun (k:Nat)=>[(0,.ro 1 (rwsB l)),(1,.cells 95 [.v (.func (.func 47) #[] #[])]),(2,.cells 9 [.v (.string nm)])]) 3 (fun (k:Nat)=>k≤l.length ∧ ∀j (hj:j<(l).length),j<k→(l)[j]≠nm) (fun (k:Nat)=>l.length - k) ?round6 (0) ?J06) sH sH
 case J06=>exact (⟨Nat.zero_le _,fun _ _ h=>absurd h (Nat.not_lt_zero _)⟩)
 rintro k hJ back
 conv=>whnf
 refine gS ?_;conv=>whnf
 refine ⟨fun hk=>?_,fun hk=>?_⟩<;>conv=>whnf
 ·have hk:k<l.length:=by omega
  have hk2:k<(l).length:=by rw [hn];exact hk
  have e:(l)[k]=l[k]:=by first|rfl|exact List.getElem_map ..
  conv=>whnf
  repeat ((first|refine oL ?_|refine oR ?_);(try intro _);conv=>whnf)
  refine ⟨_,rws_get hk,?_⟩;conv=>whnf
  have C:=idxStc_fn l[k] nm
  by_cases hm:l[k]=nm
  ·rw [decide_eq_true hm] at C
   refine RunsS.callN (C) [1,2] ?_ sH ?CNa7
   case CNa7=>rfl
   intro _ _
   conv=>whnf
   refine gS ?_;conv=>whnf
   have:r=some k:=by rw [hr];exact findN_here hk2 (e.trans hm) hJ.2
   rw [this]
   refine RunsS.retU ?_
   exact UnwS.ret tab Tryz.func95 rfl (eN () trivial)
  rw [decide_eq_false hm] at C
  refine RunsS.callN (C) [1,2] ?_ sH ?CNa8
  case CNa8=>rfl
  intro _ _
  conv=>whnf
  refine gS ?_;conv=>whnf
  repeat ((first|refine oL ?_|refine oR ?_);(try intro _);conv=>whnf)
  refine RunsS.subR [] (back (k+1) (by exact (⟨hk,fun j hj h1=>(Nat.lt_or_eq_of_le (Nat.le_of_lt_succ h1)).elim (hJ.2 j hj) (fun e2=>by subst e2;rw [e];exact hm)⟩)) (by (try dsimp only);omega)) sH sH
 conv=>whnf
 have hk:k=(l).length:=by omega
 have:r=none:=by rw [hr];exact findN_not (fun j hj h=>hJ.2 j hj (by omega))
 rw [this]
 refine RunsS.retU ?_
 exact UnwS.ret tab Tryz.func95 rfl (eN () trivial)
theorem indexSt_fn (l:List ByteArray) (nm:ByteArray):FnS Tryz.prog 46 1 [.buf 0,.v (.string nm),.v (.func (.func 47) #[] #[])] [(0,.ro 1 (rwsB l))] (fun _:Unit=>True) (fun _=>.ret (fndS (findN (l) nm)) 1 []):=by
 refine FnS.of Tryz.func46 (by kernel_rfl) rfl Tryz.ntmps46 rfl fun E0 F h w0 cs=>?_
 conv=>whnf
 refine gS ?_;conv=>whnf
 refine RunsS.callN (idxStf_fn l nm) [0,2,1] ?_ sH ?CNa10
 case CNa10=>rfl
 intro _ _
 conv=>whnf
 refine gS ?_;conv=>whnf
 cases findN (l) nm with
 |some k=>
  refine And.intro (fun hp=>absurd hp (Int.not_lt.2 (Int.natCast_nonneg k))) (fun _=>?_)
  conv=>whnf
  refine RunsS.retU ?_
  exact UnwS.ret tab Tryz.func46 rfl (eN () trivial)
 |none=>
  refine And.intro (fun _=>?_) (fun hn=>absurd (show (-1:Int)<0 by decide) hn)
  conv=>whnf
  refine RunsS.retU ?_
  exact UnwS.ret tab Tryz.func46 rfl (eN () trivial)
end Go.Proofs.YtofjdbmcloemnaaGreatDoor

namespace Go.SrcM
open Go Go.Fw Go.RatM
theorem TopF.tok (vU vI vP vM vO vF vR vS:Value) (s:SrcV):TOk (fun F h=>TopF F h vU vI vP vM vO vF vR vS s):=⟨fun _ _ _ hs H=>H.up ⟨hs,fun _ _=>rfl⟩,fun _ _ _ H K=>H.up ⟨fun _ x=>x,K.same⟩⟩
def chOf (s:SrcV) (o:Int):List ByteArray:=if 0≤o∧o<s.options.length then ((s.options[o.toNat]?).map OpV.ch).getD [] else []
theorem chOf_in {s:SrcV} {o:Int} (h:0≤o∧o<s.options.length):∃k:Nat,∃hk:k<s.options.length,o=k∧chOf s o=s.options[k].ch:=by
 refine ⟨o.toNat,by omega,by omega,?_⟩
 unfold chOf
 rw [if_pos h,List.getElem?_eq_getElem (by omega)]
 rfl
end Go.SrcM
namespace Go.Proofs.YtofjdbmcloemnaaGreatDoor
open Go Go.Fw Go.NatM Go.RatM Go.SrcM
set_option maxRecDepth 100000
set_option maxHeartbeats 99999999
section
variable {vU vI vP vM vO vF vR vS:Value}
abbrev zC:Fw.Blk:=.cells 31 [.v (.slice none 0 0),.v (.slice none 0 0),.v (.slice none 0 0),.v (.slice none 0 0),.v (.slice none 0 0),.v (.slice none 0 0),.v (.slice none 0 0),.v (.slice none 0 0)]
abbrev vC (vU vI vP vM vO vF vR vS:Value):Fw.Blk:=.cells 31 [.v vU,.v vI,.v vP,.v vM,.v vO,.v vF,.v vR,.v vS]
abbrev sC (aU:Option Addr) (cU:Nat) (aI:Option Addr) (cI:Nat) (aP:Option Addr) (cP:Nat) (aM:Option Addr) (cM:Nat) (aO:Option Addr) (cO:Nat) (aF:Option Addr) (cF:Nat) (aR:Option Addr) (cR:Nat) (aS:Option Addr) (cS:Nat) (s:SrcV):Fw.Blk:=.cells 31 [.v (.slice aU s.units.length cU),.v (.slice aI s.items.length cI),.v (.slice aP s.plants.length cP),.v (.slice aM s.machines.length cM),.v (.slice aO s.options.length cO),.v (.slice aF s.forbids.length cF),.v (.slice aR s.recipes.length cR),.v (.slice aS s.swaps.length cS)]
abbrev srcA (vU vI vP vM vO vF vR vS:Value):SV:=.agg [.v vU,.v vI,.v vP,.v vM,.v vO,.v vF,.v vR,.v vS]
abbrev TopT (vU vI vP vM vO vF vR vS:Value) (s:SrcV) (F:Nat→Prop) (h:Array Obj):Prop:=TopF F h vU vI vP vM vO vF vR vS s
theorem nItem_fn (s:SrcV) (nm:ByteArray):FnT Tryz.prog (TopT vU vI vP vM vO vF vR vS s) 20 0 [srcA vU vI vP vM vO vF vR vS,.v (.string nm)] [] (fun _:Unit=>True) (fun _=>.ret (fndS (findN (s.items.map It.name) nm)) 0 []):=by
 refine FnT.of Tryz.func20 (by kernel_rfl) rfl Tryz.ntmps20 rfl fun E0 F h hT w0 cs=>?_
 conv=>whnf
 refine gS ?_;conv=>whnf
 refine RunsS.nameAt (fun _ x=>x) 7 (by exact hT.I) ?_
 conv=>whnf
 refine gS ?_;conv=>whnf
 refine RunsS.callN (indexIt_fn s.items nm) [1] ?_ sH ?CNa1
 case CNa1=>rfl
 intro _ _
 conv=>whnf
 refine gS ?_;conv=>whnf
 cases findN (s.items.map It.name) nm with
 |some k=>
  conv=>whnf
  refine gS ?_;conv=>whnf
  refine RunsS.retU ?_
  exact UnwS.ret tab Tryz.func20 rfl (eN () trivial)
 |none=>
  conv=>whnf
  refine gS ?_;conv=>whnf
  refine RunsS.retU ?_
  exact UnwS.ret tab Tryz.func20 rfl (eN () trivial)
theorem nPlant_fn (s:SrcV) (nm:ByteArray):FnT Tryz.prog (TopT vU vI vP vM vO vF vR vS s) 22 0 [srcA vU vI vP vM vO vF vR vS,.v (.string nm)] [] (fun _:Unit=>True) (fun _=>.ret (fndS (findN s.plants nm)) 0 []):=by
 refine FnT.of Tryz.func22 (by kernel_rfl) rfl Tryz.ntmps22 rfl fun E0 F h hT w0 cs=>?_
 conv=>whnf
 refine gS ?_;conv=>whnf
 refine RunsS.nameAt (fun _ x=>x) 7 (by exact hT.P) ?_
 conv=>whnf
 refine gS ?_;conv=>whnf
 refine RunsS.callN (indexSt_fn s.plants nm) [1] ?_ sH ?CNa2
 case CNa2=>rfl
 intro _ _
 conv=>whnf
 refine gS ?_;conv=>whnf
 cases findN s.plants nm with
 |some k=>
  conv=>whnf
  refine gS ?_;conv=>whnf
  refine RunsS.retU ?_
  exact UnwS.ret tab Tryz.func22 rfl (eN () trivial)
 |none=>
  conv=>whnf
  refine gS ?_;conv=>whnf
  refine RunsS.retU ?_
  exact UnwS.ret tab Tryz.func22 rfl (eN () trivial)
theorem nChoice_fn (s:SrcV) (o:Int) (nm:ByteArray):FnT Tryz.prog (TopT vU vI vP vM vO vF vR vS s) 24 0 [srcA vU vI vP vM vO vF vR vS,.v (.int .i64 o),.v (.string nm)] [] (fun _:Unit=>True) (fun _=>.ret (fndS (findN (chOf s o) nm)) 0 []):=by
 refine FnT.of Tryz.func24 (by kernel_rfl) rfl Tryz.ntmps24 rfl fun E0 F h hT w0 cs=>?_
 (conv=>whnf)
 obtain ⟨aO,cO,rfl⟩:=RoF.sli hT.O (rws_len OpV.row s.options)
 have hl:=rws_len OpV.row s.options
 refine goS_run tab 4 _ _ _ _ ?_
 (conv=>whnf)
 refine RunsS.nameCell (fun _ x=>x) 0 4 (by exact hT.O) ?_
 conv=>whnf
 refine gS ?_;conv=>whnf
 refine ⟨fun h0=>?_,fun h0=>?_⟩<;>conv=>whnf
 ·have:findN (chOf s o) nm=none:=by unfold chOf;rw [if_neg (by omega)];rfl
  rw [this]
  conv=>whnf
  refine RunsS.retU ?_
  exact UnwS.ret tab Tryz.func24 rfl (eN () trivial)
 conv=>whnf
 refine ⟨fun h1=>?_,fun h1=>?_⟩<;>conv=>whnf
 ·have:findN (chOf s o) nm=none:=by unfold chOf;rw [if_neg (by omega)];rfl
  rw [this]
  conv=>whnf
  refine RunsS.retU ?_
  exact UnwS.ret tab Tryz.func24 rfl (eN () trivial)
 obtain ⟨k,hk,rfl,e⟩:=chOf_in (show 0≤o∧o<s.options.length by omega)
 rw [e]
 conv=>whnf
 repeat ((first|refine oL ?_|refine oR ?_);(try intro _);conv=>whnf)
 refine ⟨_,rws_get hk,?_⟩;conv=>whnf
 refine RunsS.nameAt (fun _ x=>x) 22 (by exact hT.below.o _ (List.getElem_mem hk)) ?_
 conv=>whnf
 refine gS ?_;conv=>whnf
 refine RunsS.callN (indexSt_fn s.options[k].ch nm) [2] ?_ sH ?CNa3
 case CNa3=>rfl
 intro _ _
 conv=>whnf
 refine gS ?_;conv=>whnf
 cases findN s.options[k].ch nm with
 |some j=>
  conv=>whnf
  refine gS ?_;conv=>whnf
  refine RunsS.retU ?_
  exact UnwS.ret tab Tryz.func24 rfl (eN () trivial)
 |none=>
  conv=>whnf
  refine gS ?_;conv=>whnf
  refine RunsS.retU ?_
  exact UnwS.ret tab Tryz.func24 rfl (eN () trivial)
end
end Go.Proofs.YtofjdbmcloemnaaGreatDoor

namespace Go.Proofs.YtofjdbmcloemnaaGreatDoor
open Go Go.Fw Go.NatM Go.RatM Go.SrcM
set_option maxRecDepth 100000
set_option maxHeartbeats 99999999
theorem rfindR_fn (l:List ByteArray) (nm:ByteArray) (hb:l.length≤1000000):FnS Tryz.prog 33 1 [.buf 0,.v (.string nm)] [(0,.ro 1 (rwsB l))] (fun _:Unit=>True) (fun _=>.ret (.v (.int .i64 (idxO (findN l nm)))) 1 [(0,.ro 1 (rwsB l))]):=by
 have hl:=rwsB_len l
 obtain ⟨r,hr⟩:∃r,r=findN l nm:=⟨_,rfl⟩
 rw [←hr]
 refine FnS.of Tryz.func33 (by kernel_rfl) rfl Tryz.ntmps33 rfl fun E0 F h w0 cs=>?_
 conv=>whnf
 refine gS ?_;conv=>whnf
 refine RunsS.subR [] (RunsS.loop (fun (k:Nat)=>[(5,.v (.int .i64 k)),(0,.buf 0),(1,.v (.string nm))]) (fun (k:Nat)=>[(0,.ro 1 (rwsB l))]) 1 (fun (k:Nat)=>k≤l.length ∧ ∀j (hj:j<l.length),j<k→l[j]≠nm) (fun (k:Nat)=>l.length - k) ?round1 (0) ?J01) sH sH
 case J01=>exact (⟨Nat.zero_le _,fun _ _ h=>absurd h (Nat.not_lt_zero _)⟩)
 rintro k hJ back
 conv=>whnf
 refine gS ?_;conv=>whnf
 refine ⟨fun hk=>?_,fun hk=>?_⟩<;>conv=>whnf
 ·have hk:k<l.length:=by omega
  conv=>whnf
  repeat ((first|refine oL ?_|refine oR ?_);(try intro _);conv=>whnf)
  refine ⟨_,rws_get hk,?_⟩;conv=>whnf
  by_cases hm:l[k]=nm
  ·refine And.intro (fun _=>?_) (fun hn=>absurd (hm) hn)
   conv=>whnf
   have:r=some k:=by rw [hr];exact findN_here hk hm hJ.2
   rw [this]
   refine RunsS.retU ?_
   exact UnwS.ret tab Tryz.func33 rfl (eN () trivial)
  refine And.intro (fun hp=>absurd hp (hm)) (fun _=>?_)
  conv=>whnf
  repeat ((first|refine oL ?_|refine oR ?_);(try intro _);conv=>whnf)
  refine RunsS.subR [] (back (k+1) (by exact (⟨hk,fun j hj h1=>(Nat.lt_or_eq_of_le (Nat.le_of_lt_succ h1)).elim (hJ.2 j hj) (fun e2=>by subst e2;exact hm)⟩)) (by (try dsimp only);omega)) sH sH
 conv=>whnf
 have:r=none:=by rw [hr];exact findN_not (fun j hj h=>hJ.2 j hj (by omega))
 rw [this]
 refine RunsS.retU ?_
 exact UnwS.ret tab Tryz.func33 rfl (eN () trivial)
theorem rfindO_fn (l:List ByteArray) (nm:ByteArray) (hb:l.length≤1000000):FnS Tryz.prog 33 1 [.buf 0,.v (.string nm)] [(0,.own 9 1 (rwsB l))] (fun _:Unit=>True) (fun _=>.ret (.v (.int .i64 (idxO (findN l nm)))) 1 [(0,.own 9 1 (rwsB l))]):=by
 have hl:=rwsB_len l
 obtain ⟨r,hr⟩:∃r,r=findN l nm:=⟨_,rfl⟩
 rw [←hr]
 refine FnS.of Tryz.func33 (by kernel_rfl) rfl Tryz.ntmps33 rfl fun E0 F h w0 cs=>?_
 conv=>whnf
 refine gS ?_;conv=>whnf
 refine RunsS.subR [] (RunsS.loop (fun (k:Nat)=>[(5,.v (.int .i64 k)),(0,.buf 0),(1,.v (.string nm))]) (fun (k:Nat)=>[(0,.own 9 1 (rwsB l))]) 1 (fun (k:Nat)=>k≤l.length ∧ ∀j (hj:j<l.length),j<k→l[j]≠nm) (fun (k:Nat)=>l.length - k) ?round6 (0) ?J06) sH sH
 case J06=>exact (⟨Nat.zero_le _,fun _ _ h=>absurd h (Nat.not_lt_zero _)⟩)
 rintro k hJ back
 conv=>whnf
 refine gS ?_;conv=>whnf
 refine ⟨fun hk=>?_,fun hk=>?_⟩<;>conv=>whnf
 ·have hk:k<l.length:=by omega
  conv=>whnf
  repeat ((first|refine oL ?_|refine oR ?_);(try intro _);conv=>whnf)
  refine ⟨_,rws_get hk,?_⟩;conv=>whnf
  by_cases hm:l[k]=nm
  ·refine And.intro (fun _=>?_) (fun hn=>absurd (hm) hn)
   conv=>whnf
   have:r=some k:=by rw [hr];exact findN_here hk hm hJ.2
   rw [this]
   refine RunsS.retU ?_
   exact UnwS.ret tab Tryz.func33 rfl (eN () trivial)
  refine And.intro (fun hp=>absurd hp (hm)) (fun _=>?_)
  conv=>whnf
  repeat ((first|refine oL ?_|refine oR ?_);(try intro _);conv=>whnf)
  refine RunsS.subR [] (back (k+1) (by exact (⟨hk,fun j hj h1=>(Nat.lt_or_eq_of_le (Nat.le_of_lt_succ h1)).elim (hJ.2 j hj) (fun e2=>by subst e2;exact hm)⟩)) (by (try dsimp only);omega)) sH sH
 conv=>whnf
 have:r=none:=by rw [hr];exact findN_not (fun j hj h=>hJ.2 j hj (by omega))
 rw [this]
 refine RunsS.retU ?_
 exact UnwS.ret tab Tryz.func33 rfl (eN () trivial)
section
variable {vU vI vP vM vO vF vR vS:Value}
theorem take_names {l:List ByteArray} {k:Nat} (hk:k<l.length):rwsB (l.take k)++[[Value.string l[k]]]=rwsB (l.take (k+1)):=by
 rw [take_snoc hk];show _=(l.take k++[l[k]]).map _;rw [List.map_append];rfl
theorem ritems_fn (s:SrcV) (hL:Lens s):FnT Tryz.prog (TopT vU vI vP vM vO vF vR vS s) 37 0 [srcA vU vI vP vM vO vF vR vS] [] (fun _:Unit=>True) (fun _=>.ret (.buf 0) 1 [(0,.own 9 1 (rwsB (s.items.map It.name)))]):=by
 have hl:=hL.I
 have hn:(s.items.map It.name).length=s.items.length:=List.length_map _
 have hr:(rws It.row s.items).length=s.items.length:=by first|exact rowsU_len _|exact rws_len _ _
 refine FnT.of Tryz.func37 (by kernel_rfl) rfl Tryz.ntmps37 rfl fun E0 F h hT w0 cs=>?_
 conv=>whnf
 refine gS ?_;conv=>whnf
 refine RunsS.nameCell (fun _ x=>x) 0 1 (by exact hT.I) ?_
 conv=>whnf
 refine gS ?_;conv=>whnf
 refine RunsS.subR [] (RunsS.loop (fun (k:Nat)=>[(4,.v (.int .i64 k)),(3,.buf 1),(1,.ptr 0 0)]) (fun (k:Nat)=>[(2,.ro 6 (rws It.row s.items)),(1,.own 9 1 (rwsB ((s.items.map It.name).take k))),(0,.cells 31 [.v vU,.buf 2,.v vP,.v vM,.v vO,.v vF,.v vR,.v vS])]) 3 (fun (k:Nat)=>k≤s.items.length) (fun (k:Nat)=>s.items.length - k) ?round13 (0) ?J013) sH sH
 case J013=>first|omega|trivial
 rintro k hJ back
 conv=>whnf
 refine gS ?_;conv=>whnf
 refine ⟨fun hk=>?_,fun hk=>?_⟩<;>conv=>whnf
 ·have hk:k<s.items.length:=by omega
  have hk2:k<(s.items.map It.name).length:=by rw [hn];exact hk
  have e:(s.items.map It.name)[k]=s.items[k].name:=List.getElem_map ..
  have hkl:=rwsB_len ((s.items.map It.name).take k)
  rw [List.length_take,Nat.min_eq_left (Nat.le_of_lt hk2)] at hkl
  conv=>whnf
  repeat ((first|refine oL ?_|refine oR ?_);(try intro _);conv=>whnf)
  refine ⟨_,rws_get hk,?_⟩;conv=>whnf
  refine And.intro (appOb (show (rwsB ((s.items.map It.name).take k)).length≤1000000 by omega)) ?_
  conv=>whnf
  repeat ((first|refine oL ?_|refine oR ?_);(try intro _);conv=>whnf)
  refine RunsS.rowsEq 4 ((congrArg (fun z=>rwsB ((s.items.map It.name).take k)++[[Value.string z]]) e.symm).trans (take_names hk2)) ?_
  conv=>whnf
  refine RunsS.subR [(1,4)] (back (k+1) (by (try dsimp only);first|omega|trivial) (by (try dsimp only);omega)) sH sH
 conv=>whnf
 have hk:k=(s.items.map It.name).length:=by omega
 clear back
 refine RunsS.rowsEq 1 (show rwsB ((s.items.map It.name).take k)=rwsB (s.items.map It.name) by rw [hk,List.take_length]) ?_
 conv=>whnf
 refine RunsS.retU ?_
 exact UnwS.ret tab Tryz.func37 rfl (EndS.mk (()) (trivial) [(0,1)] sH rfl rfl (okRet rfl rfl))
end
end Go.Proofs.YtofjdbmcloemnaaGreatDoor

namespace Go.SrcM
open Go Go.Fw Go.RatM
def chV (s:SrcV) (o:Int):Value:=if 0≤o∧o<s.options.length then ((s.options[o.toNat]?).map fun q=>q.hd.v q.ch.length).getD (.slice none 0 0) else .slice none 0 0
theorem chV_in {s:SrcV} {k:Nat} (hk:k<s.options.length):chV s k=s.options[k].hd.v s.options[k].ch.length∧chOf s k=s.options[k].ch:=by
 unfold chV chOf
 rw [if_pos (by omega),if_pos (by omega)]
 simp [List.getElem?_eq_getElem hk]
theorem chV_out {s:SrcV} {o:Int} (h:¬(0≤o∧o<s.options.length)):chV s o=.slice none 0 0∧chOf s o=[]:=by
 unfold chV chOf
 rw [if_neg h,if_neg h]
 exact ⟨rfl,rfl⟩
theorem Lens.ch {s:SrcV} (hL:Lens s) (o:Int):(chOf s o).length≤1000000:=by
 by_cases h:0≤o∧o<s.options.length
 ·obtain ⟨k,hk,_,e⟩:=chOf_in h
  rw [e];exact hL.o _ (List.getElem_mem hk)
 rw [(chV_out h).2];exact Nat.zero_le _
end Go.SrcM
namespace Go.Proofs.YtofjdbmcloemnaaGreatDoor
open Go Go.Fw Go.NatM Go.RatM Go.SrcM
set_option maxRecDepth 100000
set_option maxHeartbeats 99999999
theorem chV_ok {s:SrcV} {G:Nat→Prop} {h:Array Obj} (H:s.sub G h) (o:Int):RoF G h (chV s o) 1 (rwsB (chOf s o)):=by
 by_cases hi:0≤o∧o<s.options.length
 ·obtain ⟨k,hk,rfl,_⟩:=chOf_in hi
  rw [(chV_in hk).1,(chV_in hk).2]
  exact H.o _ (List.getElem_mem hk)
 rw [(chV_out hi).1,(chV_out hi).2]
 exact RoF.nil _ _ _
section
variable {vU vI vP vM vO vF vR vS:Value}
theorem rchoices_fn (s:SrcV) (o:Int):FnT Tryz.prog (TopT vU vI vP vM vO vF vR vS s) 48 0 [srcA vU vI vP vM vO vF vR vS,.v (.int .i64 o)] [] (fun _:Unit=>True) (fun _=>.ret (.v (chV s o)) 0 []):=by
 refine FnT.of Tryz.func48 (by kernel_rfl) rfl Tryz.ntmps48 rfl fun E0 F h hT w0 cs=>?_
 (conv=>whnf)
 have hl:=rws_len OpV.row s.options
 refine goS_run tab 3 _ _ _ _ ?_
 (conv=>whnf)
 refine RunsS.nameCell (fun _ x=>x) 0 4 (by exact hT.O) ?_
 conv=>whnf
 refine gS ?_;conv=>whnf
 refine ⟨fun h0=>?_,fun h0=>?_⟩<;>conv=>whnf
 ·rw [(chV_out (show ¬(0≤o∧o<s.options.length) by omega)).1]
  conv=>whnf
  refine RunsS.retU ?_
  exact UnwS.ret tab Tryz.func48 rfl (eN () trivial)
 conv=>whnf
 refine ⟨fun h1=>?_,fun h1=>?_⟩<;>conv=>whnf
 ·rw [(chV_out (show ¬(0≤o∧o<s.options.length) by omega)).1]
  conv=>whnf
  refine RunsS.retU ?_
  exact UnwS.ret tab Tryz.func48 rfl (eN () trivial)
 obtain ⟨k,hk,rfl,e⟩:=chOf_in (show 0≤o∧o<s.options.length by omega)
 rw [(chV_in hk).1]
 conv=>whnf
 repeat ((first|refine oL ?_|refine oR ?_);(try intro _);conv=>whnf)
 refine ⟨_,rws_get hk,?_⟩;conv=>whnf
 refine RunsS.retU ?_
 exact UnwS.ret tab Tryz.func48 rfl (eN () trivial)
end
end Go.Proofs.YtofjdbmcloemnaaGreatDoor

namespace Go.SrcM
open Go Go.Fw Go.RatM
def idxOf (l:List ByteArray) (nm:ByteArray):Int:=match findN l nm with
 |some k=>k
 |none=> -1
theorem idxOf_some {l:List ByteArray} {nm:ByteArray} {k:Nat} (h:findN l nm=some k):idxOf l nm=k:=by unfold idxOf;rw [h]
theorem idxOf_none {l:List ByteArray} {nm:ByteArray} (h:findN l nm=none):idxOf l nm = -1:=by unfold idxOf;rw [h]
end Go.SrcM
namespace Go.Proofs.YtofjdbmcloemnaaGreatDoor
open Go Go.Fw Go.NatM Go.RatM Go.SrcM
set_option maxRecDepth 100000
set_option maxHeartbeats 99999999
theorem idxO_Of (l:List ByteArray) (nm:ByteArray):idxO (findN l nm)=idxOf l nm:=by unfold idxOf idxO;rfl
theorem rfindV_fn (v:Value) (l:List ByteArray) (nm:ByteArray) (hb:l.length≤1000000):FnT Tryz.prog (fun F h=>RoF F h v 1 (rwsB l)) 33 0 [.v v,.v (.string nm)] [] (fun _:Unit=>True) (fun _=>.ret (.v (.int .i64 (idxOf l nm))) 0 []):=by
 have hl:=rwsB_len l
 rw [←idxO_Of]
 obtain ⟨r,hr⟩:∃r,r=findN l nm:=⟨_,rfl⟩
 rw [←hr]
 refine FnT.of Tryz.func33 (by kernel_rfl) rfl Tryz.ntmps33 rfl fun E0 F h hT w0 cs=>?_
 (conv=>whnf)
 refine RunsS.nameAt (fun _ x=>x) 0 (by exact hT) ?_
 conv=>whnf
 refine gS ?_;conv=>whnf
 refine RunsS.subR [] (RunsS.loop (fun (k:Nat)=>[(5,.v (.int .i64 k)),(0,.buf 0),(1,.v (.string nm))]) (fun (k:Nat)=>[(0,.ro 1 (rwsB l))]) 1 (fun (k:Nat)=>k≤l.length ∧ ∀j (hj:j<l.length),j<k→l[j]≠nm) (fun (k:Nat)=>l.length - k) ?round1 (0) ?J01) sH sH
 case J01=>exact (⟨Nat.zero_le _,fun _ _ h=>absurd h (Nat.not_lt_zero _)⟩)
 rintro k hJ back
 conv=>whnf
 refine gS ?_;conv=>whnf
 refine ⟨fun hk=>?_,fun hk=>?_⟩<;>conv=>whnf
 ·have hk:k<l.length:=by omega
  conv=>whnf
  repeat ((first|refine oL ?_|refine oR ?_);(try intro _);conv=>whnf)
  refine ⟨_,rws_get hk,?_⟩;conv=>whnf
  by_cases hm:l[k]=nm
  ·refine And.intro (fun _=>?_) (fun hn=>absurd (hm) hn)
   conv=>whnf
   have:r=some k:=by rw [hr];exact findN_here hk hm hJ.2
   rw [this]
   refine RunsS.retU ?_
   exact UnwS.ret tab Tryz.func33 rfl (eN () trivial)
  refine And.intro (fun hp=>absurd hp (hm)) (fun _=>?_)
  conv=>whnf
  repeat ((first|refine oL ?_|refine oR ?_);(try intro _);conv=>whnf)
  refine RunsS.subR [] (back (k+1) (by exact (⟨hk,fun j hj h1=>(Nat.lt_or_eq_of_le (Nat.le_of_lt_succ h1)).elim (hJ.2 j hj) (fun e2=>by subst e2;exact hm)⟩)) (by (try dsimp only);omega)) sH sH
 conv=>whnf
 have:r=none:=by rw [hr];exact findN_not (fun j hj h=>hJ.2 j hj (by omega))
 rw [this]
 refine RunsS.retU ?_
 exact UnwS.ret tab Tryz.func33 rfl (eN () trivial)
end Go.Proofs.YtofjdbmcloemnaaGreatDoor

namespace Go.SrcM
open Go Go.Fw Go.RatM
end Go.SrcM
namespace Go.Proofs.YtofjdbmcloemnaaGreatDoor
open Go Go.Fw Go.NatM Go.RatM Go.SrcM
set_option maxRecDepth 100000
set_option maxHeartbeats 99999999
end Go.Proofs.YtofjdbmcloemnaaGreatDoor

namespace Go.Proofs.YtofjdbmcloemnaaGreatDoor
open Go Go.Fw Go.NatM Go.RatM Go.SrcM
set_option maxRecDepth 100000
set_option maxHeartbeats 99999999
theorem rfound_fn (l:List ByteArray) (nm:ByteArray):FnS Tryz.prog 45 0 [.v (.int .i64 (idxOf l nm))] [] (fun _:Unit=>True) (fun _=>.ret (fndS (findN l nm)) 0 []):=by
 cases h:findN l nm with
 |some k=>
  rw [idxOf_some h]
  refine FnS.of Tryz.func45 (by kernel_rfl) rfl Tryz.ntmps45 rfl fun E0 F h w0 cs=>?_
  conv=>whnf
  refine gS ?_;conv=>whnf
  repeat ((first|refine oL ?_|refine oR ?_);(try intro _);conv=>whnf)
  refine RunsS.retU ?_
  exact UnwS.ret tab Tryz.func45 rfl (eN () trivial)
 |none=>
  rw [idxOf_none h]
  refine FnS.of Tryz.func45 (by kernel_rfl) rfl Tryz.ntmps45 rfl fun E0 F h w0 cs=>?_
  conv=>whnf
  refine gS ?_;conv=>whnf
  repeat ((first|refine oL ?_|refine oR ?_);(try intro _);conv=>whnf)
  refine RunsS.retU ?_
  exact UnwS.ret tab Tryz.func45 rfl (eN () trivial)
section
variable {vU vI vP vM vO vF vR vS:Value}
theorem rItem_fn (s:SrcV) (hL:Lens s) (nm:ByteArray):FnT Tryz.prog (TopT vU vI vP vM vO vF vR vS s) 21 0 [srcA vU vI vP vM vO vF vR vS,.v (.string nm)] [] (fun _:Unit=>True) (fun _=>.ret (fndS (findN (s.items.map It.name) nm)) 0 []):=by
 refine FnT.of Tryz.func21 (by kernel_rfl) rfl Tryz.ntmps21 rfl fun E0 F h hT w0 cs=>?_
 conv=>whnf
 refine gS ?_;conv=>whnf
 have C:=rfindO_fn (s.items.map It.name) nm (by rw [List.length_map];exact hL.I)
 rw [idxO_Of] at C
 refine RunsS.callT (TopF.tok _ _ _ _ _ _ _ _ _) (hT) (ritems_fn s hL) [] sH ?CNa1 ?_
 case CNa1=>rfl
 rintro _ _
 conv=>whnf
 refine gS ?_;conv=>whnf
 refine RunsS.callN (C) [1] ?_ sH ?CNa2
 case CNa2=>rfl
 intro _ _
 conv=>whnf
 refine gS ?_;conv=>whnf
 refine RunsS.callN (rfound_fn (s.items.map It.name) nm) [] ?_ sH ?CNa3
 case CNa3=>rfl
 intro _ _
 conv=>whnf
 refine gS ?_;conv=>whnf
 cases findN (s.items.map It.name) nm with
 |some k=>
  conv=>whnf
  refine gS ?_;conv=>whnf
  refine RunsS.retU ?_
  exact UnwS.ret tab Tryz.func21 rfl (eN () trivial)
 |none=>
  conv=>whnf
  refine gS ?_;conv=>whnf
  refine RunsS.retU ?_
  exact UnwS.ret tab Tryz.func21 rfl (eN () trivial)
theorem rPlant_fn (s:SrcV) (hL:Lens s) (nm:ByteArray):FnT Tryz.prog (TopT vU vI vP vM vO vF vR vS s) 23 0 [srcA vU vI vP vM vO vF vR vS,.v (.string nm)] [] (fun _:Unit=>True) (fun _=>.ret (fndS (findN s.plants nm)) 0 []):=by
 refine FnT.of Tryz.func23 (by kernel_rfl) rfl Tryz.ntmps23 rfl fun E0 F h hT w0 cs=>?_
 conv=>whnf
 refine gS ?_;conv=>whnf
 refine RunsS.callT (RoF.tok _ _ _) (hT.P) (rfindV_fn vP s.plants nm hL.P) [] sH ?CNa4 ?_
 case CNa4=>rfl
 rintro _ _
 conv=>whnf
 refine gS ?_;conv=>whnf
 refine RunsS.callN (rfound_fn s.plants nm) [] ?_ sH ?CNa5
 case CNa5=>rfl
 intro _ _
 conv=>whnf
 refine gS ?_;conv=>whnf
 cases findN s.plants nm with
 |some k=>
  conv=>whnf
  refine gS ?_;conv=>whnf
  refine RunsS.retU ?_
  exact UnwS.ret tab Tryz.func23 rfl (eN () trivial)
 |none=>
  conv=>whnf
  refine gS ?_;conv=>whnf
  refine RunsS.retU ?_
  exact UnwS.ret tab Tryz.func23 rfl (eN () trivial)
theorem rChoice_fn (s:SrcV) (hL:Lens s) (o:Int) (nm:ByteArray):FnT Tryz.prog (TopT vU vI vP vM vO vF vR vS s) 25 0 [srcA vU vI vP vM vO vF vR vS,.v (.int .i64 o),.v (.string nm)] [] (fun _:Unit=>True) (fun _=>.ret (fndS (findN (chOf s o) nm)) 0 []):=by
 refine FnT.of Tryz.func25 (by kernel_rfl) rfl Tryz.ntmps25 rfl fun E0 F h hT w0 cs=>?_
 conv=>whnf
 refine gS ?_;conv=>whnf
 refine RunsS.callT (TopF.tok _ _ _ _ _ _ _ _ _) (hT) (rchoices_fn s o) [] sH ?CNa6 ?_
 case CNa6=>rfl
 rintro _ _
 conv=>whnf
 refine gS ?_;conv=>whnf
 refine RunsS.callT (RoF.tok _ _ _) (chV_ok hT.below o) (rfindV_fn (chV s o) (chOf s o) nm (hL.ch o)) [] sH ?CNa7 ?_
 case CNa7=>rfl
 rintro _ _
 conv=>whnf
 refine gS ?_;conv=>whnf
 refine RunsS.callN (rfound_fn (chOf s o) nm) [] ?_ sH ?CNa8
 case CNa8=>rfl
 intro _ _
 conv=>whnf
 refine gS ?_;conv=>whnf
 cases findN (chOf s o) nm with
 |some k=>
  conv=>whnf
  refine gS ?_;conv=>whnf
  refine RunsS.retU ?_
  exact UnwS.ret tab Tryz.func25 rfl (eN () trivial)
 |none=>
  conv=>whnf
  refine gS ?_;conv=>whnf
  refine RunsS.retU ?_
  exact UnwS.ret tab Tryz.func25 rfl (eN () trivial)
end
end Go.Proofs.YtofjdbmcloemnaaGreatDoor

namespace Go.SrcM
open Go Go.Fw Go.RatM
end Go.SrcM

namespace Go.RatM
open Go Go.Fw Go.NatM
def Un.sv (u:Un):Rat:=(decQ u.scale).val
theorem Sc1.sv {k:Nat} {u:Un} (h:Sc1 k u):∃q:Q,u.scale=encQ q∧q.Ok∧q.le k∧q.val=u.sv∧0<u.sv:=by
 obtain ⟨q,h1,h2,h3,h4⟩:=h
 refine ⟨q,h1,h2,h3,?_,?_⟩
 ·unfold Un.sv;rw [h1,dec_enc]
 unfold Un.sv;rw [h1,dec_enc];exact h4
theorem cvU_in {l:List Un} {i j:Nat} {r:Rt} (h:checkU l=0) (hi:i<l.length) (hj:j<l.length) (hb:l[i].base=l[j].base):convU l i j r =
  if (mulR r l[i].scale).2≠0 then (zr,(mulR r l[i].scale).2) else divR (mulR r l[i].scale).1 l[j].scale:=by
 unfold convU
 rw [if_neg (fun e=>e h),Int.toNat_natCast,Int.toNat_natCast,List.getElem?_eq_getElem hi,List.getElem?_eq_getElem hj]
 dsimp only
 rw [if_neg (by omega)]
 rfl
theorem conv_ok {l:List Un} {m k i j:Nat} {R:Q} (h:checkU l=0) (hs:∀u∈l,Sc1 m u) (hk:k+m+m≤256) (hi:i<l.length) (hj:j<l.length) (hb:l[i].base=l[j].base) (oR:R.Ok) (lR:R.le k):
  ∃P:Q,convU l i j (encQ R)=(encQ P,0)∧P.Ok∧P.le (k+m+m)∧P.val=R.val*l[i].sv*l[j].sv⁻¹:=by
 obtain ⟨a,a1,a2,a3,a4,a5⟩:=(hs _ (List.getElem_mem hi)).sv
 obtain ⟨b,b1,b2,b3,b4,b5⟩:=(hs _ (List.getElem_mem hj)).sv
 obtain ⟨c,c1,c2,c3,c4⟩:=mulR_ok oR a2 lR a3 (by omega)
 have hz:b≠zq:=fun e=>by
  have:=(val_zero b2).2 e
  rw [b4] at this
  rw [this] at b5
  exact absurd b5 (by decide)
 obtain ⟨d,d1,d2,d3,d4⟩:=divR_ok c2 b2 c3 b3 hk hz
 refine ⟨d,?_,d2,d3,?_⟩
 ·rw [cvU_in h hi hj hb,a1,c1,if_neg (by simp),b1,d1]
 rw [d4,c4,a4,b4]
end Go.RatM

namespace Go.Proofs.YtofjdbmcloemnaaGreatDoor
open Go Go.Fw Go.NatM Go.RatM Go.SrcM
set_option maxRecDepth 100000
set_option maxHeartbeats 99999999
end Go.Proofs.YtofjdbmcloemnaaGreatDoor

namespace Go.Fw
open Go
end Go.Fw
namespace Go.SrcM
open Go Go.Fw
end Go.SrcM
namespace Go.Proofs.YtofjdbmcloemnaaGreatDoor
open Go Go.Fw Go.NatM Go.RatM Go.SrcM
set_option maxRecDepth 100000
set_option maxHeartbeats 99999999
end Go.Proofs.YtofjdbmcloemnaaGreatDoor

namespace Go.SrcM
open Go Go.Fw Go.RatM
noncomputable def eqB {α:Type} (a b:α):Bool:=@decide (a=b) (Classical.propDecidable _)
theorem eqB_yes {α:Type} {a b:α} (h:a=b):eqB a b=true:=@decide_eq_true _ (Classical.propDecidable _) h
theorem eqB_no {α:Type} {a b:α} (h:¬a=b):eqB a b=false:=@decide_eq_false _ (Classical.propDecidable _) h
theorem at_eq {α:Type} {a b:List α} (h:a=b) {k:Nat} (ha:k<a.length) (hb:k<b.length):a[k]=b[k]:=by subst h;rfl
theorem all_at {α:Type} {a b:List α} (h:a.length=b.length) (H:∀j (ha:j<a.length) (hb:j<b.length),a[j]=b[j]):a=b:=List.ext_getElem h H
theorem more_at {α:Type} {a b:List α} {k:Nat} (ha:k<a.length) (hb:k<b.length) (H:∀j (_:j<k) (ha:j<a.length) (hb:j<b.length),a[j]=b[j]) (h:a[k]=b[k]):∀j (_:j<k+1) (ha:j<a.length) (hb:j<b.length),a[j]=b[j]:=
 fun j hj h1 h2=>(Nat.lt_succ_iff_lt_or_eq.1 hj).elim (fun hj=>H j hj h1 h2) (fun e=>by subst e;exact h)
theorem Cd.ext_iff' {a b:Cd}:a=b↔a.opt=b.opt∧a.ch=b.ch∧a.on=b.on∧a.cn=b.cn:=by
 obtain ⟨_,_,_,_⟩:=a;obtain ⟨_,_,_,_⟩:=b;simp
theorem Am.ext_iff' {a b:Am}:a=b↔a.n=b.n∧a.d=b.d∧a.unit=b.unit∧a.item=b.item∧a.back=b.back∧a.un=b.un∧a.inn=b.inn:=by
 obtain ⟨_,_,_,_,_,_,_⟩:=a;obtain ⟨_,_,_,_,_,_,_⟩:=b;simp
theorem Rn.ext_iff' {a b:Rn}:a=b↔a.mach=b.mach∧a.slots=b.slots∧a.mn=b.mn:=by
 obtain ⟨_,_,_⟩:=a;obtain ⟨_,_,_⟩:=b;simp
theorem It.ext_iff' {a b:It}:a=b↔a.name=b.name∧a.unit=b.unit∧a.mn=b.mn∧a.md=b.md∧a.shelf=b.shelf∧a.un=b.un:=by
 obtain ⟨_,_,_,_,_,_⟩:=a;obtain ⟨_,_,_,_,_,_⟩:=b;simp
theorem Mc.ext_iff' {a b:Mc}:a=b↔a.name=b.name∧a.plant=b.plant∧a.clean=b.clean∧a.pn=b.pn:=by
 obtain ⟨_,_,_,_⟩:=a;obtain ⟨_,_,_,_⟩:=b;simp
theorem Sw.ext_iff' {a b:Sw}:a=b↔a.a=b.a∧a.b=b.b∧a.an=b.an∧a.bn=b.bn:=by
 obtain ⟨_,_,_,_⟩:=a;obtain ⟨_,_,_,_⟩:=b;simp
theorem RcV.bare_iff {a b:RcV}:a.bare=b.bare↔a.item=b.item∧a.plant=b.plant∧a.fr=b.fr∧a.to=b.to∧a.cs=b.cs∧a.inn=b.inn∧a.out=b.out∧a.rwN=b.rwN∧a.rwD=b.rwD∧a.yN=b.yN∧a.yD=b.yD∧a.tN=b.tN∧a.tD=b.tD∧a.lead=b.lead∧a.runs=b.runs∧a.inum=b.inum∧a.pnum=b.pnum:=by
 obtain ⟨_,_,_,_,_,_,_,_,_,_,_,_,_,_,_,_,_,_,_,_,_⟩:=a;obtain ⟨_,_,_,_,_,_,_,_,_,_,_,_,_,_,_,_,_,_,_,_,_⟩:=b;simp [RcV.bare]
abbrev Two (va vb:Value) (sz:Nat) (ra rb:List (List Value)) (F:Nat→Prop) (h:Array Obj):Prop:=RoF F h va sz ra∧RoF F h vb sz rb
theorem Two.tok (va vb:Value) (sz:Nat) (ra rb:List (List Value)):TOk (Two va vb sz ra rb):=
 ⟨fun _ _ _ hs H=>⟨RoF.up ⟨hs,fun _ _=>rfl⟩ H.1,RoF.up ⟨hs,fun _ _=>rfl⟩ H.2⟩,fun _ _ _ H K=>⟨RoF.up ⟨fun _ x=>x,K.same⟩ H.1,RoF.up ⟨fun _ x=>x,K.same⟩ H.2⟩⟩
abbrev TwoR (a b:RcV) (F:Nat→Prop) (h:Array Obj):Prop:=a.ok F h∧b.ok F h
theorem TwoR.tok (a b:RcV):TOk (TwoR a b):=
 ⟨fun _ _ _ hs H=>⟨H.1.up ⟨hs,fun _ _=>rfl⟩,H.2.up ⟨hs,fun _ _=>rfl⟩⟩,fun _ _ _ H K=>⟨H.1.up ⟨fun _ x=>x,K.same⟩,H.2.up ⟨fun _ x=>x,K.same⟩⟩⟩
end Go.SrcM
namespace Go.Proofs.YtofjdbmcloemnaaGreatDoor
open Go Go.Fw Go.NatM Go.RatM Go.SrcM
set_option maxRecDepth 100000
set_option maxHeartbeats 99999999
theorem sNames_fn (va vb:Value) (a b:List ByteArray):FnT Tryz.prog (Two va vb 1 (rwsB a) (rwsB b)) 38 0 [.v va,.v vb] [] (fun _:Unit=>True) (fun _=>.ret (.v (.bool (eqB a b))) 0 []):=by
 have hla:(rwsB a).length=a.length:=rws_len _ _
 have hlb:(rwsB b).length=b.length:=rws_len _ _
 obtain ⟨r,hr⟩:∃r,r=eqB a b:=⟨_,rfl⟩
 rw [←hr]
 refine FnT.of Tryz.func38 (by kernel_rfl) rfl Tryz.ntmps38 rfl fun E0 F h hT w0 cs=>?_
 have mA:=hT.1.len
 obtain ⟨aa,ca,rfl⟩:=RoF.sli hT.1 hla
 obtain ⟨ab,cb,rfl⟩:=RoF.sli hT.2 hlb
 conv=>whnf
 refine gS ?_;conv=>whnf
 refine ⟨fun hs=>?_,fun hs=>?_⟩<;>conv=>whnf
 rotate_left
 ·conv=>whnf
  have:r=false:=by rw [hr];exact eqB_no (fun e=>hs (by rw [e]))
  rw [this]
  refine RunsS.retU ?_
  exact UnwS.ret tab Tryz.func38 rfl (eN () trivial)
 conv=>whnf
 have hn:a.length=b.length:=by omega
 refine RunsS.nameAt (fun _ x=>x) 0 (by exact hT.1) ?_
 conv=>whnf
 refine gS ?_;conv=>whnf
 refine RunsS.nameAt (fun _ x=>x) 1 (by exact hT.2) ?_
 conv=>whnf
 refine gS ?_;conv=>whnf
 refine RunsS.subR [] (RunsS.loop (fun (k:Nat)=>[(5,.v (.int .i64 k)),(0,.buf 0),(1,.buf 1)]) (fun (k:Nat)=>[(0,.ro 1 (rwsB a)),(1,.ro 1 (rwsB b))]) 2 (fun (k:Nat)=>k≤a.length ∧ ∀j (_:j<k) (ha:j<a.length) (hb:j<b.length),a[j]=b[j]) (fun (k:Nat)=>a.length - k) ?round1 (0) ?J01) sH sH
 case J01=>exact (⟨Nat.zero_le _,fun j hj=>absurd hj (Nat.not_lt_zero _)⟩)
 rintro k hJ back
 conv=>whnf
 refine gS ?_;conv=>whnf
 refine ⟨fun hk=>?_,fun hk=>?_⟩<;>conv=>whnf
 ·have hk:k<a.length:=by omega
  have hk2:k<b.length:=by omega
  conv=>whnf
  refine RunsS.held tab (.fl 0 (.fl 1 (.fl 2 (.fl 3 (.fl 4 (.fl 5 (.fl 6 (.fl 7 (.fl 8 .done))))))))) (by kernel_rfl) ?_;conv=>whnf
  try refine gR ?_;conv=>whnf
  repeat ((first|refine oL ?_|refine oR ?_|refine oB ?_);(try intro _);conv=>whnf)
  conv=>whnf
  refine ⟨_,rws_get hk,?_⟩;conv=>whnf
  try (refine oN ?_;conv=>whnf)
  conv=>whnf
  refine ⟨_,rws_get hk2,?_⟩;conv=>whnf
  conv=>whnf
  refine ⟨fun hs=>?_,fun hs=>?_⟩<;>conv=>whnf
  ·try refine gR ?_
   conv=>whnf
   refine gS ?_;conv=>whnf
   repeat ((first|refine oL ?_|refine oR ?_);(try intro _);conv=>whnf)
   refine RunsS.subR [] (back (k+1) (by exact (⟨hk,more_at hk hk2 hJ.2 (hs)⟩)) (by (try dsimp only);omega)) sH sH
  try refine gR ?_;conv=>whnf
  refine gS ?_;conv=>whnf
  have:r=false:=by rw [hr];exact eqB_no (fun e=>(fun e=>hs e) (at_eq e hk hk2))
  rw [this]
  refine RunsS.retU ?_
  exact UnwS.ret tab Tryz.func38 rfl (eN () trivial)
 conv=>whnf
 have:r=true:=by rw [hr];exact eqB_yes (all_at hn fun j h1 h2=>hJ.2 j (by omega) h1 h2)
 rw [this]
 refine RunsS.retU ?_
 exact UnwS.ret tab Tryz.func38 rfl (eN () trivial)
theorem sConds_fn (va vb:Value) (a b:List Cd):FnT Tryz.prog (Two va vb 4 (rws Cd.row a) (rws Cd.row b)) 39 0 [.v va,.v vb] [] (fun _:Unit=>True) (fun _=>.ret (.v (.bool (eqB a b))) 0 []):=by
 have hla:(rws Cd.row a).length=a.length:=rws_len _ _
 have hlb:(rws Cd.row b).length=b.length:=rws_len _ _
 obtain ⟨r,hr⟩:∃r,r=eqB a b:=⟨_,rfl⟩
 rw [←hr]
 refine FnT.of Tryz.func39 (by kernel_rfl) rfl Tryz.ntmps39 rfl fun E0 F h hT w0 cs=>?_
 have mA:=hT.1.len
 obtain ⟨aa,ca,rfl⟩:=RoF.sli hT.1 hla
 obtain ⟨ab,cb,rfl⟩:=RoF.sli hT.2 hlb
 conv=>whnf
 refine gS ?_;conv=>whnf
 refine ⟨fun hs=>?_,fun hs=>?_⟩<;>conv=>whnf
 rotate_left
 ·conv=>whnf
  have:r=false:=by rw [hr];exact eqB_no (fun e=>hs (by rw [e]))
  rw [this]
  refine RunsS.retU ?_
  exact UnwS.ret tab Tryz.func39 rfl (eN () trivial)
 conv=>whnf
 have hn:a.length=b.length:=by omega
 refine RunsS.nameAt (fun _ x=>x) 0 (by exact hT.1) ?_
 conv=>whnf
 refine gS ?_;conv=>whnf
 refine RunsS.nameAt (fun _ x=>x) 1 (by exact hT.2) ?_
 conv=>whnf
 refine gS ?_;conv=>whnf
 refine RunsS.subR [] (RunsS.loop (fun (k:Nat)=>[(5,.v (.int .i64 k)),(0,.buf 0),(1,.buf 1)]) (fun (k:Nat)=>[(0,.ro 4 (rws Cd.row a)),(1,.ro 4 (rws Cd.row b))]) 2 (fun (k:Nat)=>k≤a.length ∧ ∀j (_:j<k) (ha:j<a.length) (hb:j<b.length),a[j]=b[j]) (fun (k:Nat)=>a.length - k) ?round3 (0) ?J03) sH sH
 case J03=>exact (⟨Nat.zero_le _,fun j hj=>absurd hj (Nat.not_lt_zero _)⟩)
 rintro k hJ back
 conv=>whnf
 refine gS ?_;conv=>whnf
 refine ⟨fun hk=>?_,fun hk=>?_⟩<;>conv=>whnf
 ·have hk:k<a.length:=by omega
  have hk2:k<b.length:=by omega
  conv=>whnf
  refine RunsS.held tab (.fl 0 (.fl 1 (.fl 2 (.fl 3 (.fl 4 (.fl 5 (.fl 6 (.fl 7 (.fl 8 .done))))))))) (by kernel_rfl) ?_;conv=>whnf
  try refine gR ?_;conv=>whnf
  repeat ((first|refine oL ?_|refine oR ?_|refine oB ?_);(try intro _);conv=>whnf)
  conv=>whnf
  refine ⟨_,rws_get hk,?_⟩;conv=>whnf
  try (refine oN ?_;conv=>whnf)
  conv=>whnf
  repeat ((first|refine oL ?_|refine oR ?_|refine oB ?_);(try intro _);conv=>whnf)
  conv=>whnf
  refine ⟨_,rws_get hk2,?_⟩;conv=>whnf
  try (refine oN ?_;conv=>whnf)
  conv=>whnf
  refine ⟨fun hs=>?_,fun hs=>?_⟩<;>conv=>whnf
  ·try refine gR ?_
   conv=>whnf
   refine gS ?_;conv=>whnf
   repeat ((first|refine oL ?_|refine oR ?_);(try intro _);conv=>whnf)
   refine RunsS.subR [] (back (k+1) (by exact (⟨hk,more_at hk hk2 hJ.2 (Cd.ext_iff'.2 hs)⟩)) (by (try dsimp only);omega)) sH sH
  try refine gR ?_;conv=>whnf
  refine gS ?_;conv=>whnf
  have:r=false:=by rw [hr];exact eqB_no (fun e=>(fun e=>hs (Cd.ext_iff'.1 e)) (at_eq e hk hk2))
  rw [this]
  refine RunsS.retU ?_
  exact UnwS.ret tab Tryz.func39 rfl (eN () trivial)
 conv=>whnf
 have:r=true:=by rw [hr];exact eqB_yes (all_at hn fun j h1 h2=>hJ.2 j (by omega) h1 h2)
 rw [this]
 refine RunsS.retU ?_
 exact UnwS.ret tab Tryz.func39 rfl (eN () trivial)
theorem sAms_fn (va vb:Value) (a b:List Am):FnT Tryz.prog (Two va vb 7 (rws Am.row a) (rws Am.row b)) 92 0 [.v va,.v vb] [] (fun _:Unit=>True) (fun _=>.ret (.v (.bool (eqB a b))) 0 []):=by
 have hla:(rws Am.row a).length=a.length:=rws_len _ _
 have hlb:(rws Am.row b).length=b.length:=rws_len _ _
 obtain ⟨r,hr⟩:∃r,r=eqB a b:=⟨_,rfl⟩
 rw [←hr]
 refine FnT.of Tryz.func92 (by kernel_rfl) rfl Tryz.ntmps92 rfl fun E0 F h hT w0 cs=>?_
 have mA:=hT.1.len
 obtain ⟨aa,ca,rfl⟩:=RoF.sli hT.1 hla
 obtain ⟨ab,cb,rfl⟩:=RoF.sli hT.2 hlb
 conv=>whnf
 refine gS ?_;conv=>whnf
 refine ⟨fun hs=>?_,fun hs=>?_⟩<;>conv=>whnf
 rotate_left
 ·conv=>whnf
  have:r=false:=by rw [hr];exact eqB_no (fun e=>hs (by rw [e]))
  rw [this]
  refine RunsS.retU ?_
  exact UnwS.ret tab Tryz.func92 rfl (eN () trivial)
 conv=>whnf
 have hn:a.length=b.length:=by omega
 refine RunsS.nameAt (fun _ x=>x) 0 (by exact hT.1) ?_
 conv=>whnf
 refine gS ?_;conv=>whnf
 refine RunsS.nameAt (fun _ x=>x) 1 (by exact hT.2) ?_
 conv=>whnf
 refine gS ?_;conv=>whnf
 refine RunsS.subR [] (RunsS.loop (fun (k:Nat)=>[(5,.v (.int .i64 k)),(0,.buf 0),(1,.buf 1)]) (fun (k:Nat)=>[(0,.ro 7 (rws Am.row a)),(1,.ro 7 (rws Am.row b))]) 2 (fun (k:Nat)=>k≤a.length ∧ ∀j (_:j<k) (ha:j<a.length) (hb:j<b.length),a[j]=b[j]) (fun (k:Nat)=>a.length - k) ?round5 (0) ?J05) sH sH
 case J05=>exact (⟨Nat.zero_le _,fun j hj=>absurd hj (Nat.not_lt_zero _)⟩)
 rintro k hJ back
 conv=>whnf
 refine gS ?_;conv=>whnf
 refine ⟨fun hk=>?_,fun hk=>?_⟩<;>conv=>whnf
 ·have hk:k<a.length:=by omega
  have hk2:k<b.length:=by omega
  conv=>whnf
  refine RunsS.held tab (.fl 0 (.fl 1 (.fl 2 (.fl 3 (.fl 4 (.fl 5 (.fl 6 (.fl 7 (.fl 8 .done))))))))) (by kernel_rfl) ?_;conv=>whnf
  try refine gR ?_;conv=>whnf
  repeat ((first|refine oL ?_|refine oR ?_|refine oB ?_);(try intro _);conv=>whnf)
  conv=>whnf
  refine ⟨_,rws_get hk,?_⟩;conv=>whnf
  try (refine oN ?_;conv=>whnf)
  conv=>whnf
  repeat ((first|refine oL ?_|refine oR ?_|refine oB ?_);(try intro _);conv=>whnf)
  conv=>whnf
  refine ⟨_,rws_get hk2,?_⟩;conv=>whnf
  try (refine oN ?_;conv=>whnf)
  conv=>whnf
  refine ⟨fun hs=>?_,fun hs=>?_⟩<;>conv=>whnf
  ·try refine gR ?_
   conv=>whnf
   refine gS ?_;conv=>whnf
   repeat ((first|refine oL ?_|refine oR ?_);(try intro _);conv=>whnf)
   refine RunsS.subR [] (back (k+1) (by exact (⟨hk,more_at hk hk2 hJ.2 (Am.ext_iff'.2 hs)⟩)) (by (try dsimp only);omega)) sH sH
  try refine gR ?_;conv=>whnf
  refine gS ?_;conv=>whnf
  have:r=false:=by rw [hr];exact eqB_no (fun e=>(fun e=>hs (Am.ext_iff'.1 e)) (at_eq e hk hk2))
  rw [this]
  refine RunsS.retU ?_
  exact UnwS.ret tab Tryz.func92 rfl (eN () trivial)
 conv=>whnf
 have:r=true:=by rw [hr];exact eqB_yes (all_at hn fun j h1 h2=>hJ.2 j (by omega) h1 h2)
 rw [this]
 refine RunsS.retU ?_
 exact UnwS.ret tab Tryz.func92 rfl (eN () trivial)
end Go.Proofs.YtofjdbmcloemnaaGreatDoor

namespace Go.Proofs.YtofjdbmcloemnaaGreatDoor
open Go Go.Fw Go.NatM Go.RatM Go.SrcM
set_option maxRecDepth 100000
set_option maxHeartbeats 99999999
theorem sRc_fn (a b:RcV):FnT Tryz.prog (TwoR a b) 40 0 [.agg (toV a.row),.agg (toV b.row)] [] (fun _:Unit=>True) (fun _=>.ret (.v (.bool (eqB a.bare b.bare))) 0 []):=by
 have hla:(rws Rn.row a.runs).length=a.runs.length:=rws_len _ _
 have hlb:(rws Rn.row b.runs).length=b.runs.length:=rws_len _ _
 obtain ⟨r,hr⟩:∃r,r=eqB a.bare b.bare:=⟨_,rfl⟩
 rw [←hr]
 have no:¬a.bare=b.bare→r=false:=fun h=>by rw [hr];exact eqB_no h
 refine FnT.of Tryz.func40 (by kernel_rfl) rfl Tryz.ntmps40 rfl fun E0 F h hT w0 cs=>?_
 conv=>whnf
 refine gS ?_;conv=>whnf
 have mA:=hT.1.rn.len
 refine ⟨fun hs=>?_,fun hs=>?_⟩<;>conv=>whnf
 rotate_left
 ·conv=>whnf
  rw [no fun e=>hs (by rw [(RcV.bare_iff.1 e).2.2.2.2.2.2.2.2.2.2.2.2.2.2.1])]
  refine RunsS.retU ?_
  exact UnwS.ret tab Tryz.func40 rfl (eN () trivial)
 conv=>whnf
 have hn:a.runs.length=b.runs.length:=by omega
 refine RunsS.callT (Two.tok _ _ _ _ _) (⟨hT.1.c,hT.2.c⟩) (sConds_fn (a.hc.v a.cs.length) (b.hc.v b.cs.length) a.cs b.cs) [] sH ?CNa1 ?_
 case CNa1=>rfl
 rintro _ _
 by_cases n2:a.cs=b.cs
 rotate_left
 ·rw [eqB_no n2]
  conv=>whnf
  refine gS ?_;conv=>whnf
  rw [no fun e=>n2 ((RcV.bare_iff.1 e).2.2.2.2.1)]
  refine RunsS.retU ?_
  exact UnwS.ret tab Tryz.func40 rfl (eN () trivial)
 rw [eqB_yes n2]
 conv=>whnf
 refine gS ?_;conv=>whnf
 refine RunsS.callT (Two.tok _ _ _ _ _) (⟨hT.1.i,hT.2.i⟩) (sAms_fn (a.hi.v a.inn.length) (b.hi.v b.inn.length) a.inn b.inn) [] sH ?CNa2 ?_
 case CNa2=>rfl
 rintro _ _
 by_cases n3:a.inn=b.inn
 rotate_left
 ·rw [eqB_no n3]
  conv=>whnf
  refine gS ?_;conv=>whnf
  rw [no fun e=>n3 ((RcV.bare_iff.1 e).2.2.2.2.2.1)]
  refine RunsS.retU ?_
  exact UnwS.ret tab Tryz.func40 rfl (eN () trivial)
 rw [eqB_yes n3]
 conv=>whnf
 refine gS ?_;conv=>whnf
 refine RunsS.callT (Two.tok _ _ _ _ _) (⟨hT.1.o,hT.2.o⟩) (sAms_fn (a.ho.v a.out.length) (b.ho.v b.out.length) a.out b.out) [] sH ?CNa3 ?_
 case CNa3=>rfl
 rintro _ _
 by_cases n4:a.out=b.out
 rotate_left
 ·rw [eqB_no n4]
  conv=>whnf
  refine gS ?_;conv=>whnf
  rw [no fun e=>n4 ((RcV.bare_iff.1 e).2.2.2.2.2.2.1)]
  refine RunsS.retU ?_
  exact UnwS.ret tab Tryz.func40 rfl (eN () trivial)
 rw [eqB_yes n4]
 conv=>whnf
 refine gS ?_;conv=>whnf
 refine RunsS.nameCell (fun _ x=>x) 0 14 (by exact hT.1.rn) ?_
 conv=>whnf
 refine gS ?_;conv=>whnf
 refine RunsS.nameCell (fun _ x=>x) 1 14 (by exact hT.2.rn) ?_
 conv=>whnf
 refine gS ?_;conv=>whnf
 refine RunsS.subR [] (RunsS.loop (fun (k:Nat)=>[(5,.v (.int .i64 k)),(2,.ptr 0 0),(3,.ptr 1 0)]) (fun (k:Nat)=>[(0,.cells 49 [.v (.string a.item),.v (.string a.plant),.v (.int .i64 a.fr),.v (.int .i64 a.to),.v (a.hc.v a.cs.length),.v (a.hi.v a.inn.length),.v (a.ho.v a.out.length),.v (.int .i64 a.rwN),.v (.int .i64 a.rwD),.v (.int .i64 a.yN),.v (.int .i64 a.yD),.v (.int .i64 a.tN),.v (.int .i64 a.tD),.v (.int .i64 a.lead),.buf 2,.v (.int .i64 a.inum),.v (.int .i64 a.pnum)]),(1,.cells 49 [.v (.string b.item),.v (.string b.plant),.v (.int .i64 b.fr),.v (.int .i64 b.to),.v (b.hc.v b.cs.length),.v (b.hi.v b.inn.length),.v (b.ho.v b.out.length),.v (.int .i64 b.rwN),.v (.int .i64 b.rwD),.v (.int .i64 b.yN),.v (.int .i64 b.yD),.v (.int .i64 b.tN),.v (.int .i64 b.tD),.v (.int .i64 b.lead),.buf 3,.v (.int .i64 b.inum),.v (.int .i64 b.pnum)]),(2,.ro 3 (rws Rn.row a.runs)),(3,.ro 3 (rws Rn.row b.runs))]) 4 (fun (k:Nat)=>k≤a.runs.length ∧ ∀j (_:j<k) (ha:j<a.runs.length) (hb:j<b.runs.length),a.runs[j]=b.runs[j]) (fun (k:Nat)=>a.runs.length - k) ?round4 (0) ?J04) sH sH
 case J04=>exact (⟨Nat.zero_le _,fun j hj=>absurd hj (Nat.not_lt_zero _)⟩)
 rintro k hJ back
 conv=>whnf
 refine gS ?_;conv=>whnf
 refine ⟨fun hk=>?_,fun hk=>?_⟩<;>conv=>whnf
 ·have hk:k<a.runs.length:=by omega
  have hk2:k<b.runs.length:=by omega
  conv=>whnf
  refine RunsS.held tab (.fl 0 (.fl 1 (.fl 2 (.fl 3 (.fl 4 (.fl 5 (.fl 6 (.fl 7 (.fl 8 (.fl 9 (.fl 10 .done))))))))))) (by kernel_rfl) ?_;conv=>whnf
  try refine gR ?_;conv=>whnf
  repeat ((first|refine oL ?_|refine oR ?_|refine oB ?_);(try intro _);conv=>whnf)
  conv=>whnf
  refine ⟨_,rws_get hk,?_⟩;conv=>whnf
  try (refine oN ?_;conv=>whnf)
  conv=>whnf
  repeat ((first|refine oL ?_|refine oR ?_|refine oB ?_);(try intro _);conv=>whnf)
  conv=>whnf
  refine ⟨_,rws_get hk2,?_⟩;conv=>whnf
  try (refine oN ?_;conv=>whnf)
  conv=>whnf
  refine ⟨fun hs=>?_,fun hs=>?_⟩<;>conv=>whnf
  ·try refine gR ?_
   conv=>whnf
   refine gS ?_;conv=>whnf
   repeat ((first|refine oL ?_|refine oR ?_);(try intro _);conv=>whnf)
   refine RunsS.subR [] (back (k+1) (by exact (⟨hk,more_at hk hk2 hJ.2 (Rn.ext_iff'.2 hs)⟩)) (by (try dsimp only);omega)) sH sH
  try refine gR ?_;conv=>whnf
  refine gS ?_;conv=>whnf
  rw [no fun e=>hs (Rn.ext_iff'.1 (at_eq (RcV.bare_iff.1 e).2.2.2.2.2.2.2.2.2.2.2.2.2.2.1 hk hk2))]
  refine RunsS.retU ?_
  exact UnwS.ret tab Tryz.func40 rfl (eN () trivial)
 have hruns:a.runs=b.runs:=all_at hn fun j h1 h2=>hJ.2 j (by omega) h1 h2
 clear back
 conv=>whnf
 refine ⟨fun mitem=>?_,fun mitem=>?_⟩<;>conv=>whnf
 rotate_left
 ·conv=>whnf
  refine gS ?_;conv=>whnf
  rw [no fun e=>mitem ((RcV.bare_iff.1 e).1)]
  refine RunsS.retU ?_
  exact UnwS.ret tab Tryz.func40 rfl (eN () trivial)
 conv=>whnf
 refine ⟨fun mplant=>?_,fun mplant=>?_⟩<;>conv=>whnf
 rotate_left
 ·conv=>whnf
  refine gS ?_;conv=>whnf
  rw [no fun e=>mplant ((RcV.bare_iff.1 e).2.1)]
  refine RunsS.retU ?_
  exact UnwS.ret tab Tryz.func40 rfl (eN () trivial)
 conv=>whnf
 refine ⟨fun mfr=>?_,fun mfr=>?_⟩<;>conv=>whnf
 rotate_left
 ·conv=>whnf
  refine gS ?_;conv=>whnf
  rw [no fun e=>mfr ((RcV.bare_iff.1 e).2.2.1)]
  refine RunsS.retU ?_
  exact UnwS.ret tab Tryz.func40 rfl (eN () trivial)
 conv=>whnf
 refine ⟨fun mto=>?_,fun mto=>?_⟩<;>conv=>whnf
 rotate_left
 ·conv=>whnf
  refine gS ?_;conv=>whnf
  rw [no fun e=>mto ((RcV.bare_iff.1 e).2.2.2.1)]
  refine RunsS.retU ?_
  exact UnwS.ret tab Tryz.func40 rfl (eN () trivial)
 conv=>whnf
 refine ⟨fun mrwN=>?_,fun mrwN=>?_⟩<;>conv=>whnf
 rotate_left
 ·conv=>whnf
  refine gS ?_;conv=>whnf
  rw [no fun e=>mrwN ((RcV.bare_iff.1 e).2.2.2.2.2.2.2.1)]
  refine RunsS.retU ?_
  exact UnwS.ret tab Tryz.func40 rfl (eN () trivial)
 conv=>whnf
 refine ⟨fun mrwD=>?_,fun mrwD=>?_⟩<;>conv=>whnf
 rotate_left
 ·conv=>whnf
  refine gS ?_;conv=>whnf
  rw [no fun e=>mrwD ((RcV.bare_iff.1 e).2.2.2.2.2.2.2.2.1)]
  refine RunsS.retU ?_
  exact UnwS.ret tab Tryz.func40 rfl (eN () trivial)
 conv=>whnf
 refine ⟨fun myN=>?_,fun myN=>?_⟩<;>conv=>whnf
 rotate_left
 ·conv=>whnf
  refine gS ?_;conv=>whnf
  rw [no fun e=>myN ((RcV.bare_iff.1 e).2.2.2.2.2.2.2.2.2.1)]
  refine RunsS.retU ?_
  exact UnwS.ret tab Tryz.func40 rfl (eN () trivial)
 conv=>whnf
 refine ⟨fun myD=>?_,fun myD=>?_⟩<;>conv=>whnf
 rotate_left
 ·conv=>whnf
  refine gS ?_;conv=>whnf
  rw [no fun e=>myD ((RcV.bare_iff.1 e).2.2.2.2.2.2.2.2.2.2.1)]
  refine RunsS.retU ?_
  exact UnwS.ret tab Tryz.func40 rfl (eN () trivial)
 conv=>whnf
 refine ⟨fun mtN=>?_,fun mtN=>?_⟩<;>conv=>whnf
 rotate_left
 ·conv=>whnf
  refine gS ?_;conv=>whnf
  rw [no fun e=>mtN ((RcV.bare_iff.1 e).2.2.2.2.2.2.2.2.2.2.2.1)]
  refine RunsS.retU ?_
  exact UnwS.ret tab Tryz.func40 rfl (eN () trivial)
 conv=>whnf
 refine ⟨fun mtD=>?_,fun mtD=>?_⟩<;>conv=>whnf
 rotate_left
 ·conv=>whnf
  refine gS ?_;conv=>whnf
  rw [no fun e=>mtD ((RcV.bare_iff.1 e).2.2.2.2.2.2.2.2.2.2.2.2.1)]
  refine RunsS.retU ?_
  exact UnwS.ret tab Tryz.func40 rfl (eN () trivial)
 conv=>whnf
 refine ⟨fun mlead=>?_,fun mlead=>?_⟩<;>conv=>whnf
 rotate_left
 ·conv=>whnf
  refine gS ?_;conv=>whnf
  rw [no fun e=>mlead ((RcV.bare_iff.1 e).2.2.2.2.2.2.2.2.2.2.2.2.2.1)]
  refine RunsS.retU ?_
  exact UnwS.ret tab Tryz.func40 rfl (eN () trivial)
 conv=>whnf
 refine ⟨fun minum=>?_,fun minum=>?_⟩<;>conv=>whnf
 rotate_left
 ·conv=>whnf
  refine gS ?_;conv=>whnf
  rw [no fun e=>minum ((RcV.bare_iff.1 e).2.2.2.2.2.2.2.2.2.2.2.2.2.2.2.1)]
  refine RunsS.retU ?_
  exact UnwS.ret tab Tryz.func40 rfl (eN () trivial)
 conv=>whnf
 refine gS ?_;conv=>whnf
 have:r=decide (a.pnum=b.pnum):=by
  by_cases mp:a.pnum=b.pnum
  ·rw [decide_eq_true mp,hr]
   exact eqB_yes (RcV.bare_iff.2 ⟨mitem,mplant,mfr,mto,n2,n3,n4,mrwN,mrwD,myN,myD,mtN,mtD,mlead,hruns,minum,mp⟩)
  rw [decide_eq_false mp]
  exact no fun e=>mp (RcV.bare_iff.1 e).2.2.2.2.2.2.2.2.2.2.2.2.2.2.2.2
 rw [this]
 refine RunsS.retU ?_
 exact UnwS.ret tab Tryz.func40 rfl (eN () trivial)
end Go.Proofs.YtofjdbmcloemnaaGreatDoor

namespace Go.SrcM
open Go Go.Fw Go.RatM
theorem SrcV.bare_mk {a b:SrcV} (h1:a.units=b.units) (h2:a.items=b.items) (h3:a.plants=b.plants) (h4:a.machines=b.machines) (h5:a.options.map OpV.bare=b.options.map OpV.bare) (h6:a.forbids.map FbV.bare=b.forbids.map FbV.bare) (h7:a.recipes.map RcV.bare=b.recipes.map RcV.bare) (h8:a.swaps=b.swaps):a.bare=b.bare:=by
 unfold SrcV.bare
 rw [h1,h2,h3,h4,h5,h6,h7,h8]
theorem SrcV.of_bare {a b:SrcV} (h:a.bare=b.bare):a.units=b.units∧a.items=b.items∧a.plants=b.plants∧a.machines=b.machines∧a.options.map OpV.bare=b.options.map OpV.bare∧a.forbids.map FbV.bare=b.forbids.map FbV.bare∧a.recipes.map RcV.bare=b.recipes.map RcV.bare∧a.swaps=b.swaps:=
 ⟨(congrArg SrcV.units h :),(congrArg SrcV.items h :),(congrArg SrcV.plants h :),(congrArg SrcV.machines h :),(congrArg SrcV.options h :),(congrArg SrcV.forbids h :),(congrArg SrcV.recipes h :),(congrArg SrcV.swaps h :)⟩
theorem map_len {α β:Type} {f:α→β} {a b:List α} (h:a.map f=b.map f):a.length=b.length:=by
 have:=congrArg List.length h
 rwa [List.length_map,List.length_map] at this
theorem map_at {α β:Type} {f:α→β} {a b:List α} (h:a.map f=b.map f) {k:Nat} (ha:k<a.length) (hb:k<b.length):f a[k]=f b[k]:=by
 have:=at_eq h (k:=k) (by rwa [List.length_map]) (by rwa [List.length_map])
 rwa [List.getElem_map,List.getElem_map] at this
theorem map_all {α β:Type} {f:α→β} {a b:List α} (h:a.length=b.length) (H:∀j (ha:j<a.length) (hb:j<b.length),f a[j]=f b[j]):a.map f=b.map f:=
 all_at (by rw [List.length_map,List.length_map,h]) fun j h1 h2=>by
  rw [List.length_map] at h1 h2
  rw [List.getElem_map,List.getElem_map]
  exact H j h1 h2
theorem more_by {α β:Type} {f:α→β} {a b:List α} {k:Nat} (ha:k<a.length) (hb:k<b.length) (H:∀j (_:j<k) (ha:j<a.length) (hb:j<b.length),f a[j]=f b[j]) (h:f a[k]=f b[k]):∀j (_:j<k+1) (ha:j<a.length) (hb:j<b.length),f a[j]=f b[j]:=
 fun j hj h1 h2=>(Nat.lt_succ_iff_lt_or_eq.1 hj).elim (fun hj=>H j hj h1 h2) (fun e=>by subst e;exact h)
theorem OpV.bare_iff {a b:OpV}:a.bare=b.bare↔a.name=b.name∧a.ch=b.ch:=by
 obtain ⟨_,_,_⟩:=a;obtain ⟨_,_,_⟩:=b;simp [OpV.bare]
theorem FbV.bare_iff {a b:FbV}:a.bare=b.bare↔a.cs=b.cs:=by
 obtain ⟨_,_⟩:=a;obtain ⟨_,_⟩:=b;simp [FbV.bare]
end Go.SrcM
namespace Go.Proofs.YtofjdbmcloemnaaGreatDoor
open Go Go.Fw Go.NatM Go.RatM Go.SrcM
set_option maxRecDepth 100000
set_option maxHeartbeats 99999999
section
variable {vU vI vP vM vO vF vR vS wU wI wP wM wO wF wR wS:Value}
abbrev Two2T (vU vI vP vM vO vF vR vS wU wI wP wM wO wF wR wS:Value) (a b:SrcV) (F:Nat→Prop) (h:Array Obj):Prop:=TopF F h vU vI vP vM vO vF vR vS a∧TopF F h wU wI wP wM wO wF wR wS b
theorem Two2T.tok (vU vI vP vM vO vF vR vS wU wI wP wM wO wF wR wS:Value) (a b:SrcV):TOk (Two2T vU vI vP vM vO vF vR vS wU wI wP wM wO wF wR wS a b):=
 ⟨fun _ _ _ hs H=>⟨H.1.up ⟨hs,fun _ _=>rfl⟩,H.2.up ⟨hs,fun _ _=>rfl⟩⟩,fun _ _ _ H K=>⟨H.1.up ⟨fun _ x=>x,K.same⟩,H.2.up ⟨fun _ x=>x,K.same⟩⟩⟩
theorem sSame_fn (a b:SrcV):FnT Tryz.prog (Two2T vU vI vP vM vO vF vR vS wU wI wP wM wO wF wR wS a b) 13 0 [srcA vU vI vP vM vO vF vR vS,srcA wU wI wP wM wO wF wR wS] [] (fun _:Unit=>True) (fun _=>.ret (.v (.bool (eqB a.bare b.bare))) 0 []):=by
 have laU:(rowsU a.units).length=a.units.length:=by first|exact rowsU_len _|exact rws_len _ _
 have laI:(rws It.row a.items).length=a.items.length:=by first|exact rowsU_len _|exact rws_len _ _
 have laP:(rwsB a.plants).length=a.plants.length:=by first|exact rowsU_len _|exact rws_len _ _
 have laM:(rws Mc.row a.machines).length=a.machines.length:=by first|exact rowsU_len _|exact rws_len _ _
 have laO:(rws OpV.row a.options).length=a.options.length:=by first|exact rowsU_len _|exact rws_len _ _
 have laF:(rws FbV.row a.forbids).length=a.forbids.length:=by first|exact rowsU_len _|exact rws_len _ _
 have laR:(rws RcV.row a.recipes).length=a.recipes.length:=by first|exact rowsU_len _|exact rws_len _ _
 have laS:(rws Sw.row a.swaps).length=a.swaps.length:=by first|exact rowsU_len _|exact rws_len _ _
 have lbU:(rowsU b.units).length=b.units.length:=by first|exact rowsU_len _|exact rws_len _ _
 have lbI:(rws It.row b.items).length=b.items.length:=by first|exact rowsU_len _|exact rws_len _ _
 have lbP:(rwsB b.plants).length=b.plants.length:=by first|exact rowsU_len _|exact rws_len _ _
 have lbM:(rws Mc.row b.machines).length=b.machines.length:=by first|exact rowsU_len _|exact rws_len _ _
 have lbO:(rws OpV.row b.options).length=b.options.length:=by first|exact rowsU_len _|exact rws_len _ _
 have lbF:(rws FbV.row b.forbids).length=b.forbids.length:=by first|exact rowsU_len _|exact rws_len _ _
 have lbR:(rws RcV.row b.recipes).length=b.recipes.length:=by first|exact rowsU_len _|exact rws_len _ _
 have lbS:(rws Sw.row b.swaps).length=b.swaps.length:=by first|exact rowsU_len _|exact rws_len _ _
 obtain ⟨r,hr⟩:∃r,r=eqB a.bare b.bare:=⟨_,rfl⟩
 rw [←hr]
 have no:¬a.bare=b.bare→r=false:=fun h=>by rw [hr];exact eqB_no h
 refine FnT.of Tryz.func13 (by kernel_rfl) rfl Tryz.ntmps13 rfl fun E0 F h hT w0 cs=>?_
 have mU:=hT.1.U.len
 obtain ⟨aaU,caU,rfl⟩:=RoF.sli hT.1.U laU
 have mI:=hT.1.I.len
 obtain ⟨aaI,caI,rfl⟩:=RoF.sli hT.1.I laI
 have mM:=hT.1.M.len
 obtain ⟨aaM,caM,rfl⟩:=RoF.sli hT.1.M laM
 have mO:=hT.1.O.len
 obtain ⟨aaO,caO,rfl⟩:=RoF.sli hT.1.O laO
 have mF:=hT.1.F.len
 obtain ⟨aaF,caF,rfl⟩:=RoF.sli hT.1.F laF
 have mR:=hT.1.R.len
 obtain ⟨aaR,caR,rfl⟩:=RoF.sli hT.1.R laR
 have mS:=hT.1.S.len
 obtain ⟨aaS,caS,rfl⟩:=RoF.sli hT.1.S laS
 obtain ⟨abU,cbU,rfl⟩:=RoF.sli hT.2.U lbU
 obtain ⟨abI,cbI,rfl⟩:=RoF.sli hT.2.I lbI
 obtain ⟨abM,cbM,rfl⟩:=RoF.sli hT.2.M lbM
 obtain ⟨abO,cbO,rfl⟩:=RoF.sli hT.2.O lbO
 obtain ⟨abF,cbF,rfl⟩:=RoF.sli hT.2.F lbF
 obtain ⟨abR,cbR,rfl⟩:=RoF.sli hT.2.R lbR
 obtain ⟨abS,cbS,rfl⟩:=RoF.sli hT.2.S lbS
 conv=>whnf
 refine gS ?_;conv=>whnf
 refine ⟨fun hs=>?_,fun hs=>?_⟩<;>conv=>whnf
 rotate_left
 ·conv=>whnf
  refine gS ?_;conv=>whnf
  rw [no fun e=>hs (by rw [(SrcV.of_bare e).1])]
  refine RunsS.retU ?_
  exact UnwS.ret tab Tryz.func13 rfl (eN () trivial)
 conv=>whnf
 have nU:a.units.length=b.units.length:=by omega
 refine ⟨fun hs=>?_,fun hs=>?_⟩<;>conv=>whnf
 rotate_left
 ·conv=>whnf
  refine gS ?_;conv=>whnf
  rw [no fun e=>hs (by rw [(SrcV.of_bare e).2.1])]
  refine RunsS.retU ?_
  exact UnwS.ret tab Tryz.func13 rfl (eN () trivial)
 conv=>whnf
 have nI:a.items.length=b.items.length:=by omega
 refine RunsS.callT (Two.tok _ _ _ _ _) (⟨hT.1.P,hT.2.P⟩) (sNames_fn vP wP a.plants b.plants) [] sH ?CNa1 ?_
 case CNa1=>rfl
 rintro _ _
 by_cases eP:a.plants=b.plants
 rotate_left
 ·rw [eqB_no eP]
  conv=>whnf
  refine gS ?_;conv=>whnf
  rw [no fun e=>eP (SrcV.of_bare e).2.2.1]
  refine RunsS.retU ?_
  exact UnwS.ret tab Tryz.func13 rfl (eN () trivial)
 rw [eqB_yes eP]
 conv=>whnf
 refine gS ?_;conv=>whnf
 refine ⟨fun hs=>?_,fun hs=>?_⟩<;>conv=>whnf
 rotate_left
 ·conv=>whnf
  refine gS ?_;conv=>whnf
  rw [no fun e=>hs (by rw [(SrcV.of_bare e).2.2.2.1])]
  refine RunsS.retU ?_
  exact UnwS.ret tab Tryz.func13 rfl (eN () trivial)
 conv=>whnf
 have nM:a.machines.length=b.machines.length:=by omega
 refine ⟨fun hs=>?_,fun hs=>?_⟩<;>conv=>whnf
 rotate_left
 ·conv=>whnf
  refine gS ?_;conv=>whnf
  rw [no fun e=>hs (by rw [map_len (SrcV.of_bare e).2.2.2.2.1])]
  refine RunsS.retU ?_
  exact UnwS.ret tab Tryz.func13 rfl (eN () trivial)
 conv=>whnf
 have nO:a.options.length=b.options.length:=by omega
 refine ⟨fun hs=>?_,fun hs=>?_⟩<;>conv=>whnf
 rotate_left
 ·conv=>whnf
  refine gS ?_;conv=>whnf
  rw [no fun e=>hs (by rw [map_len (SrcV.of_bare e).2.2.2.2.2.1])]
  refine RunsS.retU ?_
  exact UnwS.ret tab Tryz.func13 rfl (eN () trivial)
 conv=>whnf
 have nF:a.forbids.length=b.forbids.length:=by omega
 refine ⟨fun hs=>?_,fun hs=>?_⟩<;>conv=>whnf
 rotate_left
 ·conv=>whnf
  refine gS ?_;conv=>whnf
  rw [no fun e=>hs (by rw [map_len (SrcV.of_bare e).2.2.2.2.2.2.1])]
  refine RunsS.retU ?_
  exact UnwS.ret tab Tryz.func13 rfl (eN () trivial)
 conv=>whnf
 have nR:a.recipes.length=b.recipes.length:=by omega
 refine ⟨fun hs=>?_,fun hs=>?_⟩<;>conv=>whnf
 rotate_left
 ·conv=>whnf
  refine gS ?_;conv=>whnf
  rw [no fun e=>hs (by rw [(SrcV.of_bare e).2.2.2.2.2.2.2])]
  refine RunsS.retU ?_
  exact UnwS.ret tab Tryz.func13 rfl (eN () trivial)
 conv=>whnf
 have nS:a.swaps.length=b.swaps.length:=by omega
 refine RunsS.nameCell (fun _ x=>x) 0 0 (by exact hT.1.U) ?_
 conv=>whnf
 refine gS ?_;conv=>whnf
 refine RunsS.nameCell (fun _ x=>x) 1 0 (by exact hT.2.U) ?_
 conv=>whnf
 refine gS ?_;conv=>whnf
 refine RunsS.subR [] (RunsS.loop (fun (k:Nat)=>[(5,.v (.int .i64 k)),(2,.ptr 0 0),(3,.ptr 1 0)]) (fun (k:Nat)=>[(0,.cells 31 [.buf 2,.v (.slice aaI a.items.length caI),.v vP,.v (.slice aaM a.machines.length caM),.v (.slice aaO a.options.length caO),.v (.slice aaF a.forbids.length caF),.v (.slice aaR a.recipes.length caR),.v (.slice aaS a.swaps.length caS)]),(1,.cells 31 [.buf 3,.v (.slice abI b.items.length cbI),.v wP,.v (.slice abM b.machines.length cbM),.v (.slice abO b.options.length cbO),.v (.slice abF b.forbids.length cbF),.v (.slice abR b.recipes.length cbR),.v (.slice abS b.swaps.length cbS)]),(2,.ro 8 (rowsU a.units)),(3,.ro 8 (rowsU b.units))]) 4 (fun (k:Nat)=>k≤a.units.length ∧ ∀j (_:j<k) (ha:j<a.units.length) (hb:j<b.units.length),a.units[j]=b.units[j]) (fun (k:Nat)=>a.units.length - k) ?round2 (0) ?J02) sH sH
 case J02=>exact (⟨Nat.zero_le _,fun j hj=>absurd hj (Nat.not_lt_zero _)⟩)
 rintro k hJ back
 conv=>whnf
 refine gS ?_;conv=>whnf
 refine ⟨fun hk=>?_,fun hk=>?_⟩<;>conv=>whnf
 ·have hk:k<a.units.length:=by omega
  have hk2:k<b.units.length:=by omega
  conv=>whnf
  refine RunsS.held tab (.fl 0 (.fl 1 (.fl 2 (.fl 3 (.fl 4 (.fl 5 (.fl 6 (.fl 7 (.fl 8 (.fl 9 (.fl 10 .done))))))))))) (by kernel_rfl) ?_;conv=>whnf
  try refine gR ?_;conv=>whnf
  repeat ((first|(guard_target=_∧_;(fail_if_success refine oF ?_ ?_);(first|refine oL ?_|refine oR ?_|refine oB ?_)));(try intro _);conv=>whnf)
  conv=>whnf
  refine ⟨_,rowsU_get hk,?_⟩;conv=>whnf
  try (refine And.intro (by first|omega|exact Nat.le_of_ble_eq_true rfl) ?_;(try intro _);conv=>whnf)
  conv=>whnf
  repeat ((first|(guard_target=_∧_;(fail_if_success refine oF ?_ ?_);(first|refine oL ?_|refine oR ?_|refine oB ?_)));(try intro _);conv=>whnf)
  conv=>whnf
  refine ⟨_,rowsU_get hk2,?_⟩;conv=>whnf
  try (refine And.intro (by first|omega|exact Nat.le_of_ble_eq_true rfl) ?_;(try intro _);conv=>whnf)
  conv=>whnf
  refine ⟨fun hs=>?_,fun hs=>?_⟩<;>conv=>whnf
  ·try refine gR ?_
   conv=>whnf
   refine gS ?_;conv=>whnf
   repeat ((first|(guard_target=_∧_;(fail_if_success refine oF ?_ ?_);(first|refine oL ?_|refine oR ?_)));(try intro _);conv=>whnf)
   refine RunsS.subR [] (back (k+1) (by exact (⟨hk,more_at hk hk2 hJ.2 (Un.ext8_iff.2 hs)⟩)) (by (try dsimp only);omega)) sH sH
  try refine gR ?_;conv=>whnf
  refine gS ?_;conv=>whnf
  rw [no fun e=>hs (Un.ext8_iff.1 (at_eq ((SrcV.of_bare e).1) hk hk2))]
  refine RunsS.retU ?_
  exact UnwS.ret tab Tryz.func13 rfl (eN () trivial)
 have eU:=all_at nU fun j h1 h2=>hJ.2 j (by omega) h1 h2
 clear back hJ
 conv=>whnf
 refine RunsS.nameCell (fun _ x=>x) 0 1 (by exact hT.1.I) ?_
 conv=>whnf
 refine gS ?_;conv=>whnf
 refine RunsS.nameCell (fun _ x=>x) 1 1 (by exact hT.2.I) ?_
 conv=>whnf
 refine gS ?_;conv=>whnf
 refine RunsS.subR [] (RunsS.loop (fun (k:Nat)=>[(6,.v (.int .i64 k)),(2,.ptr 0 0),(3,.ptr 1 0)]) (fun (k:Nat)=>[(0,.cells 31 [.buf 2,.buf 4,.v vP,.v (.slice aaM a.machines.length caM),.v (.slice aaO a.options.length caO),.v (.slice aaF a.forbids.length caF),.v (.slice aaR a.recipes.length caR),.v (.slice aaS a.swaps.length caS)]),(1,.cells 31 [.buf 3,.buf 5,.v wP,.v (.slice abM b.machines.length cbM),.v (.slice abO b.options.length cbO),.v (.slice abF b.forbids.length cbF),.v (.slice abR b.recipes.length cbR),.v (.slice abS b.swaps.length cbS)]),(4,.ro 6 (rws It.row a.items)),(5,.ro 6 (rws It.row b.items))]) 6 (fun (k:Nat)=>k≤a.items.length ∧ ∀j (_:j<k) (ha:j<a.items.length) (hb:j<b.items.length),a.items[j]=b.items[j]) (fun (k:Nat)=>a.items.length - k) ?round4 (0) ?J04) sH sH
 case J04=>exact (⟨Nat.zero_le _,fun j hj=>absurd hj (Nat.not_lt_zero _)⟩)
 rintro k hJ back
 conv=>whnf
 refine gS ?_;conv=>whnf
 refine ⟨fun hk=>?_,fun hk=>?_⟩<;>conv=>whnf
 ·have hk:k<a.items.length:=by omega
  have hk2:k<b.items.length:=by omega
  conv=>whnf
  refine RunsS.held tab (.fl 0 (.fl 1 (.fl 2 (.fl 3 (.fl 4 (.fl 5 (.fl 6 (.fl 7 (.fl 8 (.fl 9 (.fl 10 .done))))))))))) (by kernel_rfl) ?_;conv=>whnf
  try refine gR ?_;conv=>whnf
  repeat ((first|(guard_target=_∧_;(fail_if_success refine oF ?_ ?_);(first|refine oL ?_|refine oR ?_|refine oB ?_)));(try intro _);conv=>whnf)
  conv=>whnf
  refine ⟨_,rws_get hk,?_⟩;conv=>whnf
  try (refine And.intro (by first|omega|exact Nat.le_of_ble_eq_true rfl) ?_;(try intro _);conv=>whnf)
  conv=>whnf
  repeat ((first|(guard_target=_∧_;(fail_if_success refine oF ?_ ?_);(first|refine oL ?_|refine oR ?_|refine oB ?_)));(try intro _);conv=>whnf)
  conv=>whnf
  refine ⟨_,rws_get hk2,?_⟩;conv=>whnf
  try (refine And.intro (by first|omega|exact Nat.le_of_ble_eq_true rfl) ?_;(try intro _);conv=>whnf)
  conv=>whnf
  refine ⟨fun hs=>?_,fun hs=>?_⟩<;>conv=>whnf
  ·try refine gR ?_
   conv=>whnf
   refine gS ?_;conv=>whnf
   repeat ((first|(guard_target=_∧_;(fail_if_success refine oF ?_ ?_);(first|refine oL ?_|refine oR ?_)));(try intro _);conv=>whnf)
   refine RunsS.subR [] (back (k+1) (by exact (⟨hk,more_at hk hk2 hJ.2 (It.ext_iff'.2 hs)⟩)) (by (try dsimp only);omega)) sH sH
  try refine gR ?_;conv=>whnf
  refine gS ?_;conv=>whnf
  rw [no fun e=>hs (It.ext_iff'.1 (at_eq ((SrcV.of_bare e).2.1) hk hk2))]
  refine RunsS.retU ?_
  exact UnwS.ret tab Tryz.func13 rfl (eN () trivial)
 have eI:=all_at nI fun j h1 h2=>hJ.2 j (by omega) h1 h2
 clear back hJ
 conv=>whnf
 refine RunsS.nameCell (fun _ x=>x) 0 3 (by exact hT.1.M) ?_
 conv=>whnf
 refine gS ?_;conv=>whnf
 refine RunsS.nameCell (fun _ x=>x) 1 3 (by exact hT.2.M) ?_
 conv=>whnf
 refine gS ?_;conv=>whnf
 refine RunsS.subR [] (RunsS.loop (fun (k:Nat)=>[(7,.v (.int .i64 k)),(2,.ptr 0 0),(3,.ptr 1 0)]) (fun (k:Nat)=>[(0,.cells 31 [.buf 2,.buf 4,.v vP,.buf 6,.v (.slice aaO a.options.length caO),.v (.slice aaF a.forbids.length caF),.v (.slice aaR a.recipes.length caR),.v (.slice aaS a.swaps.length caS)]),(1,.cells 31 [.buf 3,.buf 5,.v wP,.buf 7,.v (.slice abO b.options.length cbO),.v (.slice abF b.forbids.length cbF),.v (.slice abR b.recipes.length cbR),.v (.slice abS b.swaps.length cbS)]),(6,.ro 4 (rws Mc.row a.machines)),(7,.ro 4 (rws Mc.row b.machines))]) 8 (fun (k:Nat)=>k≤a.machines.length ∧ ∀j (_:j<k) (ha:j<a.machines.length) (hb:j<b.machines.length),a.machines[j]=b.machines[j]) (fun (k:Nat)=>a.machines.length - k) ?round6 (0) ?J06) sH sH
 case J06=>exact (⟨Nat.zero_le _,fun j hj=>absurd hj (Nat.not_lt_zero _)⟩)
 rintro k hJ back
 conv=>whnf
 refine gS ?_;conv=>whnf
 refine ⟨fun hk=>?_,fun hk=>?_⟩<;>conv=>whnf
 ·have hk:k<a.machines.length:=by omega
  have hk2:k<b.machines.length:=by omega
  conv=>whnf
  refine RunsS.held tab (.fl 0 (.fl 1 (.fl 2 (.fl 3 (.fl 4 (.fl 5 (.fl 6 (.fl 7 (.fl 8 (.fl 9 (.fl 10 .done))))))))))) (by kernel_rfl) ?_;conv=>whnf
  try refine gR ?_;conv=>whnf
  repeat ((first|(guard_target=_∧_;(fail_if_success refine oF ?_ ?_);(first|refine oL ?_|refine oR ?_|refine oB ?_)));(try intro _);conv=>whnf)
  conv=>whnf
  refine ⟨_,rws_get hk,?_⟩;conv=>whnf
  try (refine And.intro (by first|omega|exact Nat.le_of_ble_eq_true rfl) ?_;(try intro _);conv=>whnf)
  conv=>whnf
  repeat ((first|(guard_target=_∧_;(fail_if_success refine oF ?_ ?_);(first|refine oL ?_|refine oR ?_|refine oB ?_)));(try intro _);conv=>whnf)
  conv=>whnf
  refine ⟨_,rws_get hk2,?_⟩;conv=>whnf
  try (refine And.intro (by first|omega|exact Nat.le_of_ble_eq_true rfl) ?_;(try intro _);conv=>whnf)
  conv=>whnf
  refine ⟨fun hs=>?_,fun hs=>?_⟩<;>conv=>whnf
  ·try refine gR ?_
   conv=>whnf
   refine gS ?_;conv=>whnf
   repeat ((first|(guard_target=_∧_;(fail_if_success refine oF ?_ ?_);(first|refine oL ?_|refine oR ?_)));(try intro _);conv=>whnf)
   refine RunsS.subR [] (back (k+1) (by exact (⟨hk,more_at hk hk2 hJ.2 (Mc.ext_iff'.2 hs)⟩)) (by (try dsimp only);omega)) sH sH
  try refine gR ?_;conv=>whnf
  refine gS ?_;conv=>whnf
  rw [no fun e=>hs (Mc.ext_iff'.1 (at_eq ((SrcV.of_bare e).2.2.2.1) hk hk2))]
  refine RunsS.retU ?_
  exact UnwS.ret tab Tryz.func13 rfl (eN () trivial)
 have eM:=all_at nM fun j h1 h2=>hJ.2 j (by omega) h1 h2
 clear back hJ
 conv=>whnf
 refine RunsS.nameCell (fun _ x=>x) 0 4 (by exact hT.1.O) ?_
 conv=>whnf
 refine gS ?_;conv=>whnf
 refine RunsS.nameCell (fun _ x=>x) 1 4 (by exact hT.2.O) ?_
 conv=>whnf
 refine gS ?_;conv=>whnf
 refine RunsS.subR [] (RunsS.loop (fun (k:Nat)=>[(8,.v (.int .i64 k)),(2,.ptr 0 0),(3,.ptr 1 0)]) (fun (k:Nat)=>[(0,.cells 31 [.buf 2,.buf 4,.v vP,.buf 6,.buf 8,.v (.slice aaF a.forbids.length caF),.v (.slice aaR a.recipes.length caR),.v (.slice aaS a.swaps.length caS)]),(1,.cells 31 [.buf 3,.buf 5,.v wP,.buf 7,.buf 9,.v (.slice abF b.forbids.length cbF),.v (.slice abR b.recipes.length cbR),.v (.slice abS b.swaps.length cbS)]),(8,.ro 2 (rws OpV.row a.options)),(9,.ro 2 (rws OpV.row b.options))]) 10 (fun (k:Nat)=>k≤a.options.length ∧ ∀j (_:j<k) (ha:j<a.options.length) (hb:j<b.options.length),OpV.bare a.options[j]=OpV.bare b.options[j]) (fun (k:Nat)=>a.options.length - k) ?round8 (0) ?J08) sH sH
 case J08=>exact (⟨Nat.zero_le _,fun j hj=>absurd hj (Nat.not_lt_zero _)⟩)
 rintro k hJ back
 conv=>whnf
 refine gS ?_;conv=>whnf
 refine ⟨fun hk=>?_,fun hk=>?_⟩<;>conv=>whnf
 ·have hk:k<a.options.length:=by omega
  have hk2:k<b.options.length:=by omega
  conv=>whnf
  refine RunsS.held tab (.fl 0 (.fl 1 (.fl 2 (.fl 3 (.fl 4 (.fl 5 (.fl 6 (.fl 7 (.fl 8 (.fl 9 (.fl 10 (.fl 11 (.fl 12 (.fl 13 (.fl 14 (.fl 15 (.fl 16 (.fl 17 (.fl 18 (.fl 19 (.fl 20 (.fl 21 (.fl 22 (.fl 23 (.fl 24 (.fl 25 (.e1 26 [] (.fl 27 (.fl 28 .done))))))))))))))))))))))))))))) (by kernel_rfl) ?_;conv=>whnf
  try refine gR ?_;conv=>whnf
  repeat ((first|(guard_target=_∧_;(fail_if_success refine oF ?_ ?_);(first|refine oL ?_|refine oR ?_|refine oB ?_)));(try intro _);conv=>whnf)
  conv=>whnf
  refine ⟨_,rws_get hk,?_⟩;conv=>whnf
  try (refine And.intro (by first|omega|exact Nat.le_of_ble_eq_true rfl) ?_;(try intro _);conv=>whnf)
  conv=>whnf
  refine ⟨_,rws_get hk2,?_⟩;conv=>whnf
  conv=>whnf
  refine ⟨fun hs=>?_,fun hs=>?_⟩<;>conv=>whnf
  rotate_left
  ·try refine gR ?_
   conv=>whnf
   repeat ((first|(guard_target=_∧_;(fail_if_success refine oF ?_ ?_);(first|refine oL ?_|refine oR ?_|refine oB ?_)));(try intro _);conv=>whnf)
   refine gS ?_;conv=>whnf
   rw [no fun e=>hs (OpV.bare_iff.1 (map_at (SrcV.of_bare e).2.2.2.2.1 hk hk2)).1]
   refine RunsS.retU ?_
   exact UnwS.ret tab Tryz.func13 rfl (eN () trivial)
  try refine gR ?_;conv=>whnf
  repeat ((first|(guard_target=_∧_;(fail_if_success refine oF ?_ ?_);(first|refine oL ?_|refine oR ?_|refine oB ?_)));(try intro _);conv=>whnf)
  conv=>whnf
  refine ⟨_,rws_get hk,?_⟩;conv=>whnf
  try (refine And.intro (by first|omega|exact Nat.le_of_ble_eq_true rfl) ?_;(try intro _);conv=>whnf)
  conv=>whnf
  refine ⟨_,rws_get hk2,?_⟩;conv=>whnf
  conv=>whnf
  refine EffR.callT (Two.tok _ _ _ _ _) (⟨hT.1.below.o _ (List.getElem_mem hk),hT.2.below.o _ (List.getElem_mem hk2)⟩) (sNames_fn (a.options[k].hd.v a.options[k].ch.length) (b.options[k].hd.v b.options[k].ch.length) a.options[k].ch b.options[k].ch) [] ?_ sH ?CNa9
  case CNa9=>rfl
  intro _ _
  conv=>whnf
  try refine oB ?_
  try refine gR ?_;conv=>whnf
  refine gS ?_;conv=>whnf
  by_cases hc:a.options[k].ch=b.options[k].ch
  ·rw [eqB_yes hc]
   conv=>whnf
   repeat ((first|(guard_target=_∧_;(fail_if_success refine oF ?_ ?_);(first|refine oL ?_|refine oR ?_)));(try intro _);conv=>whnf)
   refine RunsS.subR [] (back (k+1) (by exact (⟨hk,more_by hk hk2 hJ.2 (OpV.bare_iff.2 ⟨hs,hc⟩)⟩)) (by (try dsimp only);omega)) sH sH
  rw [eqB_no hc]
  conv=>whnf
  refine gS ?_;conv=>whnf
  rw [no fun e=>hc (OpV.bare_iff.1 (map_at (SrcV.of_bare e).2.2.2.2.1 hk hk2)).2]
  refine RunsS.retU ?_
  exact UnwS.ret tab Tryz.func13 rfl (eN () trivial)
 have eO:=map_all nO fun j h1 h2=>hJ.2 j (by omega) h1 h2
 clear back hJ
 conv=>whnf
 refine RunsS.nameCell (fun _ x=>x) 0 5 (by exact hT.1.F) ?_
 conv=>whnf
 refine gS ?_;conv=>whnf
 refine RunsS.nameCell (fun _ x=>x) 1 5 (by exact hT.2.F) ?_
 conv=>whnf
 refine gS ?_;conv=>whnf
 refine RunsS.subR [] (RunsS.loop (fun (k:Nat)=>[(9,.v (.int .i64 k)),(2,.ptr 0 0),(3,.ptr 1 0)]) (fun (k:Nat)=>[(0,.cells 31 [.buf 2,.buf 4,.v vP,.buf 6,.buf 8,.buf 10,.v (.slice aaR a.recipes.length caR),.v (.slice aaS a.swaps.length caS)]),(1,.cells 31 [.buf 3,.buf 5,.v wP,.buf 7,.buf 9,.buf 11,.v (.slice abR b.recipes.length cbR),.v (.slice abS b.swaps.length cbS)]),(10,.ro 1 (rws FbV.row a.forbids)),(11,.ro 1 (rws FbV.row b.forbids))]) 12 (fun (k:Nat)=>k≤a.forbids.length ∧ ∀j (_:j<k) (ha:j<a.forbids.length) (hb:j<b.forbids.length),FbV.bare a.forbids[j]=FbV.bare b.forbids[j]) (fun (k:Nat)=>a.forbids.length - k) ?round11 (0) ?J011) sH sH
 case J011=>exact (⟨Nat.zero_le _,fun j hj=>absurd hj (Nat.not_lt_zero _)⟩)
 rintro k hJ back
 conv=>whnf
 refine gS ?_;conv=>whnf
 refine ⟨fun hk=>?_,fun hk=>?_⟩<;>conv=>whnf
 ·have hk:k<a.forbids.length:=by omega
  have hk2:k<b.forbids.length:=by omega
  conv=>whnf
  refine RunsS.held tab (.fl 0 (.fl 1 (.fl 2 (.fl 3 (.fl 4 (.fl 5 (.fl 6 (.fl 7 (.fl 8 (.fl 9 (.e1 10 [] (.fl 11 .done)))))))))))) (by kernel_rfl) ?_;conv=>whnf
  try refine gR ?_;conv=>whnf
  repeat ((first|(guard_target=_∧_;(fail_if_success refine oF ?_ ?_);(first|refine oL ?_|refine oR ?_|refine oB ?_)));(try intro _);conv=>whnf)
  conv=>whnf
  refine ⟨_,rws_get hk,?_⟩;conv=>whnf
  try (refine And.intro (by first|omega|exact Nat.le_of_ble_eq_true rfl) ?_;(try intro _);conv=>whnf)
  conv=>whnf
  refine ⟨_,rws_get hk2,?_⟩;conv=>whnf
  conv=>whnf
  refine EffR.callT (Two.tok _ _ _ _ _) (⟨hT.1.below.f _ (List.getElem_mem hk),hT.2.below.f _ (List.getElem_mem hk2)⟩) (sConds_fn (a.forbids[k].hd.v a.forbids[k].cs.length) (b.forbids[k].hd.v b.forbids[k].cs.length) a.forbids[k].cs b.forbids[k].cs) [] ?_ sH ?CNa12
  case CNa12=>rfl
  intro _ _
  conv=>whnf
  try refine oB ?_
  try refine gR ?_;conv=>whnf
  refine gS ?_;conv=>whnf
  by_cases hc:a.forbids[k].cs=b.forbids[k].cs
  ·rw [eqB_yes hc]
   conv=>whnf
   repeat ((first|(guard_target=_∧_;(fail_if_success refine oF ?_ ?_);(first|refine oL ?_|refine oR ?_)));(try intro _);conv=>whnf)
   refine RunsS.subR [] (back (k+1) (by exact (⟨hk,more_by hk hk2 hJ.2 (FbV.bare_iff.2 hc)⟩)) (by (try dsimp only);omega)) sH sH
  rw [eqB_no hc]
  conv=>whnf
  refine gS ?_;conv=>whnf
  rw [no fun e=>hc (FbV.bare_iff.1 (map_at (SrcV.of_bare e).2.2.2.2.2.1 hk hk2))]
  refine RunsS.retU ?_
  exact UnwS.ret tab Tryz.func13 rfl (eN () trivial)
 have eF:=map_all nF fun j h1 h2=>hJ.2 j (by omega) h1 h2
 clear back hJ
 conv=>whnf
 refine RunsS.nameCell (fun _ x=>x) 0 6 (by exact hT.1.R) ?_
 conv=>whnf
 refine gS ?_;conv=>whnf
 refine RunsS.nameCell (fun _ x=>x) 1 6 (by exact hT.2.R) ?_
 conv=>whnf
 refine gS ?_;conv=>whnf
 refine RunsS.subR [] (RunsS.loop (fun (k:Nat)=>[(10,.v (.int .i64 k)),(2,.ptr 0 0),(3,.ptr 1 0)]) (fun (k:Nat)=>[(0,.cells 31 [.buf 2,.buf 4,.v vP,.buf 6,.buf 8,.buf 10,.buf 12,.v (.slice aaS a.swaps.length caS)]),(1,.cells 31 [.buf 3,.buf 5,.v wP,.buf 7,.buf 9,.buf 11,.buf 13,.v (.slice abS b.swaps.length cbS)]),(12,.ro 17 (rws RcV.row a.recipes)),(13,.ro 17 (rws RcV.row b.recipes))]) 14 (fun (k:Nat)=>k≤a.recipes.length ∧ ∀j (_:j<k) (ha:j<a.recipes.length) (hb:j<b.recipes.length),RcV.bare a.recipes[j]=RcV.bare b.recipes[j]) (fun (k:Nat)=>a.recipes.length - k) ?round14 (0) ?J014) sH sH
 case J014=>exact (⟨Nat.zero_le _,fun j hj=>absurd hj (Nat.not_lt_zero _)⟩)
 rintro k hJ back
 conv=>whnf
 refine gS ?_;conv=>whnf
 refine ⟨fun hk=>?_,fun hk=>?_⟩<;>conv=>whnf
 ·have hk:k<a.recipes.length:=by omega
  have hk2:k<b.recipes.length:=by omega
  conv=>whnf
  refine RunsS.held tab (.fl 0 (.fl 1 (.fl 2 (.fl 3 (.fl 4 (.fl 5 (.fl 6 (.fl 7 (.fl 8 (.fl 9 (.e1 10 [] (.fl 11 .done)))))))))))) (by kernel_rfl) ?_;conv=>whnf
  try refine gR ?_;conv=>whnf
  repeat ((first|(guard_target=_∧_;(fail_if_success refine oF ?_ ?_);(first|refine oL ?_|refine oR ?_|refine oB ?_)));(try intro _);conv=>whnf)
  conv=>whnf
  refine ⟨_,rws_get hk,?_⟩;conv=>whnf
  try (refine And.intro (by first|omega|exact Nat.le_of_ble_eq_true rfl) ?_;(try intro _);conv=>whnf)
  conv=>whnf
  repeat ((first|(guard_target=_∧_;(fail_if_success refine oF ?_ ?_);(first|refine oL ?_|refine oR ?_|refine oB ?_)));(try intro _);conv=>whnf)
  conv=>whnf
  refine ⟨_,rws_get hk2,?_⟩;conv=>whnf
  try (refine And.intro (by first|omega|exact Nat.le_of_ble_eq_true rfl) ?_;(try intro _);conv=>whnf)
  conv=>whnf
  refine EffR.callT (TwoR.tok _ _) (⟨hT.1.below.r _ (List.getElem_mem hk),hT.2.below.r _ (List.getElem_mem hk2)⟩) (sRc_fn a.recipes[k] b.recipes[k]) [] ?_ sH ?CNa15
  case CNa15=>rfl
  intro _ _
  conv=>whnf
  try refine oB ?_
  try refine gR ?_;conv=>whnf
  refine gS ?_;conv=>whnf
  by_cases hc:a.recipes[k].bare=b.recipes[k].bare
  ·rw [eqB_yes hc]
   conv=>whnf
   repeat ((first|(guard_target=_∧_;(fail_if_success refine oF ?_ ?_);(first|refine oL ?_|refine oR ?_)));(try intro _);conv=>whnf)
   refine RunsS.subR [] (back (k+1) (by exact (⟨hk,more_by hk hk2 hJ.2 hc⟩)) (by (try dsimp only);omega)) sH sH
  rw [eqB_no hc]
  conv=>whnf
  refine gS ?_;conv=>whnf
  rw [no fun e=>hc (map_at (SrcV.of_bare e).2.2.2.2.2.2.1 hk hk2)]
  refine RunsS.retU ?_
  exact UnwS.ret tab Tryz.func13 rfl (eN () trivial)
 have eR:=map_all nR fun j h1 h2=>hJ.2 j (by omega) h1 h2
 clear back hJ
 conv=>whnf
 refine RunsS.nameCell (fun _ x=>x) 0 7 (by exact hT.1.S) ?_
 conv=>whnf
 refine gS ?_;conv=>whnf
 refine RunsS.nameCell (fun _ x=>x) 1 7 (by exact hT.2.S) ?_
 conv=>whnf
 refine gS ?_;conv=>whnf
 refine RunsS.subR [] (RunsS.loop (fun (k:Nat)=>[(11,.v (.int .i64 k)),(2,.ptr 0 0),(3,.ptr 1 0)]) (fun (k:Nat)=>[(0,.cells 31 [.buf 2,.buf 4,.v vP,.buf 6,.buf 8,.buf 10,.buf 12,.buf 14]),(1,.cells 31 [.buf 3,.buf 5,.v wP,.buf 7,.buf 9,.buf 11,.buf 13,.buf 15]),(14,.ro 4 (rws Sw.row a.swaps)),(15,.ro 4 (rws Sw.row b.swaps))]) 16 (fun (k:Nat)=>k≤a.swaps.length ∧ ∀j (_:j<k) (ha:j<a.swaps.length) (hb:j<b.swaps.length),a.swaps[j]=b.swaps[j]) (fun (k:Nat)=>a.swaps.length - k) ?round17 (0) ?J017) sH sH
 case J017=>exact (⟨Nat.zero_le _,fun j hj=>absurd hj (Nat.not_lt_zero _)⟩)
 rintro k hJ back
 conv=>whnf
 refine gS ?_;conv=>whnf
 refine ⟨fun hk=>?_,fun hk=>?_⟩<;>conv=>whnf
 ·have hk:k<a.swaps.length:=by omega
  have hk2:k<b.swaps.length:=by omega
  conv=>whnf
  refine RunsS.held tab (.fl 0 (.fl 1 (.fl 2 (.fl 3 (.fl 4 (.fl 5 (.fl 6 (.fl 7 (.fl 8 (.fl 9 (.fl 10 .done))))))))))) (by kernel_rfl) ?_;conv=>whnf
  try refine gR ?_;conv=>whnf
  repeat ((first|(guard_target=_∧_;(fail_if_success refine oF ?_ ?_);(first|refine oL ?_|refine oR ?_|refine oB ?_)));(try intro _);conv=>whnf)
  conv=>whnf
  refine ⟨_,rws_get hk,?_⟩;conv=>whnf
  try (refine And.intro (by first|omega|exact Nat.le_of_ble_eq_true rfl) ?_;(try intro _);conv=>whnf)
  conv=>whnf
  repeat ((first|(guard_target=_∧_;(fail_if_success refine oF ?_ ?_);(first|refine oL ?_|refine oR ?_|refine oB ?_)));(try intro _);conv=>whnf)
  conv=>whnf
  refine ⟨_,rws_get hk2,?_⟩;conv=>whnf
  try (refine And.intro (by first|omega|exact Nat.le_of_ble_eq_true rfl) ?_;(try intro _);conv=>whnf)
  conv=>whnf
  refine ⟨fun hs=>?_,fun hs=>?_⟩<;>conv=>whnf
  ·try refine gR ?_
   conv=>whnf
   refine gS ?_;conv=>whnf
   repeat ((first|(guard_target=_∧_;(fail_if_success refine oF ?_ ?_);(first|refine oL ?_|refine oR ?_)));(try intro _);conv=>whnf)
   refine RunsS.subR [] (back (k+1) (by exact (⟨hk,more_at hk hk2 hJ.2 (Sw.ext_iff'.2 hs)⟩)) (by (try dsimp only);omega)) sH sH
  try refine gR ?_;conv=>whnf
  refine gS ?_;conv=>whnf
  rw [no fun e=>hs (Sw.ext_iff'.1 (at_eq ((SrcV.of_bare e).2.2.2.2.2.2.2) hk hk2))]
  refine RunsS.retU ?_
  exact UnwS.ret tab Tryz.func13 rfl (eN () trivial)
 have eS:=all_at nS fun j h1 h2=>hJ.2 j (by omega) h1 h2
 clear back hJ
 conv=>whnf
 have:r=true:=by rw [hr];exact eqB_yes (SrcV.bare_mk eU eI eP eM eO eF eR eS)
 rw [this]
 refine RunsS.retU ?_
 exact UnwS.ret tab Tryz.func13 rfl (eN () trivial)
end
end Go.Proofs.YtofjdbmcloemnaaGreatDoor

namespace Go.SrcM
open Go Go.Fw Go.RatM
section
variable {α:Type} {f:α→Nat} {l:List α}
def sumK (f:α→Nat) (l:List α) (k:Nat):Nat:=((l.take k).map f).sum
theorem sumK_zero:sumK f l 0=0:=rfl
theorem sumK_succ {k:Nat} (hk:k<l.length):sumK f l (k+1)=sumK f l k+f l[k]:=by
 unfold sumK
 rw [take_snoc hk,List.map_append,List.sum_append];simp
theorem sumK_all:sumK f l l.length=(l.map f).sum:=by unfold sumK;rw [List.take_length]
theorem sumK_le (k:Nat):sumK f l k≤(l.map f).sum:=by
 have e:(l.map f).sum=((l.take k).map f).sum+((l.drop k).map f).sum:=by rw [←List.sum_append,←List.map_append,List.take_append_drop]
 unfold sumK;omega
theorem sumK_mem {a:α} (h:a∈l):f a≤(l.map f).sum:=by
 induction l with
 |nil=>cases h
 |cons b l ih=>
  rcases List.mem_cons.1 h with rfl|h
  ·simp
  have:=ih h;simp;omega
theorem sumK_len:l.length≤(l.map fun a=>1+f a).sum:=by
 induction l with
 |nil=>exact Nat.zero_le _
 |cons b l ih=>simp only [List.map_cons,List.sum_cons,List.length_cons];omega
end
abbrev fwO (o:OpV):Nat:=1+o.ch.length
abbrev fwF (o:FbV):Nat:=1+o.cs.length
abbrev fwR (r:RcV):Nat:=1+(r.cs.length+r.inn.length+r.out.length+r.runs.length)
def fewN (s:SrcV):Nat:=s.units.length+s.items.length+s.plants.length+s.machines.length+s.swaps.length+(s.options.map fwO).sum+(s.forbids.map fwF).sum+(s.recipes.map fwR).sum
theorem fewN_lens {s:SrcV} {n:Nat} (h:fewN s≤n) (hn:n≤1000000):Lens s:=by
 unfold fewN at h
 have h1:s.options.length≤(s.options.map fwO).sum:=sumK_len (f:=fun o:OpV=>o.ch.length)
 have h2:s.forbids.length≤(s.forbids.map fwF).sum:=sumK_len (f:=fun o:FbV=>o.cs.length)
 have h3:s.recipes.length≤(s.recipes.map fwR).sum:=sumK_len (f:=fun r:RcV=>r.cs.length+r.inn.length+r.out.length+r.runs.length)
 have g1:∀a∈s.options,fwO a≤(s.options.map fwO).sum:=fun a ha=>sumK_mem (f:=fwO) ha
 have g2:∀a∈s.forbids,fwF a≤(s.forbids.map fwF).sum:=fun a ha=>sumK_mem (f:=fwF) ha
 have g3:∀a∈s.recipes,fwR a≤(s.recipes.map fwR).sum:=fun a ha=>sumK_mem (f:=fwR) ha
 exact ⟨by omega,by omega,by omega,by omega,by omega,by omega,by omega,by omega,fun a ha=>by have:=g1 a ha;simp only [fwO] at this;omega,fun a ha=>by have:=g2 a ha;simp only [fwF] at this;omega,
  fun a ha=>by have:=g3 a ha;simp only [fwR] at this;exact ⟨by omega,by omega,by omega,by omega⟩⟩
end Go.SrcM
namespace Go.Proofs.YtofjdbmcloemnaaGreatDoor
open Go Go.Fw Go.NatM Go.RatM Go.SrcM
set_option maxRecDepth 100000
set_option maxHeartbeats 99999999
section
variable {vU vI vP vM vO vF vR vS:Value}
theorem sFew_fn (s:SrcV) (hB:fewN s≤4000000000000000000):FnT Tryz.prog (TopT vU vI vP vM vO vF vR vS s) 10 0 [srcA vU vI vP vM vO vF vR vS] [] (fun _:Unit=>True) (fun _=>.ret (.v (.bool (decide (fewN s≤160)))) 0 []):=by
 obtain ⟨oS,hoS⟩:∃x,x=(s.options.map fwO).sum:=⟨_,rfl⟩
 obtain ⟨fS,hfS⟩:∃x,x=(s.forbids.map fwF).sum:=⟨_,rfl⟩
 obtain ⟨rS,hrS⟩:∃x,x=(s.recipes.map fwR).sum:=⟨_,rfl⟩
 have hE:fewN s=s.units.length+s.items.length+s.plants.length+s.machines.length+s.swaps.length+oS+fS+rS:=by rw [hoS,hfS,hrS];rfl
 obtain ⟨r,hr⟩:∃r,r=decide (fewN s≤160):=⟨_,rfl⟩
 rw [←hr]
 rw [hE] at hr hB
 have lO:=rws_len OpV.row s.options
 have lF:=rws_len FbV.row s.forbids
 have lR:=rws_len RcV.row s.recipes
 refine FnT.of Tryz.func10 (by kernel_rfl) rfl Tryz.ntmps10 rfl fun E0 F h hT w0 cs=>?_
 have hTb:=hT.below
 obtain ⟨aU,cU,rfl⟩:=RoF.sli hT.U (rowsU_len s.units)
 obtain ⟨aI,cI,rfl⟩:=RoF.sli hT.I (rws_len It.row s.items)
 obtain ⟨aP,cP,rfl⟩:=RoF.sli hT.P (rwsB_len s.plants)
 obtain ⟨aM,cM,rfl⟩:=RoF.sli hT.M (rws_len Mc.row s.machines)
 obtain ⟨aS,cS,rfl⟩:=RoF.sli hT.S (rws_len Sw.row s.swaps)
 have mO:=hT.O.len
 have mF:=hT.F.len
 have mR:=hT.R.len
 conv=>whnf
 refine gS ?_;conv=>whnf
 repeat ((first|refine oL ?_|refine oR ?_);(try intro _);conv=>whnf)
 refine RunsS.nameCell (fun _ x=>x) 0 4 (by exact hT.O) ?_
 conv=>whnf
 refine gS ?_;conv=>whnf
 obtain ⟨b,hb⟩:∃b:Nat,b=s.units.length+s.items.length+s.plants.length+s.machines.length+s.swaps.length:=⟨_,rfl⟩
 refine RunsS.subR [] (RunsS.loop (fun (⟨k,n⟩:Nat×Int)=>[(3,.v (.int .i64 n)),(4,.v (.int .i64 k)),(1,.ptr 0 0)]) (fun (⟨k,n⟩:Nat×Int)=>[(0,.cells 31 [.v (.slice aU s.units.length cU),.v (.slice aI s.items.length cI),.v (.slice aP s.plants.length cP),.v (.slice aM s.machines.length cM),.buf 1,.v vF,.v vR,.v (.slice aS s.swaps.length cS)]),(1,.ro 2 (rws OpV.row s.options))]) 2 (fun (⟨k,n⟩:Nat×Int)=>k≤s.options.length∧n=(b+sumK fwO s.options k:Nat)) (fun (⟨k,n⟩:Nat×Int)=>s.options.length - k) ?round1 ((0,(s.units.length:Int)+s.items.length+s.plants.length+s.machines.length+s.swaps.length)) ?J01) sH sH
 case J01=>exact (⟨Nat.zero_le _,by rw [sumK_zero];omega⟩)
 rintro ⟨k,n⟩ hJ back
 try dsimp only at hJ back
 conv=>whnf
 try dsimp only
 refine gS ?_;conv=>whnf
 refine ⟨fun hk=>?_,fun hk=>?_⟩<;>conv=>whnf
 ·have hk:k<s.options.length:=by omega
  have hs1:=sumK_succ (f:=fwO) hk
  have hs2:=sumK_le (f:=fwO) (l:=s.options) (k+1)
  simp only [fwO] at hs1
  conv=>whnf
  repeat ((first|refine oL ?_|refine oR ?_);(try intro _);conv=>whnf)
  refine ⟨_,rws_get hk,?_⟩;conv=>whnf
  try (refine oN ?_;conv=>whnf)
  repeat ((first|refine oL ?_|refine oR ?_);(try intro _);conv=>whnf)
  refine RunsS.subR [] (back ((k+1,n+1+s.options[k].ch.length)) (by exact (⟨hk,by dsimp only;rw [hs1];omega⟩)) (by (try dsimp only);omega)) sH sH
 have hn:=hJ.2
 have hk:k=s.options.length:=by omega
 rw [hk,sumK_all,←hoS] at hn
 clear back hJ
 conv=>whnf
 refine RunsS.nameCell (fun _ x=>x) 0 5 (by exact hT.F) ?_
 conv=>whnf
 refine gS ?_;conv=>whnf
 clear hk
 refine RunsS.subR [] (RunsS.loop (fun (⟨k,m⟩:Nat×Int)=>[(3,.v (.int .i64 m)),(5,.v (.int .i64 k)),(1,.ptr 0 0)]) (fun (⟨k,m⟩:Nat×Int)=>[(0,.cells 31 [.v (.slice aU s.units.length cU),.v (.slice aI s.items.length cI),.v (.slice aP s.plants.length cP),.v (.slice aM s.machines.length cM),.buf 1,.buf 2,.v vR,.v (.slice aS s.swaps.length cS)]),(2,.ro 1 (rws FbV.row s.forbids))]) 3 (fun (⟨k,m⟩:Nat×Int)=>k≤s.forbids.length∧m=(b+oS+sumK fwF s.forbids k:Nat)) (fun (⟨k,m⟩:Nat×Int)=>s.forbids.length - k) ?round3 ((0,n)) ?J03) sH sH
 case J03=>exact (⟨Nat.zero_le _,by rw [sumK_zero];omega⟩)
 rintro ⟨k,m⟩ hJ back
 try dsimp only at hJ back
 conv=>whnf
 try dsimp only
 refine gS ?_;conv=>whnf
 refine ⟨fun hk=>?_,fun hk=>?_⟩<;>conv=>whnf
 ·have hk:k<s.forbids.length:=by omega
  have hs1:=sumK_succ (f:=fwF) hk
  have hs2:=sumK_le (f:=fwF) (l:=s.forbids) (k+1)
  simp only [fwF] at hs1
  conv=>whnf
  repeat ((first|refine oL ?_|refine oR ?_);(try intro _);conv=>whnf)
  refine ⟨_,rws_get hk,?_⟩;conv=>whnf
  try (refine oN ?_;conv=>whnf)
  repeat ((first|refine oL ?_|refine oR ?_);(try intro _);conv=>whnf)
  refine RunsS.subR [] (back ((k+1,m+1+s.forbids[k].cs.length)) (by exact (⟨hk,by dsimp only;rw [hs1];omega⟩)) (by (try dsimp only);omega)) sH sH
 have hm:=hJ.2
 have hk:k=s.forbids.length:=by omega
 rw [hk,sumK_all,←hfS] at hm
 clear back hJ
 conv=>whnf
 refine RunsS.nameCell (fun _ x=>x) 0 6 (by exact hT.R) ?_
 conv=>whnf
 refine gS ?_;conv=>whnf
 clear hk
 refine RunsS.subR [] (RunsS.loop (fun (⟨k,q⟩:Nat×Int)=>[(3,.v (.int .i64 q)),(6,.v (.int .i64 k)),(1,.ptr 0 0)]) (fun (⟨k,q⟩:Nat×Int)=>[(0,.cells 31 [.v (.slice aU s.units.length cU),.v (.slice aI s.items.length cI),.v (.slice aP s.plants.length cP),.v (.slice aM s.machines.length cM),.buf 1,.buf 2,.buf 3,.v (.slice aS s.swaps.length cS)]),(3,.ro 17 (rws RcV.row s.recipes))]) 4 (fun (⟨k,q⟩:Nat×Int)=>k≤s.recipes.length∧q=(b+oS+fS+sumK fwR s.recipes k:Nat)) (fun (⟨k,q⟩:Nat×Int)=>s.recipes.length - k) ?round5 ((0,m)) ?J05) sH sH
 case J05=>exact (⟨Nat.zero_le _,by rw [sumK_zero];omega⟩)
 rintro ⟨k,q⟩ hJ back
 try dsimp only at hJ back
 conv=>whnf
 try dsimp only
 refine gS ?_;conv=>whnf
 refine ⟨fun hk=>?_,fun hk=>?_⟩<;>conv=>whnf
 ·have hk:k<s.recipes.length:=by omega
  have hs1:=sumK_succ (f:=fwR) hk
  have hs2:=sumK_le (f:=fwR) (l:=s.recipes) (k+1)
  simp only [fwR] at hs1
  conv=>whnf
  repeat ((first|refine oL ?_|refine oR ?_);(try intro _);conv=>whnf)
  refine ⟨_,rws_get hk,?_⟩;conv=>whnf
  try (refine oN ?_;conv=>whnf)
  repeat ((first|refine oL ?_|refine oR ?_);(try intro _);conv=>whnf)
  refine RunsS.subR [] (back ((k+1,q+1+s.recipes[k].cs.length+s.recipes[k].inn.length+s.recipes[k].out.length+s.recipes[k].runs.length)) (by exact (⟨hk,by dsimp only;rw [hs1];omega⟩)) (by (try dsimp only);omega)) sH sH
 have hq:=hJ.2
 have hk:k=s.recipes.length:=by omega
 rw [hk,sumK_all,←hrS] at hq
 clear back hJ
 conv=>whnf
 have:r=decide (q≤160):=by rw [hr];exact decide_eq_decide.2 ⟨fun h=>by omega,fun h=>by omega⟩
 rw [this]
 refine RunsS.retU ?_
 exact UnwS.ret tab Tryz.func10 rfl (eN () trivial)
end
end Go.Proofs.YtofjdbmcloemnaaGreatDoor

namespace Go.SrcM
open Go Go.Fw Go.RatM
theorem allO_mapG {α β:Type} {f:α→Option β} {f':α→Option β} {p:α→α} {q:β→β} (h:∀a,f' (p a)=(f a).map q):∀l:List α,allO f' (l.map p)=(allO f l).map (List.map q)
 | []=>rfl
 |a::l=>by
  simp only [List.map_cons,allO,h]
  cases ha:f a with
  |none=>rfl
  |some b=>
   simp only [Option.map_some,allO_mapG h l]
   cases allO f l with
   |none=>rfl
   |some m=>rfl
section
variable (s:SrcV)
theorem bare_opts:s.bare.options.map OpV.name=s.options.map OpV.name:=by
 show (s.options.map OpV.bare).map OpV.name=_
 rw [List.map_map];rfl
theorem resIt_bare (c:It):resIt s.bare c=resIt s c:=rfl
theorem resMc_bare (c:Mc):resMc s.bare c=resMc s c:=rfl
theorem resAm_bare (c:Am):resAm s.bare c=resAm s c:=rfl
theorem resRn_bare (c:Rn):resRn s.bare c=resRn s c:=rfl
theorem resSw_bare (c:Sw):resSw s.bare c=resSw s c:=rfl
theorem resCd_bare (c:Cd):resCd s.bare c=resCd s c:=by
 unfold resCd
 rw [bare_opts]
 cases findN (s.options.map OpV.name) c.opt with
 |none=>rfl
 |some o=>
  have e:s.bare.options[o]? = (s.options[o]?).map OpV.bare:=List.getElem?_map ..
  dsimp only
  rw [e]
  generalize s.options[o]? = z
  cases z with
  |none=>rfl
  |some q=>rfl
theorem resFb_bare (f:FbV):resFb s.bare f.bare=(resFb s f).map FbV.bare:=by
 unfold resFb
 rw [allO_congr (resCd_bare s)]
 show (allO (resCd s) f.cs).map _=_
 cases allO (resCd s) f.cs with
 |none=>rfl
 |some m=>rfl
theorem resRc_bare (r:RcV):resRc s.bare r.bare=(resRc s r).map RcV.bare:=by
 unfold resRc
 rw [allO_congr (resCd_bare s),allO_congr (resAm_bare s),allO_congr (resAm_bare s),allO_congr (resRn_bare s)]
 show (match findN (s.items.map It.name) r.item with|some i=>_|none=>_)=_
 cases findN (s.items.map It.name) r.item with
 |none=>rfl
 |some i=>
  show (match findN s.plants r.plant with|some i=>_|none=>_)=_
  cases findN s.plants r.plant with
  |none=>rfl
  |some p=>
   show (match allO (resCd s) r.cs with|some i=>_|none=>_)=_
   cases allO (resCd s) r.cs with
   |none=>rfl
   |some cs=>
    show (match allO (resAm s) r.inn with|some i=>_|none=>_)=_
    cases allO (resAm s) r.inn with
    |none=>rfl
    |some inn=>
     show (match allO (resAm s) r.out with|some i=>_|none=>_)=_
     cases allO (resAm s) r.out with
     |none=>rfl
     |some out=>
      show (match allO (resRn s) r.runs with|some i=>_|none=>_)=_
      cases allO (resRn s) r.runs with
      |none=>rfl
      |some runs=>rfl
theorem resS_bare:resS s.bare=(resS s).map SrcV.bare:=by
 unfold resS
 rw [allO_congr (resIt_bare s),allO_congr (resMc_bare s),allO_congr (resSw_bare s)]
 show (match allO (resIt s) s.items with|some i=>_|none=>_)=_
 cases allO (resIt s) s.items with
 |none=>rfl
 |some a=>
  show (match allO (resMc s) s.machines with|some i=>_|none=>_)=_
  cases allO (resMc s) s.machines with
  |none=>rfl
  |some b=>
   show (match allO (resFb s.bare) (s.forbids.map FbV.bare) with|some i=>_|none=>_)=_
   rw [allO_mapG (resFb_bare s)]
   cases allO (resFb s) s.forbids with
   |none=>rfl
   |some c=>
    show (match allO (resRc s.bare) (s.recipes.map RcV.bare) with|some i=>_|none=>_)=_
    rw [allO_mapG (resRc_bare s)]
    cases allO (resRc s) s.recipes with
    |none=>rfl
    |some d=>
     show (allO (resSw s) s.swaps).map _=_
     cases allO (resSw s) s.swaps with
     |none=>rfl
     |some e=>rfl
theorem twiceN_bare:twiceN s.bare↔twiceN s:=by
 unfold twiceN
 rw [bare_opts]
 have:(∀o∈s.bare.options,o.ch.Nodup) ↔ ∀o∈s.options,o.ch.Nodup:=by
  show (∀o∈s.options.map OpV.bare,o.ch.Nodup)↔_
  exact ⟨fun h o ho=>h o.bare (List.mem_map_of_mem (f:=OpV.bare) ho),fun h o ho=>by obtain ⟨q,hq,rfl⟩:=List.mem_map.1 ho;exact h q hq⟩
 rw [this]
 exact Iff.rfl
theorem resolveN_bareS:resolveN s.bare=((resolveN s).1.bare,(resolveN s).2):=by
 unfold resolveN
 by_cases ht:twiceN s
 ·rw [if_pos ht,if_pos ((twiceN_bare s).2 ht)];rfl
 rw [if_neg ht,if_neg (fun h=>ht ((twiceN_bare s).1 h))]
 show (match resolveU s.units with | .inr e=>_ | .inl u=>_)=_
 cases resolveU s.units with
 |inr e=>rfl
 |inl u=>
  dsimp only
  rw [resS_bare]
  cases resS s with
  |none=>rfl
  |some t=>rfl
end
theorem resolveN_bare {s t:SrcV} (h:s.bare=t.bare):(resolveN s).1.bare=(resolveN t).1.bare∧(resolveN s).2=(resolveN t).2:=by
 have h1:=resolveN_bareS s
 have h2:=resolveN_bareS t
 rw [h,h2] at h1
 injection h1 with h3 h4
 exact ⟨h3.symm,h4.symm⟩
/-! sizes of resolved sources -/
theorem fewN_bare (s:SrcV):fewN s.bare=fewN s:=by
 unfold fewN
 show _+((s.options.map OpV.bare).map fwO).sum+((s.forbids.map FbV.bare).map fwF).sum+((s.recipes.map RcV.bare).map fwR).sum=_
 rw [List.map_map,List.map_map,List.map_map]
 rfl
end Go.SrcM

namespace Go.SrcM
open Go Go.Fw Go.RatM
structure BrV where
 t:SrcV
 U:Value
 I:Value
 P:Value
 M:Value
 O:Value
 F:Value
 R:Value
 S:Value
abbrev brOut (x:BrV):OutS:=.ret (.agg [.v x.U,.v x.I,.v x.P,.v x.M,.v x.O,.v x.F,.v x.R,.v x.S]) 0 []
end Go.SrcM
namespace Go.Proofs.YtofjdbmcloemnaaGreatDoor
open Go Go.Fw Go.NatM Go.RatM Go.SrcM
set_option maxRecDepth 100000
set_option maxHeartbeats 99999999
end Go.Proofs.YtofjdbmcloemnaaGreatDoor

namespace Go.Proofs.YtofjdbmcloemnaaGreatDoor
open Go Go.Fw Go.NatM Go.RatM Go.SrcM
set_option maxRecDepth 100000
set_option maxHeartbeats 99999999
end Go.Proofs.YtofjdbmcloemnaaGreatDoor

namespace Go.SrcM
open Go Go.Fw Go.RatM
def sU:List Un:=[⟨⟨#[103]⟩,⟨#[]⟩,0,0,0,zr⟩,⟨⟨#[107,103]⟩,⟨#[103]⟩,1000,1,0,zr⟩]
def sI:List It:=[⟨⟨#[102,108,111,117,114]⟩,⟨#[107,103]⟩,0,0,0,0⟩,⟨⟨#[98,114,101,97,100]⟩,⟨#[103]⟩,0,0,0,0⟩]
def sP:List ByteArray:=[⟨#[101,97,115,116]⟩,⟨#[119,101,115,116]⟩]
def sM:List Mc:=[⟨⟨#[109,105,108,108]⟩,⟨#[101,97,115,116]⟩,0,0⟩,⟨⟨#[111,118,101,110]⟩,⟨#[119,101,115,116]⟩,0,0⟩]
def sOc1:List ByteArray:=[⟨#[115,109,97,108,108]⟩,⟨#[103,114,101,97,116]⟩]
def sOc2:List ByteArray:=[⟨#[110,111]⟩,⟨#[121,101,115]⟩]
def sO (a b:Hd):List OpV:=[⟨⟨#[115,105,122,101]⟩,a,sOc1⟩,⟨⟨#[115,101,101,100]⟩,b,sOc2⟩]
def sFc:List Cd:=[⟨⟨#[115,101,101,100]⟩,⟨#[121,101,115]⟩,0,0⟩,⟨⟨#[115,105,122,101]⟩,⟨#[115,109,97,108,108]⟩,0,0⟩]
def sRc:List Cd:=[⟨⟨#[115,105,122,101]⟩,⟨#[103,114,101,97,116]⟩,0,0⟩]
def sRi:List Am:=[⟨1,2,⟨#[107,103]⟩,⟨#[102,108,111,117,114]⟩,false,0,0⟩]
def sRo:List Am:=[⟨600,1,⟨#[103]⟩,⟨#[98,114,101,97,100]⟩,false,0,0⟩]
def sRn:List Rn:=[⟨⟨#[111,118,101,110]⟩,2,0⟩]
def sR (a b c d:Hd):List RcV:=[⟨⟨#[98,114,101,97,100]⟩,⟨#[119,101,115,116]⟩,0,9,a,sRc,b,sRi,c,sRo,0,0,0,0,0,0,0,d,sRn,0,0⟩]
def sS:List Sw:=[⟨⟨#[98,114,101,97,100]⟩,⟨#[102,108,111,117,114]⟩,0,0⟩]
def sampS (o1 o2 f r1 r2 r3 r4:Hd):SrcV:=⟨sU,sI,sP,sM,sO o1 o2,[⟨f,sFc⟩],sR r1 r2 r3 r4,sS⟩
def h0:Hd:=⟨none,0⟩
abbrev samp0:SrcV:=sampS h0 h0 h0 h0 h0 h0 h0
structure SmJ (x:BrV) (G:Nat→Prop) (h:Array Obj):Prop where
 t:x.t.bare=samp0.bare
 top:TopF G h x.U x.I x.P x.M x.O x.F x.R x.S x.t
end Go.SrcM
namespace Go.Proofs.YtofjdbmcloemnaaGreatDoor
open Go Go.Fw Go.NatM Go.RatM Go.SrcM
set_option maxRecDepth 100000
set_option maxHeartbeats 99999999
theorem samp_sub {G:Nat→Prop} {h:Array Obj} {o1 o2 f r1 r2 r3 r4:Hd} (H1:RoF G h (o1.v 2) 1 (rwsB sOc1)) (H2:RoF G h (o2.v 2) 1 (rwsB sOc2)) (H3:RoF G h (f.v 2) 4 (rws Cd.row sFc)) (H4:RoF G h (r1.v 1) 4 (rws Cd.row sRc)) (H5:RoF G h (r2.v 1) 7 (rws Am.row sRi)) (H6:RoF G h (r3.v 1) 7 (rws Am.row sRo)) (H7:RoF G h (r4.v 1) 3 (rws Rn.row sRn)):(sampS o1 o2 f r1 r2 r3 r4).sub G h:=
 ⟨fun o ho=>by rcases List.mem_cons.1 ho with rfl|ho;exact H1;rw [List.mem_singleton.1 ho];exact H2,fun o ho=>by rw [List.mem_singleton.1 ho];exact H3,fun o ho=>by rw [List.mem_singleton.1 ho];exact ⟨H4,H5,H6,H7⟩⟩
theorem sample_fn:FnX Tryz.prog 26 0 [] [] (fun _ _=>True) SmJ brOut:=by
 refine FnX.of Tryz.func26 (by kernel_rfl) rfl Tryz.ntmps26 rfl fun E0 F G h N hP w0 cs=>?_
 conv=>whnf
 refine gS ?_;conv=>whnf
 refine RunsS.concY (n:=2) (N.gsub) 5 ?_
 intro _ a1 d1 G1 h1 N1 R1
 conv=>whnf
 refine gS ?_;conv=>whnf
 refine RunsS.concY (n:=2) (N1.gsub) 6 ?_
 intro _ a2 d2 G2 h2 N2 R2
 conv=>whnf
 refine gS ?_;conv=>whnf
 refine RunsS.concY (n:=2) (N2.gsub) 8 ?_
 intro _ a3 d3 G3 h3 N3 R3
 conv=>whnf
 refine gS ?_;conv=>whnf
 refine RunsS.concY (n:=1) (N3.gsub) 10 ?_
 intro _ a4 d4 G4 h4 N4 R4
 conv=>whnf
 refine gS ?_;conv=>whnf
 refine RunsS.concY (n:=1) (N4.gsub) 11 ?_
 intro _ a5 d5 G5 h5 N5 R5
 conv=>whnf
 refine gS ?_;conv=>whnf
 refine RunsS.concY (n:=1) (N5.gsub) 12 ?_
 intro _ a6 d6 G6 h6 N6 R6
 conv=>whnf
 refine gS ?_;conv=>whnf
 refine RunsS.concY (n:=1) (N6.gsub) 13 ?_
 intro _ a7 d7 G7 h7 N7 R7
 conv=>whnf
 refine gS ?_;conv=>whnf
 refine RunsS.concY (n:=2) (N7.gsub) 1 ?_
 intro _ a8 d8 G8 h8 N8 R8
 conv=>whnf
 refine gS ?_;conv=>whnf
 refine RunsS.concY (n:=2) (N8.gsub) 2 ?_
 intro _ a9 d9 G9 h9 N9 R9
 conv=>whnf
 refine gS ?_;conv=>whnf
 refine RunsS.concY (n:=2) (N9.gsub) 3 ?_
 intro _ a10 d10 G10 h10 N10 R10
 conv=>whnf
 refine gS ?_;conv=>whnf
 refine RunsS.concY (n:=2) (N10.gsub) 4 ?_
 intro _ a11 d11 G11 h11 N11 R11
 conv=>whnf
 refine gS ?_;conv=>whnf
 refine RunsS.concY (n:=2) (N11.gsub) 7 ?_
 intro _ a12 d12 G12 h12 N12 R12
 conv=>whnf
 refine gS ?_;conv=>whnf
 refine RunsS.concY (n:=1) (N12.gsub) 9 ?_
 intro _ a13 d13 G13 h13 N13 R13
 conv=>whnf
 refine gS ?_;conv=>whnf
 refine RunsS.concY (n:=1) (N13.gsub) 14 ?_
 intro _ a14 d14 G14 h14 N14 R14
 conv=>whnf
 refine gS ?_;conv=>whnf
 refine RunsS.concY (n:=1) (N14.gsub) 15 ?_
 intro _ a15 d15 G15 h15 N15 R15
 conv=>whnf
 refine gS ?_;conv=>whnf
 have U1:=Now.step N1.gsub N2
 have U2:=Now.step N2.gsub N3
 have U3:=Now.step N3.gsub N4
 have U4:=Now.step N4.gsub N5
 have U5:=Now.step N5.gsub N6
 have U6:=Now.step N6.gsub N7
 have U7:=Now.step N7.gsub N8
 have U8:=Now.step N8.gsub N9
 have U9:=Now.step N9.gsub N10
 have U10:=Now.step N10.gsub N11
 have U11:=Now.step N11.gsub N12
 have U12:=Now.step N12.gsub N13
 have U13:=Now.step N13.gsub N14
 have U14:=Now.step N14.gsub N15
 have W13:=U13.trans U14
 have W12:=U12.trans W13
 have W11:=U11.trans W12
 have W10:=U10.trans W11
 have W9:=U9.trans W10
 have W8:=U8.trans W9
 have W7:=U7.trans W8
 have W6:=U6.trans W7
 have W5:=U5.trans W6
 have W4:=U4.trans W5
 have W3:=U3.trans W4
 have W2:=U2.trans W3
 have W1:=U1.trans W2
 have T:=((((((((((((((N1.trans N2).trans N3).trans N4).trans N5).trans N6).trans N7).trans N8).trans N9).trans N10).trans N11).trans N12).trans N13).trans N14).trans N15)
 refine RunsS.retU ?_
 exact UnwS.ret tab Tryz.func26 rfl (eX (T) (⟨sampS ⟨a1,d1⟩ ⟨a2,d2⟩ ⟨a3,d3⟩ ⟨a4,d4⟩ ⟨a5,d5⟩ ⟨a6,d6⟩ ⟨a7,d7⟩,_,_,_,_,_,_,_,_⟩) (fun h U=>⟨rfl,RoF.up (W8.trans U) R8,RoF.up (W9.trans U) R9,RoF.up (W10.trans U) R10,RoF.up (W11.trans U) R11,RoF.up (W12.trans U) R12,RoF.up (W13.trans U) R13,RoF.up (U14.trans U) R14,RoF.up U R15,samp_sub (RoF.up (W1.trans U) R1) (RoF.up (W2.trans U) R2) (RoF.up (W3.trans U) R3) (RoF.up (W4.trans U) R4) (RoF.up (W5.trans U) R5) (RoF.up (W6.trans U) R6) (RoF.up (W7.trans U) R7)⟩))
end Go.Proofs.YtofjdbmcloemnaaGreatDoor

namespace Go.SrcM
open Go Go.Fw Go.RatM
def sRU:List Un:=[⟨⟨#[103]⟩,⟨#[]⟩,0,0,0,⟨false,⟨#[1]⟩,⟨#[1]⟩⟩⟩,⟨⟨#[107,103]⟩,⟨#[103]⟩,1000,1,0,⟨false,⟨#[3,232]⟩,⟨#[1]⟩⟩⟩]
def sRI:List It:=[⟨⟨#[102,108,111,117,114]⟩,⟨#[107,103]⟩,0,0,0,1⟩,⟨⟨#[98,114,101,97,100]⟩,⟨#[103]⟩,0,0,0,0⟩]
def sRM:List Mc:=[⟨⟨#[109,105,108,108]⟩,⟨#[101,97,115,116]⟩,0,0⟩,⟨⟨#[111,118,101,110]⟩,⟨#[119,101,115,116]⟩,0,1⟩]
def sRFc:List Cd:=[⟨⟨#[115,101,101,100]⟩,⟨#[121,101,115]⟩,1,1⟩,⟨⟨#[115,105,122,101]⟩,⟨#[115,109,97,108,108]⟩,0,0⟩]
def sRRc:List Cd:=[⟨⟨#[115,105,122,101]⟩,⟨#[103,114,101,97,116]⟩,0,1⟩]
def sRRi:List Am:=[⟨1,2,⟨#[107,103]⟩,⟨#[102,108,111,117,114]⟩,false,1,0⟩]
def sRRo:List Am:=[⟨600,1,⟨#[103]⟩,⟨#[98,114,101,97,100]⟩,false,0,1⟩]
def sRRn:List Rn:=[⟨⟨#[111,118,101,110]⟩,2,1⟩]
def sRR (a b c d:Hd):RcV:=⟨⟨#[98,114,101,97,100]⟩,⟨#[119,101,115,116]⟩,0,9,a,sRRc,b,sRRi,c,sRRo,0,0,0,0,0,0,0,d,sRRn,1,1⟩
def sRS:List Sw:=[⟨⟨#[98,114,101,97,100]⟩,⟨#[102,108,111,117,114]⟩,1,0⟩]
def sampR (o:List OpV) (f r1 r2 r3 r4:Hd):SrcV:=⟨sRU,sRI,sP,sRM,o,[⟨f,sRFc⟩],[sRR r1 r2 r3 r4],sRS⟩
set_option maxRecDepth 100000
theorem samp_res:resolveN samp0=(sampR (sO h0 h0) h0 h0 h0 h0 h0,0):=by kernel_rfl
theorem samp_shape {t:SrcV} (h:t.bare=(sampR (sO h0 h0) h0 h0 h0 h0 h0).bare):∃o f r1 r2 r3 r4,t=sampR o f r1 r2 r3 r4:=by
 obtain ⟨h1,h2,h3,h4,h5,h6,h7,h8⟩:=SrcV.of_bare h
 obtain ⟨u,i,p,m,o,f,r,x⟩:=t
 simp only at h1 h2 h3 h4 h5 h6 h7 h8
 subst h1 h2 h3 h4 h8
 have h6:f.map FbV.bare=[FbV.bare ⟨h0,sRFc⟩]:=h6
 have h7:r.map RcV.bare=[RcV.bare (sRR h0 h0 h0 h0)]:=h7
 cases f with
 |nil=>cases h6
 |cons f l=>
  cases l with
  |cons _ _=>exact absurd (congrArg List.length h6) (by simp)
  |nil=>
   cases r with
   |nil=>cases h7
   |cons r l=>
    cases l with
    |cons _ _=>exact absurd (congrArg List.length h7) (by simp)
    |nil=>
     obtain ⟨fh,fc⟩:=f
     have e6:=FbV.bare_iff.1 (List.cons.inj h6).1
     have e7:=RcV.bare_iff.1 (List.cons.inj h7).1
     obtain ⟨a1,a2,a3,a4,a5,a6,a7,a8,a9,a10,a11,a12,a13,a14,a15,a16,a17,a18,a19,a20,a21⟩:=r
     simp only at e6 e7
     obtain ⟨rfl,rfl,rfl,rfl,rfl,rfl,rfl,rfl,rfl,rfl,rfl,rfl,rfl,rfl,rfl,rfl,rfl⟩:=e7
     subst e6
     exact ⟨o,fh,a5,a7,a9,a18,rfl⟩
theorem no_res:resolveN noSrc=(noSrc,0):=by kernel_rfl
theorem no_shape {t:SrcV} (h:noSrc.bare=t.bare):t=noSrc:=by
 obtain ⟨h1,h2,h3,h4,h5,h6,h7,h8⟩:=SrcV.of_bare h
 obtain ⟨u,i,p,m,o,f,r,x⟩:=t
 simp only at h1 h2 h3 h4 h5 h6 h7 h8
 subst h1 h2 h3 h4 h8
 have e5:=List.map_eq_nil_iff.1 h5.symm
 have e6:=List.map_eq_nil_iff.1 h6.symm
 have e7:=List.map_eq_nil_iff.1 h7.symm
 subst e5 e6 e7
 rfl
def twS:SrcV:=⟨[],[],[⟨#[]⟩,⟨#[]⟩],[],[],[],[],[]⟩
theorem tw_res:resolveN twS=(noSrc,111):=by kernel_rfl
def abS:SrcV:=⟨[],[⟨⟨#[97]⟩,⟨#[98]⟩,0,0,0,0⟩],[],[],[],[],[],[]⟩
theorem ab_res:resolveN abS=(noSrc,110):=by kernel_rfl
theorem samp_choice {t:SrcV} (h:t.bare=samp0.bare):findN (chOf t 0) ⟨#[103,114,101,97,116]⟩=some 1:=by
 have h5:=(SrcV.of_bare h).2.2.2.2.1
 obtain ⟨u,i,p,m,o,f,r,x⟩:=t
 have h5:o.map OpV.bare=[OpV.bare ⟨⟨#[115,105,122,101]⟩,h0,sOc1⟩,OpV.bare ⟨⟨#[115,101,101,100]⟩,h0,sOc2⟩]:=h5
 cases o with
 |nil=>cases h5
 |cons a l=>
  have e:=(OpV.bare_iff.1 (List.cons.inj h5).1).2
  obtain ⟨an,ah,ac⟩:=a
  have e:ac=sOc1:=e
  subst e
  have:chOf ⟨u,i,p,m,⟨an,ah,sOc1⟩::l,f,r,x⟩ 0=sOc1:=by
   unfold chOf
   rw [if_pos (by constructor<;>simp)]
   rfl
  rw [this]
  decide +kernel
end Go.SrcM
namespace Go.Proofs.YtofjdbmcloemnaaGreatDoor
open Go Go.Fw Go.NatM Go.RatM Go.SrcM
set_option maxRecDepth 100000
set_option maxHeartbeats 99999999
theorem TabT.upX {G G':Nat→Prop} {h h':Array Obj} (H:TabT G h) (U:Up G h G' h'):TabT G' h':=by
 refine ⟨fun j hj=>?_,U.sub _ H.2⟩
 have e:=U.same _ H.2
 have:=H.1 j hj
 unfold cellH at this ⊢
 rw [e]
 exact this
theorem topShapes {G:Nat→Prop} {h:Array Obj} {vU vI vP vM vO vF vR vS:Value} {s:SrcV} (H:TopF G h vU vI vP vM vO vF vR vS s):∃aU cU aI cI aP cP aM cM aO cO aF cF aR cR aS cS,vU=.slice aU s.units.length cU∧vI=.slice aI s.items.length cI∧vP=.slice aP s.plants.length cP∧vM=.slice aM s.machines.length cM∧vO=.slice aO s.options.length cO∧vF=.slice aF s.forbids.length cF∧vR=.slice aR s.recipes.length cR∧vS=.slice aS s.swaps.length cS:=by
 obtain ⟨aU,cU,e1⟩:=RoF.sli H.U (rowsU_len s.units)
 obtain ⟨aI,cI,e2⟩:=RoF.sli H.I (rws_len It.row s.items)
 obtain ⟨aP,cP,e3⟩:=RoF.sli H.P (rwsB_len s.plants)
 obtain ⟨aM,cM,e4⟩:=RoF.sli H.M (rws_len Mc.row s.machines)
 obtain ⟨aO,cO,e5⟩:=RoF.sli H.O (rws_len OpV.row s.options)
 obtain ⟨aF,cF,e6⟩:=RoF.sli H.F (rws_len FbV.row s.forbids)
 obtain ⟨aR,cR,e7⟩:=RoF.sli H.R (rws_len RcV.row s.recipes)
 obtain ⟨aS,cS,e8⟩:=RoF.sli H.S (rws_len Sw.row s.swaps)
 exact ⟨aU,cU,aI,cI,aP,cP,aM,cM,aO,cO,aF,cF,aR,cR,aS,cS,e1,e2,e3,e4,e5,e6,e7,e8⟩
theorem noTopF (G:Nat→Prop) (h:Array Obj):TopF G h nilV nilV nilV nilV nilV nilV nilV nilV noSrc:=TopF.none G h
theorem sane11_fn:FnX Tryz.prog 9 0 [] [] (fun G h=>TabT G h) (fun (_:Unit) _ _=>True) (fun _=>.ret (.v (.bool true)) 0 []):=by
 refine FnX.of Tryz.func9 (by kernel_rfl) rfl Tryz.ntmps9 rfl fun E0 F G h N hP w0 cs=>?_
 conv=>whnf
 refine gS ?_;conv=>whnf
 refine RunsS.callY (N.gsub) (sample_fn) (fun _ _=>trivial) [] sH ?CNa1 ?_
 case CNa1=>rfl
 rintro _ ⟨t1,z1,z2,z3,z4,z5,z6,z7,z8⟩ G1 h1 N1 J1
 conv=>whnf
 refine gS ?_;conv=>whnf
 have V1:=Now.step N.gsub N1
 have e1:=resolveN_bare J1.t
 rw [samp_res] at e1
 have f1:fewN t1≤100:=by rw [←fewN_bare,J1.t];decide
 have w1:∀u∈t1.units,i64 u.n∧i64 u.d:=by rw [(SrcV.of_bare J1.t).1];decide
 refine RunsS.callY (N1.gsub) (nResolve_fn t1 _ _ _ _ _ _ _ _ (fewN_lens f1 (by decide)) w1) (fun h U=>⟨J1.top.up U,hP.upX (V1.trans U)⟩) [] sH ?CNa2 ?_
 case CNa2=>rfl
 rintro _ ⟨t2,x2,y1,y2,y3,y4,y5,y6,y7,y8⟩ G2 h2 N2 J2
 have V2:=V1.trans (Now.step N1.gsub N2)
 obtain ⟨o,f,r1,r2,r3,r4,rfl⟩:=samp_shape ((J2.t.symm.trans e1.1))
 obtain rfl:0=x2:=e1.2.symm.trans J2.e
 have T2:TopF G2 h2 y1 y2 y3 y4 y5 y6 y7 y8 (sampR o f r1 r2 r3 r4):=J2.top
 obtain ⟨aU,cU,aI,cI,aP,cP,aM,cM,aO,cO,aF,cF,aR,cR,aS,cS,rfl,rfl,rfl,rfl,rfl,rfl,rfl,rfl⟩:=topShapes T2
 conv=>whnf
 refine gS ?_;conv=>whnf
 refine RunsS.callY (N2.gsub) (nResolve_fn noSrc _ _ _ _ _ _ _ _ (fewN_lens (show fewN noSrc≤100 by decide) (by decide)) (fun u hu=>absurd hu List.not_mem_nil)) (fun h U=>⟨noTopF _ _,hP.upX (V2.trans U)⟩) [] sH ?CNa3 ?_
 case CNa3=>rfl
 rintro _ ⟨t3,x3,q1,q2,q3,q4,q5,q6,q7,q8⟩ G3 h3 N3 J3
 have V3:=V2.trans (Now.step N2.gsub N3)
 obtain rfl:=no_shape (t:=t3) (by rw [←J3.t,no_res])
 obtain rfl:0=x3:=(show (0:Int)=(resolveN noSrc).2 by rw [no_res]).trans J3.e
 have T3:TopF G3 h3 q1 q2 q3 q4 q5 q6 q7 q8 noSrc:=J3.top
 obtain ⟨bU,dU,bI,dI,bP,dP,bM,dM,bO,dO,bF,dF,bR,dR,bS,dS,rfl,rfl,rfl,rfl,rfl,rfl,rfl,rfl⟩:=topShapes T3
 conv=>whnf
 refine gS ?_;conv=>whnf
 refine RunsS.concY (n:=2) (N3.gsub) 2 ?_
 intro _ a4 d4 G4 h4 N4 R4
 conv=>whnf
 refine gS ?_;conv=>whnf
 have V4:=V3.trans (Now.step N3.gsub N4)
 refine RunsS.callY (N4.gsub) (nResolve_fn twS _ _ _ _ _ _ _ _ (fewN_lens (show fewN twS≤100 by decide) (by decide)) (fun u hu=>absurd hu List.not_mem_nil)) (fun h U=>⟨⟨RoF.nil _ _ _,RoF.nil _ _ _,RoF.up U R4,RoF.nil _ _ _,RoF.nil _ _ _,RoF.nil _ _ _,RoF.nil _ _ _,RoF.nil _ _ _,⟨fun _ h=>absurd h List.not_mem_nil,fun _ h=>absurd h List.not_mem_nil,fun _ h=>absurd h List.not_mem_nil⟩⟩,hP.upX (V4.trans U)⟩) [] sH ?CNa4 ?_
 case CNa4=>rfl
 rintro _ ⟨t5,x5,p1,p2,p3,p4,p5,p6,p7,p8⟩ G5 h5 N5 J5
 have V5:=V4.trans (Now.step N4.gsub N5)
 obtain rfl:=no_shape (t:=t5) (by rw [←J5.t,tw_res])
 obtain rfl:111=x5:=(show (111:Int)=(resolveN twS).2 by rw [tw_res]).trans J5.e
 have T5:TopF G5 h5 p1 p2 p3 p4 p5 p6 p7 p8 noSrc:=J5.top
 obtain ⟨kU,lU,kI,lI,kP,lP,kM,lM,kO,lO,kF,lF,kR,lR,kS,lS,rfl,rfl,rfl,rfl,rfl,rfl,rfl,rfl⟩:=topShapes T5
 conv=>whnf
 refine gS ?_;conv=>whnf
 refine RunsS.concY (n:=1) (N5.gsub) 4 ?_
 intro _ a6 d6 G6 h6 N6 R6
 conv=>whnf
 refine gS ?_;conv=>whnf
 have V6:=V5.trans (Now.step N5.gsub N6)
 refine RunsS.callY (N6.gsub) (nResolve_fn abS _ _ _ _ _ _ _ _ (fewN_lens (show fewN abS≤100 by decide) (by decide)) (fun u hu=>absurd hu List.not_mem_nil)) (fun h U=>⟨⟨RoF.nil _ _ _,RoF.up U R6,RoF.nil _ _ _,RoF.nil _ _ _,RoF.nil _ _ _,RoF.nil _ _ _,RoF.nil _ _ _,RoF.nil _ _ _,⟨fun _ h=>absurd h List.not_mem_nil,fun _ h=>absurd h List.not_mem_nil,fun _ h=>absurd h List.not_mem_nil⟩⟩,hP.upX (V6.trans U)⟩) [] sH ?CNa5 ?_
 case CNa5=>rfl
 rintro _ ⟨t7,x7,s1,s2,s3,s4,s5,s6,s7,s8⟩ G7 h7 N7 J7
 have V7:=V6.trans (Now.step N6.gsub N7)
 obtain rfl:=no_shape (t:=t7) (by rw [←J7.t,ab_res])
 obtain rfl:110=x7:=(show (110:Int)=(resolveN abS).2 by rw [ab_res]).trans J7.e
 have T7:TopF G7 h7 s1 s2 s3 s4 s5 s6 s7 s8 noSrc:=J7.top
 obtain ⟨iU,jU,iI,jI,iP,jP,iM,jM,iO,jO,iF,jF,iR,jR,iS,jS,rfl,rfl,rfl,rfl,rfl,rfl,rfl,rfl⟩:=topShapes T7
 conv=>whnf
 refine gS ?_;conv=>whnf
 refine RunsS.callT (TopF.tok _ _ _ _ _ _ _ _ _) (noTopF _ _) (nChoice_fn noSrc 0 ⟨#[114,101,100]⟩) [] sH ?CNa6 ?_
 case CNa6=>rfl
 rintro _ _
 conv=>whnf
 refine gS ?_;conv=>whnf
 refine RunsS.callY (N7.gsub) (sample_fn) (fun _ _=>trivial) [] sH ?CNa7 ?_
 case CNa7=>rfl
 rintro _ ⟨t9,g1,g2,g3,g4,g5,g6,g7,g8⟩ G9 h9 N9 J9
 conv=>whnf
 refine gS ?_;conv=>whnf
 have V9:=V7.trans (Now.step N7.gsub N9)
 refine RunsS.callT (TopF.tok _ _ _ _ _ _ _ _ _) (J9.top.up ⟨N9.gsub,fun _ _=>rfl⟩) (nChoice_fn t9 0 ⟨#[103,114,101,97,116]⟩) [] sH ?CNa8 ?_
 case CNa8=>rfl
 rintro _ _
 rw [show findN (chOf t9 0) ⟨#[103,114,101,97,116]⟩=some 1 from samp_choice J9.t]
 conv=>whnf
 refine gS ?_;conv=>whnf
 refine And.intro (fun _=>?_) (fun hn=>absurd (rfl) hn)
 conv=>whnf
 refine And.intro (fun _=>?_) (fun hn=>absurd (rfl) hn)
 conv=>whnf
 refine And.intro (fun _=>?_) (fun hn=>absurd (rfl) hn)
 conv=>whnf
 refine And.intro (fun _=>?_) (fun hn=>absurd (rfl) hn)
 conv=>whnf
 repeat ((first|(guard_target=_∧_;(first|refine oL ?_|refine oR ?_)));(try intro _);conv=>whnf)
 have S4:=Now.step N3.gsub N4
 have S5:=Now.step N4.gsub N5
 have S6:=Now.step N5.gsub N6
 have S7:=Now.step N6.gsub N7
 have S9:=Now.step N7.gsub N9
 have W3:=(S4.trans (S5.trans (S6.trans (S7.trans S9)))).trans ⟨N9.gsub,fun _ _=>rfl⟩
 have W2:=(Now.step N2.gsub N3).trans W3
 refine RunsS.nameCell (fun _ x=>x) 0 0 (by exact (show RoF _ _ _ 8 (rowsU sRU) from RoF.up W2 T2.U)) ?_
 conv=>whnf
 refine gS ?_;conv=>whnf
 refine RunsS.nameCell (fun _ x=>x) 0 1 (by exact (show RoF _ _ _ 6 (rws It.row sRI) from RoF.up W2 T2.I)) ?_
 conv=>whnf
 refine gS ?_;conv=>whnf
 refine RunsS.nameCell (fun _ x=>x) 0 3 (by exact (show RoF _ _ _ 4 (rws Mc.row sRM) from RoF.up W2 T2.M)) ?_
 conv=>whnf
 refine gS ?_;conv=>whnf
 refine RunsS.nameCell (fun _ x=>x) 0 5 (by exact (show RoF _ _ _ 1 (rws FbV.row [⟨f,sRFc⟩]) from RoF.up W2 T2.F)) ?_
 conv=>whnf
 refine gS ?_;conv=>whnf
 refine RunsS.nameCell (fun _ x=>x) 0 6 (by exact (show RoF _ _ _ 17 (rws RcV.row [sRR r1 r2 r3 r4]) from RoF.up W2 T2.R)) ?_
 conv=>whnf
 refine gS ?_;conv=>whnf
 refine RunsS.nameCell (fun _ x=>x) 0 7 (by exact (show RoF _ _ _ 4 (rws Sw.row sRS) from RoF.up W2 T2.S)) ?_
 conv=>whnf
 refine gS ?_;conv=>whnf
 refine RunsS.callT (Two2T.tok _ _ _ _ _ _ _ _ _ _ _ _ _ _ _ _ _ _) (⟨T3.up W3,noTopF _ _⟩) (sSame_fn noSrc noSrc) [] sH ?CNa9 ?_
 case CNa9=>rfl
 rintro _ _
 rw [eqB_yes rfl]
 conv=>whnf
 refine goS_run tab 119 _ _ _ _ ?_;conv=>whnf
 conv=>whnf
 refine And.intro (fun _=>?_) (fun hn=>absurd (rfl) hn)
 conv=>whnf
 refine And.intro (fun _=>?_) (fun hn=>absurd (rfl) hn)
 conv=>whnf
 refine And.intro (fun _=>?_) (fun hn=>absurd (rfl) hn)
 conv=>whnf
 refine And.intro (fun _=>?_) (fun hn=>absurd (rfl) hn)
 conv=>whnf
 repeat ((first|(guard_target=_∧_;(first|refine oL ?_|refine oR ?_)));(try intro _);conv=>whnf)
 refine ⟨_,rfl,?_⟩;conv=>whnf
 conv=>whnf
 refine And.intro (fun _=>?_) (fun hn=>absurd (rfl) hn)
 conv=>whnf
 refine And.intro (fun _=>?_) (fun hn=>absurd (rfl) hn)
 conv=>whnf
 refine And.intro (fun _=>?_) (fun hn=>absurd (rfl) hn)
 conv=>whnf
 repeat ((first|(guard_target=_∧_;(first|refine oL ?_|refine oR ?_)));(try intro _);conv=>whnf)
 refine ⟨_,rfl,?_⟩;conv=>whnf
 try (refine oN ?_;conv=>whnf)
 conv=>whnf
 refine And.intro (fun _=>?_) (fun hn=>absurd (rfl) hn)
 conv=>whnf
 refine And.intro (fun _=>?_) (fun hn=>absurd (rfl) hn)
 conv=>whnf
 refine And.intro (fun _=>?_) (fun hn=>absurd (rfl) hn)
 conv=>whnf
 refine And.intro (fun _=>?_) (fun hn=>absurd (rfl) hn)
 conv=>whnf
 repeat ((first|(guard_target=_∧_;(first|refine oL ?_|refine oR ?_)));(try intro _);conv=>whnf)
 refine ⟨_,rfl,?_⟩;conv=>whnf
 conv=>whnf
 refine And.intro (fun _=>?_) (fun hn=>absurd (rfl) hn)
 conv=>whnf
 repeat ((first|(guard_target=_∧_;(first|refine oL ?_|refine oR ?_)));(try intro _);conv=>whnf)
 refine ⟨_,rfl,?_⟩;conv=>whnf
 conv=>whnf
 refine And.intro (fun _=>?_) (fun hn=>absurd (rfl) hn)
 conv=>whnf
 repeat ((first|(guard_target=_∧_;(first|refine oL ?_|refine oR ?_)));(try intro _);conv=>whnf)
 refine ⟨_,rfl,?_⟩;conv=>whnf
 conv=>whnf
 refine And.intro (fun _=>?_) (fun hn=>absurd (rfl) hn)
 conv=>whnf
 repeat ((first|(guard_target=_∧_;(first|refine oL ?_|refine oR ?_)));(try intro _);conv=>whnf)
 refine ⟨_,rfl,?_⟩;conv=>whnf
 conv=>whnf
 have rb:=T2.below.r _ (List.mem_singleton.2 rfl)
 have fb:=T2.below.f _ (List.mem_singleton.2 rfl)
 refine RunsS.nameCell (fun _ x=>x) 12 4 (by exact (show RoF _ _ (r1.v 1) 4 (rws Cd.row sRRc) from RoF.up W2 rb.c)) ?_
 conv=>whnf
 refine RunsS.nameCell (fun _ x=>x) 12 5 (by exact (show RoF _ _ (r2.v 1) 7 (rws Am.row sRRi) from RoF.up W2 rb.i)) ?_
 conv=>whnf
 refine RunsS.nameCell (fun _ x=>x) 12 6 (by exact (show RoF _ _ (r3.v 1) 7 (rws Am.row sRRo) from RoF.up W2 rb.o)) ?_
 conv=>whnf
 refine RunsS.nameCell (fun _ x=>x) 12 14 (by exact (show RoF _ _ (r4.v 1) 3 (rws Rn.row sRRn) from RoF.up W2 rb.rn)) ?_
 conv=>whnf
 refine RunsS.nameAt (fun _ x=>x) 172 (by exact (show RoF _ _ (f.v 2) 4 (rws Cd.row sRFc) from RoF.up W2 fb)) ?_
 conv=>whnf
 refine goS_run tab 10 _ _ _ _ ?_;conv=>whnf
 refine And.intro (by decide) ?_;conv=>whnf
 conv=>whnf
 refine ⟨_,rfl,?_⟩;conv=>whnf
 try (refine oN ?_;conv=>whnf)
 conv=>whnf
 refine And.intro (fun _=>?_) (fun hn=>absurd (⟨rfl,rfl,rfl,rfl⟩) hn)
 conv=>whnf
 repeat ((first|(guard_target=_∧_;(first|refine oL ?_|refine oR ?_)));(try intro _);conv=>whnf)
 refine ⟨_,rfl,?_⟩;conv=>whnf
 conv=>whnf
 refine RunsS.nameAt (fun _ x=>x) 182 (by exact (show RoF _ _ (f.v 2) 4 (rws Cd.row sRFc) from RoF.up W2 fb)) ?_
 conv=>whnf
 refine gS ?_;conv=>whnf
 refine And.intro (by decide) ?_;conv=>whnf
 conv=>whnf
 refine ⟨_,rfl,?_⟩;conv=>whnf
 conv=>whnf
 refine And.intro (fun _=>?_) (fun hn=>absurd (rfl) hn)
 conv=>whnf
 refine And.intro (fun _=>?_) (fun hn=>absurd (rfl) hn)
 conv=>whnf
 refine And.intro (fun _=>?_) (fun hn=>absurd (rfl) hn)
 conv=>whnf
 refine And.intro (by decide) ?_;conv=>whnf
 conv=>whnf
 refine ⟨_,rfl,?_⟩;conv=>whnf
 conv=>whnf
 refine And.intro (fun _=>?_) (fun hn=>absurd (rfl) hn)
 conv=>whnf
 refine And.intro (by decide) ?_;conv=>whnf
 conv=>whnf
 refine ⟨_,rfl,?_⟩;conv=>whnf
 conv=>whnf
 refine And.intro (fun _=>?_) (fun hn=>absurd (rfl) hn)
 conv=>whnf
 refine And.intro (by decide) ?_;conv=>whnf
 conv=>whnf
 refine ⟨_,rfl,?_⟩;conv=>whnf
 conv=>whnf
 refine And.intro (fun _=>?_) (fun hn=>absurd (rfl) hn)
 conv=>whnf
 refine And.intro (by decide) ?_;conv=>whnf
 conv=>whnf
 refine ⟨_,rfl,?_⟩;conv=>whnf
 conv=>whnf
 refine And.intro (fun _=>?_) (fun hn=>absurd (rfl) hn)
 conv=>whnf
 refine And.intro (by decide) ?_;conv=>whnf
 conv=>whnf
 refine ⟨_,rfl,?_⟩;conv=>whnf
 conv=>whnf
 refine And.intro (fun _=>?_) (fun hn=>absurd (rfl) hn)
 conv=>whnf
 refine And.intro (by decide) ?_;conv=>whnf
 conv=>whnf
 refine ⟨_,rfl,?_⟩;conv=>whnf
 conv=>whnf
 refine And.intro (fun _=>?_) (fun hn=>absurd (rfl) hn)
 conv=>whnf
 repeat ((first|(guard_target=_∧_;(first|refine oL ?_|refine oR ?_)));(try intro _);conv=>whnf)
 refine ⟨_,rfl,?_⟩;conv=>whnf
 conv=>whnf
 refine And.intro (fun _=>?_) (fun hn=>absurd (rfl) hn)
 conv=>whnf
 repeat ((first|(guard_target=_∧_;(first|refine oL ?_|refine oR ?_)));(try intro _);conv=>whnf)
 refine ⟨_,rfl,?_⟩;conv=>whnf
 conv=>whnf
 refine gS ?_;conv=>whnf
 refine RunsS.retU ?_
 exact UnwS.ret tab Tryz.func9 rfl (eX (((((((N1.trans N2).trans N3).trans N4).trans N5).trans N6).trans N7).trans N9) (()) (fun _ _=>trivial))
end Go.Proofs.YtofjdbmcloemnaaGreatDoor

namespace Go.Proofs.YtofjdbmcloemnaaGreatDoor
open Go Go.Fw Go.NatM Go.RatM Go.SrcM
set_option maxRecDepth 100000
set_option maxHeartbeats 99999999
structure LawP (vU vI vP vM vO vF vR vS:Value) (s:SrcV) (G:Nat→Prop) (h:Array Obj):Prop where
 top:TopF G h vU vI vP vM vO vF vR vS s
 tab:TabT G h
end Go.Proofs.YtofjdbmcloemnaaGreatDoor

namespace Go.SrcM
open Go Go.Fw Go.RatM
end Go.SrcM
namespace Go.Proofs.YtofjdbmcloemnaaGreatDoor
open Go Go.Fw Go.NatM Go.RatM Go.SrcM
set_option maxRecDepth 100000
set_option maxHeartbeats 99999999
end Go.Proofs.YtofjdbmcloemnaaGreatDoor

namespace Go.SrcM
open Go Go.Fw Go.RatM
def BrV.row (x:BrV):List Value:=[x.U,x.I,x.P,x.M,x.O,x.F,x.R,x.S]
theorem fewN_opts {s:SrcV} (hf:fewN s≤160):s.options.length≤160:=by
 have h:∀l:List OpV,l.length≤(l.map fwO).sum:=fun l=>by
  induction l with
  |nil=>exact Nat.le_refl _
  |cons x l ih=>
   have:1≤fwO x:=Nat.le_add_right _ _
   simp only [List.length_cons,List.map_cons,List.sum_cons]
   omega
 have:=h s.options
 unfold fewN at hf
 omega
theorem fewN_ch {s:SrcV} (hf:fewN s≤160) {o:OpV} (ho:o∈s.options):o.ch.length≤160:=by
 have h:∀l:List OpV,o∈l→o.ch.length≤(l.map fwO).sum:=fun l=>by
  induction l with
  |nil=>exact fun h=>nomatch h
  |cons x l ih=>
   intro h
   simp only [List.map_cons,List.sum_cons]
   rcases List.mem_cons.1 h with rfl|h
   ·have:o.ch.length≤fwO o:=Nat.le_add_left _ _
    omega
   have:=ih h
   omega
 have:=h s.options ho
 unfold fewN at hf
 omega
end Go.SrcM
namespace Go.Proofs.YtofjdbmcloemnaaGreatDoor
open Go Go.Fw Go.NatM Go.RatM Go.SrcM
set_option maxRecDepth 100000
set_option maxHeartbeats 99999999
set_option pp.maxSteps 300000
end Go.Proofs.YtofjdbmcloemnaaGreatDoor

namespace Go.SrcM
open Go Go.Fw Go.RatM
def askL (s:SrcV) (nm:ByteArray) (i o:Nat):List ByteArray:=[nm,⟨#[]⟩]++s.plants++(s.items.take i).map It.name++((s.options.take o).map OpV.ch).flatten
theorem askL_item {s:SrcV} {nm:ByteArray} {k:Nat} (hk:k<s.items.length):askL s nm (k+1) 0=askL s nm k 0++[s.items[k].name]:=by
 simp only [askL,List.take_zero,List.map_nil,List.flatten_nil,List.append_nil,List.append_assoc]
 rw [List.take_succ_eq_append_getElem hk,List.map_append];rfl
theorem askL_opt {s:SrcV} {nm:ByteArray} {n k:Nat} (hk:k<s.options.length):askL s nm n (k+1)=askL s nm n k++s.options[k].ch:=by
 simp only [askL,List.append_assoc]
 rw [List.take_succ_eq_append_getElem hk,List.map_append,List.flatten_append];simp
theorem flat_few:∀(l:List OpV) (k:Nat),((l.take k).map OpV.ch).flatten.length≤(l.map fwO).sum
 |_,0=>Nat.zero_le _
 | [],_+1=>Nat.zero_le _
 |x::l,k+1=>by
  have:=flat_few l k
  have e:x.ch.length≤fwO x:=Nat.le_add_left _ _
  simp only [List.take_succ_cons,List.map_cons,List.flatten_cons,List.length_append,List.sum_cons]
  omega
theorem askL_len {s:SrcV} (hf:fewN s≤160) (nm:ByteArray) (i o:Nat):(askL s nm i o).length≤162:=by
 have:=flat_few s.options o
 unfold fewN at hf
 simp only [askL,List.length_append,List.length_cons,List.length_nil,List.length_map,List.length_take]
 omega
def fN:Option Nat→Nat
 |some k=>k
 |none=>0
abbrev fnd2 (x:Option Nat):SV:=.tup [.v (.int .i64 (fN x)),.v (.bool x.isSome)]
theorem beq_b (b:Bool):(b==b)=true:=by cases b<;>rfl
theorem fndS_eq (x:Option Nat):Go.Proofs.YtofjdbmcloemnaaGreatDoor.fndS x=fnd2 x:=by cases x<;>rfl
end Go.SrcM
namespace Go.Proofs.YtofjdbmcloemnaaGreatDoor
open Go Go.Fw Go.NatM Go.RatM Go.SrcM
set_option maxRecDepth 100000
set_option maxHeartbeats 99999999
section
variable {vU vI vP vM vO vF vR vS:Value}
theorem fI_n (s:SrcV) (nm:ByteArray):FnT Tryz.prog (TopT vU vI vP vM vO vF vR vS s) 20 0 [srcA vU vI vP vM vO vF vR vS,.v (.string nm)] [] (fun _:Unit=>True) (fun _=>.ret (fnd2 (findN (s.items.map It.name) nm)) 0 []):=by rw [←fndS_eq];exact nItem_fn s nm
theorem fI_r (s:SrcV) (hL:Lens s) (nm:ByteArray):FnT Tryz.prog (TopT vU vI vP vM vO vF vR vS s) 21 0 [srcA vU vI vP vM vO vF vR vS,.v (.string nm)] [] (fun _:Unit=>True) (fun _=>.ret (fnd2 (findN (s.items.map It.name) nm)) 0 []):=by rw [←fndS_eq];exact rItem_fn s hL nm
theorem fP_n (s:SrcV) (nm:ByteArray):FnT Tryz.prog (TopT vU vI vP vM vO vF vR vS s) 22 0 [srcA vU vI vP vM vO vF vR vS,.v (.string nm)] [] (fun _:Unit=>True) (fun _=>.ret (fnd2 (findN s.plants nm)) 0 []):=by rw [←fndS_eq];exact nPlant_fn s nm
theorem fP_r (s:SrcV) (hL:Lens s) (nm:ByteArray):FnT Tryz.prog (TopT vU vI vP vM vO vF vR vS s) 23 0 [srcA vU vI vP vM vO vF vR vS,.v (.string nm)] [] (fun _:Unit=>True) (fun _=>.ret (fnd2 (findN s.plants nm)) 0 []):=by rw [←fndS_eq];exact rPlant_fn s hL nm
theorem fC_n (s:SrcV) (o:Int) (nm:ByteArray):FnT Tryz.prog (TopT vU vI vP vM vO vF vR vS s) 24 0 [srcA vU vI vP vM vO vF vR vS,.v (.int .i64 o),.v (.string nm)] [] (fun _:Unit=>True) (fun _=>.ret (fnd2 (findN (chOf s o) nm)) 0 []):=by rw [←fndS_eq];exact nChoice_fn s o nm
theorem fC_r (s:SrcV) (hL:Lens s) (o:Int) (nm:ByteArray):FnT Tryz.prog (TopT vU vI vP vM vO vF vR vS s) 25 0 [srcA vU vI vP vM vO vF vR vS,.v (.int .i64 o),.v (.string nm)] [] (fun _:Unit=>True) (fun _=>.ret (fnd2 (findN (chOf s o) nm)) 0 []):=by rw [←fndS_eq];exact rChoice_fn s hL o nm
theorem namesFind_fn (s:SrcV) (hB:fewN s≤4000000000000000000) (op:Int) (nm:ByteArray):FnX Tryz.prog 8 0 [srcA vU vI vP vM vO vF vR vS,.v (.int .i64 op),.v (.string nm)] [] (LawP vU vI vP vM vO vF vR vS s) (fun (_:Unit) _ _=>True) (fun _=>.ret (.v (.bool true)) 0 []):=by
 refine FnX.of Tryz.func8 (by kernel_rfl) rfl Tryz.ntmps8 rfl fun E0 F G h N hP w0 cs=>?_
 obtain ⟨pU0,qU0,pI0,qI0,pP0,qP0,pM0,qM0,pO0,qO0,pF0,qF0,pR0,qR0,pS0,qS0,rfl,rfl,rfl,rfl,rfl,rfl,rfl,rfl⟩:=topShapes hP.top
 conv=>whnf
 try refine gS ?_;conv=>whnf
 repeat ((first|(guard_target=_∧_;(first|refine oL ?_|refine oR ?_)));(try intro _);conv=>whnf)
 refine RunsS.callY (N.gsub) (sane11_fn) (fun h U=>hP.tab.upX U) [] sH ?CNa1 ?_
 case CNa1=>rfl
 rintro _ _ G1 h1 N1 J1
 conv=>whnf
 try refine gS ?_;conv=>whnf
 repeat ((first|(guard_target=_∧_;(first|refine oL ?_|refine oR ?_)));(try intro _);conv=>whnf)
 have V1:=Now.step N.gsub N1
 refine RunsS.callT (TopF.tok _ _ _ _ _ _ _ _ _) (hP.top.up (V1.trans ⟨N1.gsub,fun _ _=>rfl⟩)) (sFew_fn s hB) [] sH ?CNa2 ?_
 case CNa2=>rfl
 rintro _ _
 by_cases hf:fewN s≤160
 rotate_left
 ·rw [decide_eq_false hf]
  conv=>whnf
  try refine gS ?_;conv=>whnf
  repeat ((first|(guard_target=_∧_;(first|refine oL ?_|refine oR ?_)));(try intro _);conv=>whnf)
  try refine RunsS.retU ?_
  try refine RunsS.finU ?_
  exact UnwS.ret tab Tryz.func8 rfl (eX (N1) (()) (fun _ _=>trivial))
 rw [decide_eq_true hf]
 conv=>whnf
 refine goS_run tab 6 _ _ _ _ ?_;conv=>whnf
 have T1:=hP.top.up (V1.trans ⟨N1.gsub,fun _ _=>rfl⟩)
 have hL:=fewN_lens hf (by decide)
 have mP:s.plants.length≤160:=by unfold fewN at hf;omega
 have mI:s.items.length≤160:=by unfold fewN at hf;omega
 have mO:=fewN_opts hf
 refine RunsS.subR (nx':=1) (l':=[(1,.v (.int .i64 op)),(2,.v (.string nm)),(3,.ptr 0 0)]) (H':=[(0,sC pU0 qU0 pI0 qI0 pP0 qP0 pM0 qM0 pO0 qO0 pF0 qF0 pR0 qR0 pS0 qS0 s)]) [] ?_ sH sH
 refine RunsS.nameCell (fun _ x=>x) 0 1 (by exact T1.I) ?_
 conv=>whnf
 refine RunsS.nameCell (fun _ x=>x) 0 4 (by exact T1.O) ?_
 conv=>whnf
 refine RunsS.nameCell (fun _ x=>x) 0 2 (by exact T1.P) ?_
 conv=>whnf
 try refine gS ?_;conv=>whnf
 repeat ((first|(guard_target=_∧_;(first|refine oL ?_|refine oR ?_)));(try intro _);conv=>whnf)
 refine And.intro (appOb2 (by rw [rwsB_len];show 2+s.plants.length≤1000000;omega)) ?_;conv=>whnf
 refine goS_run tab 2 _ _ _ _ ?_;conv=>whnf
 refine RunsS.rowsEq (rows':=rwsB (askL s nm 0 0)) 5 (by simp [askL,rwsB,rws];rfl) ?_;conv=>whnf
 refine RunsS.unro 3 (fun vP' hP'=>?_)
 conv=>whnf
 have lI:=rws_len It.row s.items
 have lO:=rws_len OpV.row s.options
 refine RunsS.subR [] (RunsS.loop (fun (k:Nat)=>[(1,.v (.int .i64 op)),(3,.ptr 0 0),(7,.buf 5),(8,.v (.int .i64 k))]) (fun (k:Nat)=>[(0,.cells 31 [.v (.slice pU0 s.units.length qU0),.buf 1,.v vP',.v (.slice pM0 s.machines.length qM0),.buf 2,.v (.slice pF0 s.forbids.length qF0),.v (.slice pR0 s.recipes.length qR0),.v (.slice pS0 s.swaps.length qS0)]),(1,.ro 6 (rws It.row s.items)),(2,.ro 2 (rws OpV.row s.options)),(5,.own 9 1 (rwsB (askL s nm k 0)))]) 6 (fun (k:Nat)=>k≤s.items.length) (fun (k:Nat)=>s.items.length - k) ?round3 (0) ?J03) sH sH
 case J03=>first|omega|trivial
 rintro k hJ back
 try dsimp only at hJ back
 conv=>whnf
 try dsimp only
 refine gS ?_;conv=>whnf
 repeat ((first|(guard_target=_∧_;(first|refine oL ?_|refine oR ?_)));(try intro _);conv=>whnf)
 refine ⟨fun hk=>?_,fun hk=>?_⟩<;>conv=>whnf
 ·have hk:k<s.items.length:=by omega
  conv=>whnf
  repeat ((first|(guard_target=_∧_;(first|refine oL ?_|refine oR ?_)));(try intro _);conv=>whnf)
  refine ⟨_,rws_get hk,?_⟩;conv=>whnf
  try (refine oN ?_;conv=>whnf)
  repeat ((first|(guard_target=_∧_;(first|refine oL ?_|refine oR ?_)));(try intro _);conv=>whnf)
  have:=askL_len hf nm k 0
  refine And.intro (appOb2 (by rw [rwsB_len];show (askL s nm k 0).length+1≤1000000;omega)) ?_;conv=>whnf
  try refine gS ?_;conv=>whnf
  repeat ((first|(guard_target=_∧_;(first|refine oL ?_|refine oR ?_)));(try intro _);conv=>whnf)
  refine RunsS.rowsEq (rows':=rwsB (askL s nm (k+1) 0)) 7 ?e7 ?_
  case e7=>rw [askL_item hk];unfold rwsB rws;rw [List.map_append];try rfl
  conv=>whnf
  refine RunsS.subR [(5,7)] (back ((k+1)) (by (try dsimp only);first|omega|trivial) (by (try dsimp only);omega)) sH sH
 obtain rfl:k=s.items.length:=by omega
 clear back hJ hk
 refine RunsS.subR [] (RunsS.loop (fun (k:Nat)=>[(1,.v (.int .i64 op)),(3,.ptr 0 0),(7,.buf 5),(9,.v (.int .i64 k))]) (fun (k:Nat)=>[(0,.cells 31 [.v (.slice pU0 s.units.length qU0),.buf 1,.v vP',.v (.slice pM0 s.machines.length qM0),.buf 2,.v (.slice pF0 s.forbids.length qF0),.v (.slice pR0 s.recipes.length qR0),.v (.slice pS0 s.swaps.length qS0)]),(1,.ro 6 (rws It.row s.items)),(2,.ro 2 (rws OpV.row s.options)),(5,.own 9 1 (rwsB (askL s nm s.items.length k)))]) 6 (fun (k:Nat)=>k≤s.options.length) (fun (k:Nat)=>s.options.length - k) ?round5 (0) ?J05) sH sH
 case J05=>first|omega|trivial
 rintro k hJ back
 try dsimp only at hJ back
 conv=>whnf
 try dsimp only
 refine gS ?_;conv=>whnf
 repeat ((first|(guard_target=_∧_;(first|refine oL ?_|refine oR ?_)));(try intro _);conv=>whnf)
 refine ⟨fun hk=>?_,fun hk=>?_⟩<;>conv=>whnf
 ·have hk:k<s.options.length:=by omega
  conv=>whnf
  repeat ((first|(guard_target=_∧_;(first|refine oL ?_|refine oR ?_)));(try intro _);conv=>whnf)
  refine ⟨_,rws_get hk,?_⟩;conv=>whnf
  try (refine oN ?_;conv=>whnf)
  repeat ((first|(guard_target=_∧_;(first|refine oL ?_|refine oR ?_)));(try intro _);conv=>whnf)
  refine RunsS.nameAt (fun _ x=>x) 64 (by exact (show RoF _ _ (s.options[k].hd.v s.options[k].ch.length) 1 (rwsB s.options[k].ch) from T1.below.o _ (List.getElem_mem hk))) ?_
  conv=>whnf
  try refine gS ?_;conv=>whnf
  repeat ((first|(guard_target=_∧_;(first|refine oL ?_|refine oR ?_)));(try intro _);conv=>whnf)
  have:=askL_len hf nm s.items.length k
  have:=fewN_ch hf (List.getElem_mem hk)
  refine And.intro (appOb2 (by rw [rwsB_len,rwsB_len];omega)) ?_;conv=>whnf
  try refine gS ?_;conv=>whnf
  repeat ((first|(guard_target=_∧_;(first|refine oL ?_|refine oR ?_)));(try intro _);conv=>whnf)
  refine RunsS.rowsEq (rows':=rwsB (askL s nm s.items.length (k+1))) 7 ?e8 ?_
  case e8=>rw [askL_opt hk];unfold rwsB rws;rw [List.map_append]
  conv=>whnf
  refine RunsS.subR [(5,7)] (back ((k+1)) (by (try dsimp only);first|omega|trivial) (by (try dsimp only);omega)) sH sH
 obtain rfl:k=s.options.length:=by omega
 clear back hJ hk
 obtain ⟨L,eL⟩:∃L,L=askL s nm s.items.length s.options.length:=⟨_,rfl⟩
 have lL:L.length≤162:=by rw [eL];exact askL_len hf _ _ _
 rw [←eL]
 clear eL
 refine RunsS.unro 1 (fun vI' hI'=>?_)
 conv=>whnf
 refine RunsS.unro 2 (fun vO' hO'=>?_)
 conv=>whnf
 refine RunsS.subR (nx':=7) (l':=[(3,.ptr 0 0),(7,.buf 5),(10,.buf 6),(11,.v (.int .i64 0))]) (H':=[(0,.cells 31 [.v (.slice pU0 s.units.length qU0),.v vI',.v vP',.v (.slice pM0 s.machines.length qM0),.v vO',.v (.slice pF0 s.forbids.length qF0),.v (.slice pR0 s.recipes.length qR0),.v (.slice pS0 s.swaps.length qS0)]),(5,.own 9 1 (rwsB L)),(6,.own 3 1 [[.int .i64 op],[.int .i64 0],[.int .i64 1]])]) [] ?_ sH sH
 have T2:TopF _ h1 _ _ _ _ _ _ _ _ s:=⟨T1.U,hI',hP',T1.M,hO',T1.F,T1.R,T1.S,T1.below⟩
 have lL2:=rwsB_len L
 refine RunsS.subR [] (RunsS.loop (fun (k:Nat)=>[(3,.ptr 0 0),(7,.buf 5),(10,.buf 6),(11,.v (.int .i64 k))]) (fun (k:Nat)=>[(0,.cells 31 [.v (.slice pU0 s.units.length qU0),.v vI',.v vP',.v (.slice pM0 s.machines.length qM0),.v vO',.v (.slice pF0 s.forbids.length qF0),.v (.slice pR0 s.recipes.length qR0),.v (.slice pS0 s.swaps.length qS0)]),(5,.own 9 1 (rwsB L)),(6,.own 3 1 [[.int .i64 op],[.int .i64 0],[.int .i64 1]])]) 7 (fun (k:Nat)=>k≤L.length) (fun (k:Nat)=>L.length - k) ?round7 (0) ?J07) sH sH
 case J07=>first|omega|trivial
 rintro k hJ back
 try dsimp only at hJ back
 conv=>whnf
 try dsimp only
 refine gS ?_;conv=>whnf
 repeat ((first|(guard_target=_∧_;(first|refine oL ?_|refine oR ?_)));(try intro _);conv=>whnf)
 refine ⟨fun hk=>?_,fun hk=>?_⟩<;>conv=>whnf
 ·have hk:k<L.length:=by omega
  refine RunsS.held tab (.fl 0 (.fl 1 (.fl 2 (.fl 3 (.fl 4 (.e1 5 [] (.fl 6 (.fl 7 (.fl 8 (.fl 9 (.fl 10 .done))))))))))) (by kernel_rfl) ?_;conv=>whnf
  try refine gR ?_;conv=>whnf
  repeat ((first|(guard_target=_∧_;(first|refine oL ?_|refine oR ?_|refine oB ?_)));(try intro _);conv=>whnf)
  try refine gS ?_;conv=>whnf
  repeat ((first|(guard_target=_∧_;(first|refine oL ?_|refine oR ?_)));(try intro _);conv=>whnf)
  refine ⟨_,rws_get hk,?_⟩;conv=>whnf
  try (refine And.intro (by first|omega|exact Nat.le_of_ble_eq_true rfl) ?_;(try intro _);conv=>whnf)
  try refine gR ?_;conv=>whnf
  repeat ((first|(guard_target=_∧_;(first|refine oL ?_|refine oR ?_|refine oB ?_)));(try intro _);conv=>whnf)
  try refine gS ?_;conv=>whnf
  repeat ((first|(guard_target=_∧_;(first|refine oL ?_|refine oR ?_)));(try intro _);conv=>whnf)
  refine EffR.callT (TopF.tok _ _ _ _ _ _ _ _ _) (T2) (fI_n s L[k]) [] ?_ sH ?CNa8
  case CNa8=>rfl
  intro _ _
  conv=>whnf
  try refine oB ?_
  try refine gR ?_;conv=>whnf
  repeat ((first|(guard_target=_∧_;(first|refine oL ?_|refine oR ?_|refine oB ?_)));(try intro _);conv=>whnf)
  try refine gS ?_;conv=>whnf
  repeat ((first|(guard_target=_∧_;(first|refine oL ?_|refine oR ?_)));(try intro _);conv=>whnf)
  refine RunsS.held tab (.fl 0 (.fl 1 (.fl 2 (.fl 3 (.fl 4 (.e1 5 [] (.fl 6 (.fl 7 (.fl 8 (.fl 9 (.fl 10 .done))))))))))) (by kernel_rfl) ?_;conv=>whnf
  try refine gR ?_;conv=>whnf
  repeat ((first|(guard_target=_∧_;(first|refine oL ?_|refine oR ?_|refine oB ?_)));(try intro _);conv=>whnf)
  try refine gS ?_;conv=>whnf
  repeat ((first|(guard_target=_∧_;(first|refine oL ?_|refine oR ?_)));(try intro _);conv=>whnf)
  refine ⟨_,rws_get hk,?_⟩;conv=>whnf
  try (refine And.intro (by first|omega|exact Nat.le_of_ble_eq_true rfl) ?_;(try intro _);conv=>whnf)
  try refine gR ?_;conv=>whnf
  repeat ((first|(guard_target=_∧_;(first|refine oL ?_|refine oR ?_|refine oB ?_)));(try intro _);conv=>whnf)
  try refine gS ?_;conv=>whnf
  repeat ((first|(guard_target=_∧_;(first|refine oL ?_|refine oR ?_)));(try intro _);conv=>whnf)
  refine EffR.callT (TopF.tok _ _ _ _ _ _ _ _ _) (T2) (fI_r s hL L[k]) [] ?_ sH ?CNa9
  case CNa9=>rfl
  intro _ _
  conv=>whnf
  try refine oB ?_
  try refine gR ?_;conv=>whnf
  repeat ((first|(guard_target=_∧_;(first|refine oL ?_|refine oR ?_|refine oB ?_)));(try intro _);conv=>whnf)
  try refine gS ?_;conv=>whnf
  repeat ((first|(guard_target=_∧_;(first|refine oL ?_|refine oR ?_)));(try intro _);conv=>whnf)
  refine RunsS.held tab (.fl 0 (.fl 1 (.fl 2 (.fl 3 (.fl 4 (.e1 5 [] (.fl 6 (.fl 7 (.fl 8 (.fl 9 (.fl 10 .done))))))))))) (by kernel_rfl) ?_;conv=>whnf
  try refine gR ?_;conv=>whnf
  repeat ((first|(guard_target=_∧_;(first|refine oL ?_|refine oR ?_|refine oB ?_)));(try intro _);conv=>whnf)
  try refine gS ?_;conv=>whnf
  repeat ((first|(guard_target=_∧_;(first|refine oL ?_|refine oR ?_)));(try intro _);conv=>whnf)
  refine ⟨_,rws_get hk,?_⟩;conv=>whnf
  try (refine And.intro (by first|omega|exact Nat.le_of_ble_eq_true rfl) ?_;(try intro _);conv=>whnf)
  try refine gR ?_;conv=>whnf
  repeat ((first|(guard_target=_∧_;(first|refine oL ?_|refine oR ?_|refine oB ?_)));(try intro _);conv=>whnf)
  try refine gS ?_;conv=>whnf
  repeat ((first|(guard_target=_∧_;(first|refine oL ?_|refine oR ?_)));(try intro _);conv=>whnf)
  refine EffR.callT (TopF.tok _ _ _ _ _ _ _ _ _) (T2) (fP_n s L[k]) [] ?_ sH ?CNa10
  case CNa10=>rfl
  intro _ _
  conv=>whnf
  try refine oB ?_
  try refine gR ?_;conv=>whnf
  repeat ((first|(guard_target=_∧_;(first|refine oL ?_|refine oR ?_|refine oB ?_)));(try intro _);conv=>whnf)
  try refine gS ?_;conv=>whnf
  repeat ((first|(guard_target=_∧_;(first|refine oL ?_|refine oR ?_)));(try intro _);conv=>whnf)
  refine RunsS.held tab (.fl 0 (.fl 1 (.fl 2 (.fl 3 (.fl 4 (.e1 5 [] (.fl 6 (.fl 7 (.fl 8 (.fl 9 (.fl 10 .done))))))))))) (by kernel_rfl) ?_;conv=>whnf
  try refine gR ?_;conv=>whnf
  repeat ((first|(guard_target=_∧_;(first|refine oL ?_|refine oR ?_|refine oB ?_)));(try intro _);conv=>whnf)
  try refine gS ?_;conv=>whnf
  repeat ((first|(guard_target=_∧_;(first|refine oL ?_|refine oR ?_)));(try intro _);conv=>whnf)
  refine ⟨_,rws_get hk,?_⟩;conv=>whnf
  try (refine And.intro (by first|omega|exact Nat.le_of_ble_eq_true rfl) ?_;(try intro _);conv=>whnf)
  try refine gR ?_;conv=>whnf
  repeat ((first|(guard_target=_∧_;(first|refine oL ?_|refine oR ?_|refine oB ?_)));(try intro _);conv=>whnf)
  try refine gS ?_;conv=>whnf
  repeat ((first|(guard_target=_∧_;(first|refine oL ?_|refine oR ?_)));(try intro _);conv=>whnf)
  refine EffR.callT (TopF.tok _ _ _ _ _ _ _ _ _) (T2) (fP_r s hL L[k]) [] ?_ sH ?CNa11
  case CNa11=>rfl
  intro _ _
  conv=>whnf
  try refine oB ?_
  try refine gR ?_;conv=>whnf
  repeat ((first|(guard_target=_∧_;(first|refine oL ?_|refine oR ?_|refine oB ?_)));(try intro _);conv=>whnf)
  try refine gS ?_;conv=>whnf
  repeat ((first|(guard_target=_∧_;(first|refine oL ?_|refine oR ?_)));(try intro _);conv=>whnf)
  rw [beq_b]
  conv=>whnf
  repeat ((first|(guard_target=_∧_;(first|refine oL ?_|refine oR ?_)));(try intro _);conv=>whnf)
  rw [beq_b]
  conv=>whnf
  repeat ((first|(guard_target=_∧_;(first|refine oL ?_|refine oR ?_)));(try intro _);conv=>whnf)
  have backK:=back
  refine RunsS.subR [] (RunsS.loop (fun (j:Nat)=>[(3,.ptr 0 0),(7,.buf 5),(10,.buf 6),(11,.v (.int .i64 k)),(20,.v (.int .i64 j))]) (fun (j:Nat)=>[(0,.cells 31 [.v (.slice pU0 s.units.length qU0),.v vI',.v vP',.v (.slice pM0 s.machines.length qM0),.v vO',.v (.slice pF0 s.forbids.length qF0),.v (.slice pR0 s.recipes.length qR0),.v (.slice pS0 s.swaps.length qS0)]),(5,.own 9 1 (rwsB L)),(6,.own 3 1 [[.int .i64 op],[.int .i64 0],[.int .i64 1]])]) 7 (fun (j:Nat)=>j≤3) (fun (j:Nat)=>3 - j) ?round12 (0) ?J012) sH sH
  case J012=>first|omega|trivial
  rintro j hJ back
  try dsimp only at hJ back
  conv=>whnf
  try dsimp only
  refine gS ?_;conv=>whnf
  repeat ((first|(guard_target=_∧_;(first|refine oL ?_|refine oR ?_)));(try intro _);conv=>whnf)
  refine ⟨fun hj=>?_,fun hj=>?_⟩<;>conv=>whnf
  ·have hj:j<3:=by simp at hj;omega
   obtain ⟨o,ho⟩:∃o:Int,([[.int .i64 op],[.int .i64 0],[.int .i64 1]]:List (List Value))[j]? = some [.int .i64 o]:=by
    match j,hj with
    |0,_=>exact ⟨_,rfl⟩
    |1,_=>exact ⟨_,rfl⟩
    |2,_=>exact ⟨_,rfl⟩
   refine RunsS.held tab (.fl 0 (.fl 1 (.fl 2 (.fl 3 (.fl 4 (.fl 5 (.fl 6 (.fl 7 (.fl 8 (.e1 9 [] (.fl 10 (.fl 11 (.fl 12 (.fl 13 (.fl 14 .done))))))))))))))) (by kernel_rfl) ?_;conv=>whnf
   try refine gR ?_;conv=>whnf
   repeat ((first|(guard_target=_∧_;(first|refine oL ?_|refine oR ?_|refine oB ?_)));(try intro _);conv=>whnf)
   try refine gS ?_;conv=>whnf
   repeat ((first|(guard_target=_∧_;(first|refine oL ?_|refine oR ?_)));(try intro _);conv=>whnf)
   refine ⟨_,ho,?_⟩;conv=>whnf
   try (refine And.intro (by first|omega|exact Nat.le_of_ble_eq_true rfl) ?_;(try intro _);conv=>whnf)
   try refine gR ?_;conv=>whnf
   repeat ((first|(guard_target=_∧_;(first|refine oL ?_|refine oR ?_|refine oB ?_)));(try intro _);conv=>whnf)
   try refine gS ?_;conv=>whnf
   repeat ((first|(guard_target=_∧_;(first|refine oL ?_|refine oR ?_)));(try intro _);conv=>whnf)
   refine ⟨_,rws_get hk,?_⟩;conv=>whnf
   try (refine And.intro (by first|omega|exact Nat.le_of_ble_eq_true rfl) ?_;(try intro _);conv=>whnf)
   try refine gR ?_;conv=>whnf
   repeat ((first|(guard_target=_∧_;(first|refine oL ?_|refine oR ?_|refine oB ?_)));(try intro _);conv=>whnf)
   try refine gS ?_;conv=>whnf
   repeat ((first|(guard_target=_∧_;(first|refine oL ?_|refine oR ?_)));(try intro _);conv=>whnf)
   refine EffR.callT (TopF.tok _ _ _ _ _ _ _ _ _) (T2) (fC_n s o L[k]) [] ?_ sH ?CNa13
   case CNa13=>rfl
   intro _ _
   conv=>whnf
   try refine oB ?_
   try refine gR ?_;conv=>whnf
   repeat ((first|(guard_target=_∧_;(first|refine oL ?_|refine oR ?_|refine oB ?_)));(try intro _);conv=>whnf)
   try refine gS ?_;conv=>whnf
   repeat ((first|(guard_target=_∧_;(first|refine oL ?_|refine oR ?_)));(try intro _);conv=>whnf)
   refine RunsS.held tab (.fl 0 (.fl 1 (.fl 2 (.fl 3 (.fl 4 (.fl 5 (.fl 6 (.fl 7 (.fl 8 (.e1 9 [] (.fl 10 (.fl 11 (.fl 12 (.fl 13 (.fl 14 .done))))))))))))))) (by kernel_rfl) ?_;conv=>whnf
   try refine gR ?_;conv=>whnf
   repeat ((first|(guard_target=_∧_;(first|refine oL ?_|refine oR ?_|refine oB ?_)));(try intro _);conv=>whnf)
   try refine gS ?_;conv=>whnf
   repeat ((first|(guard_target=_∧_;(first|refine oL ?_|refine oR ?_)));(try intro _);conv=>whnf)
   refine ⟨_,ho,?_⟩;conv=>whnf
   try (refine And.intro (by first|omega|exact Nat.le_of_ble_eq_true rfl) ?_;(try intro _);conv=>whnf)
   try refine gR ?_;conv=>whnf
   repeat ((first|(guard_target=_∧_;(first|refine oL ?_|refine oR ?_|refine oB ?_)));(try intro _);conv=>whnf)
   try refine gS ?_;conv=>whnf
   repeat ((first|(guard_target=_∧_;(first|refine oL ?_|refine oR ?_)));(try intro _);conv=>whnf)
   refine ⟨_,rws_get hk,?_⟩;conv=>whnf
   try (refine And.intro (by first|omega|exact Nat.le_of_ble_eq_true rfl) ?_;(try intro _);conv=>whnf)
   try refine gR ?_;conv=>whnf
   repeat ((first|(guard_target=_∧_;(first|refine oL ?_|refine oR ?_|refine oB ?_)));(try intro _);conv=>whnf)
   try refine gS ?_;conv=>whnf
   repeat ((first|(guard_target=_∧_;(first|refine oL ?_|refine oR ?_)));(try intro _);conv=>whnf)
   refine EffR.callT (TopF.tok _ _ _ _ _ _ _ _ _) (T2) (fC_r s hL o L[k]) [] ?_ sH ?CNa14
   case CNa14=>rfl
   intro _ _
   conv=>whnf
   try refine oB ?_
   try refine gR ?_;conv=>whnf
   repeat ((first|(guard_target=_∧_;(first|refine oL ?_|refine oR ?_|refine oB ?_)));(try intro _);conv=>whnf)
   try refine gS ?_;conv=>whnf
   repeat ((first|(guard_target=_∧_;(first|refine oL ?_|refine oR ?_)));(try intro _);conv=>whnf)
   rw [beq_b]
   conv=>whnf
   repeat ((first|(guard_target=_∧_;(first|refine oL ?_|refine oR ?_)));(try intro _);conv=>whnf)
   refine RunsS.subR [] (back (j+1) (by (try dsimp only);first|omega|trivial) (by (try dsimp only);omega)) sH sH
  try refine gS ?_;conv=>whnf
  repeat ((first|(guard_target=_∧_;(first|refine oL ?_|refine oR ?_)));(try intro _);conv=>whnf)
  have back:=backK
  refine RunsS.subR [] (back (k+1) (by (try dsimp only);first|omega|trivial) (by (try dsimp only);omega)) sH sH
 try refine gS ?_;conv=>whnf
 repeat ((first|(guard_target=_∧_;(first|refine oL ?_|refine oR ?_)));(try intro _);conv=>whnf)
 try refine RunsS.retU ?_
 try refine RunsS.finU ?_
 exact UnwS.ret tab Tryz.func8 rfl (eX (N1) (()) (fun _ _=>trivial))
end
end Go.Proofs.YtofjdbmcloemnaaGreatDoor

namespace Go.Proofs.YtofjdbmcloemnaaGreatDoor
open Go Go.Fw Go.NatM Go.RatM Go.SrcM
set_option maxRecDepth 100000
theorem lawG {f:FuncId} {args:List SV} {Pre:(Nat→Prop)→Array Obj→Prop} (C:FnX Tryz.prog f 0 args [] Pre (fun (_:Unit) _ _=>True) (fun _=>.ret (.v (.bool true)) 0 [])) {h:Array Obj} (hp:Pre (fun k=>k<h.size) h) {vs:Array Value} (e:(SV.gs (fun _=>undef) args).toArray=vs):
  FnV Tryz.prog f vs h fun r h'=>r=.bool true∧Keeps h.size h h':=by
 subst e
 refine Fn.mono (C.call (fun _=>undef) (fun k=>k<h.size) (fun k=>k<h.size) h (fun _ x=>x) (fun _ x=>x) hp Sat.nil) fun e h' hx=>?_
 obtain ⟨x,E',F',G',N,_,_,_,he⟩:=hx
 exact ⟨.bool true,he,rfl,N.kp.keeps⟩
section
variable {vU vI vP vM vO vF vR vS:Value}
theorem topF_of {h:Array Obj} {s:SrcV} (hs:Top h vU vI vP vM vO vF vR vS s):TopF (fun k=>k<h.size) h vU vI vP vM vO vF vR vS s:=
 ⟨Ro.rof hs.U,Ro.rof hs.I,Ro.rof hs.P,Ro.rof hs.M,Ro.rof hs.O,Ro.rof hs.F,Ro.rof hs.R,Ro.rof hs.S,hs.below⟩
theorem lawP_of {h:Array Obj} {s:SrcV} (hs:Top h vU vI vP vM vO vF vR vS s) (hT:TabH h):LawP vU vI vP vM vO vF vR vS s (fun k=>k<h.size) h:=⟨topF_of hs,hT.t⟩
end
end Go.Proofs.YtofjdbmcloemnaaGreatDoor

namespace Go.Proofs.YtofjdbmcloemnaaGreatDoor
open Go Go.Fw Go.NatM Go.RatM Go.SrcM
section
variable {vU vI vP vM vO vF vR vS:Value}
theorem namesFind_law {h:Array Obj} (s:SrcV) (hs:Top h vU vI vP vM vO vF vR vS s) (_:s.wf) (hB:fewN s≤4000000000000000000) (op:Int) (nm:ByteArray) (hT:TabH h):FnV Tryz.prog 8 #[srcV vU vI vP vM vO vF vR vS,.int .i64 op,.string nm] h fun r h'=>r=.bool true∧Keeps h.size h h':=
 lawG (namesFind_fn s hB op nm) (lawP_of hs hT) rfl
end
end Go.Proofs.YtofjdbmcloemnaaGreatDoor

namespace Go.Fw
open Go Go.RowKit Go.WideShapes Go.ChangeShapes
structure FlatP (P:Program) (t:TypeId) (ks:List Sc):Prop where
 at':∀ {H:Type} (enc:TypeId×Value→H) (w:World) (base:Nat) (sp:Nat→Bool) (held:Bool) (fuel:Nat) (cs:List Value) (x:DataW H×List MemPlace),
 DataW.trod enc P w base sp held fuel t cs=some x→cs.length=ks.length ∧ ∀(i:Nat) (k:Sc) (v:Value),ks[i]? = some k→cs[i]? = some v→k.ok v
theorem FlatP.sc {P:Program} {t:TypeId} {k:Sc} (ht:P.underlying t=some k.und):FlatP P t [k]:=⟨fun enc w base sp held fuel cs x h=>by
 obtain ⟨v,rfl,hv⟩:=trod_sc ht h
 refine ⟨rfl,fun i k' v' h1 h2=>?_⟩
 cases i with
 |zero=>cases h1;cases h2;exact hv
 |succ i=>simp at h1⟩
theorem FlatP.struct {P:Program} {t:TypeId} {fs:Array Field} {ks:List Sc} (ht:P.underlying t=some (.struct fs)) (hc:P.cellsOf t=ks.length)
  (hf:∀j,j<ks.length → ∃(i:Nat) (f:Field) (kf:List Sc),fs[i]? = some f∧FlatP P f.type kf∧P.cellsOf f.type=kf.length∧f.offset≤j∧j - f.offset<kf.length∧kf[j - f.offset]? = ks[j]?):FlatP P t ks:=⟨fun enc w base sp held fuel cs x h=>by
 obtain ⟨xs,n,_,rfl,hl,hlen,hx⟩:=DataW.trod_struct ht h
 rw [hc] at hl
 refine ⟨hl,fun j k v hk hv=>?_⟩
 have hj:=(List.getElem?_eq_some_iff.1 hk).1
 obtain ⟨i,f,kf,e1,e2,e3,e4,e5,e6⟩:=hf j hj
 have g:=hx i f e1
 have hi:i<xs.length:=by
  rw [hlen]
  exact (Array.getElem?_eq_some_iff.1 e1).1
 rw [List.getElem?_eq_getElem hi] at g
 obtain ⟨_,g2⟩:=e2.at' enc w base sp held _ _ _ g
 refine g2 (j - f.offset) k v (by rw [e6];exact hk) ?_
 rw [List.getElem?_take_of_lt (by rw [e3];exact e5),List.getElem?_drop,show f.offset+(j - f.offset)=j by omega]
 exact hv⟩
end Go.Fw

namespace Go.Proofs.YtofjdbmcloemnaaGreatDoor
open Go Go.Fw Go.ChangeShapes Go.WideShapes Go.ChangeAt Go.RowKit
theorem own:ownKnob Tryz.prog.godebug=none:=by kernel_rfl
theorem gTab:Tryz.prog.globalNamed "math/bits.deBruijn64tab" = some 2:=by kernel_rfl
theorem gTabType:(Tryz.prog.globals[2]?).map (·.type)=some 234:=by kernel_rfl
theorem cellsTab:Tryz.prog.cellsOf 234=64:=by kernel_rfl
theorem cellsByte:Tryz.prog.cellsOf 5=1:=by kernel_rfl
theorem table {W:World} (h:laidMetH Tryz.prog [("math/bits.deBruijn64tab",Rows.laid_math_bits_deBruijn64tab)] W):TabH W.heap:=by
 have h1:Lib.TabIs Tryz.prog W "math/bits.deBruijn64tab" .u8 (Go.Lib.deBruijn64tab.map fun (x:Nat)=>(x:Int)):=
  Lib.tabIs_of_head (rest:=[]) gTab gTabType Tryz.underlying234 Tryz.underlying5 cellsByte cellsTab h
 intro j hj
 have h2:=cellH_of (h1.cell gTab j (by simpa [Go.Lib.deBruijn64tab] using hj))
 have hl:j<Go.Lib.deBruijn64tab.length:=by simpa [Go.Lib.deBruijn64tab] using hj
 have hd:(Go.Lib.deBruijn64tab.map fun (x:Nat)=>(x:Int)).getD j 0=((Go.Lib.deBruijn64tab.getD j 0:Nat):Int):=by
  simp [List.getD_eq_getElem?_getD,List.getElem?_map,List.getElem?_eq_getElem hl]
 rw [hd] at h2
 exact h2
noncomputable def laidWorld (os:Os):World:=
 {World.holding Tryz.prog os ⟨#[],#[],[]⟩ with heap:=(World.holding Tryz.prog os ⟨#[],#[],[]⟩).heap.modify 2 fun
   | .cells _ t frozen=>.cells (Go.Lib.deBruijn64tab.map fun (x:Nat)=>Value.int .u8 (x:Int)).toArray t frozen
   |o=>o}
end Go.Proofs.YtofjdbmcloemnaaGreatDoor

namespace Go.Fw
open Go Go.ChangeShapes Go.ChangeMaps Go.WideShapes Go.RowKit
end Go.Fw

namespace Go.Proofs.YtofjdbmcloemnaaGreatDoor
open Go Go.Fw Go.ChangeShapes Go.WideShapes Go.ChangeAt Go.RowKit
end Go.Proofs.YtofjdbmcloemnaaGreatDoor

namespace Go.Proofs.YtofjdbmcloemnaaGreatDoor
open Go Go.Fw Go.RatM Go.ChangeShapes Go.WideShapes Go.ChangeAt Go.RowKit
set_option maxRecDepth 100000
theorem laidOut:laidOutB Tryz.prog=true:=by kernel_rfl
theorem ratioF:FlatP Tryz.prog 57 [.b,.s,.s]:=
 FlatP.struct Tryz.underlying57 (by kernel_rfl) fun j hj=>match j,hj with
  |0,_=>⟨0,_,[.b],rfl,FlatP.sc Tryz.underlying4,by kernel_rfl,by decide,by decide,rfl⟩
  |1,_=>⟨1,_,[.s],rfl,FlatP.sc Tryz.underlying9,by kernel_rfl,by decide,by decide,rfl⟩
  |2,_=>⟨2,_,[.s],rfl,FlatP.sc Tryz.underlying9,by kernel_rfl,by decide,by decide,rfl⟩
theorem unitF:FlatP Tryz.prog 59 [.s,.s,.i .i64,.i .i64,.i .i64,.b,.s,.s]:=
 FlatP.struct Tryz.underlying59 (by kernel_rfl) fun j hj=>match j,hj with
  |0,_=>⟨0,_,[.s],rfl,FlatP.sc Tryz.underlying9,by kernel_rfl,by decide,by decide,rfl⟩
  |1,_=>⟨1,_,[.s],rfl,FlatP.sc Tryz.underlying9,by kernel_rfl,by decide,by decide,rfl⟩
  |2,_=>⟨2,_,[.i .i64],rfl,FlatP.sc Tryz.underlying3,by kernel_rfl,by decide,by decide,rfl⟩
  |3,_=>⟨3,_,[.i .i64],rfl,FlatP.sc Tryz.underlying3,by kernel_rfl,by decide,by decide,rfl⟩
  |4,_=>⟨4,_,[.i .i64],rfl,FlatP.sc Tryz.underlying3,by kernel_rfl,by decide,by decide,rfl⟩
  |5,_=>⟨5,_,[.b,.s,.s],rfl,ratioF,by kernel_rfl,by decide,by decide,rfl⟩
  |6,_=>⟨5,_,[.b,.s,.s],rfl,ratioF,by kernel_rfl,by decide,by decide,rfl⟩
  |7,_=>⟨5,_,[.b,.s,.s],rfl,ratioF,by kernel_rfl,by decide,by decide,rfl⟩
theorem int_wf' {n:Int} (h:(Lit.int .i64 n).wf=true): -9223372036854775808≤n∧n≤9223372036854775807:=by
 have h1:IntKind.i64.min≤n∧n≤9223372036854775807:=by simpa [Lit.wf] using h
 have e:IntKind.i64.min = -9223372036854775808:=rfl
 omega
def UnOk1 (u:Un):Prop:=(-9223372036854775808≤u.n∧u.n≤9223372036854775807)∧(-9223372036854775808≤u.d∧u.d≤9223372036854775807)
theorem unit_row {cs:List Value} (h1:cs.length=8) (h2:∀(i:Nat) (k:Sc) (v:Value),[Sc.s,.s,.i .i64,.i .i64,.i .i64,.b,.s,.s][i]? = some k→cs[i]? = some v→k.ok v):∃u:Un,cs=u.row∧UnOk1 u:=by
 match cs,h1 with
 | [a,b,c,d,e,f,g,i],_=>
  obtain ⟨a,rfl,_⟩:=h2 0 _ a rfl rfl
  obtain ⟨b,rfl,_⟩:=h2 1 _ b rfl rfl
  obtain ⟨c,rfl,m1⟩:=h2 2 _ c rfl rfl
  obtain ⟨d,rfl,m2⟩:=h2 3 _ d rfl rfl
  obtain ⟨e,rfl,_⟩:=h2 4 _ e rfl rfl
  obtain ⟨f,rfl⟩:=h2 5 _ f rfl rfl
  obtain ⟨g,rfl,_⟩:=h2 6 _ g rfl rfl
  obtain ⟨i,rfl,_⟩:=h2 7 _ i rfl rfl
  exact ⟨⟨a,b,c,d,e,⟨f,g,i⟩⟩,rfl,int_wf' m1,int_wf' m2⟩
end Go.Proofs.YtofjdbmcloemnaaGreatDoor

namespace Go.Fw
open Go Go.RowKit Go.WideShapes Go.ChangeShapes
section
variable {H:Type} {enc:TypeId×Value→H} {P:Program} {W:World}
def TR (enc:TypeId×Value→H) (P:Program) (W:World) (t:TypeId) (cs:List Value):Prop:=∃fuel x,DataW.trod enc P W 0 (fun _=>true) true fuel t cs=some x
theorem TR.slice {α:Type} {f:α→List Value} {Q:α→Prop} {sz:Nat} {t e:TypeId} (ht:P.underlying t=some (.slice e)) (hc:P.cellsOf e=sz) (hz:0<sz)
  (hf:∀a,(f a).length=sz∧(Q a → ∀u∈f a,u.oneCell'=true)) (hx:∀cs,TR enc P W e cs → ∃a,cs=f a∧Q a) {cs:List Value} (h:TR enc P W t cs):∃v,∃l:List α,cs=[v]∧Ro W.heap v sz (l.map f) ∧ ∀a∈l,Q a:=by
 obtain ⟨fuel,x,hfu⟩:=h
 rcases Deep.open_slice ht hfu with ⟨h0,_⟩|⟨a,len,cap,m,n,D,Pl,h1,hb,hlc,hm,hmm,_,hcell⟩
 ·exact ⟨_,[],h0,Ro.nil,fun a ha=>by cases ha⟩
 have hlm:len≤m:=by rw [hmm];simpa using hlc
 have each:∀i,i<len → ∃b:α,W.cells? 0 (a.add (i*P.cellsOf e)) (P.cellsOf e)=some (f b)∧Q b:=fun i hi=>by
  obtain ⟨cs',e1,e2⟩:=hcell i (by omega)
  obtain ⟨b,rfl,hq⟩:=hx _ ⟨_,_,e2⟩
  exact ⟨b,e1,hq⟩
 obtain ⟨l,hl,hp'⟩:=list_lt each
 have hp:∀i (h:i<l.length),W.cells? 0 (a.add (i*P.cellsOf e)) (P.cellsOf e)=some (f l[i]):=fun i hi=>(hp' i hi).1
 have hQ:∀a∈l,Q a:=fun a ha=>by
  obtain ⟨i,hi,rfl⟩:=List.getElem_of_mem ha
  exact (hp' i hi).2
 have hmax:maxLen≤9223372036854775807:=by decide
 have hlen:(l.map f).length≤9223372036854775807:=by
  rw [List.length_map,hl];omega
 refine ⟨.slice (some a) len cap,l,h1,⟨fun r hr=>?_,⟨hlen,hlc⟩,some a,cap,by rw [List.length_map,hl],?_⟩,hQ⟩
 ·obtain ⟨b,hb,rfl⟩:=List.mem_map.1 hr
  exact ⟨(hf b).1,(hf b).2 (hQ b hb)⟩
 by_cases h0:l=[]
 ·exact .inl (by rw [h0];rfl)
 have hpos:0<l.length:=List.length_pos_iff.2 h0
 have first:=World.cells?_some (hp 0 hpos)
 have c0:=first.2.2 0 (by rw [hc];exact hz)
 have hspot:a.spot=none∧a.block<W.heap.size:=by
  rw [Nat.zero_mul] at c0
  have e0:(a.add 0).add 0=a:=rfl
  rw [e0,List.getElem?_eq_getElem (by rw [(hf _).1];exact hz)] at c0
  unfold World.cell? at c0
  split at c0
  ·rename_i hh
   refine ⟨?_,(Array.getElem?_eq_some_iff.1 hh).1⟩
   cases hs:a.spot with
   |none=>rfl
   |some k=>rw [hs] at c0;simp at c0
  cases c0
 obtain ⟨g,o,s⟩:=a
 obtain ⟨rfl,hg⟩:=hspot
 refine .inr ⟨g,o,rfl,hg,cellsH_flat (sz:=sz) (fun r hr=>?_) (fun i r hr j u hu=>?_)⟩
 ·obtain ⟨b,_,rfl⟩:=List.mem_map.1 hr
  exact (hf b).1
 rw [List.getElem?_map] at hr
 obtain ⟨b,hb',rfl⟩:=Option.map_eq_some_iff.1 hr
 obtain ⟨hi,rfl⟩:=List.getElem?_eq_some_iff.1 hb'
 have hj:j<P.cellsOf e:=by rw [hc,←(hf l[i]).1];exact (List.getElem?_eq_some_iff.1 hu).1
 have:=(World.cells?_some (hp i hi)).2.2 j hj
 rw [hu] at this
 refine cellH_of ?_
 rw [←this,Deep.add_add]
 congr 1
 unfold Addr.add
 rw [hc]
 by_cases e0:i*sz+j=0
 ·rw [if_pos e0]
  congr 1
  omega
 rw [if_neg e0]
 congr 1
 dsimp only
 omega
def onesB (P:Program) (fs:Array Field):Nat→Bool
 |0=>true
 |n+1=>onesB P fs n&&(match fs[n]? with
  |some f=>f.offset==n&&P.cellsOf f.type==1
  |none=>false)
theorem onesB_at {fs:Array Field}:∀ {n:Nat},onesB P fs n=true → ∀i,i<n → ∃f,fs[i]? = some f∧f.offset=i∧P.cellsOf f.type=1
 |0,_,i,hi=>absurd hi (Nat.not_lt_zero _)
 |n+1,h,i,hi=>by
  simp only [onesB,Bool.and_eq_true] at h
  by_cases e:i=n
  ·subst e
   have h2:=h.2
   split at h2
   ·rename_i f hf
    simp only [Bool.and_eq_true,beq_iff_eq] at h2
    exact ⟨f,hf,h2.1,h2.2⟩
   cases h2
  exact onesB_at h.1 i (by omega)
theorem TR.ones {t:TypeId} {fs:Array Field} {n:Nat} (ht:P.underlying t=some (.struct fs)) (hc:P.cellsOf t=n) (hf:onesB P fs n=true) {cs:List Value} (h:TR enc P W t cs):
  cs.length=n ∧ ∀(i:Nat) (f:Field) (v:Value),fs[i]? = some f→cs[i]? = some v→TR enc P W f.type [v]:=by
 obtain ⟨fuel,x,hx⟩:=h
 obtain ⟨xs,m,_,rfl,hl,hlen,hg⟩:=DataW.trod_struct ht hx
 rw [hc] at hl
 refine ⟨hl,fun i f v h1 h2=>?_⟩
 have hi:i<n:=by rw [←hl];exact (List.getElem?_eq_some_iff.1 h2).1
 obtain ⟨f',e1,e2,e3⟩:=onesB_at hf i hi
 rw [h1] at e1
 cases e1
 have g:=hg i f h1
 have hix:i<xs.length:=by rw [hlen];exact (Array.getElem?_eq_some_iff.1 h1).1
 rw [List.getElem?_eq_getElem hix,e2,e3] at g
 have e4:(cs.drop i).take 1=[v]:=by
  rw [List.take_one,List.head?_drop,h2];rfl
 rw [e4] at g
 exact ⟨_,_,g⟩
theorem TR.of {t:TypeId} {v:Value} {d:DataW H} {ps:List MemPlace} (h:DataW.Trod enc P W 0 (fun _=>true) true t v d ps):TR enc P W t v.cells.toList:=by
 obtain ⟨fuel,hf⟩:=h
 exact ⟨fuel,_,hf⟩
end
end Go.Fw
namespace Go.Proofs.YtofjdbmcloemnaaGreatDoor
open Go Go.Fw Go.RatM Go.SrcM Go.ChangeShapes Go.WideShapes Go.ChangeAt Go.RowKit
set_option maxRecDepth 100000
theorem int_wfS {n:Int} (h:(Lit.int .i64 n).wf=true):i64 n:=by
 have h1:IntKind.i64.min≤n∧n≤9223372036854775807:=by simpa [Lit.wf] using h
 have e:IntKind.i64.min = -9223372036854775808:=rfl
 unfold i64
 omega
section
variable {H:Type} {enc:TypeId×Value→H} {W:World} {cs:List Value} {v:Value}
theorem tr_string (h:TR enc Tryz.prog W 9 [v]):∃s,v=.string s:=by
 obtain ⟨_,_,h⟩:=h
 obtain ⟨s,e,_,_⟩:=DataW.trod_string Tryz.underlying9 h
 cases e;exact ⟨s,rfl⟩
theorem tr_int (h:TR enc Tryz.prog W 3 [v]):∃n,v=.int .i64 n∧i64 n:=by
 obtain ⟨_,_,h⟩:=h
 obtain ⟨n,e,_,m⟩:=DataW.trod_int Tryz.underlying3 h
 cases e;exact ⟨n,rfl,int_wfS m⟩
theorem tr_bool (h:TR enc Tryz.prog W 4 [v]):∃b,v=.bool b:=by
 obtain ⟨_,_,h⟩:=h
 obtain ⟨b,e,_⟩:=DataW.trod_bool Tryz.underlying4 h
 cases e;exact ⟨b,rfl⟩
theorem tr_cd (h:TR enc Tryz.prog W 64 cs):∃c:Cd,cs=c.row∧c.wf:=by
 obtain ⟨hl,hc⟩:=h.ones Tryz.underlying64 (n:=4) (by kernel_rfl) (by kernel_rfl)
 match cs,hl with
 | [a,b,c,d],_=>
  obtain ⟨a,rfl⟩:=tr_string (hc 0 _ _ rfl rfl)
  obtain ⟨b,rfl⟩:=tr_string (hc 1 _ _ rfl rfl)
  obtain ⟨c,rfl,m1⟩:=tr_int (hc 2 _ _ rfl rfl)
  obtain ⟨d,rfl,m2⟩:=tr_int (hc 3 _ _ rfl rfl)
  exact ⟨⟨a,b,c,d⟩,rfl,m1,m2⟩
theorem tr_it (h:TR enc Tryz.prog W 41 cs):∃c:It,cs=c.row∧c.wf:=by
 obtain ⟨hl,hc⟩:=h.ones Tryz.underlying41 (n:=6) (by kernel_rfl) (by kernel_rfl)
 match cs,hl with
 | [a,b,c,d,e,f],_=>
  obtain ⟨a,rfl⟩:=tr_string (hc 0 _ _ rfl rfl)
  obtain ⟨b,rfl⟩:=tr_string (hc 1 _ _ rfl rfl)
  obtain ⟨c,rfl,m1⟩:=tr_int (hc 2 _ _ rfl rfl)
  obtain ⟨d,rfl,m2⟩:=tr_int (hc 3 _ _ rfl rfl)
  obtain ⟨e,rfl,m3⟩:=tr_int (hc 4 _ _ rfl rfl)
  obtain ⟨f,rfl,m4⟩:=tr_int (hc 5 _ _ rfl rfl)
  exact ⟨⟨a,b,c,d,e,f⟩,rfl,m1,m2,m3,m4⟩
theorem tr_mc (h:TR enc Tryz.prog W 43 cs):∃c:Mc,cs=c.row∧c.wf:=by
 obtain ⟨hl,hc⟩:=h.ones Tryz.underlying43 (n:=4) (by kernel_rfl) (by kernel_rfl)
 match cs,hl with
 | [a,b,c,d],_=>
  obtain ⟨a,rfl⟩:=tr_string (hc 0 _ _ rfl rfl)
  obtain ⟨b,rfl⟩:=tr_string (hc 1 _ _ rfl rfl)
  obtain ⟨c,rfl,m1⟩:=tr_int (hc 2 _ _ rfl rfl)
  obtain ⟨d,rfl,m2⟩:=tr_int (hc 3 _ _ rfl rfl)
  exact ⟨⟨a,b,c,d⟩,rfl,m1,m2⟩
theorem tr_sw (h:TR enc Tryz.prog W 54 cs):∃c:Sw,cs=c.row∧c.wf:=by
 obtain ⟨hl,hc⟩:=h.ones Tryz.underlying54 (n:=4) (by kernel_rfl) (by kernel_rfl)
 match cs,hl with
 | [a,b,c,d],_=>
  obtain ⟨a,rfl⟩:=tr_string (hc 0 _ _ rfl rfl)
  obtain ⟨b,rfl⟩:=tr_string (hc 1 _ _ rfl rfl)
  obtain ⟨c,rfl,m1⟩:=tr_int (hc 2 _ _ rfl rfl)
  obtain ⟨d,rfl,m2⟩:=tr_int (hc 3 _ _ rfl rfl)
  exact ⟨⟨a,b,c,d⟩,rfl,m1,m2⟩
theorem tr_rn (h:TR enc Tryz.prog W 52 cs):∃c:Rn,cs=c.row∧c.wf:=by
 obtain ⟨hl,hc⟩:=h.ones Tryz.underlying52 (n:=3) (by kernel_rfl) (by kernel_rfl)
 match cs,hl with
 | [a,b,c],_=>
  obtain ⟨a,rfl⟩:=tr_string (hc 0 _ _ rfl rfl)
  obtain ⟨b,rfl,m1⟩:=tr_int (hc 1 _ _ rfl rfl)
  obtain ⟨c,rfl,m2⟩:=tr_int (hc 2 _ _ rfl rfl)
  exact ⟨⟨a,b,c⟩,rfl,m1,m2⟩
theorem tr_am (h:TR enc Tryz.prog W 71 cs):∃c:Am,cs=c.row∧c.wf:=by
 obtain ⟨hl,hc⟩:=h.ones Tryz.underlying71 (n:=7) (by kernel_rfl) (by kernel_rfl)
 match cs,hl with
 | [a,b,c,d,e,f,g],_=>
  obtain ⟨a,rfl,m1⟩:=tr_int (hc 0 _ _ rfl rfl)
  obtain ⟨b,rfl,m2⟩:=tr_int (hc 1 _ _ rfl rfl)
  obtain ⟨c,rfl⟩:=tr_string (hc 2 _ _ rfl rfl)
  obtain ⟨d,rfl⟩:=tr_string (hc 3 _ _ rfl rfl)
  obtain ⟨e,rfl⟩:=tr_bool (hc 4 _ _ rfl rfl)
  obtain ⟨f,rfl,m3⟩:=tr_int (hc 5 _ _ rfl rfl)
  obtain ⟨g,rfl,m4⟩:=tr_int (hc 6 _ _ rfl rfl)
  exact ⟨⟨a,b,c,d,e,f,g⟩,rfl,m1,m2,m3,m4⟩
theorem ones_cd (c:Cd):∀u∈c.row,u.oneCell'=true:=by simp [Cd.row,Value.oneCell']
theorem ones_am (c:Am):∀u∈c.row,u.oneCell'=true:=by simp [Am.row,Value.oneCell']
theorem ones_rn (c:Rn):∀u∈c.row,u.oneCell'=true:=by simp [Rn.row,Value.oneCell']
theorem ones_it (c:It):∀u∈c.row,u.oneCell'=true:=by simp [It.row,Value.oneCell']
theorem ones_mc (c:Mc):∀u∈c.row,u.oneCell'=true:=by simp [Mc.row,Value.oneCell']
theorem ones_sw (c:Sw):∀u∈c.row,u.oneCell'=true:=by simp [Sw.row,Value.oneCell']
abbrev below (W:World):Nat→Prop:=fun k=>k<W.heap.size
theorem rofHd {G:Nat→Prop} {h:Array Obj} {v:Value} {sz:Nat} {α:Type} {f:α→List Value} {l:List α} (H:RoF G h v sz (rws f l)):∃a c,v=.slice a l.length c:=by
 obtain ⟨a,c,e⟩:=RoF.ownB H
 exact ⟨a,c,by rw [e,rws_len]⟩
theorem tr_cds (h:TR enc Tryz.prog W 45 cs):∃v l,cs=[v]∧RoF (below W) W.heap v 4 (rws Cd.row l) ∧ ∀c∈l,c.wf:=
 h.slice Tryz.underlying45 (sz:=4) (by kernel_rfl) (by decide) (fun a=>⟨rfl,fun _=>ones_cd a⟩) (fun _ h=>tr_cd h)
theorem tr_ams (h:TR enc Tryz.prog W 46 cs):∃v l,cs=[v]∧RoF (below W) W.heap v 7 (rws Am.row l) ∧ ∀c∈l,c.wf:=
 h.slice Tryz.underlying46 (sz:=7) (by kernel_rfl) (by decide) (fun a=>⟨rfl,fun _=>ones_am a⟩) (fun _ h=>tr_am h)
theorem tr_rns (h:TR enc Tryz.prog W 47 cs):∃v l,cs=[v]∧RoF (below W) W.heap v 3 (rws Rn.row l) ∧ ∀c∈l,c.wf:=
 h.slice Tryz.underlying47 (sz:=3) (by kernel_rfl) (by decide) (fun a=>⟨rfl,fun _=>ones_rn a⟩) (fun _ h=>tr_rn h)
theorem tr_its (h:TR enc Tryz.prog W 23 cs):∃v l,cs=[v]∧RoF (below W) W.heap v 6 (rws It.row l) ∧ ∀c∈l,c.wf:=
 h.slice Tryz.underlying23 (sz:=6) (by kernel_rfl) (by decide) (fun a=>⟨rfl,fun _=>ones_it a⟩) (fun _ h=>tr_it h)
theorem tr_mcs (h:TR enc Tryz.prog W 25 cs):∃v l,cs=[v]∧RoF (below W) W.heap v 4 (rws Mc.row l) ∧ ∀c∈l,c.wf:=
 h.slice Tryz.underlying25 (sz:=4) (by kernel_rfl) (by decide) (fun a=>⟨rfl,fun _=>ones_mc a⟩) (fun _ h=>tr_mc h)
theorem tr_sws (h:TR enc Tryz.prog W 29 cs):∃v l,cs=[v]∧RoF (below W) W.heap v 4 (rws Sw.row l) ∧ ∀c∈l,c.wf:=
 h.slice Tryz.underlying29 (sz:=4) (by kernel_rfl) (by decide) (fun a=>⟨rfl,fun _=>ones_sw a⟩) (fun _ h=>tr_sw h)
theorem tr_strs (h:TR enc Tryz.prog W 24 cs):∃v l,cs=[v]∧RoF (below W) W.heap v 1 (rwsB l):=by
 obtain ⟨v,l,e,h,_⟩:=h.slice (f:=fun s:ByteArray=>[Value.string s]) (Q:=fun _=>True) Tryz.underlying24 (sz:=1) (by kernel_rfl) (by decide) (fun a=>⟨rfl,fun _ u hu=>by rw [List.mem_singleton.1 hu];rfl⟩) (fun cs h=>by
  obtain ⟨f,x,h⟩:=h
  obtain ⟨s,e,_,_⟩:=DataW.trod_string Tryz.underlying9 h
  exact ⟨s,e,trivial⟩)
 exact ⟨v,l,e,h⟩
theorem RoF.one {G:Nat→Prop} {h:Array Obj} {v:Value} {sz:Nat} {rows:List (List Value)} (H:RoF G h v sz rows):v.oneCell'=true:=by
 obtain ⟨a,c,rfl⟩:=H.ownB
 rfl
theorem tr_op (h:TR enc Tryz.prog W 61 cs):∃o:OpV,cs=o.row∧o.ok (below W) W.heap:=by
 obtain ⟨hl,hc⟩:=h.ones Tryz.underlying61 (n:=2) (by kernel_rfl) (by kernel_rfl)
 match cs,hl with
 | [a,b],_=>
  obtain ⟨a,rfl⟩:=tr_string (hc 0 _ _ rfl rfl)
  obtain ⟨b,l,e,hb⟩:=tr_strs (hc 1 _ _ rfl rfl)
  cases e
  obtain ⟨ad,c,rfl⟩:=rofHd hb
  exact ⟨⟨a,⟨ad,c⟩,l⟩,rfl,hb⟩
theorem tr_ops (h:TR enc Tryz.prog W 26 cs):∃v l,cs=[v]∧RoF (below W) W.heap v 2 (rws OpV.row l) ∧ ∀c∈l,c.ok (below W) W.heap:=
 h.slice Tryz.underlying26 (sz:=2) (by kernel_rfl) (by decide) (fun a=>⟨rfl,fun ha u hu=>by
  simp only [OpV.row,List.mem_cons,List.not_mem_nil,or_false] at hu
  rcases hu with rfl|rfl
  ·rfl
  exact RoF.one ha⟩) (fun _ h=>tr_op h)
theorem tr_fb (h:TR enc Tryz.prog W 45 cs):∃o:FbV,cs=o.row∧o.ok (below W) W.heap ∧ ∀c∈o.cs,c.wf:=by
 obtain ⟨v,l,e,h1,h2⟩:=tr_cds h
 obtain ⟨ad,c,rfl⟩:=rofHd h1
 exact ⟨⟨⟨ad,c⟩,l⟩,e,h1,h2⟩
theorem tr_fbs (h:TR enc Tryz.prog W 27 cs):∃v l,cs=[v]∧RoF (below W) W.heap v 1 (rws FbV.row l) ∧ ∀c∈l,c.ok (below W) W.heap ∧ ∀d∈c.cs,d.wf:=
 h.slice Tryz.underlying27 (sz:=1) (by kernel_rfl) (by decide) (fun a=>⟨rfl,fun ha u hu=>by
  rw [List.mem_singleton.1 hu]
  exact RoF.one ha.1⟩) (fun _ h=>tr_fb h)
theorem tr_rc (h:TR enc Tryz.prog W 49 cs):∃o:RcV,cs=o.row∧o.ok (below W) W.heap∧o.wf:=by
 obtain ⟨hl,hc⟩:=h.ones Tryz.underlying49 (n:=17) (by kernel_rfl) (by kernel_rfl)
 match cs,hl with
 | [a0,a1,a2,a3,a4,a5,a6,a7,a8,a9,a10,a11,a12,a13,a14,a15,a16],_=>
  obtain ⟨a0,rfl⟩:=tr_string (hc 0 _ _ rfl rfl)
  obtain ⟨a1,rfl⟩:=tr_string (hc 1 _ _ rfl rfl)
  obtain ⟨a2,rfl,m2⟩:=tr_int (hc 2 _ _ rfl rfl)
  obtain ⟨a3,rfl,m3⟩:=tr_int (hc 3 _ _ rfl rfl)
  obtain ⟨a4,l4,e4,h4,w4⟩:=tr_cds (hc 4 _ _ rfl rfl)
  cases e4
  obtain ⟨d4,c4,rfl⟩:=rofHd h4
  obtain ⟨a5,l5,e5,h5,w5⟩:=tr_ams (hc 5 _ _ rfl rfl)
  cases e5
  obtain ⟨d5,c5,rfl⟩:=rofHd h5
  obtain ⟨a6,l6,e6,h6,w6⟩:=tr_ams (hc 6 _ _ rfl rfl)
  cases e6
  obtain ⟨d6,c6,rfl⟩:=rofHd h6
  obtain ⟨a7,rfl,m7⟩:=tr_int (hc 7 _ _ rfl rfl)
  obtain ⟨a8,rfl,m8⟩:=tr_int (hc 8 _ _ rfl rfl)
  obtain ⟨a9,rfl,m9⟩:=tr_int (hc 9 _ _ rfl rfl)
  obtain ⟨a10,rfl,m10⟩:=tr_int (hc 10 _ _ rfl rfl)
  obtain ⟨a11,rfl,m11⟩:=tr_int (hc 11 _ _ rfl rfl)
  obtain ⟨a12,rfl,m12⟩:=tr_int (hc 12 _ _ rfl rfl)
  obtain ⟨a13,rfl,m13⟩:=tr_int (hc 13 _ _ rfl rfl)
  obtain ⟨a14,l14,e14,h14,w14⟩:=tr_rns (hc 14 _ _ rfl rfl)
  cases e14
  obtain ⟨d14,c14,rfl⟩:=rofHd h14
  obtain ⟨a15,rfl,m15⟩:=tr_int (hc 15 _ _ rfl rfl)
  obtain ⟨a16,rfl,m16⟩:=tr_int (hc 16 _ _ rfl rfl)
  exact ⟨⟨a0,a1,a2,a3,⟨d4,c4⟩,l4,⟨d5,c5⟩,l5,⟨d6,c6⟩,l6,a7,a8,a9,a10,a11,a12,a13,⟨d14,c14⟩,l14,a15,a16⟩,rfl,⟨h4,h5,h6,h14⟩,⟨w4,w5,w6,w14,m2,m3,m7,m8,m9,m10,m11,m12,m13,m15,m16⟩⟩
theorem tr_rcs (h:TR enc Tryz.prog W 28 cs):∃v l,cs=[v]∧RoF (below W) W.heap v 17 (rws RcV.row l) ∧ ∀c∈l,c.ok (below W) W.heap∧c.wf:=
 h.slice Tryz.underlying28 (sz:=17) (by kernel_rfl) (by decide) (fun a=>⟨rfl,fun ha u hu=>by
  simp only [RcV.row,List.mem_cons,List.not_mem_nil,or_false] at hu
  rcases hu with rfl|rfl|rfl|rfl|rfl|rfl|rfl|rfl|rfl|rfl|rfl|rfl|rfl|rfl|rfl|rfl|rfl
  all_goals rfl⟩) (fun _ h=>tr_rc h)
theorem tr_un (h:TR enc Tryz.prog W 59 cs):∃u:Un,cs=u.row∧i64 u.n∧i64 u.d:=by
 obtain ⟨f,x,h⟩:=h
 obtain ⟨h1,h2⟩:=unitF.at' _ _ _ _ _ _ _ _ h
 obtain ⟨u,e,hu⟩:=unit_row h1 h2
 exact ⟨u,e,hu⟩
theorem ones_un (u:Un):∀c∈u.row,c.oneCell'=true:=by simp [Un.row,Value.oneCell']
theorem tr_uns (h:TR enc Tryz.prog W 22 cs):∃v l,cs=[v]∧RoF (below W) W.heap v 8 (rowsU l) ∧ ∀u∈l,i64 u.n∧i64 u.d:=
 h.slice Tryz.underlying22 (sz:=8) (by kernel_rfl) (by decide) (fun a=>⟨rfl,fun _=>ones_un a⟩) (fun _ h=>tr_un h)
theorem tr_src (h:TR enc Tryz.prog W 31 cs):∃vU vI vP vM vO vF vR vS,∃s:SrcV,cs=[vU,vI,vP,vM,vO,vF,vR,vS]∧Top W.heap vU vI vP vM vO vF vR vS s∧s.wf:=by
 obtain ⟨hl,hc⟩:=h.ones Tryz.underlying31 (n:=8) (by kernel_rfl) (by kernel_rfl)
 match cs,hl with
 | [a0,a1,a2,a3,a4,a5,a6,a7],_=>
  obtain ⟨a0,l0,e0,h0,w0⟩:=tr_uns (hc 0 _ _ rfl rfl)
  cases e0
  obtain ⟨a1,l1,e1,h1,w1⟩:=tr_its (hc 1 _ _ rfl rfl)
  cases e1
  obtain ⟨a2,l2,e2,h2⟩:=tr_strs (hc 2 _ _ rfl rfl)
  cases e2
  obtain ⟨a3,l3,e3,h3,w3⟩:=tr_mcs (hc 3 _ _ rfl rfl)
  cases e3
  obtain ⟨a4,l4,e4,h4,w4⟩:=tr_ops (hc 4 _ _ rfl rfl)
  cases e4
  obtain ⟨a5,l5,e5,h5,w5⟩:=tr_fbs (hc 5 _ _ rfl rfl)
  cases e5
  obtain ⟨a6,l6,e6,h6,w6⟩:=tr_rcs (hc 6 _ _ rfl rfl)
  cases e6
  obtain ⟨a7,l7,e7,h7,w7⟩:=tr_sws (hc 7 _ _ rfl rfl)
  cases e7
  exact ⟨a0,a1,a2,a3,a4,a5,a6,a7,⟨l0,l1,l2,l3,l4,l5,l6,l7⟩,rfl,⟨h0,h1,h2,h3,h4,h5,h6,h7,⟨w4,fun o ho=>(w5 o ho).1,fun o ho=>(w6 o ho).1⟩⟩,⟨w0,w1,w3,fun o ho=>(w5 o ho).2,fun o ho=>(w6 o ho).2,w7⟩⟩
variable {b0:Nat} {rr:Reach} {d:DataW H} {ps:List MemPlace}
theorem open_src (hval:Value.okWide Tryz.prog W rr b0 31 v) (hd:DataW.Trod enc Tryz.prog W 0 (fun _=>true) true 31 v d ps):∃vU vI vP vM vO vF vR vS,∃s:SrcV,v=srcV vU vI vP vM vO vF vR vS∧Top W.heap vU vI vP vM vO vF vR vS s∧s.wf:=by
 obtain ⟨cs,rfl,_⟩:=okWide_struct Tryz.underlying31 hval
 obtain ⟨vU,vI,vP,vM,vO,vF,vR,vS,s,e,h1,h2⟩:=tr_src (TR.of hd)
 refine ⟨vU,vI,vP,vM,vO,vF,vR,vS,s,?_,h1,h2⟩
 unfold srcV
 rw [←e];simp [Value.cells]
end
end Go.Proofs.YtofjdbmcloemnaaGreatDoor

namespace Go.Proofs.YtofjdbmcloemnaaGreatDoor
open Go Go.Fw Go.RatM Go.SrcM Go.ChangeShapes Go.WideShapes Go.ChangeAt Go.RowKit
set_option maxRecDepth 100000
section
variable {H:Type} {enc:TypeId×Value→H} {W:World} {cs:List Value} {d:DataW H}
def TD (enc:TypeId×Value→H) (W:World) (t:TypeId) (cs:List Value) (d:DataW H):Prop:=∃fuel ps,DataW.trod enc Tryz.prog W 0 (fun _=>true) true fuel t cs=some (d,ps)
theorem bulk_app (l r:List (DataW H)):Rows.uptoBulkAll (l++r)=Rows.uptoBulkAll l+Rows.uptoBulkAll r:=by
 induction l with
 |nil=>simp [Rows.uptoBulkAll]
 |cons x l ih=>simp only [List.cons_append,Rows.uptoBulkAll,ih];omega
theorem bulk_range (D:Nat→DataW H) (f:Nat→Nat):∀n,(∀i,i<n→f i≤Rows.uptoBulk (D i))→((List.range n).map f).sum≤Rows.uptoBulkAll ((List.range n).map D)
 |0,_=>by simp [Rows.uptoBulkAll]
 |n+1,h=>by
  have ih:=bulk_range D f n fun i hi=>h i (by omega)
  have h1:=h n (by omega)
  rw [List.range_succ,List.map_append,List.map_append,bulk_app,List.sum_append]
  simp only [List.map_cons,List.map_nil,List.sum_cons,List.sum_nil,Rows.uptoBulkAll]
  omega
theorem one_bulk (d:DataW H):1≤Rows.uptoBulk d:=by
 cases d with
 |lit l=>cases l<;>simp [Rows.uptoBulk]
 |nil=>simp [Rows.uptoBulk]
 |ptr d=>simp [Rows.uptoBulk]
 |slice elems spare=>simp [Rows.uptoBulk]
 |agg parts=>simp [Rows.uptoBulk]
 |iface t d=>simp [Rows.uptoBulk]
 |map entries=>simp [Rows.uptoBulk]
 |held h=>simp [Rows.uptoBulk]
theorem part_bulk {x:DataW H} {l:List (DataW H)} (h:x∈l):Rows.uptoBulk x≤Rows.uptoBulkAll l:=by
 induction l with
 |nil=>cases h
 |cons y r ih=>
  simp only [Rows.uptoBulkAll]
  rcases List.mem_cons.1 h with rfl|h
  ·omega
  have:=ih h;omega
theorem TD.slice {t e:TypeId} {a:Option Addr} {n c:Nat} (ht:Tryz.prog.underlying t=some (.slice e)) (h:TD enc W t [.slice a n c] d):
  n=0 ∨ ∃(ad:Addr) (D:Nat→DataW H),a=some ad∧(∀i,i<n → ∃cs',W.cells? 0 (ad.add (i*Tryz.prog.cellsOf e)) (Tryz.prog.cellsOf e)=some cs'∧TD enc W e cs' (D i))∧Rows.uptoBulkAll ((List.range n).map D)+1≤Rows.uptoBulk d:=by
 obtain ⟨fuel,ps,h⟩:=h
 rcases Deep.open_slice ht h with ⟨h0,_⟩|⟨ad,len,cap,m,k,D,Pl,h1,hb,hlc,hm,hmm,hx,hcell⟩
 ·cases h0;exact .inl rfl
 cases h1
 have hlm:n≤m:=by rw [hmm];simpa using hlc
 cases hx
 refine .inr ⟨ad,D,rfl,fun i hi=>?_,?_⟩
 ·obtain ⟨cs',e1,e2⟩:=hcell i (by omega)
  exact ⟨cs',e1,_,_,e2⟩
 simp only [Rows.uptoBulk];omega
theorem TD.ones {t:TypeId} {fs:Array Field} {n:Nat} (ht:Tryz.prog.underlying t=some (.struct fs)) (hc:Tryz.prog.cellsOf t=n) (hf:onesB Tryz.prog fs n=true) (h:TD enc W t cs d):
  cs.length=n ∧ ∃xs:List (DataW H),d=.agg xs∧xs.length=fs.size ∧ ∀(i:Nat) (f:Field) (v:Value),fs[i]? = some f→cs[i]? = some v → ∃x,xs[i]? = some x∧TD enc W f.type [v] x:=by
 obtain ⟨fuel,ps,hx⟩:=h
 obtain ⟨xs,m,_,e,hl,hlen,hg⟩:=DataW.trod_struct ht hx
 rw [hc] at hl
 cases e
 refine ⟨hl,_,rfl,by rw [List.length_map];exact hlen,fun i f v h1 h2=>?_⟩
 have hi:i<n:=by rw [←hl];exact (List.getElem?_eq_some_iff.1 h2).1
 obtain ⟨f',e1,e2,e3⟩:=onesB_at hf i hi
 rw [h1] at e1
 cases e1
 have g:=hg i f h1
 have hix:i<xs.length:=by rw [hlen];exact (Array.getElem?_eq_some_iff.1 h1).1
 rw [List.getElem?_eq_getElem hix,e2,e3] at g
 have e4:(cs.drop i).take 1=[v]:=by
  rw [List.take_one,List.head?_drop,h2];rfl
 rw [e4] at g
 exact ⟨xs[i].1,by rw [List.getElem?_map,List.getElem?_eq_getElem hix];rfl,m,xs[i].2,g⟩
theorem bulk_rows {α:Type} {row:α→List Value} {t e:TypeId} {sz:Nat} {l:List α} {v:Value} (ht:Tryz.prog.underlying t=some (.slice e)) (hsz:Tryz.prog.cellsOf e=sz) (f:α→Nat) (hf:∀a∈l,∀d,TD enc W e (row a) d→f a≤Rows.uptoBulk d)
  (hv:RoF (below W) W.heap v sz (rws row l)) (h:TD enc W t [v] d):(l.map f).sum+1≤Rows.uptoBulk d:=by
 obtain ⟨q1,q2,a,cap,rfl,q3⟩:=hv
 rcases h.slice ht with h0|⟨ad,D,rfl,h1,h2⟩
 ·rw [rws_len] at h0
  rw [List.eq_nil_of_length_eq_zero h0];exact one_bulk d
 rw [rws_len] at h1 h2
 rw [hsz] at h1
 have each:∀i (hi:i<l.length),f l[i]≤Rows.uptoBulk (D i):=fun i hi=>by
  obtain ⟨cs',e1,e2⟩:=h1 i hi
  rcases q3 with q3|⟨g,o,e3,e4,e5⟩
  ·have:=congrArg List.length q3
   rw [rws_len] at this
   rw [List.length_nil] at this
   omega
  cases e3
  have c1:=World.cells?_some e1
  have hrl:(row l[i]).length=sz:=(q1 _ (List.mem_map_of_mem (List.getElem_mem hi))).1
  have hcs:cs'=row l[i]:=by
   refine List.ext_getElem? fun j=>?_
   by_cases hj:j<sz
   ·have hr:(row l[i])[j]? = some ((row l[i])[j]'(by omega)):=List.getElem?_eq_getElem (by omega)
    have hfl:=e5 (i*sz+j) _ (flat_get (sz:=sz) q1 (rws_get hi) hr)
    have c2:=c1.2.2 j hj
    have hjl:j<cs'.length:=by rw [c1.2.1];exact hj
    rw [List.getElem?_eq_getElem hjl] at c2 ⊢
    rw [hr]
    have c3:W.cell? ((Addr.add ⟨g,o,none⟩ (i*sz)).add j)=some ((row l[i])[j]'(by omega)):=by
     rw [add_none,add_none,Nat.add_assoc]
     exact cell_of hfl
    rw [c3] at c2
    exact c2.symm
   rw [List.getElem?_eq_none (by rw [c1.2.1];omega),List.getElem?_eq_none (by omega)]
  rw [hcs] at e2
  exact hf _ (List.getElem_mem hi) _ e2
 have hsum:=bulk_range D (fun i=>(l[i]?.map f).getD 0) l.length fun i hi=>by
  rw [List.getElem?_eq_getElem hi];exact each i hi
 have e:∀l:List α,((List.range l.length).map fun i=>(l[i]?.map f).getD 0).sum=(l.map f).sum:=by
  intro l
  induction l with
  |nil=>rfl
  |cons r l ih=>
   rw [List.length_cons,List.range_succ_eq_map,List.map_cons,List.sum_cons,List.map_map,List.map_cons,List.sum_cons,←ih]
   rfl
 rw [e] at hsum
 omega
theorem sum_one {α:Type} (l:List α):(l.map fun _=>1).sum=l.length:=by
 induction l with
 |nil=>rfl
 |cons a l ih=>rw [List.map_cons,List.sum_cons,ih,List.length_cons];omega
theorem bulk_len {α:Type} {row:α→List Value} {t e:TypeId} {sz:Nat} {l:List α} {v:Value} (ht:Tryz.prog.underlying t=some (.slice e)) (hsz:Tryz.prog.cellsOf e=sz) (hv:RoF (below W) W.heap v sz (rws row l)) (h:TD enc W t [v] d):l.length+1≤Rows.uptoBulk d:=by
 have:=bulk_rows ht hsz (fun _=>1) (fun _ _ d _=>one_bulk d) hv h
 rwa [sum_one] at this
section
variable {ch:List ByteArray} {v:Value}
theorem bulk_op {o:OpV} (hb:o.ok (below W) W.heap) (h:TD enc W 61 o.row d):fwO o≤Rows.uptoBulk d:=by
 obtain ⟨_,xs,rfl,hl,hc⟩:=h.ones Tryz.underlying61 (n:=2) (by kernel_rfl) (by kernel_rfl)
 obtain ⟨x1,e1,h1⟩:=hc 1 _ _ rfl rfl
 have b1:=bulk_len Tryz.underlying24 (by kernel_rfl) hb h1
 have:=part_bulk (List.mem_of_getElem? e1)
 simp only [Rows.uptoBulk,fwO]
 omega
theorem bulk_fb {o:FbV} (hb:o.ok (below W) W.heap) (h:TD enc W 45 o.row d):fwF o≤Rows.uptoBulk d:=by
 have b1:=bulk_len Tryz.underlying45 (by kernel_rfl) hb h
 simp only [fwF]
 omega
theorem bulk_rc {r:RcV} (hb:r.ok (below W) W.heap) (h:TD enc W 49 r.row d):fwR r≤Rows.uptoBulk d:=by
 obtain ⟨_,xs,rfl,hl,hc⟩:=h.ones Tryz.underlying49 (n:=17) (by kernel_rfl) (by kernel_rfl)
 obtain ⟨x4,e4,h4⟩:=hc 4 _ _ rfl rfl
 obtain ⟨x5,e5,h5⟩:=hc 5 _ _ rfl rfl
 obtain ⟨x6,e6,h6⟩:=hc 6 _ _ rfl rfl
 obtain ⟨x14,e14,h14⟩:=hc 14 _ _ rfl rfl
 have b4:=bulk_len Tryz.underlying45 (by kernel_rfl) hb.c h4
 have b5:=bulk_len Tryz.underlying46 (by kernel_rfl) hb.i h5
 have b6:=bulk_len Tryz.underlying46 (by kernel_rfl) hb.o h6
 have b14:=bulk_len Tryz.underlying47 (by kernel_rfl) hb.rn h14
 have:xs.length=17:=hl
 match xs,this with
 | [a,b,c,d,e,f,g,h,i,j,k,l,m,n,o,p,q],_=>
  cases e4
  cases e5
  cases e6
  cases e14
  simp only [Rows.uptoBulk,Rows.uptoBulkAll,fwR]
  omega
end
theorem bulk_src0 {b0:Nat} {rr:Reach} {ps:List MemPlace} {v:Value} (hval:Value.okWide Tryz.prog W rr b0 31 v) (hd:DataW.Trod enc Tryz.prog W 0 (fun _=>true) true 31 v d ps):
  ∃vU vI vP vM vO vF vR vS,∃s:SrcV,v=srcV vU vI vP vM vO vF vR vS∧Top W.heap vU vI vP vM vO vF vR vS s∧s.wf∧fewN s≤Rows.uptoBulk d:=by
 obtain ⟨vU,vI,vP,vM,vO,vF,vR,vS,s,rfl,h1,h2⟩:=open_src hval hd
 refine ⟨vU,vI,vP,vM,vO,vF,vR,vS,s,rfl,h1,h2,?_⟩
 obtain ⟨fuel,hf⟩:=hd
 have hd':TD enc W 31 [vU,vI,vP,vM,vO,vF,vR,vS] d:=⟨fuel,_,hf⟩
 obtain ⟨_,xs,rfl,hl,hc⟩:=hd'.ones Tryz.underlying31 (n:=8) (by kernel_rfl) (by kernel_rfl)
 obtain ⟨x0,e0,h0⟩:=hc 0 _ _ rfl rfl
 obtain ⟨x1,e1,h1'⟩:=hc 1 _ _ rfl rfl
 obtain ⟨x2,e2,h2'⟩:=hc 2 _ _ rfl rfl
 obtain ⟨x3,e3,h3⟩:=hc 3 _ _ rfl rfl
 obtain ⟨x4,e4,h4⟩:=hc 4 _ _ rfl rfl
 obtain ⟨x5,e5,h5⟩:=hc 5 _ _ rfl rfl
 obtain ⟨x6,e6,h6⟩:=hc 6 _ _ rfl rfl
 obtain ⟨x7,e7,h7⟩:=hc 7 _ _ rfl rfl
 have b0:=bulk_len (row:=Un.row) Tryz.underlying22 (by kernel_rfl) (Ro.rof h1.U) h0
 have b1:=bulk_len Tryz.underlying23 (by kernel_rfl) (Ro.rof h1.I) h1'
 have b2:=bulk_len Tryz.underlying24 (by kernel_rfl) (Ro.rof h1.P) h2'
 have b3:=bulk_len Tryz.underlying25 (by kernel_rfl) (Ro.rof h1.M) h3
 have b4:=bulk_rows Tryz.underlying26 (by kernel_rfl) fwO (fun o ho d=>bulk_op (h1.below.o o ho)) (Ro.rof h1.O) h4
 have b5:=bulk_rows Tryz.underlying27 (by kernel_rfl) fwF (fun o ho d=>bulk_fb (h1.below.f o ho)) (Ro.rof h1.F) h5
 have b6:=bulk_rows Tryz.underlying28 (by kernel_rfl) fwR (fun o ho d=>bulk_rc (h1.below.r o ho)) (Ro.rof h1.R) h6
 have b7:=bulk_len Tryz.underlying29 (by kernel_rfl) (Ro.rof h1.S) h7
 have:xs.length=8:=hl
 match xs,this with
 | [a,b,c,d,e,f,g,h],_=>
  cases e0
  cases e1
  cases e2
  cases e3
  cases e4
  cases e5
  cases e6
  cases e7
  simp only [Rows.uptoBulk,Rows.uptoBulkAll]
  unfold fewN
  omega
end
end Go.Proofs.YtofjdbmcloemnaaGreatDoor
