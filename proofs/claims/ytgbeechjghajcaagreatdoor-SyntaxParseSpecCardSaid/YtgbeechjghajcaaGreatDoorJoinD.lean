/- Texts of this seat, joined: The reference of syntax: Same. The reference of syntax: Few. Package syntax: the printer's pieces. Package syntax: the pri -/
import Derived.Test.YtgbeechjghajcaaGreatDoorJoinC
set_option linter.unusedVariables false
set_option linter.unusedSimpArgs false
namespace Go.SrcM
open Go Go.Fw Go.RatM
theorem SrcV.bare_mk {a b:SrcV} (h1:a.units=b.units) (h2:a.items=b.items) (h3:a.plants=b.plants) (h4:a.machines=b.machines) (h5:a.options.map OpV.bare=b.options.map OpV.bare) (h6:a.forbids.map FbV.bare=b.forbids.map FbV.bare) (h7:a.recipes.map RcV.bare=b.recipes.map RcV.bare) (h8:a.swaps=b.swaps):a.bare=b.bare:=by
 unfold SrcV.bare
 rw [h1,h2,h3,h4,h5,h6,h7,h8]
theorem SrcV.of_bare {a b:SrcV} (h:a.bare=b.bare):a.units=b.units∧a.items=b.items∧a.plants=b.plants∧a.machines=b.machines∧a.options.map OpV.bare=b.options.map OpV.bare∧a.forbids.map FbV.bare=b.forbids.map FbV.bare∧a.recipes.map RcV.bare=b.recipes.map RcV.bare∧a.swaps=b.swaps:=
 ⟨(congrArg SrcV.units h :),(congrArg SrcV.items h :),(congrArg SrcV.plants h :),(congrArg SrcV.machines h :),(congrArg SrcV.options h :),(congrArg SrcV.forbids h :),(congrArg SrcV.recipes h :),(congrArg SrcV.swaps h :)⟩
theorem map_len {α β:Type} {f:α→β} {a b:List α} (h:a.map f=b.map f):a.length=b.length:=by
 have:=congrArg List.length h
 rwa [List.length_map,List.length_map] at this
theorem map_at {α β:Type} {f:α→β} {a b:List α} (h:a.map f=b.map f) {k:Nat} (ha:k<a.length) (hb:k<b.length):f a[k]=f b[k]:=by
 have:=at_eq h (k:=k) (by rwa [List.length_map]) (by rwa [List.length_map])
 rwa [List.getElem_map,List.getElem_map] at this
theorem map_all {α β:Type} {f:α→β} {a b:List α} (h:a.length=b.length) (H:∀j (ha:j<a.length) (hb:j<b.length),f a[j]=f b[j]):a.map f=b.map f:=
 all_at (by rw [List.length_map,List.length_map,h]) fun j h1 h2=>by
  rw [List.length_map] at h1 h2
  rw [List.getElem_map,List.getElem_map]
  exact H j h1 h2
theorem more_by {α β:Type} {f:α→β} {a b:List α} {k:Nat} (ha:k<a.length) (hb:k<b.length) (H:∀j (_:j<k) (ha:j<a.length) (hb:j<b.length),f a[j]=f b[j]) (h:f a[k]=f b[k]):∀j (_:j<k+1) (ha:j<a.length) (hb:j<b.length),f a[j]=f b[j]:=
 fun j hj h1 h2=>(Nat.lt_succ_iff_lt_or_eq.1 hj).elim (fun hj=>H j hj h1 h2) (fun e=>by subst e;exact h)
theorem OpV.bare_iff {a b:OpV}:a.bare=b.bare↔a.name=b.name∧a.ch=b.ch:=by
 obtain ⟨_,_,_⟩:=a;obtain ⟨_,_,_⟩:=b;simp [OpV.bare]
theorem FbV.bare_iff {a b:FbV}:a.bare=b.bare↔a.cs=b.cs:=by
 obtain ⟨_,_⟩:=a;obtain ⟨_,_⟩:=b;simp [FbV.bare]
end Go.SrcM
namespace Go.Proofs.YtgbeechjghajcaaGreatDoor
open Go Go.Fw Go.NatM Go.RatM Go.SrcM
set_option maxRecDepth 100000
set_option maxHeartbeats 99999999
section
variable {vU vI vP vM vO vF vR vS wU wI wP wM wO wF wR wS:Value}
abbrev Two2T (vU vI vP vM vO vF vR vS wU wI wP wM wO wF wR wS:Value) (a b:SrcV) (F:Nat→Prop) (h:Array Obj):Prop:=TopF F h vU vI vP vM vO vF vR vS a∧TopF F h wU wI wP wM wO wF wR wS b
theorem Two2T.tok (vU vI vP vM vO vF vR vS wU wI wP wM wO wF wR wS:Value) (a b:SrcV):TOk (Two2T vU vI vP vM vO vF vR vS wU wI wP wM wO wF wR wS a b):=
 ⟨fun _ _ _ hs H=>⟨H.1.up ⟨hs,fun _ _=>rfl⟩,H.2.up ⟨hs,fun _ _=>rfl⟩⟩,fun _ _ _ H K=>⟨H.1.up ⟨fun _ x=>x,K.same⟩,H.2.up ⟨fun _ x=>x,K.same⟩⟩⟩
theorem sSame_fn (a b:SrcV):FnT Tryz.prog (Two2T vU vI vP vM vO vF vR vS wU wI wP wM wO wF wR wS a b) 13 0 [srcA vU vI vP vM vO vF vR vS,srcA wU wI wP wM wO wF wR wS] [] (fun _:Unit=>True) (fun _=>.ret (.v (.bool (eqB a.bare b.bare))) 0 []):=by
 have laU:(rowsU a.units).length=a.units.length:=by first|exact rowsU_len _|exact rws_len _ _
 have laI:(rws It.row a.items).length=a.items.length:=by first|exact rowsU_len _|exact rws_len _ _
 have laP:(rwsB a.plants).length=a.plants.length:=by first|exact rowsU_len _|exact rws_len _ _
 have laM:(rws Mc.row a.machines).length=a.machines.length:=by first|exact rowsU_len _|exact rws_len _ _
 have laO:(rws OpV.row a.options).length=a.options.length:=by first|exact rowsU_len _|exact rws_len _ _
 have laF:(rws FbV.row a.forbids).length=a.forbids.length:=by first|exact rowsU_len _|exact rws_len _ _
 have laR:(rws RcV.row a.recipes).length=a.recipes.length:=by first|exact rowsU_len _|exact rws_len _ _
 have laS:(rws Sw.row a.swaps).length=a.swaps.length:=by first|exact rowsU_len _|exact rws_len _ _
 have lbU:(rowsU b.units).length=b.units.length:=by first|exact rowsU_len _|exact rws_len _ _
 have lbI:(rws It.row b.items).length=b.items.length:=by first|exact rowsU_len _|exact rws_len _ _
 have lbP:(rwsB b.plants).length=b.plants.length:=by first|exact rowsU_len _|exact rws_len _ _
 have lbM:(rws Mc.row b.machines).length=b.machines.length:=by first|exact rowsU_len _|exact rws_len _ _
 have lbO:(rws OpV.row b.options).length=b.options.length:=by first|exact rowsU_len _|exact rws_len _ _
 have lbF:(rws FbV.row b.forbids).length=b.forbids.length:=by first|exact rowsU_len _|exact rws_len _ _
 have lbR:(rws RcV.row b.recipes).length=b.recipes.length:=by first|exact rowsU_len _|exact rws_len _ _
 have lbS:(rws Sw.row b.swaps).length=b.swaps.length:=by first|exact rowsU_len _|exact rws_len _ _
 obtain ⟨r,hr⟩:∃r,r=eqB a.bare b.bare:=⟨_,rfl⟩
 rw [←hr]
 have no:¬a.bare=b.bare→r=false:=fun h=>by rw [hr];exact eqB_no h
 refine FnT.of Tryz.func13 (by kernel_rfl) rfl Tryz.ntmps13 rfl fun E0 F h hT w0 cs=>?_
 have mU:=hT.1.U.len
 obtain ⟨aaU,caU,rfl⟩:=RoF.sli hT.1.U laU
 have mI:=hT.1.I.len
 obtain ⟨aaI,caI,rfl⟩:=RoF.sli hT.1.I laI
 have mM:=hT.1.M.len
 obtain ⟨aaM,caM,rfl⟩:=RoF.sli hT.1.M laM
 have mO:=hT.1.O.len
 obtain ⟨aaO,caO,rfl⟩:=RoF.sli hT.1.O laO
 have mF:=hT.1.F.len
 obtain ⟨aaF,caF,rfl⟩:=RoF.sli hT.1.F laF
 have mR:=hT.1.R.len
 obtain ⟨aaR,caR,rfl⟩:=RoF.sli hT.1.R laR
 have mS:=hT.1.S.len
 obtain ⟨aaS,caS,rfl⟩:=RoF.sli hT.1.S laS
 obtain ⟨abU,cbU,rfl⟩:=RoF.sli hT.2.U lbU
 obtain ⟨abI,cbI,rfl⟩:=RoF.sli hT.2.I lbI
 obtain ⟨abM,cbM,rfl⟩:=RoF.sli hT.2.M lbM
 obtain ⟨abO,cbO,rfl⟩:=RoF.sli hT.2.O lbO
 obtain ⟨abF,cbF,rfl⟩:=RoF.sli hT.2.F lbF
 obtain ⟨abR,cbR,rfl⟩:=RoF.sli hT.2.R lbR
 obtain ⟨abS,cbS,rfl⟩:=RoF.sli hT.2.S lbS
 conv=>whnf
 (try refine gS ?_);conv=>whnf
 repeat ((first|(guard_target=_∧_;(fail_if_success refine oF ?_ ?_);(first|refine oL ?_|refine oR ?_)));(try intro _);conv=>whnf)
 refine ⟨fun hs=>?_,fun hs=>?_⟩<;>conv=>whnf
 rotate_left
 ·conv=>whnf
  repeat ((first|(guard_target=_∧_;(fail_if_success refine oF ?_ ?_);(first|refine oL ?_|refine oR ?_)));(try intro _);conv=>whnf)
  (try refine gS ?_);conv=>whnf
  repeat ((first|(guard_target=_∧_;(fail_if_success refine oF ?_ ?_);(first|refine oL ?_|refine oR ?_)));(try intro _);conv=>whnf)
  rw [no fun e=>hs (by rw [(SrcV.of_bare e).1])]
  try refine RunsS.retU ?_
  try refine RunsS.finU ?_
  exact UnwS.ret tab Tryz.func13 rfl (eN () trivial)
 conv=>whnf
 repeat ((first|(guard_target=_∧_;(fail_if_success refine oF ?_ ?_);(first|refine oL ?_|refine oR ?_)));(try intro _);conv=>whnf)
 have nU:a.units.length=b.units.length:=by omega
 refine ⟨fun hs=>?_,fun hs=>?_⟩<;>conv=>whnf
 rotate_left
 ·conv=>whnf
  repeat ((first|(guard_target=_∧_;(fail_if_success refine oF ?_ ?_);(first|refine oL ?_|refine oR ?_)));(try intro _);conv=>whnf)
  (try refine gS ?_);conv=>whnf
  repeat ((first|(guard_target=_∧_;(fail_if_success refine oF ?_ ?_);(first|refine oL ?_|refine oR ?_)));(try intro _);conv=>whnf)
  rw [no fun e=>hs (by rw [(SrcV.of_bare e).2.1])]
  try refine RunsS.retU ?_
  try refine RunsS.finU ?_
  exact UnwS.ret tab Tryz.func13 rfl (eN () trivial)
 conv=>whnf
 repeat ((first|(guard_target=_∧_;(fail_if_success refine oF ?_ ?_);(first|refine oL ?_|refine oR ?_)));(try intro _);conv=>whnf)
 have nI:a.items.length=b.items.length:=by omega
 refine RunsS.callT (Two.tok _ _ _ _ _) (⟨hT.1.P,hT.2.P⟩) (sNames_fn vP wP a.plants b.plants) [] sH ?CNa1 ?_
 case CNa1=>rfl
 rintro _ _
 by_cases eP:a.plants=b.plants
 rotate_left
 ·rw [eqB_no eP]
  conv=>whnf
  (try refine gS ?_);conv=>whnf
  repeat ((first|(guard_target=_∧_;(fail_if_success refine oF ?_ ?_);(first|refine oL ?_|refine oR ?_)));(try intro _);conv=>whnf)
  rw [no fun e=>eP (SrcV.of_bare e).2.2.1]
  try refine RunsS.retU ?_
  try refine RunsS.finU ?_
  exact UnwS.ret tab Tryz.func13 rfl (eN () trivial)
 rw [eqB_yes eP]
 conv=>whnf
 (try refine gS ?_);conv=>whnf
 repeat ((first|(guard_target=_∧_;(fail_if_success refine oF ?_ ?_);(first|refine oL ?_|refine oR ?_)));(try intro _);conv=>whnf)
 refine ⟨fun hs=>?_,fun hs=>?_⟩<;>conv=>whnf
 rotate_left
 ·conv=>whnf
  repeat ((first|(guard_target=_∧_;(fail_if_success refine oF ?_ ?_);(first|refine oL ?_|refine oR ?_)));(try intro _);conv=>whnf)
  (try refine gS ?_);conv=>whnf
  repeat ((first|(guard_target=_∧_;(fail_if_success refine oF ?_ ?_);(first|refine oL ?_|refine oR ?_)));(try intro _);conv=>whnf)
  rw [no fun e=>hs (by rw [(SrcV.of_bare e).2.2.2.1])]
  try refine RunsS.retU ?_
  try refine RunsS.finU ?_
  exact UnwS.ret tab Tryz.func13 rfl (eN () trivial)
 conv=>whnf
 repeat ((first|(guard_target=_∧_;(fail_if_success refine oF ?_ ?_);(first|refine oL ?_|refine oR ?_)));(try intro _);conv=>whnf)
 have nM:a.machines.length=b.machines.length:=by omega
 refine ⟨fun hs=>?_,fun hs=>?_⟩<;>conv=>whnf
 rotate_left
 ·conv=>whnf
  repeat ((first|(guard_target=_∧_;(fail_if_success refine oF ?_ ?_);(first|refine oL ?_|refine oR ?_)));(try intro _);conv=>whnf)
  (try refine gS ?_);conv=>whnf
  repeat ((first|(guard_target=_∧_;(fail_if_success refine oF ?_ ?_);(first|refine oL ?_|refine oR ?_)));(try intro _);conv=>whnf)
  rw [no fun e=>hs (by rw [map_len (SrcV.of_bare e).2.2.2.2.1])]
  try refine RunsS.retU ?_
  try refine RunsS.finU ?_
  exact UnwS.ret tab Tryz.func13 rfl (eN () trivial)
 conv=>whnf
 repeat ((first|(guard_target=_∧_;(fail_if_success refine oF ?_ ?_);(first|refine oL ?_|refine oR ?_)));(try intro _);conv=>whnf)
 have nO:a.options.length=b.options.length:=by omega
 refine ⟨fun hs=>?_,fun hs=>?_⟩<;>conv=>whnf
 rotate_left
 ·conv=>whnf
  repeat ((first|(guard_target=_∧_;(fail_if_success refine oF ?_ ?_);(first|refine oL ?_|refine oR ?_)));(try intro _);conv=>whnf)
  (try refine gS ?_);conv=>whnf
  repeat ((first|(guard_target=_∧_;(fail_if_success refine oF ?_ ?_);(first|refine oL ?_|refine oR ?_)));(try intro _);conv=>whnf)
  rw [no fun e=>hs (by rw [map_len (SrcV.of_bare e).2.2.2.2.2.1])]
  try refine RunsS.retU ?_
  try refine RunsS.finU ?_
  exact UnwS.ret tab Tryz.func13 rfl (eN () trivial)
 conv=>whnf
 repeat ((first|(guard_target=_∧_;(fail_if_success refine oF ?_ ?_);(first|refine oL ?_|refine oR ?_)));(try intro _);conv=>whnf)
 have nF:a.forbids.length=b.forbids.length:=by omega
 refine ⟨fun hs=>?_,fun hs=>?_⟩<;>conv=>whnf
 rotate_left
 ·conv=>whnf
  repeat ((first|(guard_target=_∧_;(fail_if_success refine oF ?_ ?_);(first|refine oL ?_|refine oR ?_)));(try intro _);conv=>whnf)
  (try refine gS ?_);conv=>whnf
  repeat ((first|(guard_target=_∧_;(fail_if_success refine oF ?_ ?_);(first|refine oL ?_|refine oR ?_)));(try intro _);conv=>whnf)
  rw [no fun e=>hs (by rw [map_len (SrcV.of_bare e).2.2.2.2.2.2.1])]
  try refine RunsS.retU ?_
  try refine RunsS.finU ?_
  exact UnwS.ret tab Tryz.func13 rfl (eN () trivial)
 conv=>whnf
 repeat ((first|(guard_target=_∧_;(fail_if_success refine oF ?_ ?_);(first|refine oL ?_|refine oR ?_)));(try intro _);conv=>whnf)
 have nR:a.recipes.length=b.recipes.length:=by omega
 refine ⟨fun hs=>?_,fun hs=>?_⟩<;>conv=>whnf
 rotate_left
 ·conv=>whnf
  repeat ((first|(guard_target=_∧_;(fail_if_success refine oF ?_ ?_);(first|refine oL ?_|refine oR ?_)));(try intro _);conv=>whnf)
  (try refine gS ?_);conv=>whnf
  repeat ((first|(guard_target=_∧_;(fail_if_success refine oF ?_ ?_);(first|refine oL ?_|refine oR ?_)));(try intro _);conv=>whnf)
  rw [no fun e=>hs (by rw [(SrcV.of_bare e).2.2.2.2.2.2.2])]
  try refine RunsS.retU ?_
  try refine RunsS.finU ?_
  exact UnwS.ret tab Tryz.func13 rfl (eN () trivial)
 conv=>whnf
 repeat ((first|(guard_target=_∧_;(fail_if_success refine oF ?_ ?_);(first|refine oL ?_|refine oR ?_)));(try intro _);conv=>whnf)
 have nS:a.swaps.length=b.swaps.length:=by omega
 refine RunsS.nameCell (fun _ x=>x) 0 0 (by exact hT.1.U) ?_
 conv=>whnf
 (try refine gS ?_);conv=>whnf
 repeat ((first|(guard_target=_∧_;(fail_if_success refine oF ?_ ?_);(first|refine oL ?_|refine oR ?_)));(try intro _);conv=>whnf)
 refine RunsS.nameCell (fun _ x=>x) 1 0 (by exact hT.2.U) ?_
 conv=>whnf
 (try refine gS ?_);conv=>whnf
 repeat ((first|(guard_target=_∧_;(fail_if_success refine oF ?_ ?_);(first|refine oL ?_|refine oR ?_)));(try intro _);conv=>whnf)
 refine RunsS.subR [] (RunsS.loop (fun (k:Nat)=>[(5,.v (.int .i64 k)),(2,.ptr 0 0),(3,.ptr 1 0)]) (fun (k:Nat)=>[(0,.cells 32 [.buf 2,.v (.slice aaI a.items.length caI),.v vP,.v (.slice aaM a.machines.length caM),.v (.slice aaO a.options.length caO),.v (.slice aaF a.forbids.length caF),.v (.slice aaR a.recipes.length caR),.v (.slice aaS a.swaps.length caS)]),(1,.cells 32 [.buf 3,.v (.slice abI b.items.length cbI),.v wP,.v (.slice abM b.machines.length cbM),.v (.slice abO b.options.length cbO),.v (.slice abF b.forbids.length cbF),.v (.slice abR b.recipes.length cbR),.v (.slice abS b.swaps.length cbS)]),(2,.ro 8 (rowsU a.units)),(3,.ro 8 (rowsU b.units))]) 4 (fun (k:Nat)=>k≤a.units.length ∧ ∀j (_:j<k) (ha:j<a.units.length) (hb:j<b.units.length),a.units[j]=b.units[j]) (fun (k:Nat)=>a.units.length - k) ?round2 (0) ?J02) sH sH
 case J02=>exact (⟨Nat.zero_le _,fun j hj=>absurd hj (Nat.not_lt_zero _)⟩)
 rintro k hJ back
 try dsimp only at hJ back
 conv=>whnf
 try dsimp only
 refine gS ?_;conv=>whnf
 repeat ((first|(guard_target=_∧_;(fail_if_success refine oF ?_ ?_);(first|refine oL ?_|refine oR ?_)));(try intro _);conv=>whnf)
 refine ⟨fun hk=>?_,fun hk=>?_⟩<;>conv=>whnf
 ·have hk:k<a.units.length:=by omega
  have hk2:k<b.units.length:=by omega
  conv=>whnf
  repeat ((first|(guard_target=_∧_;(fail_if_success refine oF ?_ ?_);(first|refine oL ?_|refine oR ?_)));(try intro _);conv=>whnf)
  refine RunsS.held tab (.fl 0 (.fl 1 (.fl 2 (.fl 3 (.fl 4 (.fl 5 (.fl 6 (.fl 7 (.fl 8 (.fl 9 (.fl 10 .done))))))))))) (by kernel_rfl) ?_;conv=>whnf
  (try refine gR ?_);conv=>whnf
  repeat ((first|(guard_target=_∧_;(fail_if_success refine oF ?_ ?_);(first|refine oL ?_|refine oR ?_|refine oB ?_)));(try intro _);conv=>whnf)
  (try refine gS ?_);conv=>whnf
  repeat ((first|(guard_target=_∧_;(fail_if_success refine oF ?_ ?_);(first|refine oL ?_|refine oR ?_)));(try intro _);conv=>whnf)
  refine ⟨_,rowsU_get hk,?_⟩;conv=>whnf
  try (refine And.intro (by first|omega|exact Nat.le_of_ble_eq_true rfl) ?_;(try intro _);conv=>whnf)
  (try refine gR ?_);conv=>whnf
  repeat ((first|(guard_target=_∧_;(fail_if_success refine oF ?_ ?_);(first|refine oL ?_|refine oR ?_|refine oB ?_)));(try intro _);conv=>whnf)
  (try refine gS ?_);conv=>whnf
  repeat ((first|(guard_target=_∧_;(fail_if_success refine oF ?_ ?_);(first|refine oL ?_|refine oR ?_)));(try intro _);conv=>whnf)
  refine ⟨_,rowsU_get hk2,?_⟩;conv=>whnf
  try (refine And.intro (by first|omega|exact Nat.le_of_ble_eq_true rfl) ?_;(try intro _);conv=>whnf)
  (try refine gR ?_);conv=>whnf
  repeat ((first|(guard_target=_∧_;(fail_if_success refine oF ?_ ?_);(first|refine oL ?_|refine oR ?_|refine oB ?_)));(try intro _);conv=>whnf)
  (try refine gS ?_);conv=>whnf
  repeat ((first|(guard_target=_∧_;(fail_if_success refine oF ?_ ?_);(first|refine oL ?_|refine oR ?_)));(try intro _);conv=>whnf)
  refine ⟨fun hs=>?_,fun hs=>?_⟩<;>conv=>whnf
  ·try refine gR ?_
   conv=>whnf
   repeat ((first|(guard_target=_∧_;(fail_if_success refine oF ?_ ?_);(first|refine oL ?_|refine oR ?_|refine oB ?_)));(try intro _);conv=>whnf)
   (try refine gS ?_);conv=>whnf
   repeat ((first|(guard_target=_∧_;(fail_if_success refine oF ?_ ?_);(first|refine oL ?_|refine oR ?_)));(try intro _);conv=>whnf)
   refine RunsS.subR [] (back (k+1) (by exact (⟨hk,more_at hk hk2 hJ.2 (Un.ext8_iff.2 hs)⟩)) (by (try dsimp only);omega)) sH sH
  (try refine gR ?_);conv=>whnf
  repeat ((first|(guard_target=_∧_;(fail_if_success refine oF ?_ ?_);(first|refine oL ?_|refine oR ?_|refine oB ?_)));(try intro _);conv=>whnf)
  (try refine gS ?_);conv=>whnf
  repeat ((first|(guard_target=_∧_;(fail_if_success refine oF ?_ ?_);(first|refine oL ?_|refine oR ?_)));(try intro _);conv=>whnf)
  rw [no fun e=>hs (Un.ext8_iff.1 (at_eq ((SrcV.of_bare e).1) hk hk2))]
  try refine RunsS.retU ?_
  try refine RunsS.finU ?_
  exact UnwS.ret tab Tryz.func13 rfl (eN () trivial)
 have eU:=all_at nU fun j h1 h2=>hJ.2 j (by omega) h1 h2
 clear back hJ
 conv=>whnf
 repeat ((first|(guard_target=_∧_;(fail_if_success refine oF ?_ ?_);(first|refine oL ?_|refine oR ?_)));(try intro _);conv=>whnf)
 refine RunsS.nameCell (fun _ x=>x) 0 1 (by exact hT.1.I) ?_
 conv=>whnf
 (try refine gS ?_);conv=>whnf
 repeat ((first|(guard_target=_∧_;(fail_if_success refine oF ?_ ?_);(first|refine oL ?_|refine oR ?_)));(try intro _);conv=>whnf)
 refine RunsS.nameCell (fun _ x=>x) 1 1 (by exact hT.2.I) ?_
 conv=>whnf
 (try refine gS ?_);conv=>whnf
 repeat ((first|(guard_target=_∧_;(fail_if_success refine oF ?_ ?_);(first|refine oL ?_|refine oR ?_)));(try intro _);conv=>whnf)
 refine RunsS.subR [] (RunsS.loop (fun (k:Nat)=>[(6,.v (.int .i64 k)),(2,.ptr 0 0),(3,.ptr 1 0)]) (fun (k:Nat)=>[(0,.cells 32 [.buf 2,.buf 4,.v vP,.v (.slice aaM a.machines.length caM),.v (.slice aaO a.options.length caO),.v (.slice aaF a.forbids.length caF),.v (.slice aaR a.recipes.length caR),.v (.slice aaS a.swaps.length caS)]),(1,.cells 32 [.buf 3,.buf 5,.v wP,.v (.slice abM b.machines.length cbM),.v (.slice abO b.options.length cbO),.v (.slice abF b.forbids.length cbF),.v (.slice abR b.recipes.length cbR),.v (.slice abS b.swaps.length cbS)]),(4,.ro 6 (rws It.row a.items)),(5,.ro 6 (rws It.row b.items))]) 6 (fun (k:Nat)=>k≤a.items.length ∧ ∀j (_:j<k) (ha:j<a.items.length) (hb:j<b.items.length),a.items[j]=b.items[j]) (fun (k:Nat)=>a.items.length - k) ?round4 (0) ?J04) sH sH
 case J04=>exact (⟨Nat.zero_le _,fun j hj=>absurd hj (Nat.not_lt_zero _)⟩)
 rintro k hJ back
 try dsimp only at hJ back
 conv=>whnf
 try dsimp only
 refine gS ?_;conv=>whnf
 repeat ((first|(guard_target=_∧_;(fail_if_success refine oF ?_ ?_);(first|refine oL ?_|refine oR ?_)));(try intro _);conv=>whnf)
 refine ⟨fun hk=>?_,fun hk=>?_⟩<;>conv=>whnf
 ·have hk:k<a.items.length:=by omega
  have hk2:k<b.items.length:=by omega
  conv=>whnf
  repeat ((first|(guard_target=_∧_;(fail_if_success refine oF ?_ ?_);(first|refine oL ?_|refine oR ?_)));(try intro _);conv=>whnf)
  refine RunsS.held tab (.fl 0 (.fl 1 (.fl 2 (.fl 3 (.fl 4 (.fl 5 (.fl 6 (.fl 7 (.fl 8 (.fl 9 (.fl 10 .done))))))))))) (by kernel_rfl) ?_;conv=>whnf
  (try refine gR ?_);conv=>whnf
  repeat ((first|(guard_target=_∧_;(fail_if_success refine oF ?_ ?_);(first|refine oL ?_|refine oR ?_|refine oB ?_)));(try intro _);conv=>whnf)
  (try refine gS ?_);conv=>whnf
  repeat ((first|(guard_target=_∧_;(fail_if_success refine oF ?_ ?_);(first|refine oL ?_|refine oR ?_)));(try intro _);conv=>whnf)
  refine ⟨_,rws_get hk,?_⟩;conv=>whnf
  try (refine And.intro (by first|omega|exact Nat.le_of_ble_eq_true rfl) ?_;(try intro _);conv=>whnf)
  (try refine gR ?_);conv=>whnf
  repeat ((first|(guard_target=_∧_;(fail_if_success refine oF ?_ ?_);(first|refine oL ?_|refine oR ?_|refine oB ?_)));(try intro _);conv=>whnf)
  (try refine gS ?_);conv=>whnf
  repeat ((first|(guard_target=_∧_;(fail_if_success refine oF ?_ ?_);(first|refine oL ?_|refine oR ?_)));(try intro _);conv=>whnf)
  refine ⟨_,rws_get hk2,?_⟩;conv=>whnf
  try (refine And.intro (by first|omega|exact Nat.le_of_ble_eq_true rfl) ?_;(try intro _);conv=>whnf)
  (try refine gR ?_);conv=>whnf
  repeat ((first|(guard_target=_∧_;(fail_if_success refine oF ?_ ?_);(first|refine oL ?_|refine oR ?_|refine oB ?_)));(try intro _);conv=>whnf)
  (try refine gS ?_);conv=>whnf
  repeat ((first|(guard_target=_∧_;(fail_if_success refine oF ?_ ?_);(first|refine oL ?_|refine oR ?_)));(try intro _);conv=>whnf)
  refine ⟨fun hs=>?_,fun hs=>?_⟩<;>conv=>whnf
  ·try refine gR ?_
   conv=>whnf
   repeat ((first|(guard_target=_∧_;(fail_if_success refine oF ?_ ?_);(first|refine oL ?_|refine oR ?_|refine oB ?_)));(try intro _);conv=>whnf)
   (try refine gS ?_);conv=>whnf
   repeat ((first|(guard_target=_∧_;(fail_if_success refine oF ?_ ?_);(first|refine oL ?_|refine oR ?_)));(try intro _);conv=>whnf)
   refine RunsS.subR [] (back (k+1) (by exact (⟨hk,more_at hk hk2 hJ.2 (It.ext_iff'.2 hs)⟩)) (by (try dsimp only);omega)) sH sH
  (try refine gR ?_);conv=>whnf
  repeat ((first|(guard_target=_∧_;(fail_if_success refine oF ?_ ?_);(first|refine oL ?_|refine oR ?_|refine oB ?_)));(try intro _);conv=>whnf)
  (try refine gS ?_);conv=>whnf
  repeat ((first|(guard_target=_∧_;(fail_if_success refine oF ?_ ?_);(first|refine oL ?_|refine oR ?_)));(try intro _);conv=>whnf)
  rw [no fun e=>hs (It.ext_iff'.1 (at_eq ((SrcV.of_bare e).2.1) hk hk2))]
  try refine RunsS.retU ?_
  try refine RunsS.finU ?_
  exact UnwS.ret tab Tryz.func13 rfl (eN () trivial)
 have eI:=all_at nI fun j h1 h2=>hJ.2 j (by omega) h1 h2
 clear back hJ
 conv=>whnf
 repeat ((first|(guard_target=_∧_;(fail_if_success refine oF ?_ ?_);(first|refine oL ?_|refine oR ?_)));(try intro _);conv=>whnf)
 refine RunsS.nameCell (fun _ x=>x) 0 3 (by exact hT.1.M) ?_
 conv=>whnf
 (try refine gS ?_);conv=>whnf
 repeat ((first|(guard_target=_∧_;(fail_if_success refine oF ?_ ?_);(first|refine oL ?_|refine oR ?_)));(try intro _);conv=>whnf)
 refine RunsS.nameCell (fun _ x=>x) 1 3 (by exact hT.2.M) ?_
 conv=>whnf
 (try refine gS ?_);conv=>whnf
 repeat ((first|(guard_target=_∧_;(fail_if_success refine oF ?_ ?_);(first|refine oL ?_|refine oR ?_)));(try intro _);conv=>whnf)
 refine RunsS.subR [] (RunsS.loop (fun (k:Nat)=>[(7,.v (.int .i64 k)),(2,.ptr 0 0),(3,.ptr 1 0)]) (fun (k:Nat)=>[(0,.cells 32 [.buf 2,.buf 4,.v vP,.buf 6,.v (.slice aaO a.options.length caO),.v (.slice aaF a.forbids.length caF),.v (.slice aaR a.recipes.length caR),.v (.slice aaS a.swaps.length caS)]),(1,.cells 32 [.buf 3,.buf 5,.v wP,.buf 7,.v (.slice abO b.options.length cbO),.v (.slice abF b.forbids.length cbF),.v (.slice abR b.recipes.length cbR),.v (.slice abS b.swaps.length cbS)]),(6,.ro 4 (rws Mc.row a.machines)),(7,.ro 4 (rws Mc.row b.machines))]) 8 (fun (k:Nat)=>k≤a.machines.length ∧ ∀j (_:j<k) (ha:j<a.machines.length) (hb:j<b.machines.length),a.machines[j]=b.machines[j]) (fun (k:Nat)=>a.machines.length - k) ?round6 (0) ?J06) sH sH
 case J06=>exact (⟨Nat.zero_le _,fun j hj=>absurd hj (Nat.not_lt_zero _)⟩)
 rintro k hJ back
 try dsimp only at hJ back
 conv=>whnf
 try dsimp only
 refine gS ?_;conv=>whnf
 repeat ((first|(guard_target=_∧_;(fail_if_success refine oF ?_ ?_);(first|refine oL ?_|refine oR ?_)));(try intro _);conv=>whnf)
 refine ⟨fun hk=>?_,fun hk=>?_⟩<;>conv=>whnf
 ·have hk:k<a.machines.length:=by omega
  have hk2:k<b.machines.length:=by omega
  conv=>whnf
  repeat ((first|(guard_target=_∧_;(fail_if_success refine oF ?_ ?_);(first|refine oL ?_|refine oR ?_)));(try intro _);conv=>whnf)
  refine RunsS.held tab (.fl 0 (.fl 1 (.fl 2 (.fl 3 (.fl 4 (.fl 5 (.fl 6 (.fl 7 (.fl 8 (.fl 9 (.fl 10 .done))))))))))) (by kernel_rfl) ?_;conv=>whnf
  (try refine gR ?_);conv=>whnf
  repeat ((first|(guard_target=_∧_;(fail_if_success refine oF ?_ ?_);(first|refine oL ?_|refine oR ?_|refine oB ?_)));(try intro _);conv=>whnf)
  (try refine gS ?_);conv=>whnf
  repeat ((first|(guard_target=_∧_;(fail_if_success refine oF ?_ ?_);(first|refine oL ?_|refine oR ?_)));(try intro _);conv=>whnf)
  refine ⟨_,rws_get hk,?_⟩;conv=>whnf
  try (refine And.intro (by first|omega|exact Nat.le_of_ble_eq_true rfl) ?_;(try intro _);conv=>whnf)
  (try refine gR ?_);conv=>whnf
  repeat ((first|(guard_target=_∧_;(fail_if_success refine oF ?_ ?_);(first|refine oL ?_|refine oR ?_|refine oB ?_)));(try intro _);conv=>whnf)
  (try refine gS ?_);conv=>whnf
  repeat ((first|(guard_target=_∧_;(fail_if_success refine oF ?_ ?_);(first|refine oL ?_|refine oR ?_)));(try intro _);conv=>whnf)
  refine ⟨_,rws_get hk2,?_⟩;conv=>whnf
  try (refine And.intro (by first|omega|exact Nat.le_of_ble_eq_true rfl) ?_;(try intro _);conv=>whnf)
  (try refine gR ?_);conv=>whnf
  repeat ((first|(guard_target=_∧_;(fail_if_success refine oF ?_ ?_);(first|refine oL ?_|refine oR ?_|refine oB ?_)));(try intro _);conv=>whnf)
  (try refine gS ?_);conv=>whnf
  repeat ((first|(guard_target=_∧_;(fail_if_success refine oF ?_ ?_);(first|refine oL ?_|refine oR ?_)));(try intro _);conv=>whnf)
  refine ⟨fun hs=>?_,fun hs=>?_⟩<;>conv=>whnf
  ·try refine gR ?_
   conv=>whnf
   repeat ((first|(guard_target=_∧_;(fail_if_success refine oF ?_ ?_);(first|refine oL ?_|refine oR ?_|refine oB ?_)));(try intro _);conv=>whnf)
   (try refine gS ?_);conv=>whnf
   repeat ((first|(guard_target=_∧_;(fail_if_success refine oF ?_ ?_);(first|refine oL ?_|refine oR ?_)));(try intro _);conv=>whnf)
   refine RunsS.subR [] (back (k+1) (by exact (⟨hk,more_at hk hk2 hJ.2 (Mc.ext_iff'.2 hs)⟩)) (by (try dsimp only);omega)) sH sH
  (try refine gR ?_);conv=>whnf
  repeat ((first|(guard_target=_∧_;(fail_if_success refine oF ?_ ?_);(first|refine oL ?_|refine oR ?_|refine oB ?_)));(try intro _);conv=>whnf)
  (try refine gS ?_);conv=>whnf
  repeat ((first|(guard_target=_∧_;(fail_if_success refine oF ?_ ?_);(first|refine oL ?_|refine oR ?_)));(try intro _);conv=>whnf)
  rw [no fun e=>hs (Mc.ext_iff'.1 (at_eq ((SrcV.of_bare e).2.2.2.1) hk hk2))]
  try refine RunsS.retU ?_
  try refine RunsS.finU ?_
  exact UnwS.ret tab Tryz.func13 rfl (eN () trivial)
 have eM:=all_at nM fun j h1 h2=>hJ.2 j (by omega) h1 h2
 clear back hJ
 conv=>whnf
 repeat ((first|(guard_target=_∧_;(fail_if_success refine oF ?_ ?_);(first|refine oL ?_|refine oR ?_)));(try intro _);conv=>whnf)
 refine RunsS.nameCell (fun _ x=>x) 0 4 (by exact hT.1.O) ?_
 conv=>whnf
 (try refine gS ?_);conv=>whnf
 repeat ((first|(guard_target=_∧_;(fail_if_success refine oF ?_ ?_);(first|refine oL ?_|refine oR ?_)));(try intro _);conv=>whnf)
 refine RunsS.nameCell (fun _ x=>x) 1 4 (by exact hT.2.O) ?_
 conv=>whnf
 (try refine gS ?_);conv=>whnf
 repeat ((first|(guard_target=_∧_;(fail_if_success refine oF ?_ ?_);(first|refine oL ?_|refine oR ?_)));(try intro _);conv=>whnf)
 refine RunsS.subR [] (RunsS.loop (fun (k:Nat)=>[(8,.v (.int .i64 k)),(2,.ptr 0 0),(3,.ptr 1 0)]) (fun (k:Nat)=>[(0,.cells 32 [.buf 2,.buf 4,.v vP,.buf 6,.buf 8,.v (.slice aaF a.forbids.length caF),.v (.slice aaR a.recipes.length caR),.v (.slice aaS a.swaps.length caS)]),(1,.cells 32 [.buf 3,.buf 5,.v wP,.buf 7,.buf 9,.v (.slice abF b.forbids.length cbF),.v (.slice abR b.recipes.length cbR),.v (.slice abS b.swaps.length cbS)]),(8,.ro 2 (rws OpV.row a.options)),(9,.ro 2 (rws OpV.row b.options))]) 10 (fun (k:Nat)=>k≤a.options.length ∧ ∀j (_:j<k) (ha:j<a.options.length) (hb:j<b.options.length),OpV.bare a.options[j]=OpV.bare b.options[j]) (fun (k:Nat)=>a.options.length - k) ?round8 (0) ?J08) sH sH
 case J08=>exact (⟨Nat.zero_le _,fun j hj=>absurd hj (Nat.not_lt_zero _)⟩)
 rintro k hJ back
 try dsimp only at hJ back
 conv=>whnf
 try dsimp only
 refine gS ?_;conv=>whnf
 repeat ((first|(guard_target=_∧_;(fail_if_success refine oF ?_ ?_);(first|refine oL ?_|refine oR ?_)));(try intro _);conv=>whnf)
 refine ⟨fun hk=>?_,fun hk=>?_⟩<;>conv=>whnf
 ·have hk:k<a.options.length:=by omega
  have hk2:k<b.options.length:=by omega
  conv=>whnf
  repeat ((first|(guard_target=_∧_;(fail_if_success refine oF ?_ ?_);(first|refine oL ?_|refine oR ?_)));(try intro _);conv=>whnf)
  refine RunsS.held tab (.fl 0 (.fl 1 (.fl 2 (.fl 3 (.fl 4 (.fl 5 (.fl 6 (.fl 7 (.fl 8 (.fl 9 (.fl 10 (.fl 11 (.fl 12 (.fl 13 (.fl 14 (.fl 15 (.fl 16 (.fl 17 (.fl 18 (.fl 19 (.fl 20 (.fl 21 (.fl 22 (.fl 23 (.fl 24 (.fl 25 (.e1 26 [] (.fl 27 (.fl 28 .done))))))))))))))))))))))))))))) (by kernel_rfl) ?_;conv=>whnf
  (try refine gR ?_);conv=>whnf
  repeat ((first|(guard_target=_∧_;(fail_if_success refine oF ?_ ?_);(first|refine oL ?_|refine oR ?_|refine oB ?_)));(try intro _);conv=>whnf)
  (try refine gS ?_);conv=>whnf
  repeat ((first|(guard_target=_∧_;(fail_if_success refine oF ?_ ?_);(first|refine oL ?_|refine oR ?_)));(try intro _);conv=>whnf)
  refine ⟨_,rws_get hk,?_⟩;conv=>whnf
  try (refine And.intro (by first|omega|exact Nat.le_of_ble_eq_true rfl) ?_;(try intro _);conv=>whnf)
  (try refine gR ?_);conv=>whnf
  repeat ((first|(guard_target=_∧_;(fail_if_success refine oF ?_ ?_);(first|refine oL ?_|refine oR ?_|refine oB ?_)));(try intro _);conv=>whnf)
  (try refine gS ?_);conv=>whnf
  repeat ((first|(guard_target=_∧_;(fail_if_success refine oF ?_ ?_);(first|refine oL ?_|refine oR ?_)));(try intro _);conv=>whnf)
  refine ⟨_,rws_get hk2,?_⟩;conv=>whnf
  try (refine And.intro (by first|omega|exact Nat.le_of_ble_eq_true rfl) ?_;(try intro _);conv=>whnf)
  (try refine gR ?_);conv=>whnf
  repeat ((first|(guard_target=_∧_;(fail_if_success refine oF ?_ ?_);(first|refine oL ?_|refine oR ?_|refine oB ?_)));(try intro _);conv=>whnf)
  (try refine gS ?_);conv=>whnf
  repeat ((first|(guard_target=_∧_;(fail_if_success refine oF ?_ ?_);(first|refine oL ?_|refine oR ?_)));(try intro _);conv=>whnf)
  refine ⟨fun hs=>?_,fun hs=>?_⟩<;>conv=>whnf
  rotate_left
  ·try refine gR ?_
   conv=>whnf
   repeat ((first|(guard_target=_∧_;(fail_if_success refine oF ?_ ?_);(first|refine oL ?_|refine oR ?_|refine oB ?_)));(try intro _);conv=>whnf)
   (try refine gS ?_);conv=>whnf
   repeat ((first|(guard_target=_∧_;(fail_if_success refine oF ?_ ?_);(first|refine oL ?_|refine oR ?_)));(try intro _);conv=>whnf)
   rw [no fun e=>hs (OpV.bare_iff.1 (map_at (SrcV.of_bare e).2.2.2.2.1 hk hk2)).1]
   try refine RunsS.retU ?_
   try refine RunsS.finU ?_
   exact UnwS.ret tab Tryz.func13 rfl (eN () trivial)
  (try refine gR ?_);conv=>whnf
  repeat ((first|(guard_target=_∧_;(fail_if_success refine oF ?_ ?_);(first|refine oL ?_|refine oR ?_|refine oB ?_)));(try intro _);conv=>whnf)
  (try refine gS ?_);conv=>whnf
  repeat ((first|(guard_target=_∧_;(fail_if_success refine oF ?_ ?_);(first|refine oL ?_|refine oR ?_)));(try intro _);conv=>whnf)
  refine ⟨_,rws_get hk,?_⟩;conv=>whnf
  try (refine And.intro (by first|omega|exact Nat.le_of_ble_eq_true rfl) ?_;(try intro _);conv=>whnf)
  (try refine gR ?_);conv=>whnf
  repeat ((first|(guard_target=_∧_;(fail_if_success refine oF ?_ ?_);(first|refine oL ?_|refine oR ?_|refine oB ?_)));(try intro _);conv=>whnf)
  (try refine gS ?_);conv=>whnf
  repeat ((first|(guard_target=_∧_;(fail_if_success refine oF ?_ ?_);(first|refine oL ?_|refine oR ?_)));(try intro _);conv=>whnf)
  refine ⟨_,rws_get hk2,?_⟩;conv=>whnf
  try (refine And.intro (by first|omega|exact Nat.le_of_ble_eq_true rfl) ?_;(try intro _);conv=>whnf)
  (try refine gR ?_);conv=>whnf
  repeat ((first|(guard_target=_∧_;(fail_if_success refine oF ?_ ?_);(first|refine oL ?_|refine oR ?_|refine oB ?_)));(try intro _);conv=>whnf)
  (try refine gS ?_);conv=>whnf
  repeat ((first|(guard_target=_∧_;(fail_if_success refine oF ?_ ?_);(first|refine oL ?_|refine oR ?_)));(try intro _);conv=>whnf)
  refine EffR.callT (Two.tok _ _ _ _ _) (⟨hT.1.below.o _ (List.getElem_mem hk),hT.2.below.o _ (List.getElem_mem hk2)⟩) (sNames_fn (a.options[k].hd.v a.options[k].ch.length) (b.options[k].hd.v b.options[k].ch.length) a.options[k].ch b.options[k].ch) [] ?_ sH ?CNa9
  case CNa9=>rfl
  intro _ _
  conv=>whnf
  try refine oB ?_
  (try refine gR ?_);conv=>whnf
  repeat ((first|(guard_target=_∧_;(fail_if_success refine oF ?_ ?_);(first|refine oL ?_|refine oR ?_|refine oB ?_)));(try intro _);conv=>whnf)
  (try refine gS ?_);conv=>whnf
  repeat ((first|(guard_target=_∧_;(fail_if_success refine oF ?_ ?_);(first|refine oL ?_|refine oR ?_)));(try intro _);conv=>whnf)
  by_cases hc:a.options[k].ch=b.options[k].ch
  ·rw [eqB_yes hc]
   conv=>whnf
   (try refine gS ?_);conv=>whnf
   repeat ((first|(guard_target=_∧_;(fail_if_success refine oF ?_ ?_);(first|refine oL ?_|refine oR ?_)));(try intro _);conv=>whnf)
   refine RunsS.subR [] (back (k+1) (by exact (⟨hk,more_by hk hk2 hJ.2 (OpV.bare_iff.2 ⟨hs,hc⟩)⟩)) (by (try dsimp only);omega)) sH sH
  rw [eqB_no hc]
  conv=>whnf
  (try refine gS ?_);conv=>whnf
  repeat ((first|(guard_target=_∧_;(fail_if_success refine oF ?_ ?_);(first|refine oL ?_|refine oR ?_)));(try intro _);conv=>whnf)
  rw [no fun e=>hc (OpV.bare_iff.1 (map_at (SrcV.of_bare e).2.2.2.2.1 hk hk2)).2]
  try refine RunsS.retU ?_
  try refine RunsS.finU ?_
  exact UnwS.ret tab Tryz.func13 rfl (eN () trivial)
 have eO:=map_all nO fun j h1 h2=>hJ.2 j (by omega) h1 h2
 clear back hJ
 conv=>whnf
 repeat ((first|(guard_target=_∧_;(fail_if_success refine oF ?_ ?_);(first|refine oL ?_|refine oR ?_)));(try intro _);conv=>whnf)
 refine RunsS.nameCell (fun _ x=>x) 0 5 (by exact hT.1.F) ?_
 conv=>whnf
 (try refine gS ?_);conv=>whnf
 repeat ((first|(guard_target=_∧_;(fail_if_success refine oF ?_ ?_);(first|refine oL ?_|refine oR ?_)));(try intro _);conv=>whnf)
 refine RunsS.nameCell (fun _ x=>x) 1 5 (by exact hT.2.F) ?_
 conv=>whnf
 (try refine gS ?_);conv=>whnf
 repeat ((first|(guard_target=_∧_;(fail_if_success refine oF ?_ ?_);(first|refine oL ?_|refine oR ?_)));(try intro _);conv=>whnf)
 refine RunsS.subR [] (RunsS.loop (fun (k:Nat)=>[(9,.v (.int .i64 k)),(2,.ptr 0 0),(3,.ptr 1 0)]) (fun (k:Nat)=>[(0,.cells 32 [.buf 2,.buf 4,.v vP,.buf 6,.buf 8,.buf 10,.v (.slice aaR a.recipes.length caR),.v (.slice aaS a.swaps.length caS)]),(1,.cells 32 [.buf 3,.buf 5,.v wP,.buf 7,.buf 9,.buf 11,.v (.slice abR b.recipes.length cbR),.v (.slice abS b.swaps.length cbS)]),(10,.ro 1 (rws FbV.row a.forbids)),(11,.ro 1 (rws FbV.row b.forbids))]) 12 (fun (k:Nat)=>k≤a.forbids.length ∧ ∀j (_:j<k) (ha:j<a.forbids.length) (hb:j<b.forbids.length),FbV.bare a.forbids[j]=FbV.bare b.forbids[j]) (fun (k:Nat)=>a.forbids.length - k) ?round11 (0) ?J011) sH sH
 case J011=>exact (⟨Nat.zero_le _,fun j hj=>absurd hj (Nat.not_lt_zero _)⟩)
 rintro k hJ back
 try dsimp only at hJ back
 conv=>whnf
 try dsimp only
 refine gS ?_;conv=>whnf
 repeat ((first|(guard_target=_∧_;(fail_if_success refine oF ?_ ?_);(first|refine oL ?_|refine oR ?_)));(try intro _);conv=>whnf)
 refine ⟨fun hk=>?_,fun hk=>?_⟩<;>conv=>whnf
 ·have hk:k<a.forbids.length:=by omega
  have hk2:k<b.forbids.length:=by omega
  conv=>whnf
  repeat ((first|(guard_target=_∧_;(fail_if_success refine oF ?_ ?_);(first|refine oL ?_|refine oR ?_)));(try intro _);conv=>whnf)
  refine RunsS.held tab (.fl 0 (.fl 1 (.fl 2 (.fl 3 (.fl 4 (.fl 5 (.fl 6 (.fl 7 (.fl 8 (.fl 9 (.e1 10 [] (.fl 11 .done)))))))))))) (by kernel_rfl) ?_;conv=>whnf
  (try refine gR ?_);conv=>whnf
  repeat ((first|(guard_target=_∧_;(fail_if_success refine oF ?_ ?_);(first|refine oL ?_|refine oR ?_|refine oB ?_)));(try intro _);conv=>whnf)
  (try refine gS ?_);conv=>whnf
  repeat ((first|(guard_target=_∧_;(fail_if_success refine oF ?_ ?_);(first|refine oL ?_|refine oR ?_)));(try intro _);conv=>whnf)
  refine ⟨_,rws_get hk,?_⟩;conv=>whnf
  try (refine And.intro (by first|omega|exact Nat.le_of_ble_eq_true rfl) ?_;(try intro _);conv=>whnf)
  (try refine gR ?_);conv=>whnf
  repeat ((first|(guard_target=_∧_;(fail_if_success refine oF ?_ ?_);(first|refine oL ?_|refine oR ?_|refine oB ?_)));(try intro _);conv=>whnf)
  (try refine gS ?_);conv=>whnf
  repeat ((first|(guard_target=_∧_;(fail_if_success refine oF ?_ ?_);(first|refine oL ?_|refine oR ?_)));(try intro _);conv=>whnf)
  refine ⟨_,rws_get hk2,?_⟩;conv=>whnf
  try (refine And.intro (by first|omega|exact Nat.le_of_ble_eq_true rfl) ?_;(try intro _);conv=>whnf)
  (try refine gR ?_);conv=>whnf
  repeat ((first|(guard_target=_∧_;(fail_if_success refine oF ?_ ?_);(first|refine oL ?_|refine oR ?_|refine oB ?_)));(try intro _);conv=>whnf)
  (try refine gS ?_);conv=>whnf
  repeat ((first|(guard_target=_∧_;(fail_if_success refine oF ?_ ?_);(first|refine oL ?_|refine oR ?_)));(try intro _);conv=>whnf)
  refine EffR.callT (Two.tok _ _ _ _ _) (⟨hT.1.below.f _ (List.getElem_mem hk),hT.2.below.f _ (List.getElem_mem hk2)⟩) (sConds_fn (a.forbids[k].hd.v a.forbids[k].cs.length) (b.forbids[k].hd.v b.forbids[k].cs.length) a.forbids[k].cs b.forbids[k].cs) [] ?_ sH ?CNa12
  case CNa12=>rfl
  intro _ _
  conv=>whnf
  try refine oB ?_
  (try refine gR ?_);conv=>whnf
  repeat ((first|(guard_target=_∧_;(fail_if_success refine oF ?_ ?_);(first|refine oL ?_|refine oR ?_|refine oB ?_)));(try intro _);conv=>whnf)
  (try refine gS ?_);conv=>whnf
  repeat ((first|(guard_target=_∧_;(fail_if_success refine oF ?_ ?_);(first|refine oL ?_|refine oR ?_)));(try intro _);conv=>whnf)
  by_cases hc:a.forbids[k].cs=b.forbids[k].cs
  ·rw [eqB_yes hc]
   conv=>whnf
   (try refine gS ?_);conv=>whnf
   repeat ((first|(guard_target=_∧_;(fail_if_success refine oF ?_ ?_);(first|refine oL ?_|refine oR ?_)));(try intro _);conv=>whnf)
   refine RunsS.subR [] (back (k+1) (by exact (⟨hk,more_by hk hk2 hJ.2 (FbV.bare_iff.2 hc)⟩)) (by (try dsimp only);omega)) sH sH
  rw [eqB_no hc]
  conv=>whnf
  (try refine gS ?_);conv=>whnf
  repeat ((first|(guard_target=_∧_;(fail_if_success refine oF ?_ ?_);(first|refine oL ?_|refine oR ?_)));(try intro _);conv=>whnf)
  rw [no fun e=>hc (FbV.bare_iff.1 (map_at (SrcV.of_bare e).2.2.2.2.2.1 hk hk2))]
  try refine RunsS.retU ?_
  try refine RunsS.finU ?_
  exact UnwS.ret tab Tryz.func13 rfl (eN () trivial)
 have eF:=map_all nF fun j h1 h2=>hJ.2 j (by omega) h1 h2
 clear back hJ
 conv=>whnf
 repeat ((first|(guard_target=_∧_;(fail_if_success refine oF ?_ ?_);(first|refine oL ?_|refine oR ?_)));(try intro _);conv=>whnf)
 refine RunsS.nameCell (fun _ x=>x) 0 6 (by exact hT.1.R) ?_
 conv=>whnf
 (try refine gS ?_);conv=>whnf
 repeat ((first|(guard_target=_∧_;(fail_if_success refine oF ?_ ?_);(first|refine oL ?_|refine oR ?_)));(try intro _);conv=>whnf)
 refine RunsS.nameCell (fun _ x=>x) 1 6 (by exact hT.2.R) ?_
 conv=>whnf
 (try refine gS ?_);conv=>whnf
 repeat ((first|(guard_target=_∧_;(fail_if_success refine oF ?_ ?_);(first|refine oL ?_|refine oR ?_)));(try intro _);conv=>whnf)
 refine RunsS.subR [] (RunsS.loop (fun (k:Nat)=>[(10,.v (.int .i64 k)),(2,.ptr 0 0),(3,.ptr 1 0)]) (fun (k:Nat)=>[(0,.cells 32 [.buf 2,.buf 4,.v vP,.buf 6,.buf 8,.buf 10,.buf 12,.v (.slice aaS a.swaps.length caS)]),(1,.cells 32 [.buf 3,.buf 5,.v wP,.buf 7,.buf 9,.buf 11,.buf 13,.v (.slice abS b.swaps.length cbS)]),(12,.ro 17 (rws RcV.row a.recipes)),(13,.ro 17 (rws RcV.row b.recipes))]) 14 (fun (k:Nat)=>k≤a.recipes.length ∧ ∀j (_:j<k) (ha:j<a.recipes.length) (hb:j<b.recipes.length),RcV.bare a.recipes[j]=RcV.bare b.recipes[j]) (fun (k:Nat)=>a.recipes.length - k) ?round14 (0) ?J014) sH sH
 case J014=>exact (⟨Nat.zero_le _,fun j hj=>absurd hj (Nat.not_lt_zero _)⟩)
 rintro k hJ back
 try dsimp only at hJ back
 conv=>whnf
 try dsimp only
 refine gS ?_;conv=>whnf
 repeat ((first|(guard_target=_∧_;(fail_if_success refine oF ?_ ?_);(first|refine oL ?_|refine oR ?_)));(try intro _);conv=>whnf)
 refine ⟨fun hk=>?_,fun hk=>?_⟩<;>conv=>whnf
 ·have hk:k<a.recipes.length:=by omega
  have hk2:k<b.recipes.length:=by omega
  conv=>whnf
  repeat ((first|(guard_target=_∧_;(fail_if_success refine oF ?_ ?_);(first|refine oL ?_|refine oR ?_)));(try intro _);conv=>whnf)
  refine RunsS.held tab (.fl 0 (.fl 1 (.fl 2 (.fl 3 (.fl 4 (.fl 5 (.fl 6 (.fl 7 (.fl 8 (.fl 9 (.e1 10 [] (.fl 11 .done)))))))))))) (by kernel_rfl) ?_;conv=>whnf
  (try refine gR ?_);conv=>whnf
  repeat ((first|(guard_target=_∧_;(fail_if_success refine oF ?_ ?_);(first|refine oL ?_|refine oR ?_|refine oB ?_)));(try intro _);conv=>whnf)
  (try refine gS ?_);conv=>whnf
  repeat ((first|(guard_target=_∧_;(fail_if_success refine oF ?_ ?_);(first|refine oL ?_|refine oR ?_)));(try intro _);conv=>whnf)
  refine ⟨_,rws_get hk,?_⟩;conv=>whnf
  try (refine And.intro (by first|omega|exact Nat.le_of_ble_eq_true rfl) ?_;(try intro _);conv=>whnf)
  (try refine gR ?_);conv=>whnf
  repeat ((first|(guard_target=_∧_;(fail_if_success refine oF ?_ ?_);(first|refine oL ?_|refine oR ?_|refine oB ?_)));(try intro _);conv=>whnf)
  (try refine gS ?_);conv=>whnf
  repeat ((first|(guard_target=_∧_;(fail_if_success refine oF ?_ ?_);(first|refine oL ?_|refine oR ?_)));(try intro _);conv=>whnf)
  refine ⟨_,rws_get hk2,?_⟩;conv=>whnf
  try (refine And.intro (by first|omega|exact Nat.le_of_ble_eq_true rfl) ?_;(try intro _);conv=>whnf)
  (try refine gR ?_);conv=>whnf
  repeat ((first|(guard_target=_∧_;(fail_if_success refine oF ?_ ?_);(first|refine oL ?_|refine oR ?_|refine oB ?_)));(try intro _);conv=>whnf)
  (try refine gS ?_);conv=>whnf
  repeat ((first|(guard_target=_∧_;(fail_if_success refine oF ?_ ?_);(first|refine oL ?_|refine oR ?_)));(try intro _);conv=>whnf)
  refine EffR.callT (TwoR.tok _ _) (⟨hT.1.below.r _ (List.getElem_mem hk),hT.2.below.r _ (List.getElem_mem hk2)⟩) (sRc_fn a.recipes[k] b.recipes[k]) [] ?_ sH ?CNa15
  case CNa15=>rfl
  intro _ _
  conv=>whnf
  try refine oB ?_
  (try refine gR ?_);conv=>whnf
  repeat ((first|(guard_target=_∧_;(fail_if_success refine oF ?_ ?_);(first|refine oL ?_|refine oR ?_|refine oB ?_)));(try intro _);conv=>whnf)
  (try refine gS ?_);conv=>whnf
  repeat ((first|(guard_target=_∧_;(fail_if_success refine oF ?_ ?_);(first|refine oL ?_|refine oR ?_)));(try intro _);conv=>whnf)
  by_cases hc:a.recipes[k].bare=b.recipes[k].bare
  ·rw [eqB_yes hc]
   conv=>whnf
   (try refine gS ?_);conv=>whnf
   repeat ((first|(guard_target=_∧_;(fail_if_success refine oF ?_ ?_);(first|refine oL ?_|refine oR ?_)));(try intro _);conv=>whnf)
   refine RunsS.subR [] (back (k+1) (by exact (⟨hk,more_by hk hk2 hJ.2 hc⟩)) (by (try dsimp only);omega)) sH sH
  rw [eqB_no hc]
  conv=>whnf
  (try refine gS ?_);conv=>whnf
  repeat ((first|(guard_target=_∧_;(fail_if_success refine oF ?_ ?_);(first|refine oL ?_|refine oR ?_)));(try intro _);conv=>whnf)
  rw [no fun e=>hc (map_at (SrcV.of_bare e).2.2.2.2.2.2.1 hk hk2)]
  try refine RunsS.retU ?_
  try refine RunsS.finU ?_
  exact UnwS.ret tab Tryz.func13 rfl (eN () trivial)
 have eR:=map_all nR fun j h1 h2=>hJ.2 j (by omega) h1 h2
 clear back hJ
 conv=>whnf
 repeat ((first|(guard_target=_∧_;(fail_if_success refine oF ?_ ?_);(first|refine oL ?_|refine oR ?_)));(try intro _);conv=>whnf)
 refine RunsS.nameCell (fun _ x=>x) 0 7 (by exact hT.1.S) ?_
 conv=>whnf
 (try refine gS ?_);conv=>whnf
 repeat ((first|(guard_target=_∧_;(fail_if_success refine oF ?_ ?_);(first|refine oL ?_|refine oR ?_)));(try intro _);conv=>whnf)
 refine RunsS.nameCell (fun _ x=>x) 1 7 (by exact hT.2.S) ?_
 conv=>whnf
 (try refine gS ?_);conv=>whnf
 repeat ((first|(guard_target=_∧_;(fail_if_success refine oF ?_ ?_);(first|refine oL ?_|refine oR ?_)));(try intro _);conv=>whnf)
 refine RunsS.subR [] (RunsS.loop (fun (k:Nat)=>[(11,.v (.int .i64 k)),(2,.ptr 0 0),(3,.ptr 1 0)]) (fun (k:Nat)=>[(0,.cells 32 [.buf 2,.buf 4,.v vP,.buf 6,.buf 8,.buf 10,.buf 12,.buf 14]),(1,.cells 32 [.buf 3,.buf 5,.v wP,.buf 7,.buf 9,.buf 11,.buf 13,.buf 15]),(14,.ro 4 (rws Sw.row a.swaps)),(15,.ro 4 (rws Sw.row b.swaps))]) 16 (fun (k:Nat)=>k≤a.swaps.length ∧ ∀j (_:j<k) (ha:j<a.swaps.length) (hb:j<b.swaps.length),a.swaps[j]=b.swaps[j]) (fun (k:Nat)=>a.swaps.length - k) ?round17 (0) ?J017) sH sH
 case J017=>exact (⟨Nat.zero_le _,fun j hj=>absurd hj (Nat.not_lt_zero _)⟩)
 rintro k hJ back
 try dsimp only at hJ back
 conv=>whnf
 try dsimp only
 refine gS ?_;conv=>whnf
 repeat ((first|(guard_target=_∧_;(fail_if_success refine oF ?_ ?_);(first|refine oL ?_|refine oR ?_)));(try intro _);conv=>whnf)
 refine ⟨fun hk=>?_,fun hk=>?_⟩<;>conv=>whnf
 ·have hk:k<a.swaps.length:=by omega
  have hk2:k<b.swaps.length:=by omega
  conv=>whnf
  repeat ((first|(guard_target=_∧_;(fail_if_success refine oF ?_ ?_);(first|refine oL ?_|refine oR ?_)));(try intro _);conv=>whnf)
  refine RunsS.held tab (.fl 0 (.fl 1 (.fl 2 (.fl 3 (.fl 4 (.fl 5 (.fl 6 (.fl 7 (.fl 8 (.fl 9 (.fl 10 .done))))))))))) (by kernel_rfl) ?_;conv=>whnf
  (try refine gR ?_);conv=>whnf
  repeat ((first|(guard_target=_∧_;(fail_if_success refine oF ?_ ?_);(first|refine oL ?_|refine oR ?_|refine oB ?_)));(try intro _);conv=>whnf)
  (try refine gS ?_);conv=>whnf
  repeat ((first|(guard_target=_∧_;(fail_if_success refine oF ?_ ?_);(first|refine oL ?_|refine oR ?_)));(try intro _);conv=>whnf)
  refine ⟨_,rws_get hk,?_⟩;conv=>whnf
  try (refine And.intro (by first|omega|exact Nat.le_of_ble_eq_true rfl) ?_;(try intro _);conv=>whnf)
  (try refine gR ?_);conv=>whnf
  repeat ((first|(guard_target=_∧_;(fail_if_success refine oF ?_ ?_);(first|refine oL ?_|refine oR ?_|refine oB ?_)));(try intro _);conv=>whnf)
  (try refine gS ?_);conv=>whnf
  repeat ((first|(guard_target=_∧_;(fail_if_success refine oF ?_ ?_);(first|refine oL ?_|refine oR ?_)));(try intro _);conv=>whnf)
  refine ⟨_,rws_get hk2,?_⟩;conv=>whnf
  try (refine And.intro (by first|omega|exact Nat.le_of_ble_eq_true rfl) ?_;(try intro _);conv=>whnf)
  (try refine gR ?_);conv=>whnf
  repeat ((first|(guard_target=_∧_;(fail_if_success refine oF ?_ ?_);(first|refine oL ?_|refine oR ?_|refine oB ?_)));(try intro _);conv=>whnf)
  (try refine gS ?_);conv=>whnf
  repeat ((first|(guard_target=_∧_;(fail_if_success refine oF ?_ ?_);(first|refine oL ?_|refine oR ?_)));(try intro _);conv=>whnf)
  refine ⟨fun hs=>?_,fun hs=>?_⟩<;>conv=>whnf
  ·try refine gR ?_
   conv=>whnf
   repeat ((first|(guard_target=_∧_;(fail_if_success refine oF ?_ ?_);(first|refine oL ?_|refine oR ?_|refine oB ?_)));(try intro _);conv=>whnf)
   (try refine gS ?_);conv=>whnf
   repeat ((first|(guard_target=_∧_;(fail_if_success refine oF ?_ ?_);(first|refine oL ?_|refine oR ?_)));(try intro _);conv=>whnf)
   refine RunsS.subR [] (back (k+1) (by exact (⟨hk,more_at hk hk2 hJ.2 (Sw.ext_iff'.2 hs)⟩)) (by (try dsimp only);omega)) sH sH
  (try refine gR ?_);conv=>whnf
  repeat ((first|(guard_target=_∧_;(fail_if_success refine oF ?_ ?_);(first|refine oL ?_|refine oR ?_|refine oB ?_)));(try intro _);conv=>whnf)
  (try refine gS ?_);conv=>whnf
  repeat ((first|(guard_target=_∧_;(fail_if_success refine oF ?_ ?_);(first|refine oL ?_|refine oR ?_)));(try intro _);conv=>whnf)
  rw [no fun e=>hs (Sw.ext_iff'.1 (at_eq ((SrcV.of_bare e).2.2.2.2.2.2.2) hk hk2))]
  try refine RunsS.retU ?_
  try refine RunsS.finU ?_
  exact UnwS.ret tab Tryz.func13 rfl (eN () trivial)
 have eS:=all_at nS fun j h1 h2=>hJ.2 j (by omega) h1 h2
 clear back hJ
 conv=>whnf
 repeat ((first|(guard_target=_∧_;(fail_if_success refine oF ?_ ?_);(first|refine oL ?_|refine oR ?_)));(try intro _);conv=>whnf)
 have:r=true:=by rw [hr];exact eqB_yes (SrcV.bare_mk eU eI eP eM eO eF eR eS)
 rw [this]
 try refine RunsS.retU ?_
 try refine RunsS.finU ?_
 exact UnwS.ret tab Tryz.func13 rfl (eN () trivial)
end
end Go.Proofs.YtgbeechjghajcaaGreatDoor

namespace Go.SrcM
open Go Go.Fw Go.RatM
section
variable {α:Type} {f:α→Nat} {l:List α}
def sumK (f:α→Nat) (l:List α) (k:Nat):Nat:=((l.take k).map f).sum
theorem sumK_succ {k:Nat} (hk:k<l.length):sumK f l (k+1)=sumK f l k+f l[k]:=by
 unfold sumK
 rw [take_snoc hk,List.map_append,List.sum_append];simp
theorem sumK_le (k:Nat):sumK f l k≤(l.map f).sum:=by
 have e:(l.map f).sum=((l.take k).map f).sum+((l.drop k).map f).sum:=by rw [←List.sum_append,←List.map_append,List.take_append_drop]
 unfold sumK;omega
end
end Go.SrcM
namespace Go.Proofs.YtgbeechjghajcaaGreatDoor
open Go Go.Fw Go.NatM Go.RatM Go.SrcM
set_option maxRecDepth 100000
set_option maxHeartbeats 99999999
end Go.Proofs.YtgbeechjghajcaaGreatDoor

namespace Go.Proofs.YtgbeechjghajcaaGreatDoor
open Go Go.Fw Go.NatM Go.RatM Go.SrcM Go.SynM
set_option maxRecDepth 100000
set_option maxHeartbeats 99999999
def ptRow:Pt→List Value
 | .w l=>[.iface 157 (.string (B l))]
 | .s x=>[.iface 9 (.string x)]
 | .n i=>[.iface 3 (.int .i64 i)]
abbrev Ac:=List Tok×Bool
def acc (x:Ac) (p:Pr):Ac:=(x.1++tokPs NmP p.l,x.2 || !(okPs NmP p.l&&p.ok))
theorem acc_add (x:Ac) (p q:Pr):acc (acc x p) q=acc x (p.add q):=by
 unfold acc Pr.add
 simp only [tokPs_app,List.append_assoc,Prod.mk.injEq,true_and]
 have:okPs NmP (p.l++q.l)=(okPs NmP p.l&&okPs NmP q.l):=by simp [okPs]
 rw [this]
 cases x.2<;>cases okPs NmP p.l<;>cases okPs NmP q.l<;>cases p.ok<;>cases q.ok<;>rfl
theorem acc_nil (x:Ac):acc x Pr.nil=x:=by
 unfold acc Pr.nil
 simp [tokPs,okPs]
abbrev prB (b:Bool) (n:Nat):Nat×Fw.Blk:=(0,.cells 91 [.buf n,.v (.bool b)])
def outY (n:Nat) (y:Ac):OutS:=.ret (.tup []) (n+1) [prB y.2 n,toksB y.1 n]
theorem wordT:Tryz.prog.underlying 157=some .string:=by kernel_rfl
theorem intT:Tryz.prog.underlying 3=some (.int .i64):=by kernel_rfl
theorem wordZ (w:World):(zeroValue 157).run Tryz.prog w=.ok (.string ⟨#[]⟩) w:=by kernel_rfl
theorem strZ (w:World):(zeroValue 9).run Tryz.prog w=.ok (.string ⟨#[]⟩) w:=by kernel_rfl
theorem stT2:Tryz.prog.underlying 9=some .string:=by kernel_rfl
theorem acc_len (x:Ac) (p:Pr):(acc x p).1.length=x.1.length+p.l.length:=by simp [acc,tokPs]
theorem acc_eq {x:Ac} {p q:Pr} (h1:p.l=q.l) (h2:p.ok=q.ok):acc x p=acc x q:=by unfold acc;rw [h1,h2]
theorem acc_need (x:Ac) (b:Bool):(x.1,x.2 || !b)=acc x ⟨[],b⟩:=by simp [acc,tokPs,okPs]
theorem pneed_fn (x:Ac) (c:Bool):FnS Tryz.prog 146 2 [.ptr 0 0,.v (.bool c)] [prB x.2 1,toksB x.1 1] (fun y=>y=acc x ⟨[],c⟩) (fun y=>.ret (.tup []) 2 [prB y.2 1,toksB y.1 1]):=by
 obtain ⟨x,b⟩:=x
 refine FnS.of Tryz.func146 (by kernel_rfl) rfl Tryz.ntmps146 rfl fun E0 F h w0 cs=>?_
 conv=>whnf
 refine gS ?_;conv=>whnf
 repeat ((first|(guard_target=_∧_;(first|refine oL ?_|refine oR ?_))|(guard_target=Exists _;refine oM ?_));(try intro _);conv=>whnf)
 cases b
 ·cases c
  ·try refine gS ?_
   conv=>whnf
   repeat ((first|(guard_target=_∧_;(first|refine oL ?_|refine oR ?_))|(guard_target=Exists _;refine oM ?_));(try intro _);conv=>whnf)
   try refine RunsS.retU ?_
   try refine RunsS.finU ?_
   exact UnwS.ret tab Tryz.func146 rfl (EndS.mk ((x,true)) (acc_need (x,false) false) [] sH rfl rfl (okRet rfl rfl))
  (try refine gS ?_);conv=>whnf
  repeat ((first|(guard_target=_∧_;(first|refine oL ?_|refine oR ?_))|(guard_target=Exists _;refine oM ?_));(try intro _);conv=>whnf)
  try refine RunsS.retU ?_
  try refine RunsS.finU ?_
  exact UnwS.ret tab Tryz.func146 rfl (EndS.mk ((x,false)) (acc_need (x,false) true) [] sH rfl rfl (okRet rfl rfl))
 (try refine gS ?_);conv=>whnf
 repeat ((first|(guard_target=_∧_;(first|refine oL ?_|refine oR ?_))|(guard_target=Exists _;refine oM ?_));(try intro _);conv=>whnf)
 try refine RunsS.retU ?_
 try refine RunsS.finU ?_
 exact UnwS.ret tab Tryz.func146 rfl (EndS.mk ((x,true)) (acc_need (x,true) c) [] sH rfl rfl (okRet rfl rfl))
theorem padd_fn (x:Ac) (ps:List Pt) (hl:x.1.length+ps.length≤1000000):FnS Tryz.prog 93 3 [.ptr 0 0,.buf 2] [prB x.2 1,toksB x.1 1,(2,.own 20 1 (rws ptRow ps))] (fun y=>y=acc x ⟨ps,true⟩) (outY 3):=by
 have lp:=rws_len ptRow ps
 refine FnS.of Tryz.func93 (by kernel_rfl) rfl Tryz.ntmps93 rfl fun E0 F h w0 cs=>?_
 conv=>whnf
 refine gS ?_;conv=>whnf
 repeat ((first|(guard_target=_∧_;(first|refine oL ?_|refine oR ?_))|(guard_target=Exists _;refine oM ?_));(try intro _);conv=>whnf)
 refine RunsS.subR (nx':=4) (l':=[(0,.ptr 0 0),(10,.buf 2),(11,.v (.int .i64 (rws ptRow ps).length)),(12,.v (.int .i64 0))]) (H':=[prB x.2 3,toksB x.1 3,(2,.own 20 1 (rws ptRow ps))]) [(3,1)] ?_ sH sH
 refine RunsS.subR [] (RunsS.loop (fun (⟨i,y⟩:Nat×Ac)=>[(0,.ptr 0 0),(10,.buf 2),(11,.v (.int .i64 (rws ptRow ps).length)),(12,.v (.int .i64 i))]) (fun (⟨i,y⟩:Nat×Ac)=>[prB y.2 3,toksB y.1 3,(2,.own 20 1 (rws ptRow ps))]) 4 (fun (⟨i,y⟩:Nat×Ac)=>i≤ps.length∧y=acc x ⟨ps.take i,true⟩) (fun (⟨i,y⟩:Nat×Ac)=>ps.length - i) ?round1 ((0,x)) ?J01) sH sH
 case J01=>exact (⟨Nat.zero_le _,(acc_nil x).symm⟩)
 rintro ⟨i,y⟩ hJ back
 try dsimp only at hJ back
 conv=>whnf
 try dsimp only
 refine gS ?_;conv=>whnf
 repeat ((first|(guard_target=_∧_;(first|refine oL ?_|refine oR ?_))|(guard_target=Exists _;refine oM ?_));(try intro _);conv=>whnf)
 obtain ⟨hi,hJ⟩:=hJ
 refine ⟨fun hk=>?_,fun hk=>?_⟩<;>conv=>whnf
 ·have hk:i<ps.length:=by omega
  conv=>whnf
  repeat ((first|(guard_target=_∧_;(first|refine oL ?_|refine oR ?_))|(guard_target=Exists _;refine oM ?_));(try intro _);conv=>whnf)
  refine ⟨_,rws_get hk,?_⟩;conv=>whnf
  try (refine oN ?_;conv=>whnf)
  repeat ((first|(guard_target=_∧_;(first|refine oL ?_|refine oR ?_))|(guard_target=Exists _;refine oM ?_));(try intro _);conv=>whnf)
  have hd:ps.take (i+1)=ps.take i++[ps[i]]:=by rw [List.take_add_one,List.getElem?_eq_getElem hk];rfl
  have hy:∀p,p=ps[i]→acc x ⟨ps.take (i+1),true⟩=(y.1++[p.tok NmP],y.2 || !(p.ok NmP)):=fun p hp=>by
   subst hp
   rw [hJ,hd]
   exact (acc_add x ⟨ps.take i,true⟩ ⟨[ps[i]],true⟩).symm.trans (by simp [acc,tokPs,okPs])
  have hm:y.1.length+1≤1000000:=by
   rw [hJ]
   simp only [acc,tokPs,List.length_append,List.length_map,List.length_take]
   omega
  cases hp:ps[i] with
  |w t=>
   have hy:=hy _ hp.symm
   conv=>whnf
   refine RunsS.effV (fun E h=>eff_assert wordT (fun _ e=>by cases e)) ?_
   (try refine gS ?_);conv=>whnf
   repeat ((first|(guard_target=_∧_;(first|refine oL ?_|refine oR ?_))|(guard_target=Exists _;refine oM ?_));(try intro _);conv=>whnf)
   by_cases hn:NameP (B t)
   ·refine RunsS.callV (fun Ez Hz Az Sz K=>Name_fn (B t)) ?_
    conv=>whnf
    rw [decide_eq_true hn]
    try dsimp only
    (try refine gS ?_);conv=>whnf
    repeat ((first|(guard_target=_∧_;(first|refine oL ?_|refine oR ?_))|(guard_target=Exists _;refine oM ?_));(try intro _);conv=>whnf)
    refine And.intro (appOb (by rw [List.length_map];omega)) ?_;conv=>whnf
    (try refine gS ?_);conv=>whnf
    repeat ((first|(guard_target=_∧_;(first|refine oL ?_|refine oR ?_))|(guard_target=Exists _;refine oM ?_));(try intro _);conv=>whnf)
    refine RunsS.rowsEq (5) (app_row y.1 1 0 (B t) 0) ?_;conv=>whnf
    refine RunsS.subR [(3,5)] (back ((i+1,(y.1++[⟨1,0,B t,0⟩],y.2))) (by exact (⟨hk,(by rw [hy];show _=(y.1++[(⟨if NmP (B t) then 1 else 3,0,B t,0⟩:Tok)],y.2 || !true);rw [if_pos (show NmP (B t) from hn)];simp)⟩)) (by (try dsimp only);omega)) sH sH
   refine RunsS.callV (fun Ez Hz Az Sz K=>Name_fn (B t)) ?_
   conv=>whnf
   rw [decide_eq_false hn]
   try dsimp only
   (try refine gS ?_);conv=>whnf
   repeat ((first|(guard_target=_∧_;(first|refine oL ?_|refine oR ?_))|(guard_target=Exists _;refine oM ?_));(try intro _);conv=>whnf)
   refine And.intro (appOb (by rw [List.length_map];omega)) ?_;conv=>whnf
   (try refine gS ?_);conv=>whnf
   repeat ((first|(guard_target=_∧_;(first|refine oL ?_|refine oR ?_))|(guard_target=Exists _;refine oM ?_));(try intro _);conv=>whnf)
   refine RunsS.rowsEq (5) (app_row y.1 3 0 (B t) 0) ?_;conv=>whnf
   refine RunsS.subR [(3,5)] (back ((i+1,(y.1++[⟨3,0,B t,0⟩],y.2))) (by exact (⟨hk,(by rw [hy];show _=(y.1++[(⟨if NmP (B t) then 1 else 3,0,B t,0⟩:Tok)],y.2 || !true);rw [if_neg (show ¬NmP (B t) from hn)];simp)⟩)) (by (try dsimp only);omega)) sH sH
  |s t=>
   have hy:=hy _ hp.symm
   conv=>whnf
   refine RunsS.effV (fun E h=>eff_assertNo wordT (fun _ e=>by cases e) wordZ (t':=9) (by decide)) ?_
   (try refine gS ?_);conv=>whnf
   repeat ((first|(guard_target=_∧_;(first|refine oL ?_|refine oR ?_))|(guard_target=Exists _;refine oM ?_));(try intro _);conv=>whnf)
   refine RunsS.effV (fun E h=>eff_assert stT2 (fun _ e=>by cases e)) ?_
   (try refine gS ?_);conv=>whnf
   repeat ((first|(guard_target=_∧_;(first|refine oL ?_|refine oR ?_))|(guard_target=Exists _;refine oM ?_));(try intro _);conv=>whnf)
   refine RunsS.callV (fun Ez Hz Az Sz K=>Name_fn t) ?_
   conv=>whnf
   (try refine gS ?_);conv=>whnf
   repeat ((first|(guard_target=_∧_;(first|refine oL ?_|refine oR ?_))|(guard_target=Exists _;refine oM ?_));(try intro _);conv=>whnf)
   refine RunsS.callN (pneed_fn y (decide (NameP t))) [0,3] ?_ sH ?CNa4
   case CNa4=>rfl
   rintro z hz<;>conv=>whnf
   have lz:z.1.length=y.1.length:=by rw [hz,acc_len];rfl
   refine RunsS.subR (nx':=4) (l':=[(0,.ptr 0 0),(10,.buf 2),(11,.v (.int .i64 (rws ptRow ps).length)),(12,.v (.int .i64 i)),(8,.v (.string t))]) (H':=[prB z.2 3,toksB z.1 3,(2,.own 20 1 (rws ptRow ps))]) [] ?_ sH sH
   (try refine gS ?_);conv=>whnf
   repeat ((first|(guard_target=_∧_;(first|refine oL ?_|refine oR ?_))|(guard_target=Exists _;refine oM ?_));(try intro _);conv=>whnf)
   rw [←acc_need] at hz
   have z1:z.1=y.1:=by rw [hz]
   refine And.intro (appOb (by rw [List.length_map,z1];omega)) ?_;conv=>whnf
   (try refine gS ?_);conv=>whnf
   repeat ((first|(guard_target=_∧_;(first|refine oL ?_|refine oR ?_))|(guard_target=Exists _;refine oM ?_));(try intro _);conv=>whnf)
   refine RunsS.rowsEq (5) (app_row z.1 1 0 t 0) ?_;conv=>whnf
   refine RunsS.subR [(3,5)] (back ((i+1,(z.1++[⟨1,0,t,0⟩],z.2))) (by exact (⟨hk,by rw [hy,hz];rfl⟩)) (by (try dsimp only);omega)) sH sH
  |n t=>
   have hy:=hy _ hp.symm
   conv=>whnf
   refine RunsS.effV (fun E h=>eff_assertNo wordT (fun _ e=>by cases e) wordZ (t':=3) (by decide)) ?_
   (try refine gS ?_);conv=>whnf
   repeat ((first|(guard_target=_∧_;(first|refine oL ?_|refine oR ?_))|(guard_target=Exists _;refine oM ?_));(try intro _);conv=>whnf)
   refine RunsS.effV (fun E h=>eff_assertNo stT2 (fun _ e=>by cases e) strZ (t':=3) (by decide)) ?_
   (try refine gS ?_);conv=>whnf
   repeat ((first|(guard_target=_∧_;(first|refine oL ?_|refine oR ?_))|(guard_target=Exists _;refine oM ?_));(try intro _);conv=>whnf)
   refine RunsS.effV (fun E h=>eff_assert intT (fun _ e=>by cases e)) ?_
   (try refine gS ?_);conv=>whnf
   repeat ((first|(guard_target=_∧_;(first|refine oL ?_|refine oR ?_))|(guard_target=Exists _;refine oM ?_));(try intro _);conv=>whnf)
   by_cases h0:0≤t
   ·refine ⟨fun _=>?_,fun h=>absurd h0 h⟩
    conv=>whnf
    (try refine gS ?_);conv=>whnf
    repeat ((first|(guard_target=_∧_;(first|refine oL ?_|refine oR ?_))|(guard_target=Exists _;refine oM ?_));(try intro _);conv=>whnf)
    refine RunsS.callN (pneed_fn y (decide (t≤1048576))) [0,3] ?_ sH ?CNa6
    case CNa6=>rfl
    rintro z hz<;>conv=>whnf
    have lz:z.1.length=y.1.length:=by rw [hz,acc_len];rfl
    refine RunsS.subR (nx':=4) (l':=[(0,.ptr 0 0),(10,.buf 2),(11,.v (.int .i64 (rws ptRow ps).length)),(12,.v (.int .i64 i)),(9,.v (.int .i64 t))]) (H':=[prB z.2 3,toksB z.1 3,(2,.own 20 1 (rws ptRow ps))]) [] ?_ sH sH
    (try refine gS ?_);conv=>whnf
    repeat ((first|(guard_target=_∧_;(first|refine oL ?_|refine oR ?_))|(guard_target=Exists _;refine oM ?_));(try intro _);conv=>whnf)
    rw [←acc_need] at hz
    have z1:z.1=y.1:=by rw [hz]
    refine And.intro (appOb (by rw [List.length_map,z1];omega)) ?_;conv=>whnf
    (try refine gS ?_);conv=>whnf
    repeat ((first|(guard_target=_∧_;(first|refine oL ?_|refine oR ?_))|(guard_target=Exists _;refine oM ?_));(try intro _);conv=>whnf)
    refine RunsS.rowsEq (5) (app_row z.1 2 0 ⟨#[]⟩ t) ?_;conv=>whnf
    refine RunsS.subR [(3,5)] (back ((i+1,(z.1++[⟨2,0,⟨#[]⟩,t⟩],z.2))) (by exact (⟨hk,(by rw [hy,hz];simp [Pt.ok,Pt.tok,okV,tn,h0])⟩)) (by (try dsimp only);omega)) sH sH
   refine ⟨fun h=>absurd h h0,fun _=>?_⟩
   conv=>whnf
   (try refine gS ?_);conv=>whnf
   repeat ((first|(guard_target=_∧_;(first|refine oL ?_|refine oR ?_))|(guard_target=Exists _;refine oM ?_));(try intro _);conv=>whnf)
   refine RunsS.callN (pneed_fn y (false)) [0,3] ?_ sH ?CNa8
   case CNa8=>rfl
   rintro z hz<;>conv=>whnf
   have lz:z.1.length=y.1.length:=by rw [hz,acc_len];rfl
   refine RunsS.subR (nx':=4) (l':=[(0,.ptr 0 0),(10,.buf 2),(11,.v (.int .i64 (rws ptRow ps).length)),(12,.v (.int .i64 i)),(9,.v (.int .i64 t))]) (H':=[prB z.2 3,toksB z.1 3,(2,.own 20 1 (rws ptRow ps))]) [] ?_ sH sH
   (try refine gS ?_);conv=>whnf
   repeat ((first|(guard_target=_∧_;(first|refine oL ?_|refine oR ?_))|(guard_target=Exists _;refine oM ?_));(try intro _);conv=>whnf)
   rw [←acc_need] at hz
   have z1:z.1=y.1:=by rw [hz]
   refine And.intro (appOb (by rw [List.length_map,z1];omega)) ?_;conv=>whnf
   (try refine gS ?_);conv=>whnf
   repeat ((first|(guard_target=_∧_;(first|refine oL ?_|refine oR ?_))|(guard_target=Exists _;refine oM ?_));(try intro _);conv=>whnf)
   refine RunsS.rowsEq (5) (app_row z.1 2 0 ⟨#[]⟩ t) ?_;conv=>whnf
   refine RunsS.subR [(3,5)] (back ((i+1,(z.1++[⟨2,0,⟨#[]⟩,t⟩],z.2))) (by exact (⟨hk,(by rw [hy,hz];simp [Pt.ok,Pt.tok,okV,tn,h0])⟩)) (by (try dsimp only);omega)) sH sH
 (try refine gS ?_);conv=>whnf
 repeat ((first|(guard_target=_∧_;(first|refine oL ?_|refine oR ?_))|(guard_target=Exists _;refine oM ?_));(try intro _);conv=>whnf)
 try refine RunsS.retU ?_
 try refine RunsS.finU ?_
 exact UnwS.ret tab Tryz.func93 rfl (EndS.mk (y) ((by rw [hJ,List.take_of_length_le (by omega)])) [] sH rfl rfl (okRet rfl rfl))

theorem pam_fn (x:Ac) (a:Am) (hl:x.1.length+6≤1000000):FnS Tryz.prog 147 2 [.ptr 0 0,.agg (toV a.row)] [prB x.2 1,toksB x.1 1] (fun y=>y=acc x ⟨amPt a,true⟩) (outY 2):=by
 refine FnS.of Tryz.func147 (by kernel_rfl) rfl Tryz.ntmps147 rfl fun E0 F h w0 cs=>?_
 conv=>whnf
 refine gS ?_;conv=>whnf
 repeat ((first|(guard_target=_∧_;(first|refine oL ?_|refine oR ?_))|(guard_target=Exists _;refine oM ?_));(try intro _);conv=>whnf)
 refine RunsS.callN (padd_fn x [.n a.n,wS 47,.n a.d,.s a.unit,.s a.item,wS 59] (by show x.1.length+6≤_;omega)) [0,1,3] ?_ sH ?CNa1
 case CNa1=>rfl
 rintro y hy<;>conv=>whnf
 have ly:y.1.length=x.1.length+6:=by rw [hy,acc_len];rfl
 refine RunsS.subR (nx':=4) (l':=[(0,.ptr 0 0)]) (H':=[prB y.2 3,toksB y.1 3]) [(3,4)] ?_ sH sH
 (try refine gS ?_);conv=>whnf
 repeat ((first|(guard_target=_∧_;(first|refine oL ?_|refine oR ?_))|(guard_target=Exists _;refine oM ?_));(try intro _);conv=>whnf)
 try refine RunsS.retU ?_
 try refine RunsS.finU ?_
 exact UnwS.ret tab Tryz.func147 rfl (EndS.mk (y) (hy) [(2,3)] sH rfl rfl (okRet rfl rfl))
theorem punitP_fn (x:Ac) (u:Un) (hl:x.1.length+8≤1000000):FnS Tryz.prog 91 2 [.ptr 0 0,.agg (toV u.row)] [prB x.2 1,toksB x.1 1] (fun y=>y=acc x (unitPr u)) (outY 2):=by
 refine FnS.of Tryz.func91 (by kernel_rfl) rfl Tryz.ntmps91 rfl fun E0 F h w0 cs=>?_
 conv=>whnf
 refine gS ?_;conv=>whnf
 repeat ((first|(guard_target=_∧_;(first|refine oL ?_|refine oR ?_))|(guard_target=Exists _;refine oM ?_));(try intro _);conv=>whnf)
 refine RunsS.callN (padd_fn x [.w wUnit,.s u.name] (by show x.1.length+2≤_;omega)) [0,1,3] ?_ sH ?CNa2
 case CNa2=>rfl
 rintro y hy<;>conv=>whnf
 have ly:y.1.length=x.1.length+2:=by rw [hy,acc_len];rfl
 refine RunsS.subR (nx':=4) (l':=[(0,.ptr 0 0),(3,.ptr 2 0)]) (H':=[prB y.2 3,toksB y.1 3,(2,.cells 81 (toV u.row))]) [(3,4)] ?_ sH sH
 (try refine gS ?_);conv=>whnf
 repeat ((first|(guard_target=_∧_;(first|refine oL ?_|refine oR ?_))|(guard_target=Exists _;refine oM ?_));(try intro _);conv=>whnf)
 refine ⟨fun h0=>?_,fun h0=>?_⟩<;>conv=>whnf
 ·have eo:unitPr u=⟨[.w wUnit,.s u.name,wS 59],decide (u.n=0∧u.d=0)⟩:=by unfold unitPr;rw [if_pos h0]
  by_cases h1:u.n=0
  ·refine And.intro (fun _=>?_) (fun hn=>absurd (h1) hn)
   conv=>whnf
   (try refine gS ?_);conv=>whnf
   repeat ((first|(guard_target=_∧_;(first|refine oL ?_|refine oR ?_))|(guard_target=Exists _;refine oM ?_));(try intro _);conv=>whnf)
   refine RunsS.callN (pneed_fn y (decide (u.d=0))) [0,3] ?_ sH ?CNa3
   case CNa3=>rfl
   rintro z hz<;>conv=>whnf
   have lz:z.1.length=y.1.length:=by rw [hz,acc_len];rfl
   refine RunsS.subR (nx':=4) (l':=[(0,.ptr 0 0)]) (H':=[prB z.2 3,toksB z.1 3]) [] ?_ sH sH
   (try refine gS ?_);conv=>whnf
   repeat ((first|(guard_target=_∧_;(first|refine oL ?_|refine oR ?_))|(guard_target=Exists _;refine oM ?_));(try intro _);conv=>whnf)
   refine RunsS.callN (padd_fn z [wS 59] (by show z.1.length+1≤_;omega)) [0,3,4] ?_ sH ?CNa4
   case CNa4=>rfl
   rintro w hw<;>conv=>whnf
   have lw:w.1.length=z.1.length+1:=by rw [hw,acc_len];rfl
   refine RunsS.subR (nx':=4) (l':=[(0,.ptr 0 0)]) (H':=[prB w.2 3,toksB w.1 3]) [(3,5)] ?_ sH sH
   (try refine gS ?_);conv=>whnf
   repeat ((first|(guard_target=_∧_;(first|refine oL ?_|refine oR ?_))|(guard_target=Exists _;refine oM ?_));(try intro _);conv=>whnf)
   try refine RunsS.retU ?_
   try refine RunsS.finU ?_
   exact UnwS.ret tab Tryz.func91 rfl (EndS.mk (w) (by rw [eo,hw,hz,hy,acc_add,acc_add];exact acc_eq rfl (by simp [Pr.add,h1])) [(2,3)] sH rfl rfl (okRet rfl rfl))
  refine And.intro (fun hp=>absurd hp (h1)) (fun _=>?_)
  conv=>whnf
  (try refine gS ?_);conv=>whnf
  repeat ((first|(guard_target=_∧_;(first|refine oL ?_|refine oR ?_))|(guard_target=Exists _;refine oM ?_));(try intro _);conv=>whnf)
  refine RunsS.callN (pneed_fn y (false)) [0,3] ?_ sH ?CNa5
  case CNa5=>rfl
  rintro z hz<;>conv=>whnf
  have lz:z.1.length=y.1.length:=by rw [hz,acc_len];rfl
  refine RunsS.subR (nx':=4) (l':=[(0,.ptr 0 0)]) (H':=[prB z.2 3,toksB z.1 3]) [] ?_ sH sH
  (try refine gS ?_);conv=>whnf
  repeat ((first|(guard_target=_∧_;(first|refine oL ?_|refine oR ?_))|(guard_target=Exists _;refine oM ?_));(try intro _);conv=>whnf)
  refine RunsS.callN (padd_fn z [wS 59] (by show z.1.length+1≤_;omega)) [0,3,4] ?_ sH ?CNa6
  case CNa6=>rfl
  rintro w hw<;>conv=>whnf
  have lw:w.1.length=z.1.length+1:=by rw [hw,acc_len];rfl
  refine RunsS.subR (nx':=4) (l':=[(0,.ptr 0 0)]) (H':=[prB w.2 3,toksB w.1 3]) [(3,5)] ?_ sH sH
  (try refine gS ?_);conv=>whnf
  repeat ((first|(guard_target=_∧_;(first|refine oL ?_|refine oR ?_))|(guard_target=Exists _;refine oM ?_));(try intro _);conv=>whnf)
  try refine RunsS.retU ?_
  try refine RunsS.finU ?_
  exact UnwS.ret tab Tryz.func91 rfl (EndS.mk (w) (by rw [eo,hw,hz,hy,acc_add,acc_add];exact acc_eq rfl (by simp [Pr.add,h1])) [(2,3)] sH rfl rfl (okRet rfl rfl))
 have eo:unitPr u=⟨[.w wUnit,.s u.name,wS 61,.n u.n,wS 47,.n u.d,.s u.of_,wS 59],true⟩:=by unfold unitPr;rw [if_neg h0]
 (try refine gS ?_);conv=>whnf
 repeat ((first|(guard_target=_∧_;(first|refine oL ?_|refine oR ?_))|(guard_target=Exists _;refine oM ?_));(try intro _);conv=>whnf)
 refine RunsS.callN (padd_fn y [wS 61,.n u.n,wS 47,.n u.d,.s u.of_] (by show y.1.length+5≤_;omega)) [0,3,4] ?_ sH ?CNa7
 case CNa7=>rfl
 rintro z hz<;>conv=>whnf
 have lz:z.1.length=y.1.length+5:=by rw [hz,acc_len];rfl
 refine RunsS.subR (nx':=4) (l':=[(0,.ptr 0 0)]) (H':=[prB z.2 3,toksB z.1 3]) [(3,5)] ?_ sH sH
 (try refine gS ?_);conv=>whnf
 repeat ((first|(guard_target=_∧_;(first|refine oL ?_|refine oR ?_))|(guard_target=Exists _;refine oM ?_));(try intro _);conv=>whnf)
 refine RunsS.callN (padd_fn z [wS 59] (by show z.1.length+1≤_;omega)) [0,3,4] ?_ sH ?CNa8
 case CNa8=>rfl
 rintro w hw<;>conv=>whnf
 have lw:w.1.length=z.1.length+1:=by rw [hw,acc_len];rfl
 refine RunsS.subR (nx':=4) (l':=[(0,.ptr 0 0)]) (H':=[prB w.2 3,toksB w.1 3]) [(3,5)] ?_ sH sH
 (try refine gS ?_);conv=>whnf
 repeat ((first|(guard_target=_∧_;(first|refine oL ?_|refine oR ?_))|(guard_target=Exists _;refine oM ?_));(try intro _);conv=>whnf)
 try refine RunsS.retU ?_
 try refine RunsS.finU ?_
 exact UnwS.ret tab Tryz.func91 rfl (EndS.mk (w) (by rw [eo,hw,hz,hy,acc_add,acc_add];exact acc_eq rfl rfl) [(2,3)] sH rfl rfl (okRet rfl rfl))
theorem pitemP_fn (x:Ac) (i:It) (hl:x.1.length+12≤1000000):FnS Tryz.prog 92 2 [.ptr 0 0,.agg (toV i.row)] [prB x.2 1,toksB x.1 1] (fun y=>y=acc x (itemPr i)) (outY 2):=by
 refine FnS.of Tryz.func92 (by kernel_rfl) rfl Tryz.ntmps92 rfl fun E0 F h w0 cs=>?_
 conv=>whnf
 refine gS ?_;conv=>whnf
 repeat ((first|(guard_target=_∧_;(first|refine oL ?_|refine oR ?_))|(guard_target=Exists _;refine oM ?_));(try intro _);conv=>whnf)
 refine RunsS.callN (padd_fn x [.w wItem,.s i.name,.w wIn,.s i.unit,.w wMass,.n i.mn,wS 47,.n i.md] (by show x.1.length+8≤_;omega)) [0,1,3] ?_ sH ?CNa9
 case CNa9=>rfl
 rintro y hy<;>conv=>whnf
 have ly:y.1.length=x.1.length+8:=by rw [hy,acc_len];rfl
 refine RunsS.subR (nx':=4) (l':=[(0,.ptr 0 0),(3,.ptr 2 0)]) (H':=[prB y.2 3,toksB y.1 3,(2,.cells 83 (toV i.row))]) [(3,4)] ?_ sH sH
 (try refine gS ?_);conv=>whnf
 repeat ((first|(guard_target=_∧_;(first|refine oL ?_|refine oR ?_))|(guard_target=Exists _;refine oM ?_));(try intro _);conv=>whnf)
 refine ⟨fun h0=>?_,fun h0=>?_⟩<;>conv=>whnf
 ·try refine gS ?_
  conv=>whnf
  repeat ((first|(guard_target=_∧_;(first|refine oL ?_|refine oR ?_))|(guard_target=Exists _;refine oM ?_));(try intro _);conv=>whnf)
  refine RunsS.callN (padd_fn y [wS 59] (by show y.1.length+1≤_;omega)) [0,3,4] ?_ sH ?CNa10
  case CNa10=>rfl
  rintro z hz<;>conv=>whnf
  have lz:z.1.length=y.1.length+1:=by rw [hz,acc_len];rfl
  refine RunsS.subR (nx':=4) (l':=[(0,.ptr 0 0)]) (H':=[prB z.2 3,toksB z.1 3]) [(3,5)] ?_ sH sH
  (try refine gS ?_);conv=>whnf
  repeat ((first|(guard_target=_∧_;(first|refine oL ?_|refine oR ?_))|(guard_target=Exists _;refine oM ?_));(try intro _);conv=>whnf)
  try refine RunsS.retU ?_
  try refine RunsS.finU ?_
  exact UnwS.ret tab Tryz.func92 rfl (EndS.mk (z) (by rw [hz,hy,acc_add];exact acc_eq (by simp [Pr.add,itemPr,h0]) rfl) [(2,3)] sH rfl rfl (okRet rfl rfl))
 (try refine gS ?_);conv=>whnf
 repeat ((first|(guard_target=_∧_;(first|refine oL ?_|refine oR ?_))|(guard_target=Exists _;refine oM ?_));(try intro _);conv=>whnf)
 refine RunsS.callN (padd_fn y [.w wKeeps,.n i.shelf] (by show y.1.length+2≤_;omega)) [0,3,4] ?_ sH ?CNa11
 case CNa11=>rfl
 rintro z hz<;>conv=>whnf
 have lz:z.1.length=y.1.length+2:=by rw [hz,acc_len];rfl
 refine RunsS.subR (nx':=4) (l':=[(0,.ptr 0 0)]) (H':=[prB z.2 3,toksB z.1 3]) [(3,5)] ?_ sH sH
 (try refine gS ?_);conv=>whnf
 repeat ((first|(guard_target=_∧_;(first|refine oL ?_|refine oR ?_))|(guard_target=Exists _;refine oM ?_));(try intro _);conv=>whnf)
 refine RunsS.callN (padd_fn z [wS 59] (by show z.1.length+1≤_;omega)) [0,3,4] ?_ sH ?CNa12
 case CNa12=>rfl
 rintro u hu<;>conv=>whnf
 have lu:u.1.length=z.1.length+1:=by rw [hu,acc_len];rfl
 refine RunsS.subR (nx':=4) (l':=[(0,.ptr 0 0)]) (H':=[prB u.2 3,toksB u.1 3]) [(3,5)] ?_ sH sH
 (try refine gS ?_);conv=>whnf
 repeat ((first|(guard_target=_∧_;(first|refine oL ?_|refine oR ?_))|(guard_target=Exists _;refine oM ?_));(try intro _);conv=>whnf)
 try refine RunsS.retU ?_
 try refine RunsS.finU ?_
 exact UnwS.ret tab Tryz.func92 rfl (EndS.mk (u) (by rw [hu,hz,hy,acc_add,acc_add];exact acc_eq (by simp [Pr.add,itemPr,h0]) rfl) [(2,3)] sH rfl rfl (okRet rfl rfl))
end Go.Proofs.YtgbeechjghajcaaGreatDoor

namespace Go.SynM
open Go Go.Fw Go.RatM Go.SrcM
theorem condsPt_snoc (l:List Cd) (c:Cd):condsPt (l++[c])=condsPt l++((if l=[] then [] else [wS 44])++[.s c.opt,wS 61,.s c.ch]):=by
 cases l with
 |nil=>rfl
 |cons d l=>simp [condsPt]
theorem chsPt_snoc (l:List ByteArray) (c:ByteArray):chsPt (l++[c])=chsPt l++((if l=[] then [] else [wS 44])++[.s c]):=by
 cases l with
 |nil=>rfl
 |cons d l=>simp [chsPt]
theorem condsPt_len (l:List Cd):(condsPt l).length≤4*l.length:=by
 cases l with
 |nil=>simp [condsPt]
 |cons c l=>
  have:((l.map fun c=>[wS 44,.s c.opt,wS 61,.s c.ch]).flatten).length=4*l.length:=by
   induction l with
   |nil=>rfl
   |cons d l ih=>simp only [List.map_cons,List.flatten_cons,List.length_append,ih,List.length_cons,List.length_nil];omega
  simp only [condsPt,List.length_append,this,List.length_cons,List.length_nil]
  omega
theorem chsPt_len (l:List ByteArray):(chsPt l).length≤2*l.length:=by
 cases l with
 |nil=>simp [chsPt]
 |cons c l=>
  have:((l.map fun c=>[wS 44,Pt.s c]).flatten).length=2*l.length:=by
   induction l with
   |nil=>rfl
   |cons d l ih=>simp only [List.map_cons,List.flatten_cons,List.length_append,ih,List.length_cons,List.length_nil];omega
  simp only [chsPt,this,List.length_cons]
  omega
end Go.SynM
namespace Go.Proofs.YtgbeechjghajcaaGreatDoor
open Go Go.Fw Go.NatM Go.RatM Go.SrcM Go.SynM
set_option maxRecDepth 100000
set_option maxHeartbeats 99999999
theorem take_nil {α:Type} {l:List α} {i:Nat} (hk:i<l.length):l.take i=[]↔i=0:=by
 cases l with
 |nil=>simp at hk
 |cons a l=>cases i<;>simp
theorem pconds_fn (v:Value) (l:List Cd) (x:Ac) (hl:x.1.length+4*l.length≤1000000):FnT Tryz.prog (fun F h=>RoF F h v 4 (rws Cd.row l)) 95 2 [.ptr 0 0,.v v] [prB x.2 1,toksB x.1 1] (fun y=>y=acc x ⟨condsPt l,decide (1≤l.length∧l.length≤6)⟩) (outY 2):=by
 have ll:=rws_len Cd.row l
 refine FnT.of Tryz.func95 (by kernel_rfl) rfl Tryz.ntmps95 rfl fun E0 F h hT w0 cs=>?_
 obtain ⟨a,c,rfl⟩:=RoF.sli hT ll
 conv=>whnf
 refine goS_run tab 2 _ _ _ _ ?_;conv=>whnf
 have hl':l.length≤1000000:=by omega
 obtain ⟨b,hb⟩:∃b,b=decide (1≤l.length∧l.length≤6):=⟨_,rfl⟩
 rw [←hb]
 refine RunsS.joinO (fun (y:Ac)=>[(0,.ptr 0 0),(1,.v (.slice a l.length c))]) (fun (y:Ac)=>[prB y.2 3,toksB y.1 3]) 4 (fun (y:Ac)=>y=acc x ⟨[],b⟩) ?_ (fun meet=>?_)
 rotate_left
 ·try refine gS ?_
  conv=>whnf
  repeat ((first|(guard_target=_∧_;(first|refine oL ?_|refine oR ?_))|(guard_target=Exists _;refine oM ?_));(try intro _);conv=>whnf)
  by_cases h1:1≤l.length
  ·refine And.intro (fun _=>?_) (fun hn=>absurd ((by omega)) hn)
   conv=>whnf
   (try refine gS ?_);conv=>whnf
   repeat ((first|(guard_target=_∧_;(first|refine oL ?_|refine oR ?_))|(guard_target=Exists _;refine oM ?_));(try intro _);conv=>whnf)
   refine RunsS.callN (pneed_fn x (decide ((l.length:Int)≤6))) [0,1] ?_ sH ?CNa1
   case CNa1=>rfl
   rintro y hy<;>conv=>whnf
   have ly:y.1.length=x.1.length:=by rw [hy,acc_len];rfl
   refine RunsS.subR (nx':=4) (l':=[(0,.ptr 0 0),(1,.v (.slice a l.length c))]) (H':=[prB y.2 3,toksB y.1 3]) [(3,1)] ?_ sH sH
   (try refine gS ?_);conv=>whnf
   repeat ((first|(guard_target=_∧_;(first|refine oL ?_|refine oR ?_))|(guard_target=Exists _;refine oM ?_));(try intro _);conv=>whnf)
   refine RunsS.subR [] (meet (y) (by exact (hy.trans (acc_eq rfl (by rw [hb];exact decide_eq_decide.2 ⟨fun h=>⟨h1,by omega⟩,fun h=>by omega⟩))))) sH sH
  refine And.intro (fun hp=>absurd hp ((by omega))) (fun _=>?_)
  conv=>whnf
  (try refine gS ?_);conv=>whnf
  repeat ((first|(guard_target=_∧_;(first|refine oL ?_|refine oR ?_))|(guard_target=Exists _;refine oM ?_));(try intro _);conv=>whnf)
  refine RunsS.callN (pneed_fn x (false)) [0,1] ?_ sH ?CNa3
  case CNa3=>rfl
  rintro y hy<;>conv=>whnf
  have ly:y.1.length=x.1.length:=by rw [hy,acc_len];rfl
  refine RunsS.subR (nx':=4) (l':=[(0,.ptr 0 0),(1,.v (.slice a l.length c))]) (H':=[prB y.2 3,toksB y.1 3]) [(3,1)] ?_ sH sH
  (try refine gS ?_);conv=>whnf
  repeat ((first|(guard_target=_∧_;(first|refine oL ?_|refine oR ?_))|(guard_target=Exists _;refine oM ?_));(try intro _);conv=>whnf)
  refine RunsS.subR [] (meet (y) (by exact (hy.trans (acc_eq rfl (by rw [hb];exact (decide_eq_false fun h=>h1 h.1).symm))))) sH sH
 rintro y hy
 (try refine gS ?_);conv=>whnf
 repeat ((first|(guard_target=_∧_;(first|refine oL ?_|refine oR ?_))|(guard_target=Exists _;refine oM ?_));(try intro _);conv=>whnf)
 refine RunsS.nameAt (fun _ x=>x) 16 (by exact hT) ?_
 conv=>whnf
 (try refine gS ?_);conv=>whnf
 repeat ((first|(guard_target=_∧_;(first|refine oL ?_|refine oR ?_))|(guard_target=Exists _;refine oM ?_));(try intro _);conv=>whnf)
 have ly:y.1.length=x.1.length:=by rw [hy,acc_len];rfl
 refine RunsS.subR [] (RunsS.loop (fun (⟨i,z⟩:Nat×Ac)=>[(0,.ptr 0 0),(16,.buf 4),(17,.v (.int .i64 l.length)),(18,.v (.int .i64 i))]) (fun (⟨i,z⟩:Nat×Ac)=>[prB z.2 3,toksB z.1 3,(4,.ro 4 (rws Cd.row l))]) 5 (fun (⟨i,z⟩:Nat×Ac)=>i≤l.length∧z=acc y ⟨condsPt (l.take i),true⟩) (fun (⟨i,z⟩:Nat×Ac)=>l.length - i) ?round5 ((0,y)) ?J05) sH sH
 case J05=>exact (⟨Nat.zero_le _,(acc_nil y).symm⟩)
 rintro ⟨i,z⟩ hJ back
 try dsimp only at hJ back
 conv=>whnf
 try dsimp only
 refine gS ?_;conv=>whnf
 repeat ((first|(guard_target=_∧_;(first|refine oL ?_|refine oR ?_))|(guard_target=Exists _;refine oM ?_));(try intro _);conv=>whnf)
 obtain ⟨hi,hJ⟩:=hJ
 have lz:z.1.length≤y.1.length+4*i:=by
  rw [hJ,acc_len]
  have:=condsPt_len (l.take i)
  rw [List.length_take] at this
  show _+(condsPt (l.take i)).length≤_
  omega
 refine ⟨fun hk=>?_,fun hk=>?_⟩<;>conv=>whnf
 ·have hk:i<l.length:=by omega
  conv=>whnf
  repeat ((first|(guard_target=_∧_;(first|refine oL ?_|refine oR ?_))|(guard_target=Exists _;refine oM ?_));(try intro _);conv=>whnf)
  refine ⟨_,rws_get hk,?_⟩;conv=>whnf
  try (refine oN ?_;conv=>whnf)
  repeat ((first|(guard_target=_∧_;(first|refine oL ?_|refine oR ?_))|(guard_target=Exists _;refine oM ?_));(try intro _);conv=>whnf)
  have hn:=condsPt_snoc (l.take i) l[i]
  rw [←take_snoc hk] at hn
  refine ⟨fun h0=>?_,fun h0=>?_⟩<;>conv=>whnf
  ·have e0:l.take i ≠ []:=fun e=>by have:=(take_nil hk).1 e;omega
   rw [if_neg e0] at hn
   (try refine gS ?_);conv=>whnf
   repeat ((first|(guard_target=_∧_;(first|refine oL ?_|refine oR ?_))|(guard_target=Exists _;refine oM ?_));(try intro _);conv=>whnf)
   refine RunsS.callN (padd_fn z [wS 44] (by show z.1.length+1≤_;omega)) [0,3,6] ?_ sH ?CNa6
   case CNa6=>rfl
   rintro z1 hz1<;>conv=>whnf
   have lz1:z1.1.length=z.1.length+1:=by rw [hz1,acc_len];rfl
   refine RunsS.subR (nx':=6) (l':=[(0,.ptr 0 0),(5,.ptr 5 0),(16,.buf 4),(17,.v (.int .i64 l.length)),(18,.v (.int .i64 i))]) (H':=[prB z1.2 3,toksB z1.1 3,(5,.cells 52 (toV l[i].row)),(4,.ro 4 (rws Cd.row l))]) [(3,7)] ?_ sH sH
   (try refine gS ?_);conv=>whnf
   repeat ((first|(guard_target=_∧_;(first|refine oL ?_|refine oR ?_))|(guard_target=Exists _;refine oM ?_));(try intro _);conv=>whnf)
   refine RunsS.callN (padd_fn z1 [.s l[i].opt,wS 61,.s l[i].ch] (by show z1.1.length+3≤_;omega)) [0,3,6] ?_ sH ?CNa7
   case CNa7=>rfl
   rintro z2 hz2<;>conv=>whnf
   have lz2:z2.1.length=z1.1.length+3:=by rw [hz2,acc_len];rfl
   refine RunsS.subR (nx':=6) (l':=[(0,.ptr 0 0),(16,.buf 4),(17,.v (.int .i64 l.length)),(18,.v (.int .i64 i))]) (H':=[prB z2.2 3,toksB z2.1 3,(4,.ro 4 (rws Cd.row l))]) [(3,7)] ?_ sH sH
   (try refine gS ?_);conv=>whnf
   repeat ((first|(guard_target=_∧_;(first|refine oL ?_|refine oR ?_))|(guard_target=Exists _;refine oM ?_));(try intro _);conv=>whnf)
   refine RunsS.subR [] (back ((i+1,z2)) (by exact (⟨hk,by show z2=_;rw [hz2,hz1,hJ,acc_add,acc_add];exact acc_eq (by simp [Pr.add,hn]) rfl⟩)) (by (try dsimp only);omega)) sH sH
  have e0:l.take i=[]:=(take_nil hk).2 (by omega)
  rw [if_pos e0] at hn
  (try refine gS ?_);conv=>whnf
  repeat ((first|(guard_target=_∧_;(first|refine oL ?_|refine oR ?_))|(guard_target=Exists _;refine oM ?_));(try intro _);conv=>whnf)
  refine RunsS.callN (padd_fn z [.s l[i].opt,wS 61,.s l[i].ch] (by show z.1.length+3≤_;omega)) [0,3,6] ?_ sH ?CNa9
  case CNa9=>rfl
  rintro z2 hz2<;>conv=>whnf
  have lz2:z2.1.length=z.1.length+3:=by rw [hz2,acc_len];rfl
  refine RunsS.subR (nx':=6) (l':=[(0,.ptr 0 0),(16,.buf 4),(17,.v (.int .i64 l.length)),(18,.v (.int .i64 i))]) (H':=[prB z2.2 3,toksB z2.1 3,(4,.ro 4 (rws Cd.row l))]) [(3,7)] ?_ sH sH
  (try refine gS ?_);conv=>whnf
  repeat ((first|(guard_target=_∧_;(first|refine oL ?_|refine oR ?_))|(guard_target=Exists _;refine oM ?_));(try intro _);conv=>whnf)
  refine RunsS.subR [] (back ((i+1,z2)) (by exact (⟨hk,by show z2=_;rw [hz2,hJ,acc_add];exact acc_eq (by simp [Pr.add,hn]) rfl⟩)) (by (try dsimp only);omega)) sH sH
 (try refine gS ?_);conv=>whnf
 repeat ((first|(guard_target=_∧_;(first|refine oL ?_|refine oR ?_))|(guard_target=Exists _;refine oM ?_));(try intro _);conv=>whnf)
 try refine RunsS.retU ?_
 try refine RunsS.finU ?_
 exact UnwS.ret tab Tryz.func95 rfl (EndS.mk (z) (by rw [hJ,hy,List.take_of_length_le (by omega),acc_add,hb];exact acc_eq rfl (by simp [Pr.add])) [(2,3)] sH rfl rfl (okRet rfl rfl))
theorem poptP_fn (o:OpV) (x:Ac) (hl:x.1.length+5+2*o.ch.length≤1000000):FnT Tryz.prog (fun F h=>o.ok F h) 94 2 [.ptr 0 0,.agg (toV o.row)] [prB x.2 1,toksB x.1 1] (fun y=>y=acc x (optnPr o)) (outY 2):=by
 obtain ⟨nm,⟨a,c⟩,l⟩:=o
 have hl:x.1.length+5+2*l.length≤1000000:=hl
 have ll:=rwsB_len l
 refine FnT.of Tryz.func94 (by kernel_rfl) rfl Tryz.ntmps94 rfl fun E0 F h hT w0 cs=>?_
 have hT:RoF F h (.slice a l.length c) 1 (rwsB l):=hT
 conv=>whnf
 refine goS_run tab 6 _ _ _ _ ?_;conv=>whnf
 have hl':l.length≤1000000:=by omega
 obtain ⟨b,hb⟩:∃b,b=decide (1≤l.length∧l.length≤4):=⟨_,rfl⟩
 have hO:optnPr ⟨nm,⟨a,c⟩,l⟩=⟨[.w wOption,.s nm,wS 123]++chsPt l++[wS 125,wS 59],b⟩:=by rw [hb];rfl
 rw [hO]
 refine RunsS.joinO (fun (y:Ac)=>[(0,.ptr 0 0),(3,.ptr 2 0)]) (fun (y:Ac)=>[prB y.2 3,toksB y.1 3,(2,.cells 50 [.v (.string nm),.v (.slice a l.length c)])]) 4 (fun (y:Ac)=>y=acc x ⟨[],b⟩) ?_ (fun meet=>?_)
 rotate_left
 ·try refine gS ?_
  conv=>whnf
  repeat ((first|(guard_target=_∧_;(first|refine oL ?_|refine oR ?_))|(guard_target=Exists _;refine oM ?_));(try intro _);conv=>whnf)
  by_cases h1:1≤l.length
  ·refine And.intro (fun _=>?_) (fun hn=>absurd ((by show (1:Int)≤(l.length:Int);omega)) hn)
   conv=>whnf
   (try refine gS ?_);conv=>whnf
   repeat ((first|(guard_target=_∧_;(first|refine oL ?_|refine oR ?_))|(guard_target=Exists _;refine oM ?_));(try intro _);conv=>whnf)
   refine RunsS.callN (pneed_fn x (decide ((l.length:Int)≤4))) [0,1] ?_ sH ?CNa11
   case CNa11=>rfl
   rintro y hy<;>conv=>whnf
   have ly:y.1.length=x.1.length:=by rw [hy,acc_len];rfl
   refine RunsS.subR (nx':=4) (l':=[(0,.ptr 0 0),(3,.ptr 2 0)]) (H':=[prB y.2 3,toksB y.1 3,(2,.cells 50 [.v (.string nm),.v (.slice a l.length c)])]) [(3,1)] ?_ sH sH
   (try refine gS ?_);conv=>whnf
   repeat ((first|(guard_target=_∧_;(first|refine oL ?_|refine oR ?_))|(guard_target=Exists _;refine oM ?_));(try intro _);conv=>whnf)
   refine RunsS.subR [] (meet (y) (by exact (hy.trans (acc_eq rfl (by rw [hb];exact decide_eq_decide.2 ⟨fun h=>⟨h1,by omega⟩,fun h=>by omega⟩))))) sH sH
  refine And.intro (fun hp=>absurd hp ((by show ¬(1:Int)≤(l.length:Int);omega))) (fun _=>?_)
  conv=>whnf
  (try refine gS ?_);conv=>whnf
  repeat ((first|(guard_target=_∧_;(first|refine oL ?_|refine oR ?_))|(guard_target=Exists _;refine oM ?_));(try intro _);conv=>whnf)
  refine RunsS.callN (pneed_fn x (false)) [0,1] ?_ sH ?CNa13
  case CNa13=>rfl
  rintro y hy<;>conv=>whnf
  have ly:y.1.length=x.1.length:=by rw [hy,acc_len];rfl
  refine RunsS.subR (nx':=4) (l':=[(0,.ptr 0 0),(3,.ptr 2 0)]) (H':=[prB y.2 3,toksB y.1 3,(2,.cells 50 [.v (.string nm),.v (.slice a l.length c)])]) [(3,1)] ?_ sH sH
  (try refine gS ?_);conv=>whnf
  repeat ((first|(guard_target=_∧_;(first|refine oL ?_|refine oR ?_))|(guard_target=Exists _;refine oM ?_));(try intro _);conv=>whnf)
  refine RunsS.subR [] (meet (y) (by exact (hy.trans (acc_eq rfl (by rw [hb];exact (decide_eq_false fun h=>h1 h.1).symm))))) sH sH
 rintro x0 hx0
 have lx0:x0.1.length=x.1.length:=by rw [hx0,acc_len];rfl
 (try refine gS ?_);conv=>whnf
 repeat ((first|(guard_target=_∧_;(first|refine oL ?_|refine oR ?_))|(guard_target=Exists _;refine oM ?_));(try intro _);conv=>whnf)
 refine RunsS.callN (padd_fn x0 [.w wOption,.s nm,wS 123] (by show x0.1.length+3≤_;omega)) [0,3,4] ?_ sH ?CNa15
 case CNa15=>rfl
 rintro y hy<;>conv=>whnf
 have ly:y.1.length=x0.1.length+3:=by rw [hy,acc_len];rfl
 refine RunsS.subR (nx':=4) (l':=[(0,.ptr 0 0),(3,.ptr 2 0)]) (H':=[prB y.2 3,toksB y.1 3,(2,.cells 50 [.v (.string nm),.v (.slice a l.length c)])]) [(3,5)] ?_ sH sH
 (try refine gS ?_);conv=>whnf
 repeat ((first|(guard_target=_∧_;(first|refine oL ?_|refine oR ?_))|(guard_target=Exists _;refine oM ?_));(try intro _);conv=>whnf)
 refine RunsS.nameAt (fun _ x=>x) 27 (by exact hT) ?_
 conv=>whnf
 (try refine gS ?_);conv=>whnf
 repeat ((first|(guard_target=_∧_;(first|refine oL ?_|refine oR ?_))|(guard_target=Exists _;refine oM ?_));(try intro _);conv=>whnf)
 refine RunsS.subR [] (RunsS.loop (fun (⟨i,z⟩:Nat×Ac)=>[(0,.ptr 0 0),(27,.buf 4),(28,.v (.int .i64 l.length)),(29,.v (.int .i64 i))]) (fun (⟨i,z⟩:Nat×Ac)=>[prB z.2 3,toksB z.1 3,(4,.ro 1 (rwsB l))]) 5 (fun (⟨i,z⟩:Nat×Ac)=>i≤l.length∧z=acc y ⟨chsPt (l.take i),true⟩) (fun (⟨i,z⟩:Nat×Ac)=>l.length - i) ?round16 ((0,y)) ?J016) sH sH
 case J016=>exact (⟨Nat.zero_le _,(acc_nil y).symm⟩)
 rintro ⟨i,z⟩ hJ back
 try dsimp only at hJ back
 conv=>whnf
 try dsimp only
 refine gS ?_;conv=>whnf
 repeat ((first|(guard_target=_∧_;(first|refine oL ?_|refine oR ?_))|(guard_target=Exists _;refine oM ?_));(try intro _);conv=>whnf)
 obtain ⟨hi,hJ⟩:=hJ
 have lz:z.1.length≤y.1.length+2*i:=by
  rw [hJ,acc_len]
  have:=chsPt_len (l.take i)
  rw [List.length_take] at this
  show _+(chsPt (l.take i)).length≤_
  omega
 refine ⟨fun hk=>?_,fun hk=>?_⟩<;>conv=>whnf
 ·have hk:i<l.length:=by omega
  conv=>whnf
  repeat ((first|(guard_target=_∧_;(first|refine oL ?_|refine oR ?_))|(guard_target=Exists _;refine oM ?_));(try intro _);conv=>whnf)
  refine ⟨_,rws_get hk,?_⟩;conv=>whnf
  try (refine oN ?_;conv=>whnf)
  repeat ((first|(guard_target=_∧_;(first|refine oL ?_|refine oR ?_))|(guard_target=Exists _;refine oM ?_));(try intro _);conv=>whnf)
  have hn:=chsPt_snoc (l.take i) l[i]
  rw [←take_snoc hk] at hn
  refine ⟨fun h0=>?_,fun h0=>?_⟩<;>conv=>whnf
  ·have e0:l.take i ≠ []:=fun e=>by have:=(take_nil hk).1 e;omega
   rw [if_neg e0] at hn
   (try refine gS ?_);conv=>whnf
   repeat ((first|(guard_target=_∧_;(first|refine oL ?_|refine oR ?_))|(guard_target=Exists _;refine oM ?_));(try intro _);conv=>whnf)
   refine RunsS.callN (padd_fn z [wS 44] (by show z.1.length+1≤_;omega)) [0,3,5] ?_ sH ?CNa17
   case CNa17=>rfl
   rintro z1 hz1<;>conv=>whnf
   have lz1:z1.1.length=z.1.length+1:=by rw [hz1,acc_len];rfl
   refine RunsS.subR (nx':=5) (l':=[(0,.ptr 0 0),(5,.v (.string l[i])),(27,.buf 4),(28,.v (.int .i64 l.length)),(29,.v (.int .i64 i))]) (H':=[prB z1.2 3,toksB z1.1 3,(4,.ro 1 (rwsB l))]) [(3,6)] ?_ sH sH
   (try refine gS ?_);conv=>whnf
   repeat ((first|(guard_target=_∧_;(first|refine oL ?_|refine oR ?_))|(guard_target=Exists _;refine oM ?_));(try intro _);conv=>whnf)
   refine RunsS.callN (padd_fn z1 [.s l[i]] (by show z1.1.length+1≤_;omega)) [0,3,5] ?_ sH ?CNa18
   case CNa18=>rfl
   rintro z2 hz2<;>conv=>whnf
   have lz2:z2.1.length=z1.1.length+1:=by rw [hz2,acc_len];rfl
   refine RunsS.subR (nx':=5) (l':=[(0,.ptr 0 0),(27,.buf 4),(28,.v (.int .i64 l.length)),(29,.v (.int .i64 i))]) (H':=[prB z2.2 3,toksB z2.1 3,(4,.ro 1 (rwsB l))]) [(3,6)] ?_ sH sH
   (try refine gS ?_);conv=>whnf
   repeat ((first|(guard_target=_∧_;(first|refine oL ?_|refine oR ?_))|(guard_target=Exists _;refine oM ?_));(try intro _);conv=>whnf)
   refine RunsS.subR [] (back ((i+1,z2)) (by exact (⟨hk,by show z2=_;rw [hz2,hz1,hJ,acc_add,acc_add];exact acc_eq (by simp [Pr.add,hn]) rfl⟩)) (by (try dsimp only);omega)) sH sH
  have e0:l.take i=[]:=(take_nil hk).2 (by omega)
  rw [if_pos e0] at hn
  (try refine gS ?_);conv=>whnf
  repeat ((first|(guard_target=_∧_;(first|refine oL ?_|refine oR ?_))|(guard_target=Exists _;refine oM ?_));(try intro _);conv=>whnf)
  refine RunsS.callN (padd_fn z [.s l[i]] (by show z.1.length+1≤_;omega)) [0,3,5] ?_ sH ?CNa20
  case CNa20=>rfl
  rintro z2 hz2<;>conv=>whnf
  have lz2:z2.1.length=z.1.length+1:=by rw [hz2,acc_len];rfl
  refine RunsS.subR (nx':=5) (l':=[(0,.ptr 0 0),(27,.buf 4),(28,.v (.int .i64 l.length)),(29,.v (.int .i64 i))]) (H':=[prB z2.2 3,toksB z2.1 3,(4,.ro 1 (rwsB l))]) [(3,6)] ?_ sH sH
  (try refine gS ?_);conv=>whnf
  repeat ((first|(guard_target=_∧_;(first|refine oL ?_|refine oR ?_))|(guard_target=Exists _;refine oM ?_));(try intro _);conv=>whnf)
  refine RunsS.subR [] (back ((i+1,z2)) (by exact (⟨hk,by show z2=_;rw [hz2,hJ,acc_add];exact acc_eq (by simp [Pr.add,hn]) rfl⟩)) (by (try dsimp only);omega)) sH sH
 (try refine gS ?_);conv=>whnf
 repeat ((first|(guard_target=_∧_;(first|refine oL ?_|refine oR ?_))|(guard_target=Exists _;refine oM ?_));(try intro _);conv=>whnf)
 refine RunsS.callN (padd_fn z [wS 125,wS 59] (by show z.1.length+2≤_;omega)) [0,3,5] ?_ sH ?CNa22
 case CNa22=>rfl
 rintro w hw<;>conv=>whnf
 have lw:w.1.length=z.1.length+2:=by rw [hw,acc_len];rfl
 refine RunsS.subR (nx':=5) (l':=[(0,.ptr 0 0)]) (H':=[prB w.2 3,toksB w.1 3]) [(3,6)] ?_ sH sH
 (try refine gS ?_);conv=>whnf
 repeat ((first|(guard_target=_∧_;(first|refine oL ?_|refine oR ?_))|(guard_target=Exists _;refine oM ?_));(try intro _);conv=>whnf)
 try refine RunsS.retU ?_
 try refine RunsS.finU ?_
 exact UnwS.ret tab Tryz.func94 rfl (EndS.mk (w) (by rw [hw,hJ,hy,hx0,List.take_of_length_le (by omega),acc_add,acc_add,acc_add];exact acc_eq (by simp [Pr.add]) (by simp [Pr.add])) [(2,3)] sH rfl rfl (okRet rfl rfl))
end Go.Proofs.YtgbeechjghajcaaGreatDoor

namespace Go.SynM
open Go Go.Fw Go.RatM Go.SrcM
def inPr (a:Am):Pr:=⟨inPt a,true⟩
def outPr (a:Am):Pr:=⟨outPt a,!a.back⟩
def runPr (a:Rn):Pr:=⟨runPt a,true⟩
def cndPr (l:List Cd):Pr:=⟨if l=[] then [] else .w wIf::condsPt l,decide (l.length≤6)⟩
theorem all_snoc {α:Type} {f:α→Pr} (l:List α) (x:α):Pr.all f (l++[x])=(Pr.all f l).add (f x):=by
 induction l with
 |nil=>simp [Pr.all,Pr.add,Pr.nil]
 |cons y l ih=>simp only [List.cons_append,Pr.all,ih,Pr.add,List.append_assoc,Bool.and_assoc]
theorem all_len {α:Type} {f:α→Pr} {n:Nat} (h:∀x,(f x).l.length≤n) (l:List α):(Pr.all f l).l.length≤n*l.length:=by
 induction l with
 |nil=>simp [Pr.all,Pr.nil]
 |cons x l ih=>
  have:=h x
  simp only [Pr.all,Pr.add,List.length_append,List.length_cons,Nat.mul_add]
  omega
theorem inPr_len (a:Am):(inPr a).l.length≤8:=by
 show (inPt a).length≤8
 unfold inPt amPt
 cases a.back<;>simp
theorem outPr_len (a:Am):(outPr a).l.length≤7:=Nat.le_of_eq rfl
theorem runPr_len (a:Rn):(runPr a).l.length≤4:=Nat.le_of_eq rfl
theorem all_true {α:Type} {f:α→List Pt} (l:List α):(Pr.all (fun a=>(⟨f a,true⟩:Pr)) l)=⟨(l.map f).flatten,true⟩:=by
 induction l with
 |nil=>rfl
 |cons x l ih=>simp only [Pr.all,Pr.add,ih,List.map_cons,List.flatten_cons,Bool.and_true]
theorem all_out (l:List Am):Pr.all outPr l=⟨(l.map outPt).flatten,l.all fun a=> !a.back⟩:=by
 induction l with
 |nil=>rfl
 |cons x l ih=>simp only [Pr.all,Pr.add,outPr,ih,List.map_cons,List.flatten_cons,List.all_cons]
theorem rec_parts (r:RcV):(Pr.mk [] (decide (r.inn.length≤8∧r.out.length≤8∧r.runs.length≤8))).add ((Pr.mk [.w wMake,.s r.item,.w wAt,.s r.plant,.w wFrom,.n r.fr,.w wTo,.n r.to] true).add ((cndPr r.cs).add ((Pr.mk [wS 123] true).add ((Pr.all inPr r.inn).add ((Pr.all outPr r.out).add
  ((Pr.mk [.w wRework,.n r.rwN,wS 47,.n r.rwD,wS 59] true).add ((Pr.mk [.w wYield,.n r.yN,wS 47,.n r.yD,.w wWithin,.n r.tN,wS 47,.n r.tD,wS 59] true).add ((Pr.mk [.w wLead,.n r.lead,wS 59] true).add ((Pr.all runPr r.runs).add ⟨[wS 125],true⟩)))))))))=recPr r:=by
 have e1:Pr.all inPr r.inn=⟨(r.inn.map inPt).flatten,true⟩:=all_true _
 have e2:Pr.all runPr r.runs=⟨(r.runs.map runPt).flatten,true⟩:=all_true _
 rw [e1,e2,all_out]
 unfold recPr cndPr
 simp only [Pr.add,List.nil_append,List.append_assoc,List.cons_append,Bool.true_and,Bool.and_true]
end Go.SynM
namespace Go.Proofs.YtgbeechjghajcaaGreatDoor
open Go Go.Fw Go.NatM Go.RatM Go.SrcM Go.SynM
set_option maxRecDepth 100000
set_option maxHeartbeats 99999999
theorem precP_fn (r:RcV) (x:Ac) (hl:x.1.length+28+4*r.cs.length+8*r.inn.length+7*r.out.length+4*r.runs.length≤1000000):FnT Tryz.prog (fun F h=>r.ok F h) 96 2 [.ptr 0 0,.agg (toV r.row)] [prB x.2 1,toksB x.1 1] (fun y=>y=acc x (recPr r)) (outY 2):=by
 rw [←rec_parts,←acc_add,←acc_add,←acc_add,←acc_add,←acc_add,←acc_add,←acc_add,←acc_add,←acc_add,←acc_add]
 obtain ⟨b,hb⟩:∃b,b=decide (r.inn.length≤8∧r.out.length≤8∧r.runs.length≤8):=⟨_,rfl⟩
 rw [←hb]
 have lc:=rws_len Cd.row r.cs
 have li:=rws_len Am.row r.inn
 have lo:=rws_len Am.row r.out
 have lr:=rws_len Rn.row r.runs
 refine FnT.of Tryz.func96 (by kernel_rfl) rfl Tryz.ntmps96 rfl fun E0 F h hT w0 cs=>?_
 conv=>whnf
 refine goS_run tab 6 _ _ _ _ ?_;conv=>whnf
 refine RunsS.joinO (fun (y:Ac)=>[(0,.ptr 0 0),(3,.ptr 2 0)]) (fun (y:Ac)=>[prB y.2 3,toksB y.1 3,(2,.cells 61 (toV r.row))]) 4 (fun (y:Ac)=>y=acc x ⟨[],b⟩) ?_ (fun meet=>?_)
 rotate_left
 ·try refine gS ?_
  conv=>whnf
  repeat ((first|(guard_target=_∧_;(first|refine oL ?_|refine oR ?_))|(guard_target=Exists _;refine oM ?_));(try intro _);conv=>whnf)
  by_cases h1:r.inn.length≤8
  ·refine And.intro (fun _=>?_) (fun hn=>absurd ((by omega)) hn)
   conv=>whnf
   (try refine gS ?_);conv=>whnf
   repeat ((first|(guard_target=_∧_;(first|refine oL ?_|refine oR ?_))|(guard_target=Exists _;refine oM ?_));(try intro _);conv=>whnf)
   by_cases h2:r.out.length≤8
   ·refine And.intro (fun _=>?_) (fun hn=>absurd ((by omega)) hn)
    conv=>whnf
    (try refine gS ?_);conv=>whnf
    repeat ((first|(guard_target=_∧_;(first|refine oL ?_|refine oR ?_))|(guard_target=Exists _;refine oM ?_));(try intro _);conv=>whnf)
    refine RunsS.callN (pneed_fn x (decide ((r.runs.length:Int)≤8))) [0,1] ?_ sH ?CNa1
    case CNa1=>rfl
    rintro y hy<;>conv=>whnf
    have ly:y.1.length=x.1.length:=by rw [hy,acc_len];rfl
    refine RunsS.subR (nx':=4) (l':=[(0,.ptr 0 0),(3,.ptr 2 0)]) (H':=[prB y.2 3,toksB y.1 3,(2,.cells 61 (toV r.row))]) [(3,1)] ?_ sH sH
    (try refine gS ?_);conv=>whnf
    repeat ((first|(guard_target=_∧_;(first|refine oL ?_|refine oR ?_))|(guard_target=Exists _;refine oM ?_));(try intro _);conv=>whnf)
    refine RunsS.subR [] (meet (y) (by exact (hy.trans (acc_eq rfl (by rw [hb];exact decide_eq_decide.2 ⟨fun h=>⟨h1,h2,by omega⟩,fun h=>by omega⟩))))) sH sH
   refine And.intro (fun hp=>absurd hp ((by omega))) (fun _=>?_)
   conv=>whnf
   (try refine gS ?_);conv=>whnf
   repeat ((first|(guard_target=_∧_;(first|refine oL ?_|refine oR ?_))|(guard_target=Exists _;refine oM ?_));(try intro _);conv=>whnf)
   refine RunsS.callN (pneed_fn x (false)) [0,1] ?_ sH ?CNa3
   case CNa3=>rfl
   rintro y hy<;>conv=>whnf
   have ly:y.1.length=x.1.length:=by rw [hy,acc_len];rfl
   refine RunsS.subR (nx':=4) (l':=[(0,.ptr 0 0),(3,.ptr 2 0)]) (H':=[prB y.2 3,toksB y.1 3,(2,.cells 61 (toV r.row))]) [(3,1)] ?_ sH sH
   (try refine gS ?_);conv=>whnf
   repeat ((first|(guard_target=_∧_;(first|refine oL ?_|refine oR ?_))|(guard_target=Exists _;refine oM ?_));(try intro _);conv=>whnf)
   refine RunsS.subR [] (meet (y) (by exact (hy.trans (acc_eq rfl (by rw [hb];exact (decide_eq_false fun h=>h2 h.2.1).symm))))) sH sH
  refine And.intro (fun hp=>absurd hp ((by omega))) (fun _=>?_)
  conv=>whnf
  (try refine gS ?_);conv=>whnf
  repeat ((first|(guard_target=_∧_;(first|refine oL ?_|refine oR ?_))|(guard_target=Exists _;refine oM ?_));(try intro _);conv=>whnf)
  refine RunsS.callN (pneed_fn x (false)) [0,1] ?_ sH ?CNa5
  case CNa5=>rfl
  rintro y hy<;>conv=>whnf
  have ly:y.1.length=x.1.length:=by rw [hy,acc_len];rfl
  refine RunsS.subR (nx':=4) (l':=[(0,.ptr 0 0),(3,.ptr 2 0)]) (H':=[prB y.2 3,toksB y.1 3,(2,.cells 61 (toV r.row))]) [(3,1)] ?_ sH sH
  (try refine gS ?_);conv=>whnf
  repeat ((first|(guard_target=_∧_;(first|refine oL ?_|refine oR ?_))|(guard_target=Exists _;refine oM ?_));(try intro _);conv=>whnf)
  refine RunsS.subR [] (meet (y) (by exact (hy.trans (acc_eq rfl (by rw [hb];exact (decide_eq_false fun h=>h1 h.1).symm))))) sH sH
 rintro x0 hx0
 have lx0:x0.1.length=x.1.length:=by rw [hx0,acc_len];rfl
 (try refine gS ?_);conv=>whnf
 repeat ((first|(guard_target=_∧_;(first|refine oL ?_|refine oR ?_))|(guard_target=Exists _;refine oM ?_));(try intro _);conv=>whnf)
 refine RunsS.callN (padd_fn x0 [.w wMake,.s r.item,.w wAt,.s r.plant,.w wFrom,.n r.fr,.w wTo,.n r.to] (by show x0.1.length+8≤_;omega)) [0,3,4] ?_ sH ?CNa7
 case CNa7=>rfl
 rintro x1 hx1<;>conv=>whnf
 have lx1:x1.1.length=x0.1.length+8:=by rw [hx1,acc_len];rfl
 refine RunsS.subR (nx':=4) (l':=[(0,.ptr 0 0),(3,.ptr 2 0)]) (H':=[prB x1.2 3,toksB x1.1 3,(2,.cells 61 (toV r.row))]) [(3,5)] ?_ sH sH
 refine goS_run tab 2 _ _ _ _ ?_;conv=>whnf
 rw [←hx0,←hx1]
 refine RunsS.join (fun (y:Ac)=>[(0,.ptr 0 0),(3,.ptr 2 0)]) (fun (y:Ac)=>[prB y.2 3,toksB y.1 3,(2,.cells 61 (toV r.row))]) 4 (fun (y:Ac)=>y=acc x1 (cndPr r.cs)) ?_ (fun meet=>?_)
 rotate_left
 ·try refine gS ?_
  conv=>whnf
  repeat ((first|(guard_target=_∧_;(first|refine oL ?_|refine oR ?_))|(guard_target=Exists _;refine oM ?_));(try intro _);conv=>whnf)
  refine ⟨fun hc=>?_,fun hc=>?_⟩<;>conv=>whnf
  ·have e:r.cs ≠ []:=fun e=>by rw [e] at hc;exact absurd hc (by decide)
   have ec:cndPr r.cs=⟨.w wIf::condsPt r.cs,decide (1≤r.cs.length∧r.cs.length≤6)⟩:=by
    unfold cndPr
    rw [if_neg e]
    congr 1
    exact decide_eq_decide.2 ⟨fun h=>⟨by omega,h⟩,fun h=>h.2⟩
   (try refine gS ?_);conv=>whnf
   repeat ((first|(guard_target=_∧_;(first|refine oL ?_|refine oR ?_))|(guard_target=Exists _;refine oM ?_));(try intro _);conv=>whnf)
   refine RunsS.callN (padd_fn x1 [.w wIf] (by show x1.1.length+1≤_;omega)) [0,3,4] ?_ sH ?CNa8
   case CNa8=>rfl
   rintro y hy<;>conv=>whnf
   have ly:y.1.length=x1.1.length+1:=by rw [hy,acc_len];rfl
   refine RunsS.subR (nx':=4) (l':=[(0,.ptr 0 0),(3,.ptr 2 0)]) (H':=[prB y.2 3,toksB y.1 3,(2,.cells 61 (toV r.row))]) [(3,5)] ?_ sH sH
   (try refine gS ?_);conv=>whnf
   repeat ((first|(guard_target=_∧_;(first|refine oL ?_|refine oR ?_))|(guard_target=Exists _;refine oM ?_));(try intro _);conv=>whnf)
   refine RunsS.callT (RoF.tok _ _ _) (hT.c) (pconds_fn _ r.cs y (by omega)) [0,3] sH ?CNa9 ?_
   case CNa9=>rfl
   rintro z hz
   conv=>whnf
   refine RunsS.subR (nx':=5) (l':=[(0,.ptr 0 0),(3,.ptr 2 0)]) (H':=[prB z.2 4,toksB z.1 4,(2,.cells 61 (toV r.row))]) [] ?_ sH sH
   (try refine gS ?_);conv=>whnf
   repeat ((first|(guard_target=_∧_;(first|refine oL ?_|refine oR ?_))|(guard_target=Exists _;refine oM ?_));(try intro _);conv=>whnf)
   refine RunsS.subR [(3,4)] (meet (z) (by exact (by rw [hz,hy,acc_add,ec];exact acc_eq rfl rfl))) sH sH
  have e:r.cs=[]:=List.length_eq_zero_iff.1 (by omega)
  (try refine gS ?_);conv=>whnf
  repeat ((first|(guard_target=_∧_;(first|refine oL ?_|refine oR ?_))|(guard_target=Exists _;refine oM ?_));(try intro _);conv=>whnf)
  refine RunsS.subR [] (meet (x1) (by exact (by rw [e];exact (acc_nil x1).symm))) sH sH
 rintro x2 hx2
 have lx2:x2.1.length≤x1.1.length+1+4*r.cs.length:=by
  rw [hx2,acc_len]
  have:=condsPt_len r.cs
  unfold cndPr
  split
  ·simp only [List.length_nil];omega
  simp only [List.length_cons];omega
 rw [←hx2]
 (try refine gS ?_);conv=>whnf
 repeat ((first|(guard_target=_∧_;(first|refine oL ?_|refine oR ?_))|(guard_target=Exists _;refine oM ?_));(try intro _);conv=>whnf)
 refine RunsS.callN (padd_fn x2 [wS 123] (by show x2.1.length+1≤_;omega)) [0,3,4] ?_ sH ?CNa12
 case CNa12=>rfl
 rintro x3 hx3<;>conv=>whnf
 have lx3:x3.1.length=x2.1.length+1:=by rw [hx3,acc_len];rfl
 refine RunsS.subR (nx':=4) (l':=[(0,.ptr 0 0),(3,.ptr 2 0)]) (H':=[prB x3.2 3,toksB x3.1 3,(2,.cells 61 (toV r.row))]) [(3,5)] ?_ sH sH
 (try refine gS ?_);conv=>whnf
 repeat ((first|(guard_target=_∧_;(first|refine oL ?_|refine oR ?_))|(guard_target=Exists _;refine oM ?_));(try intro _);conv=>whnf)
 rw [←hx3]
 refine RunsS.nameAt (fun _ x=>x) 64 (by exact hT.i) ?_
 conv=>whnf
 (try refine gS ?_);conv=>whnf
 repeat ((first|(guard_target=_∧_;(first|refine oL ?_|refine oR ?_))|(guard_target=Exists _;refine oM ?_));(try intro _);conv=>whnf)
 refine RunsS.subR [] (RunsS.loop (fun (⟨i,z⟩:Nat×Ac)=>[(0,.ptr 0 0),(3,.ptr 2 0),(64,.buf 4),(65,.v (.int .i64 r.inn.length)),(66,.v (.int .i64 i))]) (fun (⟨i,z⟩:Nat×Ac)=>[prB z.2 3,toksB z.1 3,(2,.cells 61 (toV r.row)),(4,.ro 7 (rws Am.row r.inn))]) 5 (fun (⟨i,z⟩:Nat×Ac)=>i≤r.inn.length∧z=acc x3 (Pr.all inPr (r.inn.take i))) (fun (⟨i,z⟩:Nat×Ac)=>r.inn.length - i) ?round13 ((0,x3)) ?J013) sH sH
 case J013=>exact (⟨Nat.zero_le _,(acc_nil x3).symm⟩)
 rintro ⟨i,z⟩ hJ back
 try dsimp only at hJ back
 conv=>whnf
 try dsimp only
 refine gS ?_;conv=>whnf
 repeat ((first|(guard_target=_∧_;(first|refine oL ?_|refine oR ?_))|(guard_target=Exists _;refine oM ?_));(try intro _);conv=>whnf)
 obtain ⟨hi,hJ⟩:=hJ
 have lz:z.1.length≤x3.1.length+8*i:=by
  rw [hJ,acc_len]
  have:=all_len inPr_len (r.inn.take i)
  rw [List.length_take] at this
  omega
 refine ⟨fun hk=>?_,fun hk=>?_⟩<;>conv=>whnf
 ·have hk:i<r.inn.length:=by omega
  have hn:=all_snoc (f:=inPr) (r.inn.take i) r.inn[i]
  rw [←take_snoc hk] at hn
  conv=>whnf
  repeat ((first|(guard_target=_∧_;(first|refine oL ?_|refine oR ?_))|(guard_target=Exists _;refine oM ?_));(try intro _);conv=>whnf)
  refine ⟨_,rws_get hk,?_⟩;conv=>whnf
  try (refine oN ?_;conv=>whnf)
  repeat ((first|(guard_target=_∧_;(first|refine oL ?_|refine oR ?_))|(guard_target=Exists _;refine oM ?_));(try intro _);conv=>whnf)
  (try refine gS ?_);conv=>whnf
  repeat ((first|(guard_target=_∧_;(first|refine oL ?_|refine oR ?_))|(guard_target=Exists _;refine oM ?_));(try intro _);conv=>whnf)
  refine RunsS.callN (padd_fn z [.w wIn] (by show z.1.length+1≤_;omega)) [0,3,6] ?_ sH ?CNa14
  case CNa14=>rfl
  rintro z1 hz1<;>conv=>whnf
  have lz1:z1.1.length=z.1.length+1:=by rw [hz1,acc_len];rfl
  refine RunsS.subR (nx':=6) (l':=[(0,.ptr 0 0),(3,.ptr 2 0),(64,.buf 4),(65,.v (.int .i64 r.inn.length)),(66,.v (.int .i64 i)),(5,.ptr 5 0)]) (H':=[prB z1.2 3,toksB z1.1 3,(2,.cells 61 (toV r.row)),(5,.cells 55 (toV r.inn[i].row)),(4,.ro 7 (rws Am.row r.inn))]) [(3,7)] ?_ sH sH
  (try refine gS ?_);conv=>whnf
  repeat ((first|(guard_target=_∧_;(first|refine oL ?_|refine oR ?_))|(guard_target=Exists _;refine oM ?_));(try intro _);conv=>whnf)
  cases hbk:r.inn[i].back with
  |true=>
   (try refine gS ?_);conv=>whnf
   repeat ((first|(guard_target=_∧_;(first|refine oL ?_|refine oR ?_))|(guard_target=Exists _;refine oM ?_));(try intro _);conv=>whnf)
   refine RunsS.callN (padd_fn z1 [.w wBack] (by show z1.1.length+1≤_;omega)) [0,3,6] ?_ sH ?CNa15
   case CNa15=>rfl
   rintro z2 hz2<;>conv=>whnf
   have lz2:z2.1.length=z1.1.length+1:=by rw [hz2,acc_len];rfl
   refine RunsS.subR (nx':=6) (l':=[(0,.ptr 0 0),(3,.ptr 2 0),(64,.buf 4),(65,.v (.int .i64 r.inn.length)),(66,.v (.int .i64 i)),(5,.ptr 5 0)]) (H':=[prB z2.2 3,toksB z2.1 3,(2,.cells 61 (toV r.row)),(5,.cells 55 (toV r.inn[i].row)),(4,.ro 7 (rws Am.row r.inn))]) [(3,7)] ?_ sH sH
   (try refine gS ?_);conv=>whnf
   repeat ((first|(guard_target=_∧_;(first|refine oL ?_|refine oR ?_))|(guard_target=Exists _;refine oM ?_));(try intro _);conv=>whnf)
   refine RunsS.callN (pam_fn z2 (r.inn[i]) (by omega)) [0,3] ?_ sH ?CNa16
   case CNa16=>rfl
   rintro z3 hz3<;>conv=>whnf
   have lz3:z3.1.length=z2.1.length+6:=by rw [hz3,acc_len];rfl
   refine RunsS.subR (nx':=6) (l':=[(0,.ptr 0 0),(3,.ptr 2 0),(64,.buf 4),(65,.v (.int .i64 r.inn.length)),(66,.v (.int .i64 i))]) (H':=[prB z3.2 3,toksB z3.1 3,(2,.cells 61 (toV r.row)),(4,.ro 7 (rws Am.row r.inn))]) [(3,6)] ?_ sH sH
   (try refine gS ?_);conv=>whnf
   repeat ((first|(guard_target=_∧_;(first|refine oL ?_|refine oR ?_))|(guard_target=Exists _;refine oM ?_));(try intro _);conv=>whnf)
   refine RunsS.subR [] (back ((i+1,z3)) (by exact (⟨hk,by show z3=_;rw [hz3,hz2,hz1,hJ,hn,acc_add,acc_add,acc_add,←acc_add _ _ (inPr _),←acc_add];exact acc_eq (by simp [Pr.add,inPr,inPt,hbk]) (by simp [Pr.add,inPr])⟩)) (by (try dsimp only);omega)) sH sH
  |false=>
   (try refine gS ?_);conv=>whnf
   repeat ((first|(guard_target=_∧_;(first|refine oL ?_|refine oR ?_))|(guard_target=Exists _;refine oM ?_));(try intro _);conv=>whnf)
   refine RunsS.callN (pam_fn z1 (r.inn[i]) (by omega)) [0,3] ?_ sH ?CNa18
   case CNa18=>rfl
   rintro z3 hz3<;>conv=>whnf
   have lz3:z3.1.length=z1.1.length+6:=by rw [hz3,acc_len];rfl
   refine RunsS.subR (nx':=6) (l':=[(0,.ptr 0 0),(3,.ptr 2 0),(64,.buf 4),(65,.v (.int .i64 r.inn.length)),(66,.v (.int .i64 i))]) (H':=[prB z3.2 3,toksB z3.1 3,(2,.cells 61 (toV r.row)),(4,.ro 7 (rws Am.row r.inn))]) [(3,6)] ?_ sH sH
   (try refine gS ?_);conv=>whnf
   repeat ((first|(guard_target=_∧_;(first|refine oL ?_|refine oR ?_))|(guard_target=Exists _;refine oM ?_));(try intro _);conv=>whnf)
   refine RunsS.subR [] (back ((i+1,z3)) (by exact (⟨hk,by show z3=_;rw [hz3,hz1,hJ,hn,acc_add,acc_add];exact acc_eq (by simp [Pr.add,inPr,inPt,hbk]) (by simp [Pr.add,inPr])⟩)) (by (try dsimp only);omega)) sH sH
 have hJ:z=acc x3 (Pr.all inPr r.inn):=by rw [hJ,List.take_of_length_le (by omega)]
 clear back
 obtain ⟨x4,hx4⟩:∃x4,x4=z:=⟨_,rfl⟩
 rw [←hx4] at hJ ⊢
 clear hx4 lz
 have hx4:=hJ
 clear hJ
 have lx4:x4.1.length≤x3.1.length+8*r.inn.length:=by
  rw [hx4,acc_len]
  have:=all_len inPr_len r.inn
  omega
 rw [←hx4]
 refine RunsS.subR (nx':=4) (l':=[(0,.ptr 0 0),(3,.ptr 2 0),(85,.v (r.ho.v r.out.length)),(86,.v (.int .i64 r.out.length)),(87,.v (.int .i64 (0:Nat)))]) (H':=[prB x4.2 3,toksB x4.1 3,(2,.cells 61 (toV r.row))]) [] ?_ sH sH
 refine RunsS.nameAt (fun _ x=>x) 85 (by exact hT.o) ?_
 conv=>whnf
 (try refine gS ?_);conv=>whnf
 repeat ((first|(guard_target=_∧_;(first|refine oL ?_|refine oR ?_))|(guard_target=Exists _;refine oM ?_));(try intro _);conv=>whnf)
 refine RunsS.subR [] (RunsS.loop (fun (⟨i,z⟩:Nat×Ac)=>[(0,.ptr 0 0),(3,.ptr 2 0),(85,.buf 4),(86,.v (.int .i64 r.out.length)),(87,.v (.int .i64 i))]) (fun (⟨i,z⟩:Nat×Ac)=>[prB z.2 3,toksB z.1 3,(2,.cells 61 (toV r.row)),(4,.ro 7 (rws Am.row r.out))]) 5 (fun (⟨i,z⟩:Nat×Ac)=>i≤r.out.length∧z=acc x4 (Pr.all outPr (r.out.take i))) (fun (⟨i,z⟩:Nat×Ac)=>r.out.length - i) ?round20 ((0,x4)) ?J020) sH sH
 case J020=>exact (⟨Nat.zero_le _,(acc_nil x4).symm⟩)
 rintro ⟨i,z⟩ hJ back
 try dsimp only at hJ back
 conv=>whnf
 try dsimp only
 refine gS ?_;conv=>whnf
 repeat ((first|(guard_target=_∧_;(first|refine oL ?_|refine oR ?_))|(guard_target=Exists _;refine oM ?_));(try intro _);conv=>whnf)
 obtain ⟨hi,hJ⟩:=hJ
 have lz:z.1.length≤x4.1.length+7*i:=by
  rw [hJ,acc_len]
  have:=all_len outPr_len (r.out.take i)
  rw [List.length_take] at this
  omega
 refine ⟨fun hk=>?_,fun hk=>?_⟩<;>conv=>whnf
 ·have hk:i<r.out.length:=by omega
  have hn:=all_snoc (f:=outPr) (r.out.take i) r.out[i]
  rw [←take_snoc hk] at hn
  conv=>whnf
  repeat ((first|(guard_target=_∧_;(first|refine oL ?_|refine oR ?_))|(guard_target=Exists _;refine oM ?_));(try intro _);conv=>whnf)
  refine ⟨_,rws_get hk,?_⟩;conv=>whnf
  try (refine oN ?_;conv=>whnf)
  repeat ((first|(guard_target=_∧_;(first|refine oL ?_|refine oR ?_))|(guard_target=Exists _;refine oM ?_));(try intro _);conv=>whnf)
  refine RunsS.callN (pneed_fn z (!r.out[i].back)) [0,3] ?_ sH ?CNa21
  case CNa21=>rfl
  rintro z1 hz1<;>conv=>whnf
  have lz1:z1.1.length=z.1.length:=by rw [hz1,acc_len];rfl
  refine RunsS.subR (nx':=6) (l':=[(0,.ptr 0 0),(3,.ptr 2 0),(85,.buf 4),(86,.v (.int .i64 r.out.length)),(87,.v (.int .i64 i)),(7,.ptr 5 0)]) (H':=[prB z1.2 3,toksB z1.1 3,(2,.cells 61 (toV r.row)),(5,.cells 55 (toV r.out[i].row)),(4,.ro 7 (rws Am.row r.out))]) [] ?_ sH sH
  (try refine gS ?_);conv=>whnf
  repeat ((first|(guard_target=_∧_;(first|refine oL ?_|refine oR ?_))|(guard_target=Exists _;refine oM ?_));(try intro _);conv=>whnf)
  refine RunsS.callN (padd_fn z1 [.w wOut] (by show z1.1.length+1≤_;omega)) [0,3,6] ?_ sH ?CNa22
  case CNa22=>rfl
  rintro z2 hz2<;>conv=>whnf
  have lz2:z2.1.length=z1.1.length+1:=by rw [hz2,acc_len];rfl
  refine RunsS.subR (nx':=6) (l':=[(0,.ptr 0 0),(3,.ptr 2 0),(85,.buf 4),(86,.v (.int .i64 r.out.length)),(87,.v (.int .i64 i)),(7,.ptr 5 0)]) (H':=[prB z2.2 3,toksB z2.1 3,(2,.cells 61 (toV r.row)),(5,.cells 55 (toV r.out[i].row)),(4,.ro 7 (rws Am.row r.out))]) [(3,7)] ?_ sH sH
  (try refine gS ?_);conv=>whnf
  repeat ((first|(guard_target=_∧_;(first|refine oL ?_|refine oR ?_))|(guard_target=Exists _;refine oM ?_));(try intro _);conv=>whnf)
  refine RunsS.callN (pam_fn z2 (r.out[i]) (by omega)) [0,3] ?_ sH ?CNa23
  case CNa23=>rfl
  rintro z3 hz3<;>conv=>whnf
  have lz3:z3.1.length=z2.1.length+6:=by rw [hz3,acc_len];rfl
  refine RunsS.subR (nx':=6) (l':=[(0,.ptr 0 0),(3,.ptr 2 0),(85,.buf 4),(86,.v (.int .i64 r.out.length)),(87,.v (.int .i64 i))]) (H':=[prB z3.2 3,toksB z3.1 3,(2,.cells 61 (toV r.row)),(4,.ro 7 (rws Am.row r.out))]) [(3,6)] ?_ sH sH
  (try refine gS ?_);conv=>whnf
  repeat ((first|(guard_target=_∧_;(first|refine oL ?_|refine oR ?_))|(guard_target=Exists _;refine oM ?_));(try intro _);conv=>whnf)
  refine RunsS.subR [] (back ((i+1,z3)) (by exact (⟨hk,by show z3=_;rw [hz3,hz2,hz1,hJ,hn,acc_add,acc_add,acc_add];exact acc_eq (by simp [Pr.add,outPr,outPt]) (by simp [Pr.add,outPr])⟩)) (by (try dsimp only);omega)) sH sH
 have hJ:z=acc x4 (Pr.all outPr r.out):=by rw [hJ,List.take_of_length_le (by omega)]
 clear back
 obtain ⟨x5,hx5⟩:∃x5,x5=z:=⟨_,rfl⟩
 rw [←hx5] at hJ ⊢
 clear hx5 lz
 have hx5:=hJ
 clear hJ
 have lx5:x5.1.length≤x4.1.length+7*r.out.length:=by
  rw [hx5,acc_len]
  have:=all_len outPr_len r.out
  omega
 rw [←hx5]
 refine RunsS.callN (padd_fn x5 [.w wRework,.n r.rwN,wS 47,.n r.rwD,wS 59] (by show x5.1.length+5≤_;omega)) [0,3,5] ?_ sH ?CNa25
 case CNa25=>rfl
 rintro x6 hx6<;>conv=>whnf
 have lx6:x6.1.length=x5.1.length+5:=by rw [hx6,acc_len];rfl
 refine RunsS.subR (nx':=4) (l':=[(0,.ptr 0 0),(3,.ptr 2 0)]) (H':=[prB x6.2 3,toksB x6.1 3,(2,.cells 61 (toV r.row))]) [(3,6)] ?_ sH sH
 (try refine gS ?_);conv=>whnf
 repeat ((first|(guard_target=_∧_;(first|refine oL ?_|refine oR ?_))|(guard_target=Exists _;refine oM ?_));(try intro _);conv=>whnf)
 rw [←hx6]
 refine RunsS.callN (padd_fn x6 [.w wYield,.n r.yN,wS 47,.n r.yD,.w wWithin,.n r.tN,wS 47,.n r.tD,wS 59] (by show x6.1.length+9≤_;omega)) [0,3,4] ?_ sH ?CNa26
 case CNa26=>rfl
 rintro x7 hx7<;>conv=>whnf
 have lx7:x7.1.length=x6.1.length+9:=by rw [hx7,acc_len];rfl
 refine RunsS.subR (nx':=4) (l':=[(0,.ptr 0 0),(3,.ptr 2 0)]) (H':=[prB x7.2 3,toksB x7.1 3,(2,.cells 61 (toV r.row))]) [(3,5)] ?_ sH sH
 (try refine gS ?_);conv=>whnf
 repeat ((first|(guard_target=_∧_;(first|refine oL ?_|refine oR ?_))|(guard_target=Exists _;refine oM ?_));(try intro _);conv=>whnf)
 rw [←hx7]
 refine RunsS.callN (padd_fn x7 [.w wLead,.n r.lead,wS 59] (by show x7.1.length+3≤_;omega)) [0,3,4] ?_ sH ?CNa27
 case CNa27=>rfl
 rintro x8 hx8<;>conv=>whnf
 have lx8:x8.1.length=x7.1.length+3:=by rw [hx8,acc_len];rfl
 refine RunsS.subR (nx':=4) (l':=[(0,.ptr 0 0),(3,.ptr 2 0)]) (H':=[prB x8.2 3,toksB x8.1 3,(2,.cells 61 (toV r.row))]) [(3,5)] ?_ sH sH
 (try refine gS ?_);conv=>whnf
 repeat ((first|(guard_target=_∧_;(first|refine oL ?_|refine oR ?_))|(guard_target=Exists _;refine oM ?_));(try intro _);conv=>whnf)
 rw [←hx8]
 refine RunsS.nameAt (fun _ x=>x) 145 (by exact hT.rn) ?_
 conv=>whnf
 (try refine gS ?_);conv=>whnf
 repeat ((first|(guard_target=_∧_;(first|refine oL ?_|refine oR ?_))|(guard_target=Exists _;refine oM ?_));(try intro _);conv=>whnf)
 refine RunsS.subR [] (RunsS.loop (fun (⟨i,z⟩:Nat×Ac)=>[(0,.ptr 0 0),(3,.ptr 2 0),(145,.buf 4),(146,.v (.int .i64 r.runs.length)),(147,.v (.int .i64 i))]) (fun (⟨i,z⟩:Nat×Ac)=>[prB z.2 3,toksB z.1 3,(2,.cells 61 (toV r.row)),(4,.ro 3 (rws Rn.row r.runs))]) 5 (fun (⟨i,z⟩:Nat×Ac)=>i≤r.runs.length∧z=acc x8 (Pr.all runPr (r.runs.take i))) (fun (⟨i,z⟩:Nat×Ac)=>r.runs.length - i) ?round28 ((0,x8)) ?J028) sH sH
 case J028=>exact (⟨Nat.zero_le _,(acc_nil x8).symm⟩)
 rintro ⟨i,z⟩ hJ back
 try dsimp only at hJ back
 conv=>whnf
 try dsimp only
 refine gS ?_;conv=>whnf
 repeat ((first|(guard_target=_∧_;(first|refine oL ?_|refine oR ?_))|(guard_target=Exists _;refine oM ?_));(try intro _);conv=>whnf)
 obtain ⟨hi,hJ⟩:=hJ
 have lz:z.1.length≤x8.1.length+4*i:=by
  rw [hJ,acc_len]
  have:=all_len runPr_len (r.runs.take i)
  rw [List.length_take] at this
  omega
 refine ⟨fun hk=>?_,fun hk=>?_⟩<;>conv=>whnf
 ·have hk:i<r.runs.length:=by omega
  have hn:=all_snoc (f:=runPr) (r.runs.take i) r.runs[i]
  rw [←take_snoc hk] at hn
  conv=>whnf
  repeat ((first|(guard_target=_∧_;(first|refine oL ?_|refine oR ?_))|(guard_target=Exists _;refine oM ?_));(try intro _);conv=>whnf)
  refine ⟨_,rws_get hk,?_⟩;conv=>whnf
  try (refine oN ?_;conv=>whnf)
  repeat ((first|(guard_target=_∧_;(first|refine oL ?_|refine oR ?_))|(guard_target=Exists _;refine oM ?_));(try intro _);conv=>whnf)
  (try refine gS ?_);conv=>whnf
  repeat ((first|(guard_target=_∧_;(first|refine oL ?_|refine oR ?_))|(guard_target=Exists _;refine oM ?_));(try intro _);conv=>whnf)
  refine RunsS.callN (padd_fn z [.w wRun,.s r.runs[i].mach,.n r.runs[i].slots,wS 59] (by show z.1.length+4≤_;omega)) [0,3,6] ?_ sH ?CNa29
  case CNa29=>rfl
  rintro z1 hz1<;>conv=>whnf
  have lz1:z1.1.length=z.1.length+4:=by rw [hz1,acc_len];rfl
  refine RunsS.subR (nx':=6) (l':=[(0,.ptr 0 0),(3,.ptr 2 0),(145,.buf 4),(146,.v (.int .i64 r.runs.length)),(147,.v (.int .i64 i))]) (H':=[prB z1.2 3,toksB z1.1 3,(2,.cells 61 (toV r.row)),(4,.ro 3 (rws Rn.row r.runs))]) [(3,7)] ?_ sH sH
  (try refine gS ?_);conv=>whnf
  repeat ((first|(guard_target=_∧_;(first|refine oL ?_|refine oR ?_))|(guard_target=Exists _;refine oM ?_));(try intro _);conv=>whnf)
  refine RunsS.subR [] (back ((i+1,z1)) (by exact (⟨hk,by show z1=_;rw [hz1,hJ,hn,acc_add];exact acc_eq rfl rfl⟩)) (by (try dsimp only);omega)) sH sH
 have hJ:z=acc x8 (Pr.all runPr r.runs):=by rw [hJ,List.take_of_length_le (by omega)]
 clear back
 (try refine gS ?_);conv=>whnf
 repeat ((first|(guard_target=_∧_;(first|refine oL ?_|refine oR ?_))|(guard_target=Exists _;refine oM ?_));(try intro _);conv=>whnf)
 refine RunsS.callN (padd_fn z [wS 125] (by show z.1.length+1≤_;omega)) [0,3,5] ?_ sH ?CNa31
 case CNa31=>rfl
 rintro w hw<;>conv=>whnf
 have lw:w.1.length=z.1.length+1:=by rw [hw,acc_len];rfl
 refine RunsS.subR (nx':=5) (l':=[(0,.ptr 0 0)]) (H':=[prB w.2 3,toksB w.1 3]) [(3,6)] ?_ sH sH
 (try refine gS ?_);conv=>whnf
 repeat ((first|(guard_target=_∧_;(first|refine oL ?_|refine oR ?_))|(guard_target=Exists _;refine oM ?_));(try intro _);conv=>whnf)
 try refine RunsS.retU ?_
 try refine RunsS.finU ?_
 exact UnwS.ret tab Tryz.func96 rfl (EndS.mk (w) (by rw [hw,hJ]) [(2,3)] sH rfl rfl (okRet rfl rfl))
end Go.Proofs.YtgbeechjghajcaaGreatDoor

namespace Go.SynM
open Go Go.Fw Go.RatM Go.SrcM
def lenO (o:OpV):Nat:=5+2*o.ch.length
def lenF (f:FbV):Nat:=2+4*f.cs.length
def lenR (r:RcV):Nat:=28+4*r.cs.length+8*r.inn.length+7*r.out.length+4*r.runs.length
def ttl (s:SrcV):Nat:=(s.units.map fun _=>8).sum+((s.items.map fun _=>12).sum+((s.plants.map fun _=>3).sum+((s.machines.map fun _=>7).sum+((s.options.map lenO).sum+((s.forbids.map lenF).sum+((s.recipes.map lenR).sum+(s.swaps.map fun _=>5).sum))))))
theorem all_lenF {α:Type} {f:α→Pr} {n:α→Nat} (h:∀x,(f x).l.length≤n x) (l:List α):(Pr.all f l).l.length≤(l.map n).sum:=by
 induction l with
 |nil=>simp [Pr.all,Pr.nil]
 |cons x l ih=>
  have:=h x
  simp only [Pr.all,Pr.add,List.length_append,List.map_cons,List.sum_cons]
  omega
theorem unitPr_len (u:Un):(unitPr u).l.length≤8:=by
 unfold unitPr
 split<;>simp
theorem itemPr_len (u:It):(itemPr u).l.length≤12:=by
 unfold itemPr
 split<;>simp
theorem plantPr_len (u:ByteArray):(plantPr u).l.length≤3:=Nat.le_of_eq rfl
theorem machPr_len (u:Mc):(machPr u).l.length≤7:=Nat.le_of_eq rfl
theorem swapPr_len (u:Sw):(swapPr u).l.length≤5:=Nat.le_of_eq rfl
theorem optnPr_len (o:OpV):(optnPr o).l.length≤lenO o:=by
 have:=chsPt_len o.ch
 simp only [optnPr,lenO,List.length_append,List.length_cons,List.length_nil]
 omega
theorem forbPr_len (o:FbV):(forbPr o).l.length≤lenF o:=by
 have:=condsPt_len o.cs
 simp only [forbPr,lenF,List.length_append,List.length_cons,List.length_nil]
 omega
theorem recPr_len (r:RcV):(recPr r).l.length≤lenR r:=by
 rw [←rec_parts]
 have h1:=condsPt_len r.cs
 have h2:=all_len inPr_len r.inn
 have h3:=all_len outPr_len r.out
 have h4:=all_len runPr_len r.runs
 have h5:(cndPr r.cs).l.length≤1+4*r.cs.length:=by
  unfold cndPr
  split
  ·simp
  simp only [List.length_cons];omega
 simp only [Pr.add,lenR,List.length_append,List.length_cons,List.length_nil]
 omega
end Go.SynM
namespace Go.Proofs.YtgbeechjghajcaaGreatDoor
open Go Go.Fw Go.NatM Go.RatM Go.SrcM Go.SynM
set_option maxRecDepth 100000
set_option maxHeartbeats 99999999
theorem OpV.tok (o:OpV):TOk (fun F h=>o.ok F h):=RoF.tok _ _ _
theorem FbV.tok (o:FbV):TOk (fun F h=>o.ok F h):=RoF.tok _ _ _
section
variable {vU vI vP vM vO vF vR vS:Value}
theorem psrc_fn (s:SrcV) (x:Ac) (hl:x.1.length+ttl s≤1000000):FnT Tryz.prog (TopT vU vI vP vM vO vF vR vS s) 31 2 [.ptr 0 0,srcA vU vI vP vM vO vF vR vS] [prB x.2 1,toksB x.1 1] (fun y=>y=acc x (srcPr s)) (outY 2):=by
 unfold srcPr
 rw [←acc_add,←acc_add,←acc_add,←acc_add,←acc_add,←acc_add,←acc_add]
 obtain ⟨sU,eU⟩:∃n,n=(s.units.map fun _=>8).sum:=⟨_,rfl⟩
 obtain ⟨sI,eI⟩:∃n,n=(s.items.map fun _=>12).sum:=⟨_,rfl⟩
 obtain ⟨sP,eP⟩:∃n,n=(s.plants.map fun _=>3).sum:=⟨_,rfl⟩
 obtain ⟨sM,eM⟩:∃n,n=(s.machines.map fun _=>7).sum:=⟨_,rfl⟩
 obtain ⟨sO,eO⟩:∃n,n=(s.options.map lenO).sum:=⟨_,rfl⟩
 obtain ⟨sF,eF⟩:∃n,n=(s.forbids.map lenF).sum:=⟨_,rfl⟩
 obtain ⟨sR,eR⟩:∃n,n=(s.recipes.map lenR).sum:=⟨_,rfl⟩
 obtain ⟨sS,eS⟩:∃n,n=(s.swaps.map fun _=>5).sum:=⟨_,rfl⟩
 unfold ttl at hl
 rw [←eU,←eI,←eP,←eM,←eO,←eF,←eR,←eS] at hl
 have lU:=rowsU_len s.units
 have lI:=rws_len It.row s.items
 have lP:=rwsB_len s.plants
 have lM:=rws_len Mc.row s.machines
 have lO:=rws_len OpV.row s.options
 have lF:=rws_len FbV.row s.forbids
 have lR:=rws_len RcV.row s.recipes
 have lS:=rws_len Sw.row s.swaps
 refine FnT.of Tryz.func31 (by kernel_rfl) rfl Tryz.ntmps31 rfl fun E0 F h hT w0 cs=>?_
 obtain ⟨aU,cU,aI,cI,aP,cP,aM,cM,aO,cO,aF,cF,aR,cR,aS,cS,rfl,rfl,rfl,rfl,rfl,rfl,rfl,rfl⟩:=topShapes hT
 conv=>whnf
 (try refine gS ?_);conv=>whnf
 repeat ((first|(guard_target=_∧_;(first|refine oL ?_|refine oR ?_))|(guard_target=Exists _;refine oM ?_));(try intro _);conv=>whnf)
 refine RunsS.subR (nx':=4) (l':=[(0,.ptr 0 0),(3,.ptr 2 0),(21,.v (.slice aU s.units.length cU)),(22,.v (.int .i64 s.units.length)),(23,.v (.int .i64 (0:Nat)))]) (H':=[prB x.2 3,toksB x.1 3,(2,.cells 32 [.v (.slice aU s.units.length cU),.v (.slice aI s.items.length cI),.v (.slice aP s.plants.length cP),.v (.slice aM s.machines.length cM),.v (.slice aO s.options.length cO),.v (.slice aF s.forbids.length cF),.v (.slice aR s.recipes.length cR),.v (.slice aS s.swaps.length cS)])]) [(3,1)] ?_ sH sH
 have mU:=hT.U.len
 refine RunsS.nameAt (fun _ x=>x) 21 (by exact hT.U) ?_
 conv=>whnf
 (try refine gS ?_);conv=>whnf
 repeat ((first|(guard_target=_∧_;(first|refine oL ?_|refine oR ?_))|(guard_target=Exists _;refine oM ?_));(try intro _);conv=>whnf)
 refine RunsS.subR [] (RunsS.loop (fun (⟨i,z⟩:Nat×Ac)=>[(0,.ptr 0 0),(3,.ptr 2 0),(21,.buf 4),(22,.v (.int .i64 s.units.length)),(23,.v (.int .i64 i))]) (fun (⟨i,z⟩:Nat×Ac)=>[prB z.2 3,toksB z.1 3,(2,.cells 32 [.v (.slice aU s.units.length cU),.v (.slice aI s.items.length cI),.v (.slice aP s.plants.length cP),.v (.slice aM s.machines.length cM),.v (.slice aO s.options.length cO),.v (.slice aF s.forbids.length cF),.v (.slice aR s.recipes.length cR),.v (.slice aS s.swaps.length cS)]),(4,.ro 8 (rowsU s.units))]) 5 (fun (⟨i,z⟩:Nat×Ac)=>i≤s.units.length∧z=acc x (Pr.all unitPr (s.units.take i))) (fun (⟨i,z⟩:Nat×Ac)=>s.units.length - i) ?round1 ((0,x)) ?J01) sH sH
 case J01=>exact (⟨Nat.zero_le _,(acc_nil x).symm⟩)
 rintro ⟨i,z⟩ hJ back
 try dsimp only at hJ back
 conv=>whnf
 try dsimp only
 refine gS ?_;conv=>whnf
 repeat ((first|(guard_target=_∧_;(first|refine oL ?_|refine oR ?_))|(guard_target=Exists _;refine oM ?_));(try intro _);conv=>whnf)
 obtain ⟨hi,hJ⟩:=hJ
 have lz:z.1.length≤x.1.length+sumK (fun _=>8) s.units i:=by
  rw [hJ,acc_len]
  have:=all_lenF (n:=(fun _=>8)) unitPr_len (s.units.take i)
  unfold sumK
  omega
 refine ⟨fun hk=>?_,fun hk=>?_⟩<;>conv=>whnf
 ·have hk:i<s.units.length:=by omega
  have hn:=all_snoc (f:=unitPr) (s.units.take i) s.units[i]
  rw [←take_snoc hk] at hn
  have hs:=sumK_succ (f:=(fun _=>8)) hk
  have hs2:=sumK_le (f:=(fun _=>8)) (l:=s.units) (i+1)
  rw [←eU] at hs2
  conv=>whnf
  repeat ((first|(guard_target=_∧_;(first|refine oL ?_|refine oR ?_))|(guard_target=Exists _;refine oM ?_));(try intro _);conv=>whnf)
  refine ⟨_,rowsU_get hk,?_⟩;conv=>whnf
  try (refine oN ?_;conv=>whnf)
  repeat ((first|(guard_target=_∧_;(first|refine oL ?_|refine oR ?_))|(guard_target=Exists _;refine oM ?_));(try intro _);conv=>whnf)
  refine RunsS.callN (punitP_fn z s.units[i] (by omega)) [0,3] ?_ sH ?CNa2
  case CNa2=>rfl
  rintro w hw<;>conv=>whnf
  refine RunsS.subR (nx':=6) (l':=[(0,.ptr 0 0),(3,.ptr 2 0),(21,.buf 4),(22,.v (.int .i64 s.units.length)),(23,.v (.int .i64 i))]) (H':=[prB w.2 3,toksB w.1 3,(2,.cells 32 [.v (.slice aU s.units.length cU),.v (.slice aI s.items.length cI),.v (.slice aP s.plants.length cP),.v (.slice aM s.machines.length cM),.v (.slice aO s.options.length cO),.v (.slice aF s.forbids.length cF),.v (.slice aR s.recipes.length cR),.v (.slice aS s.swaps.length cS)]),(4,.ro 8 (rowsU s.units))]) [(3,6)] ?_ sH sH
  (try refine gS ?_);conv=>whnf
  repeat ((first|(guard_target=_∧_;(first|refine oL ?_|refine oR ?_))|(guard_target=Exists _;refine oM ?_));(try intro _);conv=>whnf)
  refine RunsS.subR [] (back ((i+1,w)) (by exact (⟨hk,by show w=_;rw [hw,hJ,hn,←acc_add]⟩)) (by (try dsimp only);omega)) sH sH
 have hJ:z=acc x (Pr.all unitPr s.units):=by rw [hJ,List.take_of_length_le (by omega)]
 clear back lz
 obtain ⟨x1,hx1⟩:∃y,y=z:=⟨_,rfl⟩
 rw [←hx1] at hJ ⊢
 clear hx1
 have hx1:=hJ
 clear hJ
 have lx1:x1.1.length≤x.1.length+sU:=by
  rw [hx1,acc_len,eU]
  exact Nat.add_le_add_left (all_lenF unitPr_len _) _
 rw [←hx1]
 refine RunsS.subR (nx':=4) (l':=[(0,.ptr 0 0),(3,.ptr 2 0),(32,.v (.slice aI s.items.length cI)),(33,.v (.int .i64 s.items.length)),(34,.v (.int .i64 (0:Nat)))]) (H':=[prB x1.2 3,toksB x1.1 3,(2,.cells 32 [.v (.slice aU s.units.length cU),.v (.slice aI s.items.length cI),.v (.slice aP s.plants.length cP),.v (.slice aM s.machines.length cM),.v (.slice aO s.options.length cO),.v (.slice aF s.forbids.length cF),.v (.slice aR s.recipes.length cR),.v (.slice aS s.swaps.length cS)])]) [] ?_ sH sH
 have mI:=hT.I.len
 refine RunsS.nameAt (fun _ x=>x) 32 (by exact hT.I) ?_
 conv=>whnf
 (try refine gS ?_);conv=>whnf
 repeat ((first|(guard_target=_∧_;(first|refine oL ?_|refine oR ?_))|(guard_target=Exists _;refine oM ?_));(try intro _);conv=>whnf)
 refine RunsS.subR [] (RunsS.loop (fun (⟨i,z⟩:Nat×Ac)=>[(0,.ptr 0 0),(3,.ptr 2 0),(32,.buf 4),(33,.v (.int .i64 s.items.length)),(34,.v (.int .i64 i))]) (fun (⟨i,z⟩:Nat×Ac)=>[prB z.2 3,toksB z.1 3,(2,.cells 32 [.v (.slice aU s.units.length cU),.v (.slice aI s.items.length cI),.v (.slice aP s.plants.length cP),.v (.slice aM s.machines.length cM),.v (.slice aO s.options.length cO),.v (.slice aF s.forbids.length cF),.v (.slice aR s.recipes.length cR),.v (.slice aS s.swaps.length cS)]),(4,.ro 6 (rws It.row s.items))]) 5 (fun (⟨i,z⟩:Nat×Ac)=>i≤s.items.length∧z=acc x1 (Pr.all itemPr (s.items.take i))) (fun (⟨i,z⟩:Nat×Ac)=>s.items.length - i) ?round4 ((0,x1)) ?J04) sH sH
 case J04=>exact (⟨Nat.zero_le _,(acc_nil x1).symm⟩)
 rintro ⟨i,z⟩ hJ back
 try dsimp only at hJ back
 conv=>whnf
 try dsimp only
 refine gS ?_;conv=>whnf
 repeat ((first|(guard_target=_∧_;(first|refine oL ?_|refine oR ?_))|(guard_target=Exists _;refine oM ?_));(try intro _);conv=>whnf)
 obtain ⟨hi,hJ⟩:=hJ
 have lz:z.1.length≤x1.1.length+sumK (fun _=>12) s.items i:=by
  rw [hJ,acc_len]
  have:=all_lenF (n:=(fun _=>12)) itemPr_len (s.items.take i)
  unfold sumK
  omega
 refine ⟨fun hk=>?_,fun hk=>?_⟩<;>conv=>whnf
 ·have hk:i<s.items.length:=by omega
  have hn:=all_snoc (f:=itemPr) (s.items.take i) s.items[i]
  rw [←take_snoc hk] at hn
  have hs:=sumK_succ (f:=(fun _=>12)) hk
  have hs2:=sumK_le (f:=(fun _=>12)) (l:=s.items) (i+1)
  rw [←eI] at hs2
  conv=>whnf
  repeat ((first|(guard_target=_∧_;(first|refine oL ?_|refine oR ?_))|(guard_target=Exists _;refine oM ?_));(try intro _);conv=>whnf)
  refine ⟨_,rws_get hk,?_⟩;conv=>whnf
  try (refine oN ?_;conv=>whnf)
  repeat ((first|(guard_target=_∧_;(first|refine oL ?_|refine oR ?_))|(guard_target=Exists _;refine oM ?_));(try intro _);conv=>whnf)
  refine RunsS.callN (pitemP_fn z s.items[i] (by omega)) [0,3] ?_ sH ?CNa5
  case CNa5=>rfl
  rintro w hw<;>conv=>whnf
  refine RunsS.subR (nx':=6) (l':=[(0,.ptr 0 0),(3,.ptr 2 0),(32,.buf 4),(33,.v (.int .i64 s.items.length)),(34,.v (.int .i64 i))]) (H':=[prB w.2 3,toksB w.1 3,(2,.cells 32 [.v (.slice aU s.units.length cU),.v (.slice aI s.items.length cI),.v (.slice aP s.plants.length cP),.v (.slice aM s.machines.length cM),.v (.slice aO s.options.length cO),.v (.slice aF s.forbids.length cF),.v (.slice aR s.recipes.length cR),.v (.slice aS s.swaps.length cS)]),(4,.ro 6 (rws It.row s.items))]) [(3,6)] ?_ sH sH
  (try refine gS ?_);conv=>whnf
  repeat ((first|(guard_target=_∧_;(first|refine oL ?_|refine oR ?_))|(guard_target=Exists _;refine oM ?_));(try intro _);conv=>whnf)
  refine RunsS.subR [] (back ((i+1,w)) (by exact (⟨hk,by show w=_;rw [hw,hJ,hn,←acc_add]⟩)) (by (try dsimp only);omega)) sH sH
 have hJ:z=acc x1 (Pr.all itemPr s.items):=by rw [hJ,List.take_of_length_le (by omega)]
 clear back lz
 obtain ⟨x2,hx2⟩:∃y,y=z:=⟨_,rfl⟩
 rw [←hx2] at hJ ⊢
 clear hx2
 have hx2:=hJ
 clear hJ
 have lx2:x2.1.length≤x1.1.length+sI:=by
  rw [hx2,acc_len,eI]
  exact Nat.add_le_add_left (all_lenF itemPr_len _) _
 rw [←hx2]
 refine RunsS.subR (nx':=4) (l':=[(0,.ptr 0 0),(3,.ptr 2 0),(43,.v (.slice aP s.plants.length cP)),(44,.v (.int .i64 s.plants.length)),(45,.v (.int .i64 (0:Nat)))]) (H':=[prB x2.2 3,toksB x2.1 3,(2,.cells 32 [.v (.slice aU s.units.length cU),.v (.slice aI s.items.length cI),.v (.slice aP s.plants.length cP),.v (.slice aM s.machines.length cM),.v (.slice aO s.options.length cO),.v (.slice aF s.forbids.length cF),.v (.slice aR s.recipes.length cR),.v (.slice aS s.swaps.length cS)])]) [] ?_ sH sH
 have mP:=hT.P.len
 refine RunsS.nameAt (fun _ x=>x) 43 (by exact hT.P) ?_
 conv=>whnf
 (try refine gS ?_);conv=>whnf
 repeat ((first|(guard_target=_∧_;(first|refine oL ?_|refine oR ?_))|(guard_target=Exists _;refine oM ?_));(try intro _);conv=>whnf)
 refine RunsS.subR [] (RunsS.loop (fun (⟨i,z⟩:Nat×Ac)=>[(0,.ptr 0 0),(3,.ptr 2 0),(43,.buf 4),(44,.v (.int .i64 s.plants.length)),(45,.v (.int .i64 i))]) (fun (⟨i,z⟩:Nat×Ac)=>[prB z.2 3,toksB z.1 3,(2,.cells 32 [.v (.slice aU s.units.length cU),.v (.slice aI s.items.length cI),.v (.slice aP s.plants.length cP),.v (.slice aM s.machines.length cM),.v (.slice aO s.options.length cO),.v (.slice aF s.forbids.length cF),.v (.slice aR s.recipes.length cR),.v (.slice aS s.swaps.length cS)]),(4,.ro 1 (rwsB s.plants))]) 5 (fun (⟨i,z⟩:Nat×Ac)=>i≤s.plants.length∧z=acc x2 (Pr.all plantPr (s.plants.take i))) (fun (⟨i,z⟩:Nat×Ac)=>s.plants.length - i) ?round7 ((0,x2)) ?J07) sH sH
 case J07=>exact (⟨Nat.zero_le _,(acc_nil x2).symm⟩)
 rintro ⟨i,z⟩ hJ back
 try dsimp only at hJ back
 conv=>whnf
 try dsimp only
 refine gS ?_;conv=>whnf
 repeat ((first|(guard_target=_∧_;(first|refine oL ?_|refine oR ?_))|(guard_target=Exists _;refine oM ?_));(try intro _);conv=>whnf)
 obtain ⟨hi,hJ⟩:=hJ
 have lz:z.1.length≤x2.1.length+sumK (fun _=>3) s.plants i:=by
  rw [hJ,acc_len]
  have:=all_lenF (n:=(fun _=>3)) plantPr_len (s.plants.take i)
  unfold sumK
  omega
 refine ⟨fun hk=>?_,fun hk=>?_⟩<;>conv=>whnf
 ·have hk:i<s.plants.length:=by omega
  have hn:=all_snoc (f:=plantPr) (s.plants.take i) s.plants[i]
  rw [←take_snoc hk] at hn
  have hs:=sumK_succ (f:=(fun _=>3)) hk
  have hs2:=sumK_le (f:=(fun _=>3)) (l:=s.plants) (i+1)
  rw [←eP] at hs2
  conv=>whnf
  repeat ((first|(guard_target=_∧_;(first|refine oL ?_|refine oR ?_))|(guard_target=Exists _;refine oM ?_));(try intro _);conv=>whnf)
  refine ⟨_,rws_get hk,?_⟩;conv=>whnf
  try (refine oN ?_;conv=>whnf)
  repeat ((first|(guard_target=_∧_;(first|refine oL ?_|refine oR ?_))|(guard_target=Exists _;refine oM ?_));(try intro _);conv=>whnf)
  (try refine gS ?_);conv=>whnf
  repeat ((first|(guard_target=_∧_;(first|refine oL ?_|refine oR ?_))|(guard_target=Exists _;refine oM ?_));(try intro _);conv=>whnf)
  refine RunsS.callN (padd_fn z [.w wPlant,.s s.plants[i],wS 59] (by show z.1.length+3≤_;omega)) [0,3,5] ?_ sH ?CNa8
  case CNa8=>rfl
  rintro w hw<;>conv=>whnf
  have lw:w.1.length=z.1.length+3:=by rw [hw,acc_len];rfl
  refine RunsS.subR (nx':=6) (l':=[(0,.ptr 0 0),(3,.ptr 2 0),(43,.buf 4),(44,.v (.int .i64 s.plants.length)),(45,.v (.int .i64 i))]) (H':=[prB w.2 3,toksB w.1 3,(2,.cells 32 [.v (.slice aU s.units.length cU),.v (.slice aI s.items.length cI),.v (.slice aP s.plants.length cP),.v (.slice aM s.machines.length cM),.v (.slice aO s.options.length cO),.v (.slice aF s.forbids.length cF),.v (.slice aR s.recipes.length cR),.v (.slice aS s.swaps.length cS)]),(4,.ro 1 (rwsB s.plants))]) [(3,6)] ?_ sH sH
  (try refine gS ?_);conv=>whnf
  repeat ((first|(guard_target=_∧_;(first|refine oL ?_|refine oR ?_))|(guard_target=Exists _;refine oM ?_));(try intro _);conv=>whnf)
  refine RunsS.subR [] (back ((i+1,w)) (by exact (⟨hk,by show w=_;rw [hw,hJ,hn,←acc_add];rfl⟩)) (by (try dsimp only);omega)) sH sH
 have hJ:z=acc x2 (Pr.all plantPr s.plants):=by rw [hJ,List.take_of_length_le (by omega)]
 clear back lz
 obtain ⟨x3,hx3⟩:∃y,y=z:=⟨_,rfl⟩
 rw [←hx3] at hJ ⊢
 clear hx3
 have hx3:=hJ
 clear hJ
 have lx3:x3.1.length≤x2.1.length+sP:=by
  rw [hx3,acc_len,eP]
  exact Nat.add_le_add_left (all_lenF plantPr_len _) _
 rw [←hx3]
 refine RunsS.subR (nx':=4) (l':=[(0,.ptr 0 0),(3,.ptr 2 0),(58,.v (.slice aM s.machines.length cM)),(59,.v (.int .i64 s.machines.length)),(60,.v (.int .i64 (0:Nat)))]) (H':=[prB x3.2 3,toksB x3.1 3,(2,.cells 32 [.v (.slice aU s.units.length cU),.v (.slice aI s.items.length cI),.v (.slice aP s.plants.length cP),.v (.slice aM s.machines.length cM),.v (.slice aO s.options.length cO),.v (.slice aF s.forbids.length cF),.v (.slice aR s.recipes.length cR),.v (.slice aS s.swaps.length cS)])]) [] ?_ sH sH
 have mM:=hT.M.len
 refine RunsS.nameAt (fun _ x=>x) 58 (by exact hT.M) ?_
 conv=>whnf
 (try refine gS ?_);conv=>whnf
 repeat ((first|(guard_target=_∧_;(first|refine oL ?_|refine oR ?_))|(guard_target=Exists _;refine oM ?_));(try intro _);conv=>whnf)
 refine RunsS.subR [] (RunsS.loop (fun (⟨i,z⟩:Nat×Ac)=>[(0,.ptr 0 0),(3,.ptr 2 0),(58,.buf 4),(59,.v (.int .i64 s.machines.length)),(60,.v (.int .i64 i))]) (fun (⟨i,z⟩:Nat×Ac)=>[prB z.2 3,toksB z.1 3,(2,.cells 32 [.v (.slice aU s.units.length cU),.v (.slice aI s.items.length cI),.v (.slice aP s.plants.length cP),.v (.slice aM s.machines.length cM),.v (.slice aO s.options.length cO),.v (.slice aF s.forbids.length cF),.v (.slice aR s.recipes.length cR),.v (.slice aS s.swaps.length cS)]),(4,.ro 4 (rws Mc.row s.machines))]) 5 (fun (⟨i,z⟩:Nat×Ac)=>i≤s.machines.length∧z=acc x3 (Pr.all machPr (s.machines.take i))) (fun (⟨i,z⟩:Nat×Ac)=>s.machines.length - i) ?round10 ((0,x3)) ?J010) sH sH
 case J010=>exact (⟨Nat.zero_le _,(acc_nil x3).symm⟩)
 rintro ⟨i,z⟩ hJ back
 try dsimp only at hJ back
 conv=>whnf
 try dsimp only
 refine gS ?_;conv=>whnf
 repeat ((first|(guard_target=_∧_;(first|refine oL ?_|refine oR ?_))|(guard_target=Exists _;refine oM ?_));(try intro _);conv=>whnf)
 obtain ⟨hi,hJ⟩:=hJ
 have lz:z.1.length≤x3.1.length+sumK (fun _=>7) s.machines i:=by
  rw [hJ,acc_len]
  have:=all_lenF (n:=(fun _=>7)) machPr_len (s.machines.take i)
  unfold sumK
  omega
 refine ⟨fun hk=>?_,fun hk=>?_⟩<;>conv=>whnf
 ·have hk:i<s.machines.length:=by omega
  have hn:=all_snoc (f:=machPr) (s.machines.take i) s.machines[i]
  rw [←take_snoc hk] at hn
  have hs:=sumK_succ (f:=(fun _=>7)) hk
  have hs2:=sumK_le (f:=(fun _=>7)) (l:=s.machines) (i+1)
  rw [←eM] at hs2
  conv=>whnf
  repeat ((first|(guard_target=_∧_;(first|refine oL ?_|refine oR ?_))|(guard_target=Exists _;refine oM ?_));(try intro _);conv=>whnf)
  refine ⟨_,rws_get hk,?_⟩;conv=>whnf
  try (refine oN ?_;conv=>whnf)
  repeat ((first|(guard_target=_∧_;(first|refine oL ?_|refine oR ?_))|(guard_target=Exists _;refine oM ?_));(try intro _);conv=>whnf)
  (try refine gS ?_);conv=>whnf
  repeat ((first|(guard_target=_∧_;(first|refine oL ?_|refine oR ?_))|(guard_target=Exists _;refine oM ?_));(try intro _);conv=>whnf)
  refine RunsS.callN (padd_fn z [.w wMachine,.s s.machines[i].name,.w wAt,.s s.machines[i].plant,.w wClean,.n s.machines[i].clean,wS 59] (by show z.1.length+7≤_;omega)) [0,3,6] ?_ sH ?CNa11
  case CNa11=>rfl
  rintro w hw<;>conv=>whnf
  have lw:w.1.length=z.1.length+7:=by rw [hw,acc_len];rfl
  refine RunsS.subR (nx':=6) (l':=[(0,.ptr 0 0),(3,.ptr 2 0),(58,.buf 4),(59,.v (.int .i64 s.machines.length)),(60,.v (.int .i64 i))]) (H':=[prB w.2 3,toksB w.1 3,(2,.cells 32 [.v (.slice aU s.units.length cU),.v (.slice aI s.items.length cI),.v (.slice aP s.plants.length cP),.v (.slice aM s.machines.length cM),.v (.slice aO s.options.length cO),.v (.slice aF s.forbids.length cF),.v (.slice aR s.recipes.length cR),.v (.slice aS s.swaps.length cS)]),(4,.ro 4 (rws Mc.row s.machines))]) [(3,7)] ?_ sH sH
  (try refine gS ?_);conv=>whnf
  repeat ((first|(guard_target=_∧_;(first|refine oL ?_|refine oR ?_))|(guard_target=Exists _;refine oM ?_));(try intro _);conv=>whnf)
  refine RunsS.subR [] (back ((i+1,w)) (by exact (⟨hk,by show w=_;rw [hw,hJ,hn,←acc_add];rfl⟩)) (by (try dsimp only);omega)) sH sH
 have hJ:z=acc x3 (Pr.all machPr s.machines):=by rw [hJ,List.take_of_length_le (by omega)]
 clear back lz
 obtain ⟨x4,hx4⟩:∃y,y=z:=⟨_,rfl⟩
 rw [←hx4] at hJ ⊢
 clear hx4
 have hx4:=hJ
 clear hJ
 have lx4:x4.1.length≤x3.1.length+sM:=by
  rw [hx4,acc_len,eM]
  exact Nat.add_le_add_left (all_lenF machPr_len _) _
 rw [←hx4]
 refine RunsS.subR (nx':=4) (l':=[(0,.ptr 0 0),(3,.ptr 2 0),(82,.v (.slice aO s.options.length cO)),(83,.v (.int .i64 s.options.length)),(84,.v (.int .i64 (0:Nat)))]) (H':=[prB x4.2 3,toksB x4.1 3,(2,.cells 32 [.v (.slice aU s.units.length cU),.v (.slice aI s.items.length cI),.v (.slice aP s.plants.length cP),.v (.slice aM s.machines.length cM),.v (.slice aO s.options.length cO),.v (.slice aF s.forbids.length cF),.v (.slice aR s.recipes.length cR),.v (.slice aS s.swaps.length cS)])]) [] ?_ sH sH
 have mO:=hT.O.len
 refine RunsS.nameAt (fun _ x=>x) 82 (by exact hT.O) ?_
 conv=>whnf
 (try refine gS ?_);conv=>whnf
 repeat ((first|(guard_target=_∧_;(first|refine oL ?_|refine oR ?_))|(guard_target=Exists _;refine oM ?_));(try intro _);conv=>whnf)
 refine RunsS.subR [] (RunsS.loop (fun (⟨i,z⟩:Nat×Ac)=>[(0,.ptr 0 0),(3,.ptr 2 0),(82,.buf 4),(83,.v (.int .i64 s.options.length)),(84,.v (.int .i64 i))]) (fun (⟨i,z⟩:Nat×Ac)=>[prB z.2 3,toksB z.1 3,(2,.cells 32 [.v (.slice aU s.units.length cU),.v (.slice aI s.items.length cI),.v (.slice aP s.plants.length cP),.v (.slice aM s.machines.length cM),.v (.slice aO s.options.length cO),.v (.slice aF s.forbids.length cF),.v (.slice aR s.recipes.length cR),.v (.slice aS s.swaps.length cS)]),(4,.ro 2 (rws OpV.row s.options))]) 5 (fun (⟨i,z⟩:Nat×Ac)=>i≤s.options.length∧z=acc x4 (Pr.all optnPr (s.options.take i))) (fun (⟨i,z⟩:Nat×Ac)=>s.options.length - i) ?round13 ((0,x4)) ?J013) sH sH
 case J013=>exact (⟨Nat.zero_le _,(acc_nil x4).symm⟩)
 rintro ⟨i,z⟩ hJ back
 try dsimp only at hJ back
 conv=>whnf
 try dsimp only
 refine gS ?_;conv=>whnf
 repeat ((first|(guard_target=_∧_;(first|refine oL ?_|refine oR ?_))|(guard_target=Exists _;refine oM ?_));(try intro _);conv=>whnf)
 obtain ⟨hi,hJ⟩:=hJ
 have lz:z.1.length≤x4.1.length+sumK lenO s.options i:=by
  rw [hJ,acc_len]
  have:=all_lenF (n:=lenO) optnPr_len (s.options.take i)
  unfold sumK
  omega
 refine ⟨fun hk=>?_,fun hk=>?_⟩<;>conv=>whnf
 ·have hk:i<s.options.length:=by omega
  have hn:=all_snoc (f:=optnPr) (s.options.take i) s.options[i]
  rw [←take_snoc hk] at hn
  have hs:=sumK_succ (f:=lenO) hk
  have hs2:=sumK_le (f:=lenO) (l:=s.options) (i+1)
  rw [←eO] at hs2
  conv=>whnf
  repeat ((first|(guard_target=_∧_;(first|refine oL ?_|refine oR ?_))|(guard_target=Exists _;refine oM ?_));(try intro _);conv=>whnf)
  refine ⟨_,rws_get hk,?_⟩;conv=>whnf
  try (refine oN ?_;conv=>whnf)
  repeat ((first|(guard_target=_∧_;(first|refine oL ?_|refine oR ?_))|(guard_target=Exists _;refine oM ?_));(try intro _);conv=>whnf)
  refine RunsS.callT (OpV.tok _) (hT.below.o _ (List.getElem_mem hk)) (poptP_fn s.options[i] z (by unfold lenO at *;omega)) [0,3] sH ?CNa14 ?_
  case CNa14=>rfl
  rintro w hw
  conv=>whnf
  refine RunsS.subR (nx':=7) (l':=[(0,.ptr 0 0),(3,.ptr 2 0),(82,.buf 4),(83,.v (.int .i64 s.options.length)),(84,.v (.int .i64 i))]) (H':=[prB w.2 3,toksB w.1 3,(2,.cells 32 [.v (.slice aU s.units.length cU),.v (.slice aI s.items.length cI),.v (.slice aP s.plants.length cP),.v (.slice aM s.machines.length cM),.v (.slice aO s.options.length cO),.v (.slice aF s.forbids.length cF),.v (.slice aR s.recipes.length cR),.v (.slice aS s.swaps.length cS)]),(4,.ro 2 (rws OpV.row s.options))]) [(3,6)] ?_ sH sH
  (try refine gS ?_);conv=>whnf
  repeat ((first|(guard_target=_∧_;(first|refine oL ?_|refine oR ?_))|(guard_target=Exists _;refine oM ?_));(try intro _);conv=>whnf)
  refine RunsS.subR [] (back ((i+1,w)) (by exact (⟨hk,by show w=_;rw [hw,hJ,hn,←acc_add]⟩)) (by (try dsimp only);omega)) sH sH
 have hJ:z=acc x4 (Pr.all optnPr s.options):=by rw [hJ,List.take_of_length_le (by omega)]
 clear back lz
 obtain ⟨x5,hx5⟩:∃y,y=z:=⟨_,rfl⟩
 rw [←hx5] at hJ ⊢
 clear hx5
 have hx5:=hJ
 clear hJ
 have lx5:x5.1.length≤x4.1.length+sO:=by
  rw [hx5,acc_len,eO]
  exact Nat.add_le_add_left (all_lenF optnPr_len _) _
 rw [←hx5]
 refine RunsS.subR (nx':=4) (l':=[(0,.ptr 0 0),(3,.ptr 2 0),(93,.v (.slice aF s.forbids.length cF)),(94,.v (.int .i64 s.forbids.length)),(95,.v (.int .i64 (0:Nat)))]) (H':=[prB x5.2 3,toksB x5.1 3,(2,.cells 32 [.v (.slice aU s.units.length cU),.v (.slice aI s.items.length cI),.v (.slice aP s.plants.length cP),.v (.slice aM s.machines.length cM),.v (.slice aO s.options.length cO),.v (.slice aF s.forbids.length cF),.v (.slice aR s.recipes.length cR),.v (.slice aS s.swaps.length cS)])]) [] ?_ sH sH
 have mF:=hT.F.len
 refine RunsS.nameAt (fun _ x=>x) 93 (by exact hT.F) ?_
 conv=>whnf
 (try refine gS ?_);conv=>whnf
 repeat ((first|(guard_target=_∧_;(first|refine oL ?_|refine oR ?_))|(guard_target=Exists _;refine oM ?_));(try intro _);conv=>whnf)
 refine RunsS.subR [] (RunsS.loop (fun (⟨i,z⟩:Nat×Ac)=>[(0,.ptr 0 0),(3,.ptr 2 0),(93,.buf 4),(94,.v (.int .i64 s.forbids.length)),(95,.v (.int .i64 i))]) (fun (⟨i,z⟩:Nat×Ac)=>[prB z.2 3,toksB z.1 3,(2,.cells 32 [.v (.slice aU s.units.length cU),.v (.slice aI s.items.length cI),.v (.slice aP s.plants.length cP),.v (.slice aM s.machines.length cM),.v (.slice aO s.options.length cO),.v (.slice aF s.forbids.length cF),.v (.slice aR s.recipes.length cR),.v (.slice aS s.swaps.length cS)]),(4,.ro 1 (rws FbV.row s.forbids))]) 5 (fun (⟨i,z⟩:Nat×Ac)=>i≤s.forbids.length∧z=acc x5 (Pr.all forbPr (s.forbids.take i))) (fun (⟨i,z⟩:Nat×Ac)=>s.forbids.length - i) ?round16 ((0,x5)) ?J016) sH sH
 case J016=>exact (⟨Nat.zero_le _,(acc_nil x5).symm⟩)
 rintro ⟨i,z⟩ hJ back
 try dsimp only at hJ back
 conv=>whnf
 try dsimp only
 refine gS ?_;conv=>whnf
 repeat ((first|(guard_target=_∧_;(first|refine oL ?_|refine oR ?_))|(guard_target=Exists _;refine oM ?_));(try intro _);conv=>whnf)
 obtain ⟨hi,hJ⟩:=hJ
 have lz:z.1.length≤x5.1.length+sumK lenF s.forbids i:=by
  rw [hJ,acc_len]
  have:=all_lenF (n:=lenF) forbPr_len (s.forbids.take i)
  unfold sumK
  omega
 refine ⟨fun hk=>?_,fun hk=>?_⟩<;>conv=>whnf
 ·have hk:i<s.forbids.length:=by omega
  have hn:=all_snoc (f:=forbPr) (s.forbids.take i) s.forbids[i]
  rw [←take_snoc hk] at hn
  have hs:=sumK_succ (f:=lenF) hk
  have hs2:=sumK_le (f:=lenF) (l:=s.forbids) (i+1)
  rw [←eF] at hs2
  conv=>whnf
  repeat ((first|(guard_target=_∧_;(first|refine oL ?_|refine oR ?_))|(guard_target=Exists _;refine oM ?_));(try intro _);conv=>whnf)
  refine ⟨_,rws_get hk,?_⟩;conv=>whnf
  try (refine oN ?_;conv=>whnf)
  repeat ((first|(guard_target=_∧_;(first|refine oL ?_|refine oR ?_))|(guard_target=Exists _;refine oM ?_));(try intro _);conv=>whnf)
  unfold lenF at *
  (try refine gS ?_);conv=>whnf
  repeat ((first|(guard_target=_∧_;(first|refine oL ?_|refine oR ?_))|(guard_target=Exists _;refine oM ?_));(try intro _);conv=>whnf)
  refine RunsS.callN (padd_fn z [.w wForbid] (by show z.1.length+1≤_;omega)) [0,3,5] ?_ sH ?CNa17
  case CNa17=>rfl
  rintro z1 hz1<;>conv=>whnf
  have lz1:z1.1.length=z.1.length+1:=by rw [hz1,acc_len];rfl
  refine RunsS.subR (nx':=6) (l':=[(0,.ptr 0 0),(3,.ptr 2 0),(93,.buf 4),(94,.v (.int .i64 s.forbids.length)),(95,.v (.int .i64 i)),(15,.v (s.forbids[i].hd.v s.forbids[i].cs.length))]) (H':=[prB z1.2 3,toksB z1.1 3,(2,.cells 32 [.v (.slice aU s.units.length cU),.v (.slice aI s.items.length cI),.v (.slice aP s.plants.length cP),.v (.slice aM s.machines.length cM),.v (.slice aO s.options.length cO),.v (.slice aF s.forbids.length cF),.v (.slice aR s.recipes.length cR),.v (.slice aS s.swaps.length cS)]),(4,.ro 1 (rws FbV.row s.forbids))]) [(3,6)] ?_ sH sH
  (try refine gS ?_);conv=>whnf
  repeat ((first|(guard_target=_∧_;(first|refine oL ?_|refine oR ?_))|(guard_target=Exists _;refine oM ?_));(try intro _);conv=>whnf)
  refine RunsS.callT (FbV.tok _) (hT.below.f _ (List.getElem_mem hk)) (pconds_fn _ s.forbids[i].cs z1 (by omega)) [0,3] sH ?CNa18 ?_
  case CNa18=>rfl
  rintro z2 hz2
  conv=>whnf
  have lz2:z2.1.length≤z1.1.length+4*s.forbids[i].cs.length:=by
   rw [hz2,acc_len]
   have:=condsPt_len s.forbids[i].cs
   show _+(condsPt _).length≤_
   omega
  refine RunsS.subR (nx':=7) (l':=[(0,.ptr 0 0),(3,.ptr 2 0),(93,.buf 4),(94,.v (.int .i64 s.forbids.length)),(95,.v (.int .i64 i))]) (H':=[prB z2.2 3,toksB z2.1 3,(2,.cells 32 [.v (.slice aU s.units.length cU),.v (.slice aI s.items.length cI),.v (.slice aP s.plants.length cP),.v (.slice aM s.machines.length cM),.v (.slice aO s.options.length cO),.v (.slice aF s.forbids.length cF),.v (.slice aR s.recipes.length cR),.v (.slice aS s.swaps.length cS)]),(4,.ro 1 (rws FbV.row s.forbids))]) [(3,6)] ?_ sH sH
  (try refine gS ?_);conv=>whnf
  repeat ((first|(guard_target=_∧_;(first|refine oL ?_|refine oR ?_))|(guard_target=Exists _;refine oM ?_));(try intro _);conv=>whnf)
  refine RunsS.callN (padd_fn z2 [wS 59] (by show z2.1.length+1≤_;omega)) [0,3,7] ?_ sH ?CNa19
  case CNa19=>rfl
  rintro w hw<;>conv=>whnf
  have lw:w.1.length=z2.1.length+1:=by rw [hw,acc_len];rfl
  refine RunsS.subR (nx':=6) (l':=[(0,.ptr 0 0),(3,.ptr 2 0),(93,.buf 4),(94,.v (.int .i64 s.forbids.length)),(95,.v (.int .i64 i))]) (H':=[prB w.2 3,toksB w.1 3,(2,.cells 32 [.v (.slice aU s.units.length cU),.v (.slice aI s.items.length cI),.v (.slice aP s.plants.length cP),.v (.slice aM s.machines.length cM),.v (.slice aO s.options.length cO),.v (.slice aF s.forbids.length cF),.v (.slice aR s.recipes.length cR),.v (.slice aS s.swaps.length cS)]),(4,.ro 1 (rws FbV.row s.forbids))]) [(3,8)] ?_ sH sH
  (try refine gS ?_);conv=>whnf
  repeat ((first|(guard_target=_∧_;(first|refine oL ?_|refine oR ?_))|(guard_target=Exists _;refine oM ?_));(try intro _);conv=>whnf)
  refine RunsS.subR [] (back ((i+1,w)) (by exact (⟨hk,by show w=_;rw [hw,hz2,hz1,hJ,hn,acc_add,acc_add,←acc_add _ _ (forbPr _)];exact acc_eq (by simp [Pr.add,forbPr]) (by simp [Pr.add,forbPr])⟩)) (by (try dsimp only);omega)) sH sH
 have hJ:z=acc x5 (Pr.all forbPr s.forbids):=by rw [hJ,List.take_of_length_le (by omega)]
 clear back lz
 obtain ⟨x6,hx6⟩:∃y,y=z:=⟨_,rfl⟩
 rw [←hx6] at hJ ⊢
 clear hx6
 have hx6:=hJ
 clear hJ
 have lx6:x6.1.length≤x5.1.length+sF:=by
  rw [hx6,acc_len,eF]
  exact Nat.add_le_add_left (all_lenF forbPr_len _) _
 rw [←hx6]
 refine RunsS.subR (nx':=4) (l':=[(0,.ptr 0 0),(3,.ptr 2 0),(112,.v (.slice aR s.recipes.length cR)),(113,.v (.int .i64 s.recipes.length)),(114,.v (.int .i64 (0:Nat)))]) (H':=[prB x6.2 3,toksB x6.1 3,(2,.cells 32 [.v (.slice aU s.units.length cU),.v (.slice aI s.items.length cI),.v (.slice aP s.plants.length cP),.v (.slice aM s.machines.length cM),.v (.slice aO s.options.length cO),.v (.slice aF s.forbids.length cF),.v (.slice aR s.recipes.length cR),.v (.slice aS s.swaps.length cS)])]) [] ?_ sH sH
 have mR:=hT.R.len
 refine RunsS.nameAt (fun _ x=>x) 112 (by exact hT.R) ?_
 conv=>whnf
 (try refine gS ?_);conv=>whnf
 repeat ((first|(guard_target=_∧_;(first|refine oL ?_|refine oR ?_))|(guard_target=Exists _;refine oM ?_));(try intro _);conv=>whnf)
 refine RunsS.subR [] (RunsS.loop (fun (⟨i,z⟩:Nat×Ac)=>[(0,.ptr 0 0),(3,.ptr 2 0),(112,.buf 4),(113,.v (.int .i64 s.recipes.length)),(114,.v (.int .i64 i))]) (fun (⟨i,z⟩:Nat×Ac)=>[prB z.2 3,toksB z.1 3,(2,.cells 32 [.v (.slice aU s.units.length cU),.v (.slice aI s.items.length cI),.v (.slice aP s.plants.length cP),.v (.slice aM s.machines.length cM),.v (.slice aO s.options.length cO),.v (.slice aF s.forbids.length cF),.v (.slice aR s.recipes.length cR),.v (.slice aS s.swaps.length cS)]),(4,.ro 17 (rws RcV.row s.recipes))]) 5 (fun (⟨i,z⟩:Nat×Ac)=>i≤s.recipes.length∧z=acc x6 (Pr.all recPr (s.recipes.take i))) (fun (⟨i,z⟩:Nat×Ac)=>s.recipes.length - i) ?round21 ((0,x6)) ?J021) sH sH
 case J021=>exact (⟨Nat.zero_le _,(acc_nil x6).symm⟩)
 rintro ⟨i,z⟩ hJ back
 try dsimp only at hJ back
 conv=>whnf
 try dsimp only
 refine gS ?_;conv=>whnf
 repeat ((first|(guard_target=_∧_;(first|refine oL ?_|refine oR ?_))|(guard_target=Exists _;refine oM ?_));(try intro _);conv=>whnf)
 obtain ⟨hi,hJ⟩:=hJ
 have lz:z.1.length≤x6.1.length+sumK lenR s.recipes i:=by
  rw [hJ,acc_len]
  have:=all_lenF (n:=lenR) recPr_len (s.recipes.take i)
  unfold sumK
  omega
 refine ⟨fun hk=>?_,fun hk=>?_⟩<;>conv=>whnf
 ·have hk:i<s.recipes.length:=by omega
  have hn:=all_snoc (f:=recPr) (s.recipes.take i) s.recipes[i]
  rw [←take_snoc hk] at hn
  have hs:=sumK_succ (f:=lenR) hk
  have hs2:=sumK_le (f:=lenR) (l:=s.recipes) (i+1)
  rw [←eR] at hs2
  conv=>whnf
  repeat ((first|(guard_target=_∧_;(first|refine oL ?_|refine oR ?_))|(guard_target=Exists _;refine oM ?_));(try intro _);conv=>whnf)
  refine ⟨_,rws_get hk,?_⟩;conv=>whnf
  try (refine oN ?_;conv=>whnf)
  repeat ((first|(guard_target=_∧_;(first|refine oL ?_|refine oR ?_))|(guard_target=Exists _;refine oM ?_));(try intro _);conv=>whnf)
  refine RunsS.callT (RcV.ok.tok _) (hT.below.r _ (List.getElem_mem hk)) (precP_fn s.recipes[i] z (by unfold lenR at *;omega)) [0,3] sH ?CNa22 ?_
  case CNa22=>rfl
  rintro w hw
  conv=>whnf
  refine RunsS.subR (nx':=7) (l':=[(0,.ptr 0 0),(3,.ptr 2 0),(112,.buf 4),(113,.v (.int .i64 s.recipes.length)),(114,.v (.int .i64 i))]) (H':=[prB w.2 3,toksB w.1 3,(2,.cells 32 [.v (.slice aU s.units.length cU),.v (.slice aI s.items.length cI),.v (.slice aP s.plants.length cP),.v (.slice aM s.machines.length cM),.v (.slice aO s.options.length cO),.v (.slice aF s.forbids.length cF),.v (.slice aR s.recipes.length cR),.v (.slice aS s.swaps.length cS)]),(4,.ro 17 (rws RcV.row s.recipes))]) [(3,6)] ?_ sH sH
  (try refine gS ?_);conv=>whnf
  repeat ((first|(guard_target=_∧_;(first|refine oL ?_|refine oR ?_))|(guard_target=Exists _;refine oM ?_));(try intro _);conv=>whnf)
  refine RunsS.subR [] (back ((i+1,w)) (by exact (⟨hk,by show w=_;rw [hw,hJ,hn,←acc_add]⟩)) (by (try dsimp only);omega)) sH sH
 have hJ:z=acc x6 (Pr.all recPr s.recipes):=by rw [hJ,List.take_of_length_le (by omega)]
 clear back lz
 obtain ⟨x7,hx7⟩:∃y,y=z:=⟨_,rfl⟩
 rw [←hx7] at hJ ⊢
 clear hx7
 have hx7:=hJ
 clear hJ
 have lx7:x7.1.length≤x6.1.length+sR:=by
  rw [hx7,acc_len,eR]
  exact Nat.add_le_add_left (all_lenF recPr_len _) _
 rw [←hx7]
 refine RunsS.subR (nx':=4) (l':=[(0,.ptr 0 0),(3,.ptr 2 0),(123,.v (.slice aS s.swaps.length cS)),(124,.v (.int .i64 s.swaps.length)),(125,.v (.int .i64 (0:Nat)))]) (H':=[prB x7.2 3,toksB x7.1 3,(2,.cells 32 [.v (.slice aU s.units.length cU),.v (.slice aI s.items.length cI),.v (.slice aP s.plants.length cP),.v (.slice aM s.machines.length cM),.v (.slice aO s.options.length cO),.v (.slice aF s.forbids.length cF),.v (.slice aR s.recipes.length cR),.v (.slice aS s.swaps.length cS)])]) [] ?_ sH sH
 have mS:=hT.S.len
 refine RunsS.nameAt (fun _ x=>x) 123 (by exact hT.S) ?_
 conv=>whnf
 (try refine gS ?_);conv=>whnf
 repeat ((first|(guard_target=_∧_;(first|refine oL ?_|refine oR ?_))|(guard_target=Exists _;refine oM ?_));(try intro _);conv=>whnf)
 refine RunsS.subR [] (RunsS.loop (fun (⟨i,z⟩:Nat×Ac)=>[(0,.ptr 0 0),(3,.ptr 2 0),(123,.buf 4),(124,.v (.int .i64 s.swaps.length)),(125,.v (.int .i64 i))]) (fun (⟨i,z⟩:Nat×Ac)=>[prB z.2 3,toksB z.1 3,(2,.cells 32 [.v (.slice aU s.units.length cU),.v (.slice aI s.items.length cI),.v (.slice aP s.plants.length cP),.v (.slice aM s.machines.length cM),.v (.slice aO s.options.length cO),.v (.slice aF s.forbids.length cF),.v (.slice aR s.recipes.length cR),.v (.slice aS s.swaps.length cS)]),(4,.ro 4 (rws Sw.row s.swaps))]) 5 (fun (⟨i,z⟩:Nat×Ac)=>i≤s.swaps.length∧z=acc x7 (Pr.all swapPr (s.swaps.take i))) (fun (⟨i,z⟩:Nat×Ac)=>s.swaps.length - i) ?round24 ((0,x7)) ?J024) sH sH
 case J024=>exact (⟨Nat.zero_le _,(acc_nil x7).symm⟩)
 rintro ⟨i,z⟩ hJ back
 try dsimp only at hJ back
 conv=>whnf
 try dsimp only
 refine gS ?_;conv=>whnf
 repeat ((first|(guard_target=_∧_;(first|refine oL ?_|refine oR ?_))|(guard_target=Exists _;refine oM ?_));(try intro _);conv=>whnf)
 obtain ⟨hi,hJ⟩:=hJ
 have lz:z.1.length≤x7.1.length+sumK (fun _=>5) s.swaps i:=by
  rw [hJ,acc_len]
  have:=all_lenF (n:=(fun _=>5)) swapPr_len (s.swaps.take i)
  unfold sumK
  omega
 refine ⟨fun hk=>?_,fun hk=>?_⟩<;>conv=>whnf
 ·have hk:i<s.swaps.length:=by omega
  have hn:=all_snoc (f:=swapPr) (s.swaps.take i) s.swaps[i]
  rw [←take_snoc hk] at hn
  have hs:=sumK_succ (f:=(fun _=>5)) hk
  have hs2:=sumK_le (f:=(fun _=>5)) (l:=s.swaps) (i+1)
  rw [←eS] at hs2
  conv=>whnf
  repeat ((first|(guard_target=_∧_;(first|refine oL ?_|refine oR ?_))|(guard_target=Exists _;refine oM ?_));(try intro _);conv=>whnf)
  refine ⟨_,rws_get hk,?_⟩;conv=>whnf
  try (refine oN ?_;conv=>whnf)
  repeat ((first|(guard_target=_∧_;(first|refine oL ?_|refine oR ?_))|(guard_target=Exists _;refine oM ?_));(try intro _);conv=>whnf)
  (try refine gS ?_);conv=>whnf
  repeat ((first|(guard_target=_∧_;(first|refine oL ?_|refine oR ?_))|(guard_target=Exists _;refine oM ?_));(try intro _);conv=>whnf)
  refine RunsS.callN (padd_fn z [.w wSwap,.s s.swaps[i].a,.w wFor,.s s.swaps[i].b,wS 59] (by show z.1.length+5≤_;omega)) [0,3,6] ?_ sH ?CNa25
  case CNa25=>rfl
  rintro w hw<;>conv=>whnf
  have lw:w.1.length=z.1.length+5:=by rw [hw,acc_len];rfl
  refine RunsS.subR (nx':=6) (l':=[(0,.ptr 0 0),(3,.ptr 2 0),(123,.buf 4),(124,.v (.int .i64 s.swaps.length)),(125,.v (.int .i64 i))]) (H':=[prB w.2 3,toksB w.1 3,(2,.cells 32 [.v (.slice aU s.units.length cU),.v (.slice aI s.items.length cI),.v (.slice aP s.plants.length cP),.v (.slice aM s.machines.length cM),.v (.slice aO s.options.length cO),.v (.slice aF s.forbids.length cF),.v (.slice aR s.recipes.length cR),.v (.slice aS s.swaps.length cS)]),(4,.ro 4 (rws Sw.row s.swaps))]) [(3,7)] ?_ sH sH
  (try refine gS ?_);conv=>whnf
  repeat ((first|(guard_target=_∧_;(first|refine oL ?_|refine oR ?_))|(guard_target=Exists _;refine oM ?_));(try intro _);conv=>whnf)
  refine RunsS.subR [] (back ((i+1,w)) (by exact (⟨hk,by show w=_;rw [hw,hJ,hn,←acc_add];rfl⟩)) (by (try dsimp only);omega)) sH sH
 have hJ:z=acc x7 (Pr.all swapPr s.swaps):=by rw [hJ,List.take_of_length_le (by omega)]
 clear back lz
 obtain ⟨x8,hx8⟩:∃y,y=z:=⟨_,rfl⟩
 rw [←hx8] at hJ ⊢
 clear hx8
 have hx8:=hJ
 clear hJ
 have lx8:x8.1.length≤x7.1.length+sS:=by
  rw [hx8,acc_len,eS]
  exact Nat.add_le_add_left (all_lenF swapPr_len _) _
 (try refine gS ?_);conv=>whnf
 repeat ((first|(guard_target=_∧_;(first|refine oL ?_|refine oR ?_))|(guard_target=Exists _;refine oM ?_));(try intro _);conv=>whnf)
 try refine RunsS.retU ?_
 try refine RunsS.finU ?_
 exact UnwS.ret tab Tryz.func31 rfl (EndS.mk (x8) (hx8) [(2,3)] sH rfl rfl (okRet rfl rfl))
end
end Go.Proofs.YtgbeechjghajcaaGreatDoor

namespace Go.Proofs.YtgbeechjghajcaaGreatDoor
open Go Go.Fw Go.NatM Go.RatM Go.SrcM Go.SynM
set_option maxRecDepth 100000
set_option maxHeartbeats 99999999
def PowT (G:Nat→Prop) (h:Array Obj):Prop:=PowH h∧G 1
theorem PowT.up {G G':Nat→Prop} {h h':Array Obj} (H:PowT G h) (U:Up G h G' h'):PowT G' h':=⟨by
 have e:=U.same _ H.2
 have:=H.1
 unfold PowH at this ⊢
 rw [e];exact this,U.sub _ H.2⟩
theorem PowT.kp {F:Nat→Prop} {h h':Array Obj} (H:PowT F h) (K:Kp F h h'):PowH h':=by
 have e:=K.same _ H.2
 have:=H.1
 unfold PowH at this ⊢
 rw [e];exact this
theorem fit_iff (s:SrcV):Fit s↔(s.units.length≤32∧s.items.length≤32∧s.plants.length≤8∧s.machines.length≤16∧s.options.length≤6∧s.forbids.length≤16∧s.recipes.length≤64∧s.swaps.length≤32):=
 ⟨fun h=>⟨h.U,h.I,h.P,h.M,h.O,h.F,h.R,h.S⟩,fun ⟨a,b,c,d,e,f,g,i⟩=>⟨a,b,c,d,e,f,g,i⟩⟩
instance (s:SrcV):Decidable (Fit s):=decidable_of_iff _ (fit_iff s).symm
theorem pfew_fn (s:SrcV) (aU aI aP aM aO aF aR aS:Option Addr) (cU cI cP cM cO cF cR cS:Nat):FnS Tryz.prog 30 0 [srcA (.slice aU s.units.length cU) (.slice aI s.items.length cI) (.slice aP s.plants.length cP) (.slice aM s.machines.length cM) (.slice aO s.options.length cO) (.slice aF s.forbids.length cF) (.slice aR s.recipes.length cR) (.slice aS s.swaps.length cS)] []
  (fun _:Unit=>True) (fun _=>.ret (.v (.bool (decide (Fit s)))) 0 []):=by
 obtain ⟨b,hb⟩:∃b,b=decide (Fit s):=⟨_,rfl⟩
 rw [←hb]
 have hb:b=decide (s.units.length≤32∧s.items.length≤32∧s.plants.length≤8∧s.machines.length≤16∧s.options.length≤6∧s.forbids.length≤16∧s.recipes.length≤64∧s.swaps.length≤32):=hb.trans (decide_eq_decide.2 (fit_iff s))
 refine FnS.of Tryz.func30 (by kernel_rfl) rfl Tryz.ntmps30 rfl fun E0 F h w0 cs=>?_
 conv=>whnf
 refine gS ?_;conv=>whnf
 repeat ((first|(guard_target=_∧_;(first|refine oL ?_|refine oR ?_))|(guard_target=Exists _;refine oM ?_));(try intro _);conv=>whnf)
 by_cases h0:s.units.length≤32
 rotate_left
 ·refine And.intro (fun hp=>absurd hp ((by omega))) (fun _=>?_)
  conv=>whnf
  (try refine gS ?_);conv=>whnf
  repeat ((first|(guard_target=_∧_;(first|refine oL ?_|refine oR ?_))|(guard_target=Exists _;refine oM ?_));(try intro _);conv=>whnf)
  have:b=false:=hb.trans (decide_eq_false fun h=>by omega)
  rw [this]
  try refine RunsS.retU ?_
  try refine RunsS.finU ?_
  exact UnwS.ret tab Tryz.func30 rfl (eN () trivial)
 refine And.intro (fun _=>?_) (fun hn=>absurd ((by omega)) hn)
 conv=>whnf
 (try refine gS ?_);conv=>whnf
 repeat ((first|(guard_target=_∧_;(first|refine oL ?_|refine oR ?_))|(guard_target=Exists _;refine oM ?_));(try intro _);conv=>whnf)
 by_cases h1:s.items.length≤32
 rotate_left
 ·refine And.intro (fun hp=>absurd hp ((by omega))) (fun _=>?_)
  conv=>whnf
  (try refine gS ?_);conv=>whnf
  repeat ((first|(guard_target=_∧_;(first|refine oL ?_|refine oR ?_))|(guard_target=Exists _;refine oM ?_));(try intro _);conv=>whnf)
  have:b=false:=hb.trans (decide_eq_false fun h=>by omega)
  rw [this]
  try refine RunsS.retU ?_
  try refine RunsS.finU ?_
  exact UnwS.ret tab Tryz.func30 rfl (eN () trivial)
 refine And.intro (fun _=>?_) (fun hn=>absurd ((by omega)) hn)
 conv=>whnf
 (try refine gS ?_);conv=>whnf
 repeat ((first|(guard_target=_∧_;(first|refine oL ?_|refine oR ?_))|(guard_target=Exists _;refine oM ?_));(try intro _);conv=>whnf)
 by_cases h2:s.plants.length≤8
 rotate_left
 ·refine And.intro (fun hp=>absurd hp ((by omega))) (fun _=>?_)
  conv=>whnf
  (try refine gS ?_);conv=>whnf
  repeat ((first|(guard_target=_∧_;(first|refine oL ?_|refine oR ?_))|(guard_target=Exists _;refine oM ?_));(try intro _);conv=>whnf)
  have:b=false:=hb.trans (decide_eq_false fun h=>by omega)
  rw [this]
  try refine RunsS.retU ?_
  try refine RunsS.finU ?_
  exact UnwS.ret tab Tryz.func30 rfl (eN () trivial)
 refine And.intro (fun _=>?_) (fun hn=>absurd ((by omega)) hn)
 conv=>whnf
 (try refine gS ?_);conv=>whnf
 repeat ((first|(guard_target=_∧_;(first|refine oL ?_|refine oR ?_))|(guard_target=Exists _;refine oM ?_));(try intro _);conv=>whnf)
 by_cases h3:s.machines.length≤16
 rotate_left
 ·refine And.intro (fun hp=>absurd hp ((by omega))) (fun _=>?_)
  conv=>whnf
  (try refine gS ?_);conv=>whnf
  repeat ((first|(guard_target=_∧_;(first|refine oL ?_|refine oR ?_))|(guard_target=Exists _;refine oM ?_));(try intro _);conv=>whnf)
  have:b=false:=hb.trans (decide_eq_false fun h=>by omega)
  rw [this]
  try refine RunsS.retU ?_
  try refine RunsS.finU ?_
  exact UnwS.ret tab Tryz.func30 rfl (eN () trivial)
 refine And.intro (fun _=>?_) (fun hn=>absurd ((by omega)) hn)
 conv=>whnf
 (try refine gS ?_);conv=>whnf
 repeat ((first|(guard_target=_∧_;(first|refine oL ?_|refine oR ?_))|(guard_target=Exists _;refine oM ?_));(try intro _);conv=>whnf)
 by_cases h4:s.options.length≤6
 rotate_left
 ·refine And.intro (fun hp=>absurd hp ((by omega))) (fun _=>?_)
  conv=>whnf
  (try refine gS ?_);conv=>whnf
  repeat ((first|(guard_target=_∧_;(first|refine oL ?_|refine oR ?_))|(guard_target=Exists _;refine oM ?_));(try intro _);conv=>whnf)
  have:b=false:=hb.trans (decide_eq_false fun h=>by omega)
  rw [this]
  try refine RunsS.retU ?_
  try refine RunsS.finU ?_
  exact UnwS.ret tab Tryz.func30 rfl (eN () trivial)
 refine And.intro (fun _=>?_) (fun hn=>absurd ((by omega)) hn)
 conv=>whnf
 (try refine gS ?_);conv=>whnf
 repeat ((first|(guard_target=_∧_;(first|refine oL ?_|refine oR ?_))|(guard_target=Exists _;refine oM ?_));(try intro _);conv=>whnf)
 by_cases h5:s.forbids.length≤16
 rotate_left
 ·refine And.intro (fun hp=>absurd hp ((by omega))) (fun _=>?_)
  conv=>whnf
  (try refine gS ?_);conv=>whnf
  repeat ((first|(guard_target=_∧_;(first|refine oL ?_|refine oR ?_))|(guard_target=Exists _;refine oM ?_));(try intro _);conv=>whnf)
  have:b=false:=hb.trans (decide_eq_false fun h=>by omega)
  rw [this]
  try refine RunsS.retU ?_
  try refine RunsS.finU ?_
  exact UnwS.ret tab Tryz.func30 rfl (eN () trivial)
 refine And.intro (fun _=>?_) (fun hn=>absurd ((by omega)) hn)
 conv=>whnf
 (try refine gS ?_);conv=>whnf
 repeat ((first|(guard_target=_∧_;(first|refine oL ?_|refine oR ?_))|(guard_target=Exists _;refine oM ?_));(try intro _);conv=>whnf)
 by_cases h6:s.recipes.length≤64
 rotate_left
 ·refine And.intro (fun hp=>absurd hp ((by omega))) (fun _=>?_)
  conv=>whnf
  (try refine gS ?_);conv=>whnf
  repeat ((first|(guard_target=_∧_;(first|refine oL ?_|refine oR ?_))|(guard_target=Exists _;refine oM ?_));(try intro _);conv=>whnf)
  have:b=false:=hb.trans (decide_eq_false fun h=>by omega)
  rw [this]
  try refine RunsS.retU ?_
  try refine RunsS.finU ?_
  exact UnwS.ret tab Tryz.func30 rfl (eN () trivial)
 refine And.intro (fun _=>?_) (fun hn=>absurd ((by omega)) hn)
 conv=>whnf
 (try refine gS ?_);conv=>whnf
 repeat ((first|(guard_target=_∧_;(first|refine oL ?_|refine oR ?_))|(guard_target=Exists _;refine oM ?_));(try intro _);conv=>whnf)
 have:b=decide ((s.swaps.length:Int)≤32):=hb.trans (decide_eq_decide.2 ⟨fun h=>by omega,fun h=>by omega⟩)
 rw [this]
 try refine RunsS.retU ?_
 try refine RunsS.finU ?_
 exact UnwS.ret tab Tryz.func30 rfl (eN () trivial)
theorem srcPr_len (s:SrcV):(srcPr s).l.length≤ttl s:=by
 have h1:=all_lenF unitPr_len s.units
 have h2:=all_lenF itemPr_len s.items
 have h3:=all_lenF plantPr_len s.plants
 have h4:=all_lenF machPr_len s.machines
 have h5:=all_lenF optnPr_len s.options
 have h6:=all_lenF forbPr_len s.forbids
 have h7:=all_lenF recPr_len s.recipes
 have h8:=all_lenF swapPr_len s.swaps
 unfold srcPr ttl
 simp only [Pr.add,List.length_append]
 omega
open Classical in
noncomputable def printA (s:SrcV):ByteArray×Int:=if s.good NmP then (joinB (srcT s),0) else (⟨#[]⟩,100)
theorem print_ok {s:SrcV} (h:s.good NmP):printA s=(joinB (srcT s),0):=if_pos h
theorem print_no {s:SrcV} (h:¬s.good NmP):printA s=(⟨#[]⟩,100):=if_neg h
section
variable {vU vI vP vM vO vF vR vS:Value}
abbrev TopW (vU vI vP vM vO vF vR vS:Value) (s:SrcV) (F:Nat→Prop) (h:Array Obj):Prop:=TopF F h vU vI vP vM vO vF vR vS s∧PowT F h
theorem TopW.tok (vU vI vP vM vO vF vR vS:Value) (s:SrcV):TOk (TopW vU vI vP vM vO vF vR vS s):=
 ⟨fun _ _ _ hs H=>⟨H.1.up ⟨hs,fun _ _=>rfl⟩,H.2.up ⟨hs,fun _ _=>rfl⟩⟩,fun _ _ _ H K=>⟨H.1.up ⟨fun _ x=>x,K.same⟩,H.2.up ⟨fun _ x=>x,K.same⟩⟩⟩
theorem print_fn (s:SrcV) (hl:ttl s≤65536):FnT Tryz.prog (TopW vU vI vP vM vO vF vR vS s) 15 0 [srcA vU vI vP vM vO vF vR vS] [] (fun _:Unit=>True) (fun _=>.ret (.tup [.v (.string (printA s).1),.v (.int .i64 (printA s).2)]) 0 []):=by
 obtain ⟨r,hr⟩:∃r,r=printA s:=⟨_,rfl⟩
 rw [←hr]
 refine FnT.of Tryz.func15 (by kernel_rfl) rfl Tryz.ntmps15 rfl fun E0 F h hT w0 cs=>?_
 obtain ⟨aU,cU,aI,cI,aP,cP,aM,cM,aO,cO,aF,cF,aR,cR,aS,cS,rfl,rfl,rfl,rfl,rfl,rfl,rfl,rfl⟩:=topShapes hT.1
 conv=>whnf
 (try refine gS ?_);conv=>whnf
 repeat ((first|(guard_target=_∧_;(first|refine oL ?_|refine oR ?_))|(guard_target=Exists _;refine oM ?_));(try intro _);conv=>whnf)
 refine RunsS.callN (pfew_fn s aU aI aP aM aO aF aR aS cU cI cP cM cO cF cR cS) [] ?_ sH ?CNa1
 case CNa1=>rfl
 intro _ _
 conv=>whnf
 (try refine gS ?_);conv=>whnf
 repeat ((first|(guard_target=_∧_;(first|refine oL ?_|refine oR ?_))|(guard_target=Exists _;refine oM ?_));(try intro _);conv=>whnf)
 by_cases hF:Fit s
 rotate_left
 ·rw [decide_eq_false hF]
  conv=>whnf
  (try refine gS ?_);conv=>whnf
  repeat ((first|(guard_target=_∧_;(first|refine oL ?_|refine oR ?_))|(guard_target=Exists _;refine oM ?_));(try intro _);conv=>whnf)
  have:r=(⟨#[]⟩,100):=hr.trans (print_no fun h=>hF (good_fit h))
  rw [this]
  try refine RunsS.retU ?_
  try refine RunsS.finU ?_
  exact UnwS.ret tab Tryz.func15 rfl (eN () trivial)
 rw [decide_eq_true hF]
 conv=>whnf
 (try refine gS ?_);conv=>whnf
 repeat ((first|(guard_target=_∧_;(first|refine oL ?_|refine oR ?_))|(guard_target=Exists _;refine oM ?_));(try intro _);conv=>whnf)
 refine RunsS.subR (nx':=2) (l':=[(8,.agg [.v (.slice aU s.units.length cU),.v (.slice aI s.items.length cI),.v (.slice aP s.plants.length cP),.v (.slice aM s.machines.length cM),.v (.slice aO s.options.length cO),.v (.slice aF s.forbids.length cF),.v (.slice aR s.recipes.length cR),.v (.slice aS s.swaps.length cS)]),(4,.ptr 1 0)]) (H':=[(1,.cells 91 [.v (.slice none 0 0),.v (.bool false)])]) [] ?_ sH sH
 refine RunsS.nilOwn (l':=[(8,.agg [.v (.slice aU s.units.length cU),.v (.slice aI s.items.length cI),.v (.slice aP s.plants.length cP),.v (.slice aM s.machines.length cM),.v (.slice aO s.options.length cO),.v (.slice aF s.forbids.length cF),.v (.slice aR s.recipes.length cR),.v (.slice aS s.swaps.length cS)]),(4,.ptr 1 0)]) (H':=[(1,.cells 91 [.buf 2,.v (.bool false)])]) 47 4 ?_ (by rfl) (by rfl) (by rfl)
 refine RunsS.callT (TopF.tok _ _ _ _ _ _ _ _ _) (hT.1) (psrc_fn s ([],false) (by show 0+ttl s≤_;omega)) [1,2] sH ?CNa2 ?_
 case CNa2=>rfl
 rintro ⟨l,b⟩ hy
 conv=>whnf
 refine RunsS.subR (nx':=4) (l':=[(4,.ptr 1 0)]) (H':=[(1,.cells 91 [.buf 3,.v (.bool b)]),(3,.own 47 4 (l.map Tok.row))]) [] ?_ sH sH
 have hy1:l=srcT s:=by
  have:=congrArg Prod.fst hy
  exact this.trans (src_tok vocN)
 have hy2:b = !(okPs NmP (srcPr s).l&&(srcPr s).ok):=by
  have:=congrArg Prod.snd hy
  exact this
 clear hy
 subst hy1
 have hl1:(srcT s).length≤65536:=by
  rw [←src_tok vocN]
  unfold tokPs
  rw [List.length_map]
  have:=srcPr_len s
  omega
 cases b with
 |true=>
  (try refine gS ?_);conv=>whnf
  repeat ((first|(guard_target=_∧_;(first|refine oL ?_|refine oR ?_))|(guard_target=Exists _;refine oM ?_));(try intro _);conv=>whnf)
  have hg:¬s.good NmP:=fun h=>by
   have:=(src_good hF).2 h
   rw [this.1,this.2] at hy2
   cases hy2
  have:r=(⟨#[]⟩,100):=hr.trans (print_no hg)
  rw [this]
  try refine RunsS.retU ?_
  try refine RunsS.finU ?_
  exact UnwS.ret tab Tryz.func15 rfl (eN () trivial)
 |false=>
  (try refine gS ?_);conv=>whnf
  repeat ((first|(guard_target=_∧_;(first|refine oL ?_|refine oR ?_))|(guard_target=Exists _;refine oM ?_));(try intro _);conv=>whnf)
  have hg:s.good NmP:=(src_good hF).1 (by
   have:=hy2.symm
   simp only [Bool.not_eq_false',Bool.and_eq_true] at this
   exact this)
  have:r=(joinB (srcT s),0):=hr.trans (print_ok hg)
  rw [this]
  have hx:textV (srcT s)=.tuple #[.string (joinB (srcT s)),.int .i64 0]:=if_pos (src_valid hg)
  refine RunsS.callV (fun Ez Hz Az Sz K=>Text_fn (srcT s) hl1 (Sz.ro (b:=3) rfl) (hT.2.kp K)) ?_
  conv=>whnf
  rw [hx]
  try dsimp only
  (try refine gS ?_);conv=>whnf
  repeat ((first|(guard_target=_∧_;(first|refine oL ?_|refine oR ?_))|(guard_target=Exists _;refine oM ?_));(try intro _);conv=>whnf)
  try refine RunsS.retU ?_
  try refine RunsS.finU ?_
  exact UnwS.ret tab Tryz.func15 rfl (eN () trivial)
end
end Go.Proofs.YtgbeechjghajcaaGreatDoor

namespace Go.Proofs.YtgbeechjghajcaaGreatDoor
open Go Go.Fw Go.NatM Go.RatM Go.SrcM
set_option maxRecDepth 100000
set_option maxHeartbeats 99999999
theorem eqU_fn (va vb:Value) (a b:List Un):FnT Tryz.prog (Two va vb 8 (rws Un.row a) (rws Un.row b)) 35 0 [.v va,.v vb] [] (fun _:Unit=>True) (fun _=>.ret (.v (.bool (eqB a b))) 0 []):=by
 have hla:(rws Un.row a).length=a.length:=rws_len _ _
 have hlb:(rws Un.row b).length=b.length:=rws_len _ _
 obtain ⟨r,hr⟩:∃r,r=eqB a b:=⟨_,rfl⟩
 rw [←hr]
 refine FnT.of Tryz.func35 (by kernel_rfl) rfl Tryz.ntmps35 rfl fun E0 F h hT w0 cs=>?_
 have mA:=hT.1.len
 obtain ⟨aa,ca,rfl⟩:=RoF.sli hT.1 hla
 obtain ⟨ab,cb,rfl⟩:=RoF.sli hT.2 hlb
 conv=>whnf
 (try refine gS ?_);conv=>whnf
 repeat ((first|(guard_target=_∧_;(first|refine oL ?_|refine oR ?_))|(guard_target=Exists _;refine oM ?_));(try intro _);conv=>whnf)
 refine ⟨fun hs=>?_,fun hs=>?_⟩<;>conv=>whnf
 rotate_left
 ·conv=>whnf
  repeat ((first|(guard_target=_∧_;(first|refine oL ?_|refine oR ?_))|(guard_target=Exists _;refine oM ?_));(try intro _);conv=>whnf)
  have:r=false:=by rw [hr];exact eqB_no (fun e=>hs (by rw [e]))
  rw [this]
  try refine RunsS.retU ?_
  try refine RunsS.finU ?_
  exact UnwS.ret tab Tryz.func35 rfl (eN () trivial)
 conv=>whnf
 repeat ((first|(guard_target=_∧_;(first|refine oL ?_|refine oR ?_))|(guard_target=Exists _;refine oM ?_));(try intro _);conv=>whnf)
 have hn:a.length=b.length:=by omega
 refine RunsS.nameAt (fun _ x=>x) 0 (by exact hT.1) ?_
 conv=>whnf
 (try refine gS ?_);conv=>whnf
 repeat ((first|(guard_target=_∧_;(first|refine oL ?_|refine oR ?_))|(guard_target=Exists _;refine oM ?_));(try intro _);conv=>whnf)
 refine RunsS.nameAt (fun _ x=>x) 1 (by exact hT.2) ?_
 conv=>whnf
 (try refine gS ?_);conv=>whnf
 repeat ((first|(guard_target=_∧_;(first|refine oL ?_|refine oR ?_))|(guard_target=Exists _;refine oM ?_));(try intro _);conv=>whnf)
 refine RunsS.subR [] (RunsS.loop (fun (k:Nat)=>[(12,.v (.int .i64 a.length)),(13,.v (.int .i64 k)),(0,.buf 0),(1,.buf 1)]) (fun (k:Nat)=>[(0,.ro 8 (rws Un.row a)),(1,.ro 8 (rws Un.row b))]) 2 (fun (k:Nat)=>k≤a.length ∧ ∀j (_:j<k) (ha:j<a.length) (hb:j<b.length),a[j]=b[j]) (fun (k:Nat)=>a.length - k) ?round1 (0) ?J01) sH sH
 case J01=>exact (⟨Nat.zero_le _,fun j hj=>absurd hj (Nat.not_lt_zero _)⟩)
 rintro k hJ back
 try dsimp only at hJ back
 conv=>whnf
 try dsimp only
 refine gS ?_;conv=>whnf
 repeat ((first|(guard_target=_∧_;(first|refine oL ?_|refine oR ?_))|(guard_target=Exists _;refine oM ?_));(try intro _);conv=>whnf)
 refine ⟨fun hk=>?_,fun hk=>?_⟩<;>conv=>whnf
 ·have hk:k<a.length:=by omega
  have hk2:k<b.length:=by omega
  conv=>whnf
  repeat ((first|(guard_target=_∧_;(first|refine oL ?_|refine oR ?_))|(guard_target=Exists _;refine oM ?_));(try intro _);conv=>whnf)
  refine RunsS.held tab (.fl 0 (.fl 1 (.fl 2 (.fl 3 (.fl 4 (.fl 5 (.fl 6 (.fl 7 (.fl 8 .done))))))))) (by kernel_rfl) ?_;conv=>whnf
  (try refine gR ?_);conv=>whnf
  repeat ((first|(guard_target=_∧_;(first|refine oL ?_|refine oR ?_|refine oB ?_))|(guard_target=Exists _;refine oM ?_));(try intro _);conv=>whnf)
  (try refine gS ?_);conv=>whnf
  repeat ((first|(guard_target=_∧_;(first|refine oL ?_|refine oR ?_))|(guard_target=Exists _;refine oM ?_));(try intro _);conv=>whnf)
  refine ⟨_,rws_get hk,?_⟩;conv=>whnf
  try (refine And.intro (by first|omega|exact Nat.le_of_ble_eq_true rfl) ?_;(try intro _);conv=>whnf)
  (try refine gR ?_);conv=>whnf
  repeat ((first|(guard_target=_∧_;(first|refine oL ?_|refine oR ?_|refine oB ?_))|(guard_target=Exists _;refine oM ?_));(try intro _);conv=>whnf)
  (try refine gS ?_);conv=>whnf
  repeat ((first|(guard_target=_∧_;(first|refine oL ?_|refine oR ?_))|(guard_target=Exists _;refine oM ?_));(try intro _);conv=>whnf)
  refine ⟨_,rws_get hk2,?_⟩;conv=>whnf
  try (refine And.intro (by first|omega|exact Nat.le_of_ble_eq_true rfl) ?_;(try intro _);conv=>whnf)
  (try refine gR ?_);conv=>whnf
  repeat ((first|(guard_target=_∧_;(first|refine oL ?_|refine oR ?_|refine oB ?_))|(guard_target=Exists _;refine oM ?_));(try intro _);conv=>whnf)
  (try refine gS ?_);conv=>whnf
  repeat ((first|(guard_target=_∧_;(first|refine oL ?_|refine oR ?_))|(guard_target=Exists _;refine oM ?_));(try intro _);conv=>whnf)
  refine ⟨fun hs=>?_,fun hs=>?_⟩<;>conv=>whnf
  ·try refine gR ?_
   conv=>whnf
   repeat ((first|(guard_target=_∧_;(first|refine oL ?_|refine oR ?_|refine oB ?_))|(guard_target=Exists _;refine oM ?_));(try intro _);conv=>whnf)
   (try refine gS ?_);conv=>whnf
   repeat ((first|(guard_target=_∧_;(first|refine oL ?_|refine oR ?_))|(guard_target=Exists _;refine oM ?_));(try intro _);conv=>whnf)
   refine RunsS.subR [] (back (k+1) (by exact (⟨hk,more_at hk hk2 hJ.2 (Un.ext8_iff.2 hs)⟩)) (by (try dsimp only);omega)) sH sH
  (try refine gR ?_);conv=>whnf
  repeat ((first|(guard_target=_∧_;(first|refine oL ?_|refine oR ?_|refine oB ?_))|(guard_target=Exists _;refine oM ?_));(try intro _);conv=>whnf)
  (try refine gS ?_);conv=>whnf
  repeat ((first|(guard_target=_∧_;(first|refine oL ?_|refine oR ?_))|(guard_target=Exists _;refine oM ?_));(try intro _);conv=>whnf)
  have:r=false:=by rw [hr];exact eqB_no (fun e=>(fun e=>hs (Un.ext8_iff.1 e)) (at_eq e hk hk2))
  rw [this]
  try refine RunsS.retU ?_
  try refine RunsS.finU ?_
  exact UnwS.ret tab Tryz.func35 rfl (eN () trivial)
 conv=>whnf
 repeat ((first|(guard_target=_∧_;(first|refine oL ?_|refine oR ?_))|(guard_target=Exists _;refine oM ?_));(try intro _);conv=>whnf)
 have:r=true:=by rw [hr];exact eqB_yes (all_at hn fun j h1 h2=>hJ.2 j (by omega) h1 h2)
 rw [this]
 try refine RunsS.retU ?_
 try refine RunsS.finU ?_
 exact UnwS.ret tab Tryz.func35 rfl (eN () trivial)
theorem eqI_fn (va vb:Value) (a b:List It):FnT Tryz.prog (Two va vb 6 (rws It.row a) (rws It.row b)) 36 0 [.v va,.v vb] [] (fun _:Unit=>True) (fun _=>.ret (.v (.bool (eqB a b))) 0 []):=by
 have hla:(rws It.row a).length=a.length:=rws_len _ _
 have hlb:(rws It.row b).length=b.length:=rws_len _ _
 obtain ⟨r,hr⟩:∃r,r=eqB a b:=⟨_,rfl⟩
 rw [←hr]
 refine FnT.of Tryz.func36 (by kernel_rfl) rfl Tryz.ntmps36 rfl fun E0 F h hT w0 cs=>?_
 have mA:=hT.1.len
 obtain ⟨aa,ca,rfl⟩:=RoF.sli hT.1 hla
 obtain ⟨ab,cb,rfl⟩:=RoF.sli hT.2 hlb
 conv=>whnf
 (try refine gS ?_);conv=>whnf
 repeat ((first|(guard_target=_∧_;(first|refine oL ?_|refine oR ?_))|(guard_target=Exists _;refine oM ?_));(try intro _);conv=>whnf)
 refine ⟨fun hs=>?_,fun hs=>?_⟩<;>conv=>whnf
 rotate_left
 ·conv=>whnf
  repeat ((first|(guard_target=_∧_;(first|refine oL ?_|refine oR ?_))|(guard_target=Exists _;refine oM ?_));(try intro _);conv=>whnf)
  have:r=false:=by rw [hr];exact eqB_no (fun e=>hs (by rw [e]))
  rw [this]
  try refine RunsS.retU ?_
  try refine RunsS.finU ?_
  exact UnwS.ret tab Tryz.func36 rfl (eN () trivial)
 conv=>whnf
 repeat ((first|(guard_target=_∧_;(first|refine oL ?_|refine oR ?_))|(guard_target=Exists _;refine oM ?_));(try intro _);conv=>whnf)
 have hn:a.length=b.length:=by omega
 refine RunsS.nameAt (fun _ x=>x) 0 (by exact hT.1) ?_
 conv=>whnf
 (try refine gS ?_);conv=>whnf
 repeat ((first|(guard_target=_∧_;(first|refine oL ?_|refine oR ?_))|(guard_target=Exists _;refine oM ?_));(try intro _);conv=>whnf)
 refine RunsS.nameAt (fun _ x=>x) 1 (by exact hT.2) ?_
 conv=>whnf
 (try refine gS ?_);conv=>whnf
 repeat ((first|(guard_target=_∧_;(first|refine oL ?_|refine oR ?_))|(guard_target=Exists _;refine oM ?_));(try intro _);conv=>whnf)
 refine RunsS.subR [] (RunsS.loop (fun (k:Nat)=>[(12,.v (.int .i64 a.length)),(13,.v (.int .i64 k)),(0,.buf 0),(1,.buf 1)]) (fun (k:Nat)=>[(0,.ro 6 (rws It.row a)),(1,.ro 6 (rws It.row b))]) 2 (fun (k:Nat)=>k≤a.length ∧ ∀j (_:j<k) (ha:j<a.length) (hb:j<b.length),a[j]=b[j]) (fun (k:Nat)=>a.length - k) ?round3 (0) ?J03) sH sH
 case J03=>exact (⟨Nat.zero_le _,fun j hj=>absurd hj (Nat.not_lt_zero _)⟩)
 rintro k hJ back
 try dsimp only at hJ back
 conv=>whnf
 try dsimp only
 refine gS ?_;conv=>whnf
 repeat ((first|(guard_target=_∧_;(first|refine oL ?_|refine oR ?_))|(guard_target=Exists _;refine oM ?_));(try intro _);conv=>whnf)
 refine ⟨fun hk=>?_,fun hk=>?_⟩<;>conv=>whnf
 ·have hk:k<a.length:=by omega
  have hk2:k<b.length:=by omega
  conv=>whnf
  repeat ((first|(guard_target=_∧_;(first|refine oL ?_|refine oR ?_))|(guard_target=Exists _;refine oM ?_));(try intro _);conv=>whnf)
  refine RunsS.held tab (.fl 0 (.fl 1 (.fl 2 (.fl 3 (.fl 4 (.fl 5 (.fl 6 (.fl 7 (.fl 8 .done))))))))) (by kernel_rfl) ?_;conv=>whnf
  (try refine gR ?_);conv=>whnf
  repeat ((first|(guard_target=_∧_;(first|refine oL ?_|refine oR ?_|refine oB ?_))|(guard_target=Exists _;refine oM ?_));(try intro _);conv=>whnf)
  (try refine gS ?_);conv=>whnf
  repeat ((first|(guard_target=_∧_;(first|refine oL ?_|refine oR ?_))|(guard_target=Exists _;refine oM ?_));(try intro _);conv=>whnf)
  refine ⟨_,rws_get hk,?_⟩;conv=>whnf
  try (refine And.intro (by first|omega|exact Nat.le_of_ble_eq_true rfl) ?_;(try intro _);conv=>whnf)
  (try refine gR ?_);conv=>whnf
  repeat ((first|(guard_target=_∧_;(first|refine oL ?_|refine oR ?_|refine oB ?_))|(guard_target=Exists _;refine oM ?_));(try intro _);conv=>whnf)
  (try refine gS ?_);conv=>whnf
  repeat ((first|(guard_target=_∧_;(first|refine oL ?_|refine oR ?_))|(guard_target=Exists _;refine oM ?_));(try intro _);conv=>whnf)
  refine ⟨_,rws_get hk2,?_⟩;conv=>whnf
  try (refine And.intro (by first|omega|exact Nat.le_of_ble_eq_true rfl) ?_;(try intro _);conv=>whnf)
  (try refine gR ?_);conv=>whnf
  repeat ((first|(guard_target=_∧_;(first|refine oL ?_|refine oR ?_|refine oB ?_))|(guard_target=Exists _;refine oM ?_));(try intro _);conv=>whnf)
  (try refine gS ?_);conv=>whnf
  repeat ((first|(guard_target=_∧_;(first|refine oL ?_|refine oR ?_))|(guard_target=Exists _;refine oM ?_));(try intro _);conv=>whnf)
  refine ⟨fun hs=>?_,fun hs=>?_⟩<;>conv=>whnf
  ·try refine gR ?_
   conv=>whnf
   repeat ((first|(guard_target=_∧_;(first|refine oL ?_|refine oR ?_|refine oB ?_))|(guard_target=Exists _;refine oM ?_));(try intro _);conv=>whnf)
   (try refine gS ?_);conv=>whnf
   repeat ((first|(guard_target=_∧_;(first|refine oL ?_|refine oR ?_))|(guard_target=Exists _;refine oM ?_));(try intro _);conv=>whnf)
   refine RunsS.subR [] (back (k+1) (by exact (⟨hk,more_at hk hk2 hJ.2 (It.ext_iff'.2 hs)⟩)) (by (try dsimp only);omega)) sH sH
  (try refine gR ?_);conv=>whnf
  repeat ((first|(guard_target=_∧_;(first|refine oL ?_|refine oR ?_|refine oB ?_))|(guard_target=Exists _;refine oM ?_));(try intro _);conv=>whnf)
  (try refine gS ?_);conv=>whnf
  repeat ((first|(guard_target=_∧_;(first|refine oL ?_|refine oR ?_))|(guard_target=Exists _;refine oM ?_));(try intro _);conv=>whnf)
  have:r=false:=by rw [hr];exact eqB_no (fun e=>(fun e=>hs (It.ext_iff'.1 e)) (at_eq e hk hk2))
  rw [this]
  try refine RunsS.retU ?_
  try refine RunsS.finU ?_
  exact UnwS.ret tab Tryz.func36 rfl (eN () trivial)
 conv=>whnf
 repeat ((first|(guard_target=_∧_;(first|refine oL ?_|refine oR ?_))|(guard_target=Exists _;refine oM ?_));(try intro _);conv=>whnf)
 have:r=true:=by rw [hr];exact eqB_yes (all_at hn fun j h1 h2=>hJ.2 j (by omega) h1 h2)
 rw [this]
 try refine RunsS.retU ?_
 try refine RunsS.finU ?_
 exact UnwS.ret tab Tryz.func36 rfl (eN () trivial)
theorem eqB_fn (va vb:Value) (a b:List ByteArray):FnT Tryz.prog (Two va vb 1 (rws (fun s=>[Value.string s]) a) (rws (fun s=>[Value.string s]) b)) 37 0 [.v va,.v vb] [] (fun _:Unit=>True) (fun _=>.ret (.v (.bool (eqB a b))) 0 []):=by
 have hla:(rws (fun s=>[Value.string s]) a).length=a.length:=rws_len _ _
 have hlb:(rws (fun s=>[Value.string s]) b).length=b.length:=rws_len _ _
 obtain ⟨r,hr⟩:∃r,r=eqB a b:=⟨_,rfl⟩
 rw [←hr]
 refine FnT.of Tryz.func37 (by kernel_rfl) rfl Tryz.ntmps37 rfl fun E0 F h hT w0 cs=>?_
 have mA:=hT.1.len
 obtain ⟨aa,ca,rfl⟩:=RoF.sli hT.1 hla
 obtain ⟨ab,cb,rfl⟩:=RoF.sli hT.2 hlb
 conv=>whnf
 (try refine gS ?_);conv=>whnf
 repeat ((first|(guard_target=_∧_;(first|refine oL ?_|refine oR ?_))|(guard_target=Exists _;refine oM ?_));(try intro _);conv=>whnf)
 refine ⟨fun hs=>?_,fun hs=>?_⟩<;>conv=>whnf
 rotate_left
 ·conv=>whnf
  repeat ((first|(guard_target=_∧_;(first|refine oL ?_|refine oR ?_))|(guard_target=Exists _;refine oM ?_));(try intro _);conv=>whnf)
  have:r=false:=by rw [hr];exact eqB_no (fun e=>hs (by rw [e]))
  rw [this]
  try refine RunsS.retU ?_
  try refine RunsS.finU ?_
  exact UnwS.ret tab Tryz.func37 rfl (eN () trivial)
 conv=>whnf
 repeat ((first|(guard_target=_∧_;(first|refine oL ?_|refine oR ?_))|(guard_target=Exists _;refine oM ?_));(try intro _);conv=>whnf)
 have hn:a.length=b.length:=by omega
 refine RunsS.nameAt (fun _ x=>x) 0 (by exact hT.1) ?_
 conv=>whnf
 (try refine gS ?_);conv=>whnf
 repeat ((first|(guard_target=_∧_;(first|refine oL ?_|refine oR ?_))|(guard_target=Exists _;refine oM ?_));(try intro _);conv=>whnf)
 refine RunsS.nameAt (fun _ x=>x) 1 (by exact hT.2) ?_
 conv=>whnf
 (try refine gS ?_);conv=>whnf
 repeat ((first|(guard_target=_∧_;(first|refine oL ?_|refine oR ?_))|(guard_target=Exists _;refine oM ?_));(try intro _);conv=>whnf)
 refine RunsS.subR [] (RunsS.loop (fun (k:Nat)=>[(12,.v (.int .i64 a.length)),(13,.v (.int .i64 k)),(0,.buf 0),(1,.buf 1)]) (fun (k:Nat)=>[(0,.ro 1 (rws (fun s=>[Value.string s]) a)),(1,.ro 1 (rws (fun s=>[Value.string s]) b))]) 2 (fun (k:Nat)=>k≤a.length ∧ ∀j (_:j<k) (ha:j<a.length) (hb:j<b.length),a[j]=b[j]) (fun (k:Nat)=>a.length - k) ?round5 (0) ?J05) sH sH
 case J05=>exact (⟨Nat.zero_le _,fun j hj=>absurd hj (Nat.not_lt_zero _)⟩)
 rintro k hJ back
 try dsimp only at hJ back
 conv=>whnf
 try dsimp only
 refine gS ?_;conv=>whnf
 repeat ((first|(guard_target=_∧_;(first|refine oL ?_|refine oR ?_))|(guard_target=Exists _;refine oM ?_));(try intro _);conv=>whnf)
 refine ⟨fun hk=>?_,fun hk=>?_⟩<;>conv=>whnf
 ·have hk:k<a.length:=by omega
  have hk2:k<b.length:=by omega
  conv=>whnf
  repeat ((first|(guard_target=_∧_;(first|refine oL ?_|refine oR ?_))|(guard_target=Exists _;refine oM ?_));(try intro _);conv=>whnf)
  refine RunsS.held tab (.fl 0 (.fl 1 (.fl 2 (.fl 3 (.fl 4 (.fl 5 (.fl 6 (.fl 7 (.fl 8 .done))))))))) (by kernel_rfl) ?_;conv=>whnf
  (try refine gR ?_);conv=>whnf
  repeat ((first|(guard_target=_∧_;(first|refine oL ?_|refine oR ?_|refine oB ?_))|(guard_target=Exists _;refine oM ?_));(try intro _);conv=>whnf)
  (try refine gS ?_);conv=>whnf
  repeat ((first|(guard_target=_∧_;(first|refine oL ?_|refine oR ?_))|(guard_target=Exists _;refine oM ?_));(try intro _);conv=>whnf)
  refine ⟨_,rws_get hk,?_⟩;conv=>whnf
  try (refine And.intro (by first|omega|exact Nat.le_of_ble_eq_true rfl) ?_;(try intro _);conv=>whnf)
  (try refine gR ?_);conv=>whnf
  repeat ((first|(guard_target=_∧_;(first|refine oL ?_|refine oR ?_|refine oB ?_))|(guard_target=Exists _;refine oM ?_));(try intro _);conv=>whnf)
  (try refine gS ?_);conv=>whnf
  repeat ((first|(guard_target=_∧_;(first|refine oL ?_|refine oR ?_))|(guard_target=Exists _;refine oM ?_));(try intro _);conv=>whnf)
  refine ⟨_,rws_get hk2,?_⟩;conv=>whnf
  try (refine And.intro (by first|omega|exact Nat.le_of_ble_eq_true rfl) ?_;(try intro _);conv=>whnf)
  (try refine gR ?_);conv=>whnf
  repeat ((first|(guard_target=_∧_;(first|refine oL ?_|refine oR ?_|refine oB ?_))|(guard_target=Exists _;refine oM ?_));(try intro _);conv=>whnf)
  (try refine gS ?_);conv=>whnf
  repeat ((first|(guard_target=_∧_;(first|refine oL ?_|refine oR ?_))|(guard_target=Exists _;refine oM ?_));(try intro _);conv=>whnf)
  refine ⟨fun hs=>?_,fun hs=>?_⟩<;>conv=>whnf
  ·try refine gR ?_
   conv=>whnf
   repeat ((first|(guard_target=_∧_;(first|refine oL ?_|refine oR ?_|refine oB ?_))|(guard_target=Exists _;refine oM ?_));(try intro _);conv=>whnf)
   (try refine gS ?_);conv=>whnf
   repeat ((first|(guard_target=_∧_;(first|refine oL ?_|refine oR ?_))|(guard_target=Exists _;refine oM ?_));(try intro _);conv=>whnf)
   refine RunsS.subR [] (back (k+1) (by exact (⟨hk,more_at hk hk2 hJ.2 hs⟩)) (by (try dsimp only);omega)) sH sH
  (try refine gR ?_);conv=>whnf
  repeat ((first|(guard_target=_∧_;(first|refine oL ?_|refine oR ?_|refine oB ?_))|(guard_target=Exists _;refine oM ?_));(try intro _);conv=>whnf)
  (try refine gS ?_);conv=>whnf
  repeat ((first|(guard_target=_∧_;(first|refine oL ?_|refine oR ?_))|(guard_target=Exists _;refine oM ?_));(try intro _);conv=>whnf)
  have:r=false:=by rw [hr];exact eqB_no (fun e=>(fun e=>hs e) (at_eq e hk hk2))
  rw [this]
  try refine RunsS.retU ?_
  try refine RunsS.finU ?_
  exact UnwS.ret tab Tryz.func37 rfl (eN () trivial)
 conv=>whnf
 repeat ((first|(guard_target=_∧_;(first|refine oL ?_|refine oR ?_))|(guard_target=Exists _;refine oM ?_));(try intro _);conv=>whnf)
 have:r=true:=by rw [hr];exact eqB_yes (all_at hn fun j h1 h2=>hJ.2 j (by omega) h1 h2)
 rw [this]
 try refine RunsS.retU ?_
 try refine RunsS.finU ?_
 exact UnwS.ret tab Tryz.func37 rfl (eN () trivial)
theorem eqM_fn (va vb:Value) (a b:List Mc):FnT Tryz.prog (Two va vb 4 (rws Mc.row a) (rws Mc.row b)) 38 0 [.v va,.v vb] [] (fun _:Unit=>True) (fun _=>.ret (.v (.bool (eqB a b))) 0 []):=by
 have hla:(rws Mc.row a).length=a.length:=rws_len _ _
 have hlb:(rws Mc.row b).length=b.length:=rws_len _ _
 obtain ⟨r,hr⟩:∃r,r=eqB a b:=⟨_,rfl⟩
 rw [←hr]
 refine FnT.of Tryz.func38 (by kernel_rfl) rfl Tryz.ntmps38 rfl fun E0 F h hT w0 cs=>?_
 have mA:=hT.1.len
 obtain ⟨aa,ca,rfl⟩:=RoF.sli hT.1 hla
 obtain ⟨ab,cb,rfl⟩:=RoF.sli hT.2 hlb
 conv=>whnf
 (try refine gS ?_);conv=>whnf
 repeat ((first|(guard_target=_∧_;(first|refine oL ?_|refine oR ?_))|(guard_target=Exists _;refine oM ?_));(try intro _);conv=>whnf)
 refine ⟨fun hs=>?_,fun hs=>?_⟩<;>conv=>whnf
 rotate_left
 ·conv=>whnf
  repeat ((first|(guard_target=_∧_;(first|refine oL ?_|refine oR ?_))|(guard_target=Exists _;refine oM ?_));(try intro _);conv=>whnf)
  have:r=false:=by rw [hr];exact eqB_no (fun e=>hs (by rw [e]))
  rw [this]
  try refine RunsS.retU ?_
  try refine RunsS.finU ?_
  exact UnwS.ret tab Tryz.func38 rfl (eN () trivial)
 conv=>whnf
 repeat ((first|(guard_target=_∧_;(first|refine oL ?_|refine oR ?_))|(guard_target=Exists _;refine oM ?_));(try intro _);conv=>whnf)
 have hn:a.length=b.length:=by omega
 refine RunsS.nameAt (fun _ x=>x) 0 (by exact hT.1) ?_
 conv=>whnf
 (try refine gS ?_);conv=>whnf
 repeat ((first|(guard_target=_∧_;(first|refine oL ?_|refine oR ?_))|(guard_target=Exists _;refine oM ?_));(try intro _);conv=>whnf)
 refine RunsS.nameAt (fun _ x=>x) 1 (by exact hT.2) ?_
 conv=>whnf
 (try refine gS ?_);conv=>whnf
 repeat ((first|(guard_target=_∧_;(first|refine oL ?_|refine oR ?_))|(guard_target=Exists _;refine oM ?_));(try intro _);conv=>whnf)
 refine RunsS.subR [] (RunsS.loop (fun (k:Nat)=>[(12,.v (.int .i64 a.length)),(13,.v (.int .i64 k)),(0,.buf 0),(1,.buf 1)]) (fun (k:Nat)=>[(0,.ro 4 (rws Mc.row a)),(1,.ro 4 (rws Mc.row b))]) 2 (fun (k:Nat)=>k≤a.length ∧ ∀j (_:j<k) (ha:j<a.length) (hb:j<b.length),a[j]=b[j]) (fun (k:Nat)=>a.length - k) ?round7 (0) ?J07) sH sH
 case J07=>exact (⟨Nat.zero_le _,fun j hj=>absurd hj (Nat.not_lt_zero _)⟩)
 rintro k hJ back
 try dsimp only at hJ back
 conv=>whnf
 try dsimp only
 refine gS ?_;conv=>whnf
 repeat ((first|(guard_target=_∧_;(first|refine oL ?_|refine oR ?_))|(guard_target=Exists _;refine oM ?_));(try intro _);conv=>whnf)
 refine ⟨fun hk=>?_,fun hk=>?_⟩<;>conv=>whnf
 ·have hk:k<a.length:=by omega
  have hk2:k<b.length:=by omega
  conv=>whnf
  repeat ((first|(guard_target=_∧_;(first|refine oL ?_|refine oR ?_))|(guard_target=Exists _;refine oM ?_));(try intro _);conv=>whnf)
  refine RunsS.held tab (.fl 0 (.fl 1 (.fl 2 (.fl 3 (.fl 4 (.fl 5 (.fl 6 (.fl 7 (.fl 8 .done))))))))) (by kernel_rfl) ?_;conv=>whnf
  (try refine gR ?_);conv=>whnf
  repeat ((first|(guard_target=_∧_;(first|refine oL ?_|refine oR ?_|refine oB ?_))|(guard_target=Exists _;refine oM ?_));(try intro _);conv=>whnf)
  (try refine gS ?_);conv=>whnf
  repeat ((first|(guard_target=_∧_;(first|refine oL ?_|refine oR ?_))|(guard_target=Exists _;refine oM ?_));(try intro _);conv=>whnf)
  refine ⟨_,rws_get hk,?_⟩;conv=>whnf
  try (refine And.intro (by first|omega|exact Nat.le_of_ble_eq_true rfl) ?_;(try intro _);conv=>whnf)
  (try refine gR ?_);conv=>whnf
  repeat ((first|(guard_target=_∧_;(first|refine oL ?_|refine oR ?_|refine oB ?_))|(guard_target=Exists _;refine oM ?_));(try intro _);conv=>whnf)
  (try refine gS ?_);conv=>whnf
  repeat ((first|(guard_target=_∧_;(first|refine oL ?_|refine oR ?_))|(guard_target=Exists _;refine oM ?_));(try intro _);conv=>whnf)
  refine ⟨_,rws_get hk2,?_⟩;conv=>whnf
  try (refine And.intro (by first|omega|exact Nat.le_of_ble_eq_true rfl) ?_;(try intro _);conv=>whnf)
  (try refine gR ?_);conv=>whnf
  repeat ((first|(guard_target=_∧_;(first|refine oL ?_|refine oR ?_|refine oB ?_))|(guard_target=Exists _;refine oM ?_));(try intro _);conv=>whnf)
  (try refine gS ?_);conv=>whnf
  repeat ((first|(guard_target=_∧_;(first|refine oL ?_|refine oR ?_))|(guard_target=Exists _;refine oM ?_));(try intro _);conv=>whnf)
  refine ⟨fun hs=>?_,fun hs=>?_⟩<;>conv=>whnf
  ·try refine gR ?_
   conv=>whnf
   repeat ((first|(guard_target=_∧_;(first|refine oL ?_|refine oR ?_|refine oB ?_))|(guard_target=Exists _;refine oM ?_));(try intro _);conv=>whnf)
   (try refine gS ?_);conv=>whnf
   repeat ((first|(guard_target=_∧_;(first|refine oL ?_|refine oR ?_))|(guard_target=Exists _;refine oM ?_));(try intro _);conv=>whnf)
   refine RunsS.subR [] (back (k+1) (by exact (⟨hk,more_at hk hk2 hJ.2 (Mc.ext_iff'.2 hs)⟩)) (by (try dsimp only);omega)) sH sH
  (try refine gR ?_);conv=>whnf
  repeat ((first|(guard_target=_∧_;(first|refine oL ?_|refine oR ?_|refine oB ?_))|(guard_target=Exists _;refine oM ?_));(try intro _);conv=>whnf)
  (try refine gS ?_);conv=>whnf
  repeat ((first|(guard_target=_∧_;(first|refine oL ?_|refine oR ?_))|(guard_target=Exists _;refine oM ?_));(try intro _);conv=>whnf)
  have:r=false:=by rw [hr];exact eqB_no (fun e=>(fun e=>hs (Mc.ext_iff'.1 e)) (at_eq e hk hk2))
  rw [this]
  try refine RunsS.retU ?_
  try refine RunsS.finU ?_
  exact UnwS.ret tab Tryz.func38 rfl (eN () trivial)
 conv=>whnf
 repeat ((first|(guard_target=_∧_;(first|refine oL ?_|refine oR ?_))|(guard_target=Exists _;refine oM ?_));(try intro _);conv=>whnf)
 have:r=true:=by rw [hr];exact eqB_yes (all_at hn fun j h1 h2=>hJ.2 j (by omega) h1 h2)
 rw [this]
 try refine RunsS.retU ?_
 try refine RunsS.finU ?_
 exact UnwS.ret tab Tryz.func38 rfl (eN () trivial)
theorem eqC_fn (va vb:Value) (a b:List Cd):FnT Tryz.prog (Two va vb 4 (rws Cd.row a) (rws Cd.row b)) 42 0 [.v va,.v vb] [] (fun _:Unit=>True) (fun _=>.ret (.v (.bool (eqB a b))) 0 []):=by
 have hla:(rws Cd.row a).length=a.length:=rws_len _ _
 have hlb:(rws Cd.row b).length=b.length:=rws_len _ _
 obtain ⟨r,hr⟩:∃r,r=eqB a b:=⟨_,rfl⟩
 rw [←hr]
 refine FnT.of Tryz.func42 (by kernel_rfl) rfl Tryz.ntmps42 rfl fun E0 F h hT w0 cs=>?_
 have mA:=hT.1.len
 obtain ⟨aa,ca,rfl⟩:=RoF.sli hT.1 hla
 obtain ⟨ab,cb,rfl⟩:=RoF.sli hT.2 hlb
 conv=>whnf
 (try refine gS ?_);conv=>whnf
 repeat ((first|(guard_target=_∧_;(first|refine oL ?_|refine oR ?_))|(guard_target=Exists _;refine oM ?_));(try intro _);conv=>whnf)
 refine ⟨fun hs=>?_,fun hs=>?_⟩<;>conv=>whnf
 rotate_left
 ·conv=>whnf
  repeat ((first|(guard_target=_∧_;(first|refine oL ?_|refine oR ?_))|(guard_target=Exists _;refine oM ?_));(try intro _);conv=>whnf)
  have:r=false:=by rw [hr];exact eqB_no (fun e=>hs (by rw [e]))
  rw [this]
  try refine RunsS.retU ?_
  try refine RunsS.finU ?_
  exact UnwS.ret tab Tryz.func42 rfl (eN () trivial)
 conv=>whnf
 repeat ((first|(guard_target=_∧_;(first|refine oL ?_|refine oR ?_))|(guard_target=Exists _;refine oM ?_));(try intro _);conv=>whnf)
 have hn:a.length=b.length:=by omega
 refine RunsS.nameAt (fun _ x=>x) 0 (by exact hT.1) ?_
 conv=>whnf
 (try refine gS ?_);conv=>whnf
 repeat ((first|(guard_target=_∧_;(first|refine oL ?_|refine oR ?_))|(guard_target=Exists _;refine oM ?_));(try intro _);conv=>whnf)
 refine RunsS.nameAt (fun _ x=>x) 1 (by exact hT.2) ?_
 conv=>whnf
 (try refine gS ?_);conv=>whnf
 repeat ((first|(guard_target=_∧_;(first|refine oL ?_|refine oR ?_))|(guard_target=Exists _;refine oM ?_));(try intro _);conv=>whnf)
 refine RunsS.subR [] (RunsS.loop (fun (k:Nat)=>[(12,.v (.int .i64 a.length)),(13,.v (.int .i64 k)),(0,.buf 0),(1,.buf 1)]) (fun (k:Nat)=>[(0,.ro 4 (rws Cd.row a)),(1,.ro 4 (rws Cd.row b))]) 2 (fun (k:Nat)=>k≤a.length ∧ ∀j (_:j<k) (ha:j<a.length) (hb:j<b.length),a[j]=b[j]) (fun (k:Nat)=>a.length - k) ?round9 (0) ?J09) sH sH
 case J09=>exact (⟨Nat.zero_le _,fun j hj=>absurd hj (Nat.not_lt_zero _)⟩)
 rintro k hJ back
 try dsimp only at hJ back
 conv=>whnf
 try dsimp only
 refine gS ?_;conv=>whnf
 repeat ((first|(guard_target=_∧_;(first|refine oL ?_|refine oR ?_))|(guard_target=Exists _;refine oM ?_));(try intro _);conv=>whnf)
 refine ⟨fun hk=>?_,fun hk=>?_⟩<;>conv=>whnf
 ·have hk:k<a.length:=by omega
  have hk2:k<b.length:=by omega
  conv=>whnf
  repeat ((first|(guard_target=_∧_;(first|refine oL ?_|refine oR ?_))|(guard_target=Exists _;refine oM ?_));(try intro _);conv=>whnf)
  refine RunsS.held tab (.fl 0 (.fl 1 (.fl 2 (.fl 3 (.fl 4 (.fl 5 (.fl 6 (.fl 7 (.fl 8 .done))))))))) (by kernel_rfl) ?_;conv=>whnf
  (try refine gR ?_);conv=>whnf
  repeat ((first|(guard_target=_∧_;(first|refine oL ?_|refine oR ?_|refine oB ?_))|(guard_target=Exists _;refine oM ?_));(try intro _);conv=>whnf)
  (try refine gS ?_);conv=>whnf
  repeat ((first|(guard_target=_∧_;(first|refine oL ?_|refine oR ?_))|(guard_target=Exists _;refine oM ?_));(try intro _);conv=>whnf)
  refine ⟨_,rws_get hk,?_⟩;conv=>whnf
  try (refine And.intro (by first|omega|exact Nat.le_of_ble_eq_true rfl) ?_;(try intro _);conv=>whnf)
  (try refine gR ?_);conv=>whnf
  repeat ((first|(guard_target=_∧_;(first|refine oL ?_|refine oR ?_|refine oB ?_))|(guard_target=Exists _;refine oM ?_));(try intro _);conv=>whnf)
  (try refine gS ?_);conv=>whnf
  repeat ((first|(guard_target=_∧_;(first|refine oL ?_|refine oR ?_))|(guard_target=Exists _;refine oM ?_));(try intro _);conv=>whnf)
  refine ⟨_,rws_get hk2,?_⟩;conv=>whnf
  try (refine And.intro (by first|omega|exact Nat.le_of_ble_eq_true rfl) ?_;(try intro _);conv=>whnf)
  (try refine gR ?_);conv=>whnf
  repeat ((first|(guard_target=_∧_;(first|refine oL ?_|refine oR ?_|refine oB ?_))|(guard_target=Exists _;refine oM ?_));(try intro _);conv=>whnf)
  (try refine gS ?_);conv=>whnf
  repeat ((first|(guard_target=_∧_;(first|refine oL ?_|refine oR ?_))|(guard_target=Exists _;refine oM ?_));(try intro _);conv=>whnf)
  refine ⟨fun hs=>?_,fun hs=>?_⟩<;>conv=>whnf
  ·try refine gR ?_
   conv=>whnf
   repeat ((first|(guard_target=_∧_;(first|refine oL ?_|refine oR ?_|refine oB ?_))|(guard_target=Exists _;refine oM ?_));(try intro _);conv=>whnf)
   (try refine gS ?_);conv=>whnf
   repeat ((first|(guard_target=_∧_;(first|refine oL ?_|refine oR ?_))|(guard_target=Exists _;refine oM ?_));(try intro _);conv=>whnf)
   refine RunsS.subR [] (back (k+1) (by exact (⟨hk,more_at hk hk2 hJ.2 (Cd.ext_iff'.2 hs)⟩)) (by (try dsimp only);omega)) sH sH
  (try refine gR ?_);conv=>whnf
  repeat ((first|(guard_target=_∧_;(first|refine oL ?_|refine oR ?_|refine oB ?_))|(guard_target=Exists _;refine oM ?_));(try intro _);conv=>whnf)
  (try refine gS ?_);conv=>whnf
  repeat ((first|(guard_target=_∧_;(first|refine oL ?_|refine oR ?_))|(guard_target=Exists _;refine oM ?_));(try intro _);conv=>whnf)
  have:r=false:=by rw [hr];exact eqB_no (fun e=>(fun e=>hs (Cd.ext_iff'.1 e)) (at_eq e hk hk2))
  rw [this]
  try refine RunsS.retU ?_
  try refine RunsS.finU ?_
  exact UnwS.ret tab Tryz.func42 rfl (eN () trivial)
 conv=>whnf
 repeat ((first|(guard_target=_∧_;(first|refine oL ?_|refine oR ?_))|(guard_target=Exists _;refine oM ?_));(try intro _);conv=>whnf)
 have:r=true:=by rw [hr];exact eqB_yes (all_at hn fun j h1 h2=>hJ.2 j (by omega) h1 h2)
 rw [this]
 try refine RunsS.retU ?_
 try refine RunsS.finU ?_
 exact UnwS.ret tab Tryz.func42 rfl (eN () trivial)
theorem eqA_fn (va vb:Value) (a b:List Am):FnT Tryz.prog (Two va vb 7 (rws Am.row a) (rws Am.row b)) 108 0 [.v va,.v vb] [] (fun _:Unit=>True) (fun _=>.ret (.v (.bool (eqB a b))) 0 []):=by
 have hla:(rws Am.row a).length=a.length:=rws_len _ _
 have hlb:(rws Am.row b).length=b.length:=rws_len _ _
 obtain ⟨r,hr⟩:∃r,r=eqB a b:=⟨_,rfl⟩
 rw [←hr]
 refine FnT.of Tryz.func108 (by kernel_rfl) rfl Tryz.ntmps108 rfl fun E0 F h hT w0 cs=>?_
 have mA:=hT.1.len
 obtain ⟨aa,ca,rfl⟩:=RoF.sli hT.1 hla
 obtain ⟨ab,cb,rfl⟩:=RoF.sli hT.2 hlb
 conv=>whnf
 (try refine gS ?_);conv=>whnf
 repeat ((first|(guard_target=_∧_;(first|refine oL ?_|refine oR ?_))|(guard_target=Exists _;refine oM ?_));(try intro _);conv=>whnf)
 refine ⟨fun hs=>?_,fun hs=>?_⟩<;>conv=>whnf
 rotate_left
 ·conv=>whnf
  repeat ((first|(guard_target=_∧_;(first|refine oL ?_|refine oR ?_))|(guard_target=Exists _;refine oM ?_));(try intro _);conv=>whnf)
  have:r=false:=by rw [hr];exact eqB_no (fun e=>hs (by rw [e]))
  rw [this]
  try refine RunsS.retU ?_
  try refine RunsS.finU ?_
  exact UnwS.ret tab Tryz.func108 rfl (eN () trivial)
 conv=>whnf
 repeat ((first|(guard_target=_∧_;(first|refine oL ?_|refine oR ?_))|(guard_target=Exists _;refine oM ?_));(try intro _);conv=>whnf)
 have hn:a.length=b.length:=by omega
 refine RunsS.nameAt (fun _ x=>x) 0 (by exact hT.1) ?_
 conv=>whnf
 (try refine gS ?_);conv=>whnf
 repeat ((first|(guard_target=_∧_;(first|refine oL ?_|refine oR ?_))|(guard_target=Exists _;refine oM ?_));(try intro _);conv=>whnf)
 refine RunsS.nameAt (fun _ x=>x) 1 (by exact hT.2) ?_
 conv=>whnf
 (try refine gS ?_);conv=>whnf
 repeat ((first|(guard_target=_∧_;(first|refine oL ?_|refine oR ?_))|(guard_target=Exists _;refine oM ?_));(try intro _);conv=>whnf)
 refine RunsS.subR [] (RunsS.loop (fun (k:Nat)=>[(12,.v (.int .i64 a.length)),(13,.v (.int .i64 k)),(0,.buf 0),(1,.buf 1)]) (fun (k:Nat)=>[(0,.ro 7 (rws Am.row a)),(1,.ro 7 (rws Am.row b))]) 2 (fun (k:Nat)=>k≤a.length ∧ ∀j (_:j<k) (ha:j<a.length) (hb:j<b.length),a[j]=b[j]) (fun (k:Nat)=>a.length - k) ?round11 (0) ?J011) sH sH
 case J011=>exact (⟨Nat.zero_le _,fun j hj=>absurd hj (Nat.not_lt_zero _)⟩)
 rintro k hJ back
 try dsimp only at hJ back
 conv=>whnf
 try dsimp only
 refine gS ?_;conv=>whnf
 repeat ((first|(guard_target=_∧_;(first|refine oL ?_|refine oR ?_))|(guard_target=Exists _;refine oM ?_));(try intro _);conv=>whnf)
 refine ⟨fun hk=>?_,fun hk=>?_⟩<;>conv=>whnf
 ·have hk:k<a.length:=by omega
  have hk2:k<b.length:=by omega
  conv=>whnf
  repeat ((first|(guard_target=_∧_;(first|refine oL ?_|refine oR ?_))|(guard_target=Exists _;refine oM ?_));(try intro _);conv=>whnf)
  refine RunsS.held tab (.fl 0 (.fl 1 (.fl 2 (.fl 3 (.fl 4 (.fl 5 (.fl 6 (.fl 7 (.fl 8 .done))))))))) (by kernel_rfl) ?_;conv=>whnf
  (try refine gR ?_);conv=>whnf
  repeat ((first|(guard_target=_∧_;(first|refine oL ?_|refine oR ?_|refine oB ?_))|(guard_target=Exists _;refine oM ?_));(try intro _);conv=>whnf)
  (try refine gS ?_);conv=>whnf
  repeat ((first|(guard_target=_∧_;(first|refine oL ?_|refine oR ?_))|(guard_target=Exists _;refine oM ?_));(try intro _);conv=>whnf)
  refine ⟨_,rws_get hk,?_⟩;conv=>whnf
  try (refine And.intro (by first|omega|exact Nat.le_of_ble_eq_true rfl) ?_;(try intro _);conv=>whnf)
  (try refine gR ?_);conv=>whnf
  repeat ((first|(guard_target=_∧_;(first|refine oL ?_|refine oR ?_|refine oB ?_))|(guard_target=Exists _;refine oM ?_));(try intro _);conv=>whnf)
  (try refine gS ?_);conv=>whnf
  repeat ((first|(guard_target=_∧_;(first|refine oL ?_|refine oR ?_))|(guard_target=Exists _;refine oM ?_));(try intro _);conv=>whnf)
  refine ⟨_,rws_get hk2,?_⟩;conv=>whnf
  try (refine And.intro (by first|omega|exact Nat.le_of_ble_eq_true rfl) ?_;(try intro _);conv=>whnf)
  (try refine gR ?_);conv=>whnf
  repeat ((first|(guard_target=_∧_;(first|refine oL ?_|refine oR ?_|refine oB ?_))|(guard_target=Exists _;refine oM ?_));(try intro _);conv=>whnf)
  (try refine gS ?_);conv=>whnf
  repeat ((first|(guard_target=_∧_;(first|refine oL ?_|refine oR ?_))|(guard_target=Exists _;refine oM ?_));(try intro _);conv=>whnf)
  refine ⟨fun hs=>?_,fun hs=>?_⟩<;>conv=>whnf
  ·try refine gR ?_
   conv=>whnf
   repeat ((first|(guard_target=_∧_;(first|refine oL ?_|refine oR ?_|refine oB ?_))|(guard_target=Exists _;refine oM ?_));(try intro _);conv=>whnf)
   (try refine gS ?_);conv=>whnf
   repeat ((first|(guard_target=_∧_;(first|refine oL ?_|refine oR ?_))|(guard_target=Exists _;refine oM ?_));(try intro _);conv=>whnf)
   refine RunsS.subR [] (back (k+1) (by exact (⟨hk,more_at hk hk2 hJ.2 (Am.ext_iff'.2 hs)⟩)) (by (try dsimp only);omega)) sH sH
  (try refine gR ?_);conv=>whnf
  repeat ((first|(guard_target=_∧_;(first|refine oL ?_|refine oR ?_|refine oB ?_))|(guard_target=Exists _;refine oM ?_));(try intro _);conv=>whnf)
  (try refine gS ?_);conv=>whnf
  repeat ((first|(guard_target=_∧_;(first|refine oL ?_|refine oR ?_))|(guard_target=Exists _;refine oM ?_));(try intro _);conv=>whnf)
  have:r=false:=by rw [hr];exact eqB_no (fun e=>(fun e=>hs (Am.ext_iff'.1 e)) (at_eq e hk hk2))
  rw [this]
  try refine RunsS.retU ?_
  try refine RunsS.finU ?_
  exact UnwS.ret tab Tryz.func108 rfl (eN () trivial)
 conv=>whnf
 repeat ((first|(guard_target=_∧_;(first|refine oL ?_|refine oR ?_))|(guard_target=Exists _;refine oM ?_));(try intro _);conv=>whnf)
 have:r=true:=by rw [hr];exact eqB_yes (all_at hn fun j h1 h2=>hJ.2 j (by omega) h1 h2)
 rw [this]
 try refine RunsS.retU ?_
 try refine RunsS.finU ?_
 exact UnwS.ret tab Tryz.func108 rfl (eN () trivial)
theorem eqR_fn (va vb:Value) (a b:List Rn):FnT Tryz.prog (Two va vb 3 (rws Rn.row a) (rws Rn.row b)) 109 0 [.v va,.v vb] [] (fun _:Unit=>True) (fun _=>.ret (.v (.bool (eqB a b))) 0 []):=by
 have hla:(rws Rn.row a).length=a.length:=rws_len _ _
 have hlb:(rws Rn.row b).length=b.length:=rws_len _ _
 obtain ⟨r,hr⟩:∃r,r=eqB a b:=⟨_,rfl⟩
 rw [←hr]
 refine FnT.of Tryz.func109 (by kernel_rfl) rfl Tryz.ntmps109 rfl fun E0 F h hT w0 cs=>?_
 have mA:=hT.1.len
 obtain ⟨aa,ca,rfl⟩:=RoF.sli hT.1 hla
 obtain ⟨ab,cb,rfl⟩:=RoF.sli hT.2 hlb
 conv=>whnf
 (try refine gS ?_);conv=>whnf
 repeat ((first|(guard_target=_∧_;(first|refine oL ?_|refine oR ?_))|(guard_target=Exists _;refine oM ?_));(try intro _);conv=>whnf)
 refine ⟨fun hs=>?_,fun hs=>?_⟩<;>conv=>whnf
 rotate_left
 ·conv=>whnf
  repeat ((first|(guard_target=_∧_;(first|refine oL ?_|refine oR ?_))|(guard_target=Exists _;refine oM ?_));(try intro _);conv=>whnf)
  have:r=false:=by rw [hr];exact eqB_no (fun e=>hs (by rw [e]))
  rw [this]
  try refine RunsS.retU ?_
  try refine RunsS.finU ?_
  exact UnwS.ret tab Tryz.func109 rfl (eN () trivial)
 conv=>whnf
 repeat ((first|(guard_target=_∧_;(first|refine oL ?_|refine oR ?_))|(guard_target=Exists _;refine oM ?_));(try intro _);conv=>whnf)
 have hn:a.length=b.length:=by omega
 refine RunsS.nameAt (fun _ x=>x) 0 (by exact hT.1) ?_
 conv=>whnf
 (try refine gS ?_);conv=>whnf
 repeat ((first|(guard_target=_∧_;(first|refine oL ?_|refine oR ?_))|(guard_target=Exists _;refine oM ?_));(try intro _);conv=>whnf)
 refine RunsS.nameAt (fun _ x=>x) 1 (by exact hT.2) ?_
 conv=>whnf
 (try refine gS ?_);conv=>whnf
 repeat ((first|(guard_target=_∧_;(first|refine oL ?_|refine oR ?_))|(guard_target=Exists _;refine oM ?_));(try intro _);conv=>whnf)
 refine RunsS.subR [] (RunsS.loop (fun (k:Nat)=>[(12,.v (.int .i64 a.length)),(13,.v (.int .i64 k)),(0,.buf 0),(1,.buf 1)]) (fun (k:Nat)=>[(0,.ro 3 (rws Rn.row a)),(1,.ro 3 (rws Rn.row b))]) 2 (fun (k:Nat)=>k≤a.length ∧ ∀j (_:j<k) (ha:j<a.length) (hb:j<b.length),a[j]=b[j]) (fun (k:Nat)=>a.length - k) ?round13 (0) ?J013) sH sH
 case J013=>exact (⟨Nat.zero_le _,fun j hj=>absurd hj (Nat.not_lt_zero _)⟩)
 rintro k hJ back
 try dsimp only at hJ back
 conv=>whnf
 try dsimp only
 refine gS ?_;conv=>whnf
 repeat ((first|(guard_target=_∧_;(first|refine oL ?_|refine oR ?_))|(guard_target=Exists _;refine oM ?_));(try intro _);conv=>whnf)
 refine ⟨fun hk=>?_,fun hk=>?_⟩<;>conv=>whnf
 ·have hk:k<a.length:=by omega
  have hk2:k<b.length:=by omega
  conv=>whnf
  repeat ((first|(guard_target=_∧_;(first|refine oL ?_|refine oR ?_))|(guard_target=Exists _;refine oM ?_));(try intro _);conv=>whnf)
  refine RunsS.held tab (.fl 0 (.fl 1 (.fl 2 (.fl 3 (.fl 4 (.fl 5 (.fl 6 (.fl 7 (.fl 8 .done))))))))) (by kernel_rfl) ?_;conv=>whnf
  (try refine gR ?_);conv=>whnf
  repeat ((first|(guard_target=_∧_;(first|refine oL ?_|refine oR ?_|refine oB ?_))|(guard_target=Exists _;refine oM ?_));(try intro _);conv=>whnf)
  (try refine gS ?_);conv=>whnf
  repeat ((first|(guard_target=_∧_;(first|refine oL ?_|refine oR ?_))|(guard_target=Exists _;refine oM ?_));(try intro _);conv=>whnf)
  refine ⟨_,rws_get hk,?_⟩;conv=>whnf
  try (refine And.intro (by first|omega|exact Nat.le_of_ble_eq_true rfl) ?_;(try intro _);conv=>whnf)
  (try refine gR ?_);conv=>whnf
  repeat ((first|(guard_target=_∧_;(first|refine oL ?_|refine oR ?_|refine oB ?_))|(guard_target=Exists _;refine oM ?_));(try intro _);conv=>whnf)
  (try refine gS ?_);conv=>whnf
  repeat ((first|(guard_target=_∧_;(first|refine oL ?_|refine oR ?_))|(guard_target=Exists _;refine oM ?_));(try intro _);conv=>whnf)
  refine ⟨_,rws_get hk2,?_⟩;conv=>whnf
  try (refine And.intro (by first|omega|exact Nat.le_of_ble_eq_true rfl) ?_;(try intro _);conv=>whnf)
  (try refine gR ?_);conv=>whnf
  repeat ((first|(guard_target=_∧_;(first|refine oL ?_|refine oR ?_|refine oB ?_))|(guard_target=Exists _;refine oM ?_));(try intro _);conv=>whnf)
  (try refine gS ?_);conv=>whnf
  repeat ((first|(guard_target=_∧_;(first|refine oL ?_|refine oR ?_))|(guard_target=Exists _;refine oM ?_));(try intro _);conv=>whnf)
  refine ⟨fun hs=>?_,fun hs=>?_⟩<;>conv=>whnf
  ·try refine gR ?_
   conv=>whnf
   repeat ((first|(guard_target=_∧_;(first|refine oL ?_|refine oR ?_|refine oB ?_))|(guard_target=Exists _;refine oM ?_));(try intro _);conv=>whnf)
   (try refine gS ?_);conv=>whnf
   repeat ((first|(guard_target=_∧_;(first|refine oL ?_|refine oR ?_))|(guard_target=Exists _;refine oM ?_));(try intro _);conv=>whnf)
   refine RunsS.subR [] (back (k+1) (by exact (⟨hk,more_at hk hk2 hJ.2 (Rn.ext_iff'.2 hs)⟩)) (by (try dsimp only);omega)) sH sH
  (try refine gR ?_);conv=>whnf
  repeat ((first|(guard_target=_∧_;(first|refine oL ?_|refine oR ?_|refine oB ?_))|(guard_target=Exists _;refine oM ?_));(try intro _);conv=>whnf)
  (try refine gS ?_);conv=>whnf
  repeat ((first|(guard_target=_∧_;(first|refine oL ?_|refine oR ?_))|(guard_target=Exists _;refine oM ?_));(try intro _);conv=>whnf)
  have:r=false:=by rw [hr];exact eqB_no (fun e=>(fun e=>hs (Rn.ext_iff'.1 e)) (at_eq e hk hk2))
  rw [this]
  try refine RunsS.retU ?_
  try refine RunsS.finU ?_
  exact UnwS.ret tab Tryz.func109 rfl (eN () trivial)
 conv=>whnf
 repeat ((first|(guard_target=_∧_;(first|refine oL ?_|refine oR ?_))|(guard_target=Exists _;refine oM ?_));(try intro _);conv=>whnf)
 have:r=true:=by rw [hr];exact eqB_yes (all_at hn fun j h1 h2=>hJ.2 j (by omega) h1 h2)
 rw [this]
 try refine RunsS.retU ?_
 try refine RunsS.finU ?_
 exact UnwS.ret tab Tryz.func109 rfl (eN () trivial)
theorem eqS_fn (va vb:Value) (a b:List Sw):FnT Tryz.prog (Two va vb 4 (rws Sw.row a) (rws Sw.row b)) 45 0 [.v va,.v vb] [] (fun _:Unit=>True) (fun _=>.ret (.v (.bool (eqB a b))) 0 []):=by
 have hla:(rws Sw.row a).length=a.length:=rws_len _ _
 have hlb:(rws Sw.row b).length=b.length:=rws_len _ _
 obtain ⟨r,hr⟩:∃r,r=eqB a b:=⟨_,rfl⟩
 rw [←hr]
 refine FnT.of Tryz.func45 (by kernel_rfl) rfl Tryz.ntmps45 rfl fun E0 F h hT w0 cs=>?_
 have mA:=hT.1.len
 obtain ⟨aa,ca,rfl⟩:=RoF.sli hT.1 hla
 obtain ⟨ab,cb,rfl⟩:=RoF.sli hT.2 hlb
 conv=>whnf
 (try refine gS ?_);conv=>whnf
 repeat ((first|(guard_target=_∧_;(first|refine oL ?_|refine oR ?_))|(guard_target=Exists _;refine oM ?_));(try intro _);conv=>whnf)
 refine ⟨fun hs=>?_,fun hs=>?_⟩<;>conv=>whnf
 rotate_left
 ·conv=>whnf
  repeat ((first|(guard_target=_∧_;(first|refine oL ?_|refine oR ?_))|(guard_target=Exists _;refine oM ?_));(try intro _);conv=>whnf)
  have:r=false:=by rw [hr];exact eqB_no (fun e=>hs (by rw [e]))
  rw [this]
  try refine RunsS.retU ?_
  try refine RunsS.finU ?_
  exact UnwS.ret tab Tryz.func45 rfl (eN () trivial)
 conv=>whnf
 repeat ((first|(guard_target=_∧_;(first|refine oL ?_|refine oR ?_))|(guard_target=Exists _;refine oM ?_));(try intro _);conv=>whnf)
 have hn:a.length=b.length:=by omega
 refine RunsS.nameAt (fun _ x=>x) 0 (by exact hT.1) ?_
 conv=>whnf
 (try refine gS ?_);conv=>whnf
 repeat ((first|(guard_target=_∧_;(first|refine oL ?_|refine oR ?_))|(guard_target=Exists _;refine oM ?_));(try intro _);conv=>whnf)
 refine RunsS.nameAt (fun _ x=>x) 1 (by exact hT.2) ?_
 conv=>whnf
 (try refine gS ?_);conv=>whnf
 repeat ((first|(guard_target=_∧_;(first|refine oL ?_|refine oR ?_))|(guard_target=Exists _;refine oM ?_));(try intro _);conv=>whnf)
 refine RunsS.subR [] (RunsS.loop (fun (k:Nat)=>[(12,.v (.int .i64 a.length)),(13,.v (.int .i64 k)),(0,.buf 0),(1,.buf 1)]) (fun (k:Nat)=>[(0,.ro 4 (rws Sw.row a)),(1,.ro 4 (rws Sw.row b))]) 2 (fun (k:Nat)=>k≤a.length ∧ ∀j (_:j<k) (ha:j<a.length) (hb:j<b.length),a[j]=b[j]) (fun (k:Nat)=>a.length - k) ?round15 (0) ?J015) sH sH
 case J015=>exact (⟨Nat.zero_le _,fun j hj=>absurd hj (Nat.not_lt_zero _)⟩)
 rintro k hJ back
 try dsimp only at hJ back
 conv=>whnf
 try dsimp only
 refine gS ?_;conv=>whnf
 repeat ((first|(guard_target=_∧_;(first|refine oL ?_|refine oR ?_))|(guard_target=Exists _;refine oM ?_));(try intro _);conv=>whnf)
 refine ⟨fun hk=>?_,fun hk=>?_⟩<;>conv=>whnf
 ·have hk:k<a.length:=by omega
  have hk2:k<b.length:=by omega
  conv=>whnf
  repeat ((first|(guard_target=_∧_;(first|refine oL ?_|refine oR ?_))|(guard_target=Exists _;refine oM ?_));(try intro _);conv=>whnf)
  refine RunsS.held tab (.fl 0 (.fl 1 (.fl 2 (.fl 3 (.fl 4 (.fl 5 (.fl 6 (.fl 7 (.fl 8 .done))))))))) (by kernel_rfl) ?_;conv=>whnf
  (try refine gR ?_);conv=>whnf
  repeat ((first|(guard_target=_∧_;(first|refine oL ?_|refine oR ?_|refine oB ?_))|(guard_target=Exists _;refine oM ?_));(try intro _);conv=>whnf)
  (try refine gS ?_);conv=>whnf
  repeat ((first|(guard_target=_∧_;(first|refine oL ?_|refine oR ?_))|(guard_target=Exists _;refine oM ?_));(try intro _);conv=>whnf)
  refine ⟨_,rws_get hk,?_⟩;conv=>whnf
  try (refine And.intro (by first|omega|exact Nat.le_of_ble_eq_true rfl) ?_;(try intro _);conv=>whnf)
  (try refine gR ?_);conv=>whnf
  repeat ((first|(guard_target=_∧_;(first|refine oL ?_|refine oR ?_|refine oB ?_))|(guard_target=Exists _;refine oM ?_));(try intro _);conv=>whnf)
  (try refine gS ?_);conv=>whnf
  repeat ((first|(guard_target=_∧_;(first|refine oL ?_|refine oR ?_))|(guard_target=Exists _;refine oM ?_));(try intro _);conv=>whnf)
  refine ⟨_,rws_get hk2,?_⟩;conv=>whnf
  try (refine And.intro (by first|omega|exact Nat.le_of_ble_eq_true rfl) ?_;(try intro _);conv=>whnf)
  (try refine gR ?_);conv=>whnf
  repeat ((first|(guard_target=_∧_;(first|refine oL ?_|refine oR ?_|refine oB ?_))|(guard_target=Exists _;refine oM ?_));(try intro _);conv=>whnf)
  (try refine gS ?_);conv=>whnf
  repeat ((first|(guard_target=_∧_;(first|refine oL ?_|refine oR ?_))|(guard_target=Exists _;refine oM ?_));(try intro _);conv=>whnf)
  refine ⟨fun hs=>?_,fun hs=>?_⟩<;>conv=>whnf
  ·try refine gR ?_
   conv=>whnf
   repeat ((first|(guard_target=_∧_;(first|refine oL ?_|refine oR ?_|refine oB ?_))|(guard_target=Exists _;refine oM ?_));(try intro _);conv=>whnf)
   (try refine gS ?_);conv=>whnf
   repeat ((first|(guard_target=_∧_;(first|refine oL ?_|refine oR ?_))|(guard_target=Exists _;refine oM ?_));(try intro _);conv=>whnf)
   refine RunsS.subR [] (back (k+1) (by exact (⟨hk,more_at hk hk2 hJ.2 (Sw.ext_iff'.2 hs)⟩)) (by (try dsimp only);omega)) sH sH
  (try refine gR ?_);conv=>whnf
  repeat ((first|(guard_target=_∧_;(first|refine oL ?_|refine oR ?_|refine oB ?_))|(guard_target=Exists _;refine oM ?_));(try intro _);conv=>whnf)
  (try refine gS ?_);conv=>whnf
  repeat ((first|(guard_target=_∧_;(first|refine oL ?_|refine oR ?_))|(guard_target=Exists _;refine oM ?_));(try intro _);conv=>whnf)
  have:r=false:=by rw [hr];exact eqB_no (fun e=>(fun e=>hs (Sw.ext_iff'.1 e)) (at_eq e hk hk2))
  rw [this]
  try refine RunsS.retU ?_
  try refine RunsS.finU ?_
  exact UnwS.ret tab Tryz.func45 rfl (eN () trivial)
 conv=>whnf
 repeat ((first|(guard_target=_∧_;(first|refine oL ?_|refine oR ?_))|(guard_target=Exists _;refine oM ?_));(try intro _);conv=>whnf)
 have:r=true:=by rw [hr];exact eqB_yes (all_at hn fun j h1 h2=>hJ.2 j (by omega) h1 h2)
 rw [this]
 try refine RunsS.retU ?_
 try refine RunsS.finU ?_
 exact UnwS.ret tab Tryz.func45 rfl (eN () trivial)

abbrev TwoO (a b:OpV) (F:Nat→Prop) (h:Array Obj):Prop:=a.ok F h∧b.ok F h
theorem TwoO.tok (a b:OpV):TOk (TwoO a b):=Two.tok _ _ _ _ _
theorem sameO_fn (a b:OpV):FnT Tryz.prog (TwoO a b) 40 0 [.agg (toV a.row),.agg (toV b.row)] [] (fun _:Unit=>True) (fun _=>.ret (.v (.bool (eqB a.bare b.bare))) 0 []):=by
 obtain ⟨r,hr⟩:∃r,r=eqB a.bare b.bare:=⟨_,rfl⟩
 rw [←hr]
 refine FnT.of Tryz.func40 (by kernel_rfl) rfl Tryz.ntmps40 rfl fun E0 F h hT w0 cs=>?_
 conv=>whnf
 (try refine gS ?_);conv=>whnf
 repeat ((first|(guard_target=_∧_;(first|refine oL ?_|refine oR ?_))|(guard_target=Exists _;refine oM ?_));(try intro _);conv=>whnf)
 refine ⟨fun hs=>?_,fun hs=>?_⟩<;>conv=>whnf
 ·try refine gS ?_
  conv=>whnf
  repeat ((first|(guard_target=_∧_;(first|refine oL ?_|refine oR ?_))|(guard_target=Exists _;refine oM ?_));(try intro _);conv=>whnf)
  refine RunsS.callT (Two.tok _ _ _ _ _) (hT) (eqB_fn _ _ a.ch b.ch) [] sH ?CNa1 ?_
  case CNa1=>rfl
  intro _ _
  conv=>whnf
  (try refine gS ?_);conv=>whnf
  repeat ((first|(guard_target=_∧_;(first|refine oL ?_|refine oR ?_))|(guard_target=Exists _;refine oM ?_));(try intro _);conv=>whnf)
  have:r=eqB a.ch b.ch:=by
   rw [hr]
   by_cases h:a.ch=b.ch
   ·rw [eqB_yes h,eqB_yes (OpV.bare_iff.2 ⟨hs,h⟩)]
   rw [eqB_no h,eqB_no fun e=>h (OpV.bare_iff.1 e).2]
  rw [this]
  try refine RunsS.retU ?_
  try refine RunsS.finU ?_
  exact UnwS.ret tab Tryz.func40 rfl (eN () trivial)
 (try refine gS ?_);conv=>whnf
 repeat ((first|(guard_target=_∧_;(first|refine oL ?_|refine oR ?_))|(guard_target=Exists _;refine oM ?_));(try intro _);conv=>whnf)
 have:r=false:=by rw [hr];exact eqB_no fun e=>hs (OpV.bare_iff.1 e).1
 rw [this]
 try refine RunsS.retU ?_
 try refine RunsS.finU ?_
 exact UnwS.ret tab Tryz.func40 rfl (eN () trivial)
def rcNums (r:RcV):List Int:=[r.fr,r.to,r.rwN,r.rwD,r.yN,r.yD,r.tN,r.tD,r.lead,r.inum,r.pnum]
theorem rcNums_fn (r:RcV):FnS Tryz.prog 107 0 [.agg (toV r.row)] [] (fun _:Unit=>True) (fun _=>.ret (.agg (toV ((rcNums r).map fun z=>Value.int .i64 z))) 0 []):=by
 refine FnS.of Tryz.func107 (by kernel_rfl) rfl Tryz.ntmps107 rfl fun E0 F h w0 cs=>?_
 conv=>whnf
 refine gS ?_;conv=>whnf
 repeat ((first|(guard_target=_∧_;(first|refine oL ?_|refine oR ?_))|(guard_target=Exists _;refine oM ?_));(try intro _);conv=>whnf)
 try refine RunsS.retU ?_
 try refine RunsS.finU ?_
 exact UnwS.ret tab Tryz.func107 rfl (eN () trivial)
theorem arT:Tryz.prog.underlying 169=some (.array 11 3):=by kernel_rfl
theorem inT:Tryz.prog.underlying 3=some (.int .i64):=by kernel_rfl
theorem arI:Tryz.prog.info? 3=some (Tryz.prog.info? 3).get! :=by kernel_rfl
theorem inC:Tryz.prog.cellsOf 3=1:=by kernel_rfl
theorem arG:Tryz.prog.eqGuardType Tryz.prog.depth 169=false:=by kernel_rfl
theorem nums_iff {a b:RcV}:rcNums a=rcNums b↔a.fr=b.fr∧a.to=b.to∧a.rwN=b.rwN∧a.rwD=b.rwD∧a.yN=b.yN∧a.yD=b.yD∧a.tN=b.tN∧a.tD=b.tD∧a.lead=b.lead∧a.inum=b.inum∧a.pnum=b.pnum:=by simp [rcNums]
theorem nums_of {a b:RcV} (e:a.bare=b.bare):rcNums a=rcNums b:=by
 obtain ⟨_,_,h3,h4,_,_,_,h8,h9,h10,h11,h12,h13,h14,_,h16,h17⟩:=RcV.bare_iff.1 e
 exact nums_iff.2 ⟨h3,h4,h8,h9,h10,h11,h12,h13,h14,h16,h17⟩
theorem sameR_fn (a b:RcV):FnT Tryz.prog (TwoR a b) 44 0 [.agg (toV a.row),.agg (toV b.row)] [] (fun _:Unit=>True) (fun _=>.ret (.v (.bool (eqB a.bare b.bare))) 0 []):=by
 obtain ⟨r,hr⟩:∃r,r=eqB a.bare b.bare:=⟨_,rfl⟩
 rw [←hr]
 refine FnT.of Tryz.func44 (by kernel_rfl) rfl Tryz.ntmps44 rfl fun E0 F h hT w0 cs=>?_
 conv=>whnf
 (try refine gS ?_);conv=>whnf
 repeat ((first|(guard_target=_∧_;(first|refine oL ?_|refine oR ?_))|(guard_target=Exists _;refine oM ?_));(try intro _);conv=>whnf)
 refine RunsS.held tab (.fl 0 (.fl 1 (.fl 2 (.fl 3 (.fl 4 (.fl 5 (.fl 6 (.fl 7 (.fl 8 (.fl 9 (.fl 10 (.fl 11 (.fl 12 (.fl 13 (.fl 14 (.fl 16 (.fl 17 (.e1 15 [17] (.e1 18 [] (.fl 19 (.fl 20 (.fl 21 (.fl 22 (.fl 23 (.fl 24 (.fl 25 (.e1 26 [] (.fl 27 (.fl 28 (.fl 29 (.fl 30 (.fl 31 (.fl 32 (.e1 33 [] (.fl 34 (.fl 35 (.fl 36 (.fl 37 (.fl 38 (.fl 39 (.e1 40 [] (.fl 41 (.fl 42 (.fl 43 (.fl 44 (.fl 45 (.fl 46 (.e1 47 [] (.fl 48 (.fl 49 .done)))))))))))))))))))))))))))))))))))))))))))))))))) (by kernel_rfl) ?_;conv=>whnf
 (try refine gR ?_);conv=>whnf
 repeat ((first|(guard_target=_∧_;(first|refine oL ?_|refine oR ?_|refine oB ?_))|(guard_target=Exists _;refine oM ?_));(try intro _);conv=>whnf)
 (try refine gS ?_);conv=>whnf
 repeat ((first|(guard_target=_∧_;(first|refine oL ?_|refine oR ?_))|(guard_target=Exists _;refine oM ?_));(try intro _);conv=>whnf)
 refine ⟨fun h1=>?_,fun h1=>?_⟩<;>conv=>whnf
 ·try refine gR ?_
  conv=>whnf
  repeat ((first|(guard_target=_∧_;(first|refine oL ?_|refine oR ?_|refine oB ?_))|(guard_target=Exists _;refine oM ?_));(try intro _);conv=>whnf)
  (try refine gS ?_);conv=>whnf
  repeat ((first|(guard_target=_∧_;(first|refine oL ?_|refine oR ?_))|(guard_target=Exists _;refine oM ?_));(try intro _);conv=>whnf)
  refine ⟨fun h2=>?_,fun h2=>?_⟩<;>conv=>whnf
  ·try refine gR ?_
   conv=>whnf
   repeat ((first|(guard_target=_∧_;(first|refine oL ?_|refine oR ?_|refine oB ?_))|(guard_target=Exists _;refine oM ?_));(try intro _);conv=>whnf)
   (try refine gS ?_);conv=>whnf
   repeat ((first|(guard_target=_∧_;(first|refine oL ?_|refine oR ?_))|(guard_target=Exists _;refine oM ?_));(try intro _);conv=>whnf)
   refine EffR.callN (rcNums_fn a) [] ?_ sH ?CNa2
   case CNa2=>rfl
   intro _ _
   conv=>whnf
   try refine oB ?_
   (try refine gR ?_);conv=>whnf
   repeat ((first|(guard_target=_∧_;(first|refine oL ?_|refine oR ?_|refine oB ?_))|(guard_target=Exists _;refine oM ?_));(try intro _);conv=>whnf)
   (try refine gS ?_);conv=>whnf
   repeat ((first|(guard_target=_∧_;(first|refine oL ?_|refine oR ?_))|(guard_target=Exists _;refine oM ?_));(try intro _);conv=>whnf)
   refine EffR.callN (rcNums_fn b) [] ?_ sH ?CNa3
   case CNa3=>rfl
   rintro ⟨⟩ _<;>conv=>whnf
   conv=>whnf
   try refine oB ?_
   refine RunsR.eqArr (us:=rcNums a) (ws:=rcNums b) arT inT arI inC arG rfl rfl ?_
   by_cases h3:rcNums a=rcNums b
   ·rw [decide_eq_true h3]
    conv=>whnf
    (try refine gR ?_);conv=>whnf
    repeat ((first|(guard_target=_∧_;(first|refine oL ?_|refine oR ?_|refine oB ?_))|(guard_target=Exists _;refine oM ?_));(try intro _);conv=>whnf)
    (try refine gS ?_);conv=>whnf
    repeat ((first|(guard_target=_∧_;(first|refine oL ?_|refine oR ?_))|(guard_target=Exists _;refine oM ?_));(try intro _);conv=>whnf)
    have C4:=eqC_fn (a.hc.v a.cs.length) (b.hc.v b.cs.length) a.cs b.cs
    by_cases h4:a.cs=b.cs
    rotate_left
    ·rw [eqB_no h4] at C4
     refine EffR.callT (Two.tok _ _ _ _ _) (⟨hT.1.c,hT.2.c⟩) (C4) [] ?_ sH ?CNa4
     case CNa4=>rfl
     intro _ _
     conv=>whnf
     try refine oB ?_
     (try refine gR ?_);conv=>whnf
     repeat ((first|(guard_target=_∧_;(first|refine oL ?_|refine oR ?_|refine oB ?_))|(guard_target=Exists _;refine oM ?_));(try intro _);conv=>whnf)
     (try refine gS ?_);conv=>whnf
     repeat ((first|(guard_target=_∧_;(first|refine oL ?_|refine oR ?_))|(guard_target=Exists _;refine oM ?_));(try intro _);conv=>whnf)
     have:r=false:=by rw [hr];exact eqB_no fun e=>h4 (RcV.bare_iff.1 e).2.2.2.2.1
     rw [this]
     try refine RunsS.retU ?_
     try refine RunsS.finU ?_
     exact UnwS.ret tab Tryz.func44 rfl (eN () trivial)
    rw [eqB_yes h4] at C4
    refine EffR.callT (Two.tok _ _ _ _ _) (⟨hT.1.c,hT.2.c⟩) (C4) [] ?_ sH ?CNa5
    case CNa5=>rfl
    intro _ _
    conv=>whnf
    try refine oB ?_
    (try refine gR ?_);conv=>whnf
    repeat ((first|(guard_target=_∧_;(first|refine oL ?_|refine oR ?_|refine oB ?_))|(guard_target=Exists _;refine oM ?_));(try intro _);conv=>whnf)
    (try refine gS ?_);conv=>whnf
    repeat ((first|(guard_target=_∧_;(first|refine oL ?_|refine oR ?_))|(guard_target=Exists _;refine oM ?_));(try intro _);conv=>whnf)
    have C5:=eqA_fn (a.hi.v a.inn.length) (b.hi.v b.inn.length) a.inn b.inn
    by_cases h5:a.inn=b.inn
    rotate_left
    ·rw [eqB_no h5] at C5
     refine EffR.callT (Two.tok _ _ _ _ _) (⟨hT.1.i,hT.2.i⟩) (C5) [] ?_ sH ?CNa6
     case CNa6=>rfl
     intro _ _
     conv=>whnf
     try refine oB ?_
     (try refine gR ?_);conv=>whnf
     repeat ((first|(guard_target=_∧_;(first|refine oL ?_|refine oR ?_|refine oB ?_))|(guard_target=Exists _;refine oM ?_));(try intro _);conv=>whnf)
     (try refine gS ?_);conv=>whnf
     repeat ((first|(guard_target=_∧_;(first|refine oL ?_|refine oR ?_))|(guard_target=Exists _;refine oM ?_));(try intro _);conv=>whnf)
     have:r=false:=by rw [hr];exact eqB_no fun e=>h5 (RcV.bare_iff.1 e).2.2.2.2.2.1
     rw [this]
     try refine RunsS.retU ?_
     try refine RunsS.finU ?_
     exact UnwS.ret tab Tryz.func44 rfl (eN () trivial)
    rw [eqB_yes h5] at C5
    refine EffR.callT (Two.tok _ _ _ _ _) (⟨hT.1.i,hT.2.i⟩) (C5) [] ?_ sH ?CNa7
    case CNa7=>rfl
    intro _ _
    conv=>whnf
    try refine oB ?_
    (try refine gR ?_);conv=>whnf
    repeat ((first|(guard_target=_∧_;(first|refine oL ?_|refine oR ?_|refine oB ?_))|(guard_target=Exists _;refine oM ?_));(try intro _);conv=>whnf)
    (try refine gS ?_);conv=>whnf
    repeat ((first|(guard_target=_∧_;(first|refine oL ?_|refine oR ?_))|(guard_target=Exists _;refine oM ?_));(try intro _);conv=>whnf)
    have C6:=eqA_fn (a.ho.v a.out.length) (b.ho.v b.out.length) a.out b.out
    by_cases h6:a.out=b.out
    rotate_left
    ·rw [eqB_no h6] at C6
     refine EffR.callT (Two.tok _ _ _ _ _) (⟨hT.1.o,hT.2.o⟩) (C6) [] ?_ sH ?CNa8
     case CNa8=>rfl
     intro _ _
     conv=>whnf
     try refine oB ?_
     (try refine gR ?_);conv=>whnf
     repeat ((first|(guard_target=_∧_;(first|refine oL ?_|refine oR ?_|refine oB ?_))|(guard_target=Exists _;refine oM ?_));(try intro _);conv=>whnf)
     (try refine gS ?_);conv=>whnf
     repeat ((first|(guard_target=_∧_;(first|refine oL ?_|refine oR ?_))|(guard_target=Exists _;refine oM ?_));(try intro _);conv=>whnf)
     have:r=false:=by rw [hr];exact eqB_no fun e=>h6 (RcV.bare_iff.1 e).2.2.2.2.2.2.1
     rw [this]
     try refine RunsS.retU ?_
     try refine RunsS.finU ?_
     exact UnwS.ret tab Tryz.func44 rfl (eN () trivial)
    rw [eqB_yes h6] at C6
    refine EffR.callT (Two.tok _ _ _ _ _) (⟨hT.1.o,hT.2.o⟩) (C6) [] ?_ sH ?CNa9
    case CNa9=>rfl
    intro _ _
    conv=>whnf
    try refine oB ?_
    (try refine gR ?_);conv=>whnf
    repeat ((first|(guard_target=_∧_;(first|refine oL ?_|refine oR ?_|refine oB ?_))|(guard_target=Exists _;refine oM ?_));(try intro _);conv=>whnf)
    (try refine gS ?_);conv=>whnf
    repeat ((first|(guard_target=_∧_;(first|refine oL ?_|refine oR ?_))|(guard_target=Exists _;refine oM ?_));(try intro _);conv=>whnf)
    have C7:=eqR_fn (a.hr.v a.runs.length) (b.hr.v b.runs.length) a.runs b.runs
    by_cases h7:a.runs=b.runs
    rotate_left
    ·rw [eqB_no h7] at C7
     refine EffR.callT (Two.tok _ _ _ _ _) (⟨hT.1.rn,hT.2.rn⟩) (C7) [] ?_ sH ?CNa10
     case CNa10=>rfl
     intro _ _
     conv=>whnf
     try refine oB ?_
     (try refine gR ?_);conv=>whnf
     repeat ((first|(guard_target=_∧_;(first|refine oL ?_|refine oR ?_|refine oB ?_))|(guard_target=Exists _;refine oM ?_));(try intro _);conv=>whnf)
     (try refine gS ?_);conv=>whnf
     repeat ((first|(guard_target=_∧_;(first|refine oL ?_|refine oR ?_))|(guard_target=Exists _;refine oM ?_));(try intro _);conv=>whnf)
     have:r=false:=by rw [hr];exact eqB_no fun e=>h7 (RcV.bare_iff.1 e).2.2.2.2.2.2.2.2.2.2.2.2.2.2.1
     rw [this]
     try refine RunsS.retU ?_
     try refine RunsS.finU ?_
     exact UnwS.ret tab Tryz.func44 rfl (eN () trivial)
    rw [eqB_yes h7] at C7
    refine EffR.callT (Two.tok _ _ _ _ _) (⟨hT.1.rn,hT.2.rn⟩) (C7) [] ?_ sH ?CNa11
    case CNa11=>rfl
    intro _ _
    conv=>whnf
    try refine oB ?_
    (try refine gR ?_);conv=>whnf
    repeat ((first|(guard_target=_∧_;(first|refine oL ?_|refine oR ?_|refine oB ?_))|(guard_target=Exists _;refine oM ?_));(try intro _);conv=>whnf)
    (try refine gS ?_);conv=>whnf
    repeat ((first|(guard_target=_∧_;(first|refine oL ?_|refine oR ?_))|(guard_target=Exists _;refine oM ?_));(try intro _);conv=>whnf)
    have:r=true:=by
     obtain ⟨n1,n2,n3,n4,n5,n6,n7,n8,n9,n10,n11⟩:=nums_iff.1 h3
     rw [hr]
     exact eqB_yes (RcV.bare_iff.2 ⟨h1,h2,n1,n2,h4,h5,h6,n3,n4,n5,n6,n7,n8,n9,h7,n10,n11⟩)
    rw [this]
    try refine RunsS.retU ?_
    try refine RunsS.finU ?_
    exact UnwS.ret tab Tryz.func44 rfl (eN () trivial)
   rw [decide_eq_false h3]
   conv=>whnf
   (try refine gR ?_);conv=>whnf
   repeat ((first|(guard_target=_∧_;(first|refine oL ?_|refine oR ?_|refine oB ?_))|(guard_target=Exists _;refine oM ?_));(try intro _);conv=>whnf)
   (try refine gS ?_);conv=>whnf
   repeat ((first|(guard_target=_∧_;(first|refine oL ?_|refine oR ?_))|(guard_target=Exists _;refine oM ?_));(try intro _);conv=>whnf)
   have:r=false:=by rw [hr];exact eqB_no fun e=>h3 (nums_of e)
   rw [this]
   try refine RunsS.retU ?_
   try refine RunsS.finU ?_
   exact UnwS.ret tab Tryz.func44 rfl (eN () trivial)
  (try refine gR ?_);conv=>whnf
  repeat ((first|(guard_target=_∧_;(first|refine oL ?_|refine oR ?_|refine oB ?_))|(guard_target=Exists _;refine oM ?_));(try intro _);conv=>whnf)
  (try refine gS ?_);conv=>whnf
  repeat ((first|(guard_target=_∧_;(first|refine oL ?_|refine oR ?_))|(guard_target=Exists _;refine oM ?_));(try intro _);conv=>whnf)
  have:r=false:=by rw [hr];exact eqB_no fun e=>h2 (RcV.bare_iff.1 e).2.1
  rw [this]
  try refine RunsS.retU ?_
  try refine RunsS.finU ?_
  exact UnwS.ret tab Tryz.func44 rfl (eN () trivial)
 (try refine gR ?_);conv=>whnf
 repeat ((first|(guard_target=_∧_;(first|refine oL ?_|refine oR ?_|refine oB ?_))|(guard_target=Exists _;refine oM ?_));(try intro _);conv=>whnf)
 (try refine gS ?_);conv=>whnf
 repeat ((first|(guard_target=_∧_;(first|refine oL ?_|refine oR ?_))|(guard_target=Exists _;refine oM ?_));(try intro _);conv=>whnf)
 have:r=false:=by rw [hr];exact eqB_no fun e=>h1 (RcV.bare_iff.1 e).1
 rw [this]
 try refine RunsS.retU ?_
 try refine RunsS.finU ?_
 exact UnwS.ret tab Tryz.func44 rfl (eN () trivial)

structure TwoL {α:Type} (row:α→List Value) (ok:α→(Nat→Prop)→Array Obj→Prop) (sz:Nat) (va vb:Value) (a b:List α) (F:Nat→Prop) (h:Array Obj):Prop where
 ra:RoF F h va sz (rws row a)
 rb:RoF F h vb sz (rws row b)
 oa:∀o∈a,ok o F h
 ob:∀o∈b,ok o F h
theorem TwoL.tok {α:Type} {row:α→List Value} {ok:α→(Nat→Prop)→Array Obj→Prop} (t:∀o,TOk (ok o)) {sz:Nat} {va vb:Value} {a b:List α}:TOk (TwoL row ok sz va vb a b):=
 ⟨fun F F' h hs H=>⟨RoF.up ⟨hs,fun _ _=>rfl⟩ H.ra,RoF.up ⟨hs,fun _ _=>rfl⟩ H.rb,fun o ho=>(t o).1 F F' h hs (H.oa o ho),fun o ho=>(t o).1 F F' h hs (H.ob o ho)⟩,
  fun F h h' H K=>⟨RoF.up ⟨fun _ x=>x,K.same⟩ H.ra,RoF.up ⟨fun _ x=>x,K.same⟩ H.rb,fun o ho=>(t o).2 F h h' (H.oa o ho) K,fun o ho=>(t o).2 F h h' (H.ob o ho) K⟩⟩
abbrev okO (o:OpV) (F:Nat→Prop) (h:Array Obj):Prop:=o.ok F h
abbrev okF (o:FbV) (F:Nat→Prop) (h:Array Obj):Prop:=o.ok F h
abbrev okR (o:RcV) (F:Nat→Prop) (h:Array Obj):Prop:=o.ok F h
theorem OpV.tok' (o:OpV):TOk (okO o):=RoF.tok _ _ _
theorem FbV.tok' (o:FbV):TOk (okF o):=RoF.tok _ _ _
theorem RcV.tok' (o:RcV):TOk (okR o):=RcV.ok.tok o
theorem eqfO_fn (va vb:Value) (a b:List OpV):FnT Tryz.prog (TwoL OpV.row okO 2 va vb a b) 39 0 [.v va,.v vb,.v (.func (.func 40) #[] #[])] [] (fun _:Unit=>True) (fun _=>.ret (.v (.bool (eqB (a.map OpV.bare) (b.map OpV.bare)))) 0 []):=by
 have hla:(rws OpV.row a).length=a.length:=rws_len _ _
 have hlb:(rws OpV.row b).length=b.length:=rws_len _ _
 obtain ⟨r,hr⟩:∃r,r=eqB (a.map OpV.bare) (b.map OpV.bare):=⟨_,rfl⟩
 rw [←hr]
 refine FnT.of Tryz.func39 (by kernel_rfl) rfl Tryz.ntmps39 rfl fun E0 F h hT w0 cs=>?_
 have mA:=hT.ra.len
 obtain ⟨aa,ca,rfl⟩:=RoF.sli hT.ra hla
 obtain ⟨ab,cb,rfl⟩:=RoF.sli hT.rb hlb
 conv=>whnf
 (try refine gS ?_);conv=>whnf
 repeat ((first|(guard_target=_∧_;(first|refine oL ?_|refine oR ?_))|(guard_target=Exists _;refine oM ?_));(try intro _);conv=>whnf)
 refine ⟨fun hs=>?_,fun hs=>?_⟩<;>conv=>whnf
 rotate_left
 ·conv=>whnf
  repeat ((first|(guard_target=_∧_;(first|refine oL ?_|refine oR ?_))|(guard_target=Exists _;refine oM ?_));(try intro _);conv=>whnf)
  have:r=false:=by rw [hr];exact eqB_no (fun e=>hs (by rw [map_len e]))
  rw [this]
  try refine RunsS.retU ?_
  try refine RunsS.finU ?_
  exact UnwS.ret tab Tryz.func39 rfl (eN () trivial)
 conv=>whnf
 repeat ((first|(guard_target=_∧_;(first|refine oL ?_|refine oR ?_))|(guard_target=Exists _;refine oM ?_));(try intro _);conv=>whnf)
 have hn:a.length=b.length:=by omega
 refine RunsS.nameAt (fun _ x=>x) 15 (by exact hT.ra) ?_
 conv=>whnf
 (try refine gS ?_);conv=>whnf
 repeat ((first|(guard_target=_∧_;(first|refine oL ?_|refine oR ?_))|(guard_target=Exists _;refine oM ?_));(try intro _);conv=>whnf)
 refine RunsS.nameAt (fun _ x=>x) 1 (by exact hT.rb) ?_
 conv=>whnf
 (try refine gS ?_);conv=>whnf
 repeat ((first|(guard_target=_∧_;(first|refine oL ?_|refine oR ?_))|(guard_target=Exists _;refine oM ?_));(try intro _);conv=>whnf)
 refine RunsS.subR [] (RunsS.loop (fun (k:Nat)=>[(16,.v (.int .i64 a.length)),(17,.v (.int .i64 k)),(15,.buf 0),(1,.buf 1),(2,.v (.func (.func 40) #[] #[]))]) (fun (k:Nat)=>[(0,.ro 2 (rws OpV.row a)),(1,.ro 2 (rws OpV.row b))]) 2 (fun (k:Nat)=>k≤a.length ∧ ∀j (_:j<k) (ha:j<a.length) (hb:j<b.length),a[j].bare=b[j].bare) (fun (k:Nat)=>a.length - k) ?round1 (0) ?J01) sH sH
 case J01=>exact (⟨Nat.zero_le _,fun j hj=>absurd hj (Nat.not_lt_zero _)⟩)
 rintro k hJ back
 try dsimp only at hJ back
 conv=>whnf
 try dsimp only
 refine gS ?_;conv=>whnf
 repeat ((first|(guard_target=_∧_;(first|refine oL ?_|refine oR ?_))|(guard_target=Exists _;refine oM ?_));(try intro _);conv=>whnf)
 refine ⟨fun hk=>?_,fun hk=>?_⟩<;>conv=>whnf
 ·have hk:k<a.length:=by omega
  have hk2:k<b.length:=by omega
  conv=>whnf
  repeat ((first|(guard_target=_∧_;(first|refine oL ?_|refine oR ?_))|(guard_target=Exists _;refine oM ?_));(try intro _);conv=>whnf)
  refine ⟨_,rws_get hk,?_⟩;conv=>whnf
  try (refine oN ?_;conv=>whnf)
  repeat ((first|(guard_target=_∧_;(first|refine oL ?_|refine oR ?_))|(guard_target=Exists _;refine oM ?_));(try intro _);conv=>whnf)
  refine ⟨_,rws_get hk2,?_⟩;conv=>whnf
  try (refine oN ?_;conv=>whnf)
  repeat ((first|(guard_target=_∧_;(first|refine oL ?_|refine oR ?_))|(guard_target=Exists _;refine oM ?_));(try intro _);conv=>whnf)
  have C:=sameO_fn a[k] b[k]
  by_cases hs:a[k].bare=b[k].bare
  ·rw [eqB_yes hs] at C
   refine RunsS.callT (TwoO.tok _ _) (⟨hT.oa _ (List.getElem_mem hk),hT.ob _ (List.getElem_mem hk2)⟩) (C) [] sH ?CNa2 ?_
   case CNa2=>rfl
   intro _ _
   conv=>whnf
   (try refine gS ?_);conv=>whnf
   repeat ((first|(guard_target=_∧_;(first|refine oL ?_|refine oR ?_))|(guard_target=Exists _;refine oM ?_));(try intro _);conv=>whnf)
   refine RunsS.subR [] (back (k+1) (by exact (⟨hk,more_by hk hk2 hJ.2 (hs)⟩)) (by (try dsimp only);omega)) sH sH
  rw [eqB_no hs] at C
  refine RunsS.callT (TwoO.tok _ _) (⟨hT.oa _ (List.getElem_mem hk),hT.ob _ (List.getElem_mem hk2)⟩) (C) [] sH ?CNa4 ?_
  case CNa4=>rfl
  intro _ _
  conv=>whnf
  (try refine gS ?_);conv=>whnf
  repeat ((first|(guard_target=_∧_;(first|refine oL ?_|refine oR ?_))|(guard_target=Exists _;refine oM ?_));(try intro _);conv=>whnf)
  have:r=false:=by rw [hr];exact eqB_no (fun e=>(fun e=>hs e) (map_at e hk hk2))
  rw [this]
  try refine RunsS.retU ?_
  try refine RunsS.finU ?_
  exact UnwS.ret tab Tryz.func39 rfl (eN () trivial)
 conv=>whnf
 repeat ((first|(guard_target=_∧_;(first|refine oL ?_|refine oR ?_))|(guard_target=Exists _;refine oM ?_));(try intro _);conv=>whnf)
 have:r=true:=by rw [hr];exact eqB_yes (map_all hn fun j h1 h2=>hJ.2 j (by omega) h1 h2)
 rw [this]
 try refine RunsS.retU ?_
 try refine RunsS.finU ?_
 exact UnwS.ret tab Tryz.func39 rfl (eN () trivial)
theorem eqfF_fn (va vb:Value) (a b:List FbV):FnT Tryz.prog (TwoL FbV.row okF 1 va vb a b) 41 0 [.v va,.v vb,.v (.func (.func 42) #[] #[])] [] (fun _:Unit=>True) (fun _=>.ret (.v (.bool (eqB (a.map FbV.bare) (b.map FbV.bare)))) 0 []):=by
 have hla:(rws FbV.row a).length=a.length:=rws_len _ _
 have hlb:(rws FbV.row b).length=b.length:=rws_len _ _
 obtain ⟨r,hr⟩:∃r,r=eqB (a.map FbV.bare) (b.map FbV.bare):=⟨_,rfl⟩
 rw [←hr]
 refine FnT.of Tryz.func41 (by kernel_rfl) rfl Tryz.ntmps41 rfl fun E0 F h hT w0 cs=>?_
 have mA:=hT.ra.len
 obtain ⟨aa,ca,rfl⟩:=RoF.sli hT.ra hla
 obtain ⟨ab,cb,rfl⟩:=RoF.sli hT.rb hlb
 conv=>whnf
 (try refine gS ?_);conv=>whnf
 repeat ((first|(guard_target=_∧_;(first|refine oL ?_|refine oR ?_))|(guard_target=Exists _;refine oM ?_));(try intro _);conv=>whnf)
 refine ⟨fun hs=>?_,fun hs=>?_⟩<;>conv=>whnf
 rotate_left
 ·conv=>whnf
  repeat ((first|(guard_target=_∧_;(first|refine oL ?_|refine oR ?_))|(guard_target=Exists _;refine oM ?_));(try intro _);conv=>whnf)
  have:r=false:=by rw [hr];exact eqB_no (fun e=>hs (by rw [map_len e]))
  rw [this]
  try refine RunsS.retU ?_
  try refine RunsS.finU ?_
  exact UnwS.ret tab Tryz.func41 rfl (eN () trivial)
 conv=>whnf
 repeat ((first|(guard_target=_∧_;(first|refine oL ?_|refine oR ?_))|(guard_target=Exists _;refine oM ?_));(try intro _);conv=>whnf)
 have hn:a.length=b.length:=by omega
 refine RunsS.nameAt (fun _ x=>x) 15 (by exact hT.ra) ?_
 conv=>whnf
 (try refine gS ?_);conv=>whnf
 repeat ((first|(guard_target=_∧_;(first|refine oL ?_|refine oR ?_))|(guard_target=Exists _;refine oM ?_));(try intro _);conv=>whnf)
 refine RunsS.nameAt (fun _ x=>x) 1 (by exact hT.rb) ?_
 conv=>whnf
 (try refine gS ?_);conv=>whnf
 repeat ((first|(guard_target=_∧_;(first|refine oL ?_|refine oR ?_))|(guard_target=Exists _;refine oM ?_));(try intro _);conv=>whnf)
 refine RunsS.subR [] (RunsS.loop (fun (k:Nat)=>[(16,.v (.int .i64 a.length)),(17,.v (.int .i64 k)),(15,.buf 0),(1,.buf 1),(2,.v (.func (.func 42) #[] #[]))]) (fun (k:Nat)=>[(0,.ro 1 (rws FbV.row a)),(1,.ro 1 (rws FbV.row b))]) 2 (fun (k:Nat)=>k≤a.length ∧ ∀j (_:j<k) (ha:j<a.length) (hb:j<b.length),a[j].bare=b[j].bare) (fun (k:Nat)=>a.length - k) ?round5 (0) ?J05) sH sH
 case J05=>exact (⟨Nat.zero_le _,fun j hj=>absurd hj (Nat.not_lt_zero _)⟩)
 rintro k hJ back
 try dsimp only at hJ back
 conv=>whnf
 try dsimp only
 refine gS ?_;conv=>whnf
 repeat ((first|(guard_target=_∧_;(first|refine oL ?_|refine oR ?_))|(guard_target=Exists _;refine oM ?_));(try intro _);conv=>whnf)
 refine ⟨fun hk=>?_,fun hk=>?_⟩<;>conv=>whnf
 ·have hk:k<a.length:=by omega
  have hk2:k<b.length:=by omega
  conv=>whnf
  repeat ((first|(guard_target=_∧_;(first|refine oL ?_|refine oR ?_))|(guard_target=Exists _;refine oM ?_));(try intro _);conv=>whnf)
  refine ⟨_,rws_get hk,?_⟩;conv=>whnf
  try (refine oN ?_;conv=>whnf)
  repeat ((first|(guard_target=_∧_;(first|refine oL ?_|refine oR ?_))|(guard_target=Exists _;refine oM ?_));(try intro _);conv=>whnf)
  refine ⟨_,rws_get hk2,?_⟩;conv=>whnf
  try (refine oN ?_;conv=>whnf)
  repeat ((first|(guard_target=_∧_;(first|refine oL ?_|refine oR ?_))|(guard_target=Exists _;refine oM ?_));(try intro _);conv=>whnf)
  have C:=eqC_fn (a[k].hd.v a[k].cs.length) (b[k].hd.v b[k].cs.length) a[k].cs b[k].cs
  by_cases hs:a[k].cs=b[k].cs
  ·rw [eqB_yes hs] at C
   refine RunsS.callT (Two.tok _ _ _ _ _) (⟨hT.oa _ (List.getElem_mem hk),hT.ob _ (List.getElem_mem hk2)⟩) (C) [] sH ?CNa6 ?_
   case CNa6=>rfl
   intro _ _
   conv=>whnf
   (try refine gS ?_);conv=>whnf
   repeat ((first|(guard_target=_∧_;(first|refine oL ?_|refine oR ?_))|(guard_target=Exists _;refine oM ?_));(try intro _);conv=>whnf)
   refine RunsS.subR [] (back (k+1) (by exact (⟨hk,more_by hk hk2 hJ.2 (FbV.bare_iff.2 hs)⟩)) (by (try dsimp only);omega)) sH sH
  rw [eqB_no hs] at C
  refine RunsS.callT (Two.tok _ _ _ _ _) (⟨hT.oa _ (List.getElem_mem hk),hT.ob _ (List.getElem_mem hk2)⟩) (C) [] sH ?CNa8 ?_
  case CNa8=>rfl
  intro _ _
  conv=>whnf
  (try refine gS ?_);conv=>whnf
  repeat ((first|(guard_target=_∧_;(first|refine oL ?_|refine oR ?_))|(guard_target=Exists _;refine oM ?_));(try intro _);conv=>whnf)
  have:r=false:=by rw [hr];exact eqB_no (fun e=>(fun e=>hs (FbV.bare_iff.1 e)) (map_at e hk hk2))
  rw [this]
  try refine RunsS.retU ?_
  try refine RunsS.finU ?_
  exact UnwS.ret tab Tryz.func41 rfl (eN () trivial)
 conv=>whnf
 repeat ((first|(guard_target=_∧_;(first|refine oL ?_|refine oR ?_))|(guard_target=Exists _;refine oM ?_));(try intro _);conv=>whnf)
 have:r=true:=by rw [hr];exact eqB_yes (map_all hn fun j h1 h2=>hJ.2 j (by omega) h1 h2)
 rw [this]
 try refine RunsS.retU ?_
 try refine RunsS.finU ?_
 exact UnwS.ret tab Tryz.func41 rfl (eN () trivial)
theorem eqfR_fn (va vb:Value) (a b:List RcV):FnT Tryz.prog (TwoL RcV.row okR 17 va vb a b) 43 0 [.v va,.v vb,.v (.func (.func 44) #[] #[])] [] (fun _:Unit=>True) (fun _=>.ret (.v (.bool (eqB (a.map RcV.bare) (b.map RcV.bare)))) 0 []):=by
 have hla:(rws RcV.row a).length=a.length:=rws_len _ _
 have hlb:(rws RcV.row b).length=b.length:=rws_len _ _
 obtain ⟨r,hr⟩:∃r,r=eqB (a.map RcV.bare) (b.map RcV.bare):=⟨_,rfl⟩
 rw [←hr]
 refine FnT.of Tryz.func43 (by kernel_rfl) rfl Tryz.ntmps43 rfl fun E0 F h hT w0 cs=>?_
 have mA:=hT.ra.len
 obtain ⟨aa,ca,rfl⟩:=RoF.sli hT.ra hla
 obtain ⟨ab,cb,rfl⟩:=RoF.sli hT.rb hlb
 conv=>whnf
 (try refine gS ?_);conv=>whnf
 repeat ((first|(guard_target=_∧_;(first|refine oL ?_|refine oR ?_))|(guard_target=Exists _;refine oM ?_));(try intro _);conv=>whnf)
 refine ⟨fun hs=>?_,fun hs=>?_⟩<;>conv=>whnf
 rotate_left
 ·conv=>whnf
  repeat ((first|(guard_target=_∧_;(first|refine oL ?_|refine oR ?_))|(guard_target=Exists _;refine oM ?_));(try intro _);conv=>whnf)
  have:r=false:=by rw [hr];exact eqB_no (fun e=>hs (by rw [map_len e]))
  rw [this]
  try refine RunsS.retU ?_
  try refine RunsS.finU ?_
  exact UnwS.ret tab Tryz.func43 rfl (eN () trivial)
 conv=>whnf
 repeat ((first|(guard_target=_∧_;(first|refine oL ?_|refine oR ?_))|(guard_target=Exists _;refine oM ?_));(try intro _);conv=>whnf)
 have hn:a.length=b.length:=by omega
 refine RunsS.nameAt (fun _ x=>x) 15 (by exact hT.ra) ?_
 conv=>whnf
 (try refine gS ?_);conv=>whnf
 repeat ((first|(guard_target=_∧_;(first|refine oL ?_|refine oR ?_))|(guard_target=Exists _;refine oM ?_));(try intro _);conv=>whnf)
 refine RunsS.nameAt (fun _ x=>x) 1 (by exact hT.rb) ?_
 conv=>whnf
 (try refine gS ?_);conv=>whnf
 repeat ((first|(guard_target=_∧_;(first|refine oL ?_|refine oR ?_))|(guard_target=Exists _;refine oM ?_));(try intro _);conv=>whnf)
 refine RunsS.subR [] (RunsS.loop (fun (k:Nat)=>[(16,.v (.int .i64 a.length)),(17,.v (.int .i64 k)),(15,.buf 0),(1,.buf 1),(2,.v (.func (.func 44) #[] #[]))]) (fun (k:Nat)=>[(0,.ro 17 (rws RcV.row a)),(1,.ro 17 (rws RcV.row b))]) 2 (fun (k:Nat)=>k≤a.length ∧ ∀j (_:j<k) (ha:j<a.length) (hb:j<b.length),a[j].bare=b[j].bare) (fun (k:Nat)=>a.length - k) ?round9 (0) ?J09) sH sH
 case J09=>exact (⟨Nat.zero_le _,fun j hj=>absurd hj (Nat.not_lt_zero _)⟩)
 rintro k hJ back
 try dsimp only at hJ back
 conv=>whnf
 try dsimp only
 refine gS ?_;conv=>whnf
 repeat ((first|(guard_target=_∧_;(first|refine oL ?_|refine oR ?_))|(guard_target=Exists _;refine oM ?_));(try intro _);conv=>whnf)
 refine ⟨fun hk=>?_,fun hk=>?_⟩<;>conv=>whnf
 ·have hk:k<a.length:=by omega
  have hk2:k<b.length:=by omega
  conv=>whnf
  repeat ((first|(guard_target=_∧_;(first|refine oL ?_|refine oR ?_))|(guard_target=Exists _;refine oM ?_));(try intro _);conv=>whnf)
  refine ⟨_,rws_get hk,?_⟩;conv=>whnf
  try (refine oN ?_;conv=>whnf)
  repeat ((first|(guard_target=_∧_;(first|refine oL ?_|refine oR ?_))|(guard_target=Exists _;refine oM ?_));(try intro _);conv=>whnf)
  refine ⟨_,rws_get hk2,?_⟩;conv=>whnf
  try (refine oN ?_;conv=>whnf)
  repeat ((first|(guard_target=_∧_;(first|refine oL ?_|refine oR ?_))|(guard_target=Exists _;refine oM ?_));(try intro _);conv=>whnf)
  have C:=sameR_fn a[k] b[k]
  by_cases hs:a[k].bare=b[k].bare
  ·rw [eqB_yes hs] at C
   refine RunsS.callT (TwoR.tok _ _) (⟨hT.oa _ (List.getElem_mem hk),hT.ob _ (List.getElem_mem hk2)⟩) (C) [] sH ?CNa10 ?_
   case CNa10=>rfl
   intro _ _
   conv=>whnf
   (try refine gS ?_);conv=>whnf
   repeat ((first|(guard_target=_∧_;(first|refine oL ?_|refine oR ?_))|(guard_target=Exists _;refine oM ?_));(try intro _);conv=>whnf)
   refine RunsS.subR [] (back (k+1) (by exact (⟨hk,more_by hk hk2 hJ.2 (hs)⟩)) (by (try dsimp only);omega)) sH sH
  rw [eqB_no hs] at C
  refine RunsS.callT (TwoR.tok _ _) (⟨hT.oa _ (List.getElem_mem hk),hT.ob _ (List.getElem_mem hk2)⟩) (C) [] sH ?CNa12 ?_
  case CNa12=>rfl
  intro _ _
  conv=>whnf
  (try refine gS ?_);conv=>whnf
  repeat ((first|(guard_target=_∧_;(first|refine oL ?_|refine oR ?_))|(guard_target=Exists _;refine oM ?_));(try intro _);conv=>whnf)
  have:r=false:=by rw [hr];exact eqB_no (fun e=>(fun e=>hs e) (map_at e hk hk2))
  rw [this]
  try refine RunsS.retU ?_
  try refine RunsS.finU ?_
  exact UnwS.ret tab Tryz.func43 rfl (eN () trivial)
 conv=>whnf
 repeat ((first|(guard_target=_∧_;(first|refine oL ?_|refine oR ?_))|(guard_target=Exists _;refine oM ?_));(try intro _);conv=>whnf)
 have:r=true:=by rw [hr];exact eqB_yes (map_all hn fun j h1 h2=>hJ.2 j (by omega) h1 h2)
 rw [this]
 try refine RunsS.retU ?_
 try refine RunsS.finU ?_
 exact UnwS.ret tab Tryz.func43 rfl (eN () trivial)
end Go.Proofs.YtgbeechjghajcaaGreatDoor
