/- Texts of this seat, joined: Package syntax: Same. The reference of syntax: the parser's pieces. The reference of syntax: definitions without lists (pr -/
import Derived.Test.YtgbeechjghajcaaGreatDoorJoinD
set_option linter.unusedVariables false
set_option linter.unusedSimpArgs false
namespace Go.Proofs.YtgbeechjghajcaaGreatDoor
open Go Go.Fw Go.NatM Go.RatM Go.SrcM
set_option maxRecDepth 100000
set_option maxHeartbeats 99999999
section
variable {vU vI vP vM vO vF vR vS wU wI wP wM wO wF wR wS:Value}
theorem same_fn (a b:SrcV):FnT Tryz.prog (Two2T vU vI vP vM vO vF vR vS wU wI wP wM wO wF wR wS a b) 17 0 [srcA vU vI vP vM vO vF vR vS,srcA wU wI wP wM wO wF wR wS] [] (fun _:Unit=>True) (fun _=>.ret (.v (.bool (eqB a.bare b.bare))) 0 []):=by
 obtain ⟨r,hr⟩:∃r,r=eqB a.bare b.bare:=⟨_,rfl⟩
 rw [←hr]
 have no:∀ {p:Prop},(a.bare=b.bare→p) → ¬p→r=false:=fun h hp=>hr.trans (eqB_no fun e=>hp (h e))
 refine FnT.of Tryz.func17 (by kernel_rfl) rfl Tryz.ntmps17 rfl fun E0 F h hT w0 cs=>?_
 conv=>whnf
 (try refine gS ?_);conv=>whnf
 repeat ((first|(guard_target=_∧_;(first|refine oL ?_|refine oR ?_))|(guard_target=Exists _;refine oM ?_));(try intro _);conv=>whnf)
 have C0:=eqU_fn vU wU a.units b.units
 by_cases h0:a.units=b.units
 rotate_left
 ·rw [eqB_no h0] at C0
  refine RunsS.callT (Two.tok _ _ _ _ _) (⟨(show RoF F h vU 8 (rws Un.row a.units) from hT.1.U),(show RoF F h wU 8 (rws Un.row b.units) from hT.2.U)⟩) (C0) [] sH ?CNa1 ?_
  case CNa1=>rfl
  intro _ _
  conv=>whnf
  (try refine gS ?_);conv=>whnf
  repeat ((first|(guard_target=_∧_;(first|refine oL ?_|refine oR ?_))|(guard_target=Exists _;refine oM ?_));(try intro _);conv=>whnf)
  rw [no (fun e=>(SrcV.of_bare e).1) h0]
  try refine RunsS.retU ?_
  try refine RunsS.finU ?_
  exact UnwS.ret tab Tryz.func17 rfl (eN () trivial)
 rw [eqB_yes h0] at C0
 refine RunsS.callT (Two.tok _ _ _ _ _) (⟨(show RoF F h vU 8 (rws Un.row a.units) from hT.1.U),(show RoF F h wU 8 (rws Un.row b.units) from hT.2.U)⟩) (C0) [] sH ?CNa2 ?_
 case CNa2=>rfl
 intro _ _
 conv=>whnf
 (try refine gS ?_);conv=>whnf
 repeat ((first|(guard_target=_∧_;(first|refine oL ?_|refine oR ?_))|(guard_target=Exists _;refine oM ?_));(try intro _);conv=>whnf)
 have C1:=eqI_fn vI wI a.items b.items
 by_cases h1:a.items=b.items
 rotate_left
 ·rw [eqB_no h1] at C1
  refine RunsS.callT (Two.tok _ _ _ _ _) (⟨hT.1.I,hT.2.I⟩) (C1) [] sH ?CNa3 ?_
  case CNa3=>rfl
  intro _ _
  conv=>whnf
  (try refine gS ?_);conv=>whnf
  repeat ((first|(guard_target=_∧_;(first|refine oL ?_|refine oR ?_))|(guard_target=Exists _;refine oM ?_));(try intro _);conv=>whnf)
  rw [no (fun e=>(SrcV.of_bare e).2.1) h1]
  try refine RunsS.retU ?_
  try refine RunsS.finU ?_
  exact UnwS.ret tab Tryz.func17 rfl (eN () trivial)
 rw [eqB_yes h1] at C1
 refine RunsS.callT (Two.tok _ _ _ _ _) (⟨hT.1.I,hT.2.I⟩) (C1) [] sH ?CNa4 ?_
 case CNa4=>rfl
 intro _ _
 conv=>whnf
 (try refine gS ?_);conv=>whnf
 repeat ((first|(guard_target=_∧_;(first|refine oL ?_|refine oR ?_))|(guard_target=Exists _;refine oM ?_));(try intro _);conv=>whnf)
 have C2:=eqB_fn vP wP a.plants b.plants
 by_cases h2:a.plants=b.plants
 rotate_left
 ·rw [eqB_no h2] at C2
  refine RunsS.callT (Two.tok _ _ _ _ _) (⟨hT.1.P,hT.2.P⟩) (C2) [] sH ?CNa5 ?_
  case CNa5=>rfl
  intro _ _
  conv=>whnf
  (try refine gS ?_);conv=>whnf
  repeat ((first|(guard_target=_∧_;(first|refine oL ?_|refine oR ?_))|(guard_target=Exists _;refine oM ?_));(try intro _);conv=>whnf)
  rw [no (fun e=>(SrcV.of_bare e).2.2.1) h2]
  try refine RunsS.retU ?_
  try refine RunsS.finU ?_
  exact UnwS.ret tab Tryz.func17 rfl (eN () trivial)
 rw [eqB_yes h2] at C2
 refine RunsS.callT (Two.tok _ _ _ _ _) (⟨hT.1.P,hT.2.P⟩) (C2) [] sH ?CNa6 ?_
 case CNa6=>rfl
 intro _ _
 conv=>whnf
 (try refine gS ?_);conv=>whnf
 repeat ((first|(guard_target=_∧_;(first|refine oL ?_|refine oR ?_))|(guard_target=Exists _;refine oM ?_));(try intro _);conv=>whnf)
 have C3:=eqM_fn vM wM a.machines b.machines
 by_cases h3:a.machines=b.machines
 rotate_left
 ·rw [eqB_no h3] at C3
  refine RunsS.callT (Two.tok _ _ _ _ _) (⟨hT.1.M,hT.2.M⟩) (C3) [] sH ?CNa7 ?_
  case CNa7=>rfl
  intro _ _
  conv=>whnf
  (try refine gS ?_);conv=>whnf
  repeat ((first|(guard_target=_∧_;(first|refine oL ?_|refine oR ?_))|(guard_target=Exists _;refine oM ?_));(try intro _);conv=>whnf)
  rw [no (fun e=>(SrcV.of_bare e).2.2.2.1) h3]
  try refine RunsS.retU ?_
  try refine RunsS.finU ?_
  exact UnwS.ret tab Tryz.func17 rfl (eN () trivial)
 rw [eqB_yes h3] at C3
 refine RunsS.callT (Two.tok _ _ _ _ _) (⟨hT.1.M,hT.2.M⟩) (C3) [] sH ?CNa8 ?_
 case CNa8=>rfl
 intro _ _
 conv=>whnf
 (try refine gS ?_);conv=>whnf
 repeat ((first|(guard_target=_∧_;(first|refine oL ?_|refine oR ?_))|(guard_target=Exists _;refine oM ?_));(try intro _);conv=>whnf)
 have C4:=eqfO_fn vO wO a.options b.options
 by_cases h4:a.options.map OpV.bare=b.options.map OpV.bare
 rotate_left
 ·rw [eqB_no h4] at C4
  refine RunsS.callT (TwoL.tok OpV.tok') (⟨hT.1.O,hT.2.O,hT.1.below.o,hT.2.below.o⟩) (C4) [] sH ?CNa9 ?_
  case CNa9=>rfl
  intro _ _
  conv=>whnf
  (try refine gS ?_);conv=>whnf
  repeat ((first|(guard_target=_∧_;(first|refine oL ?_|refine oR ?_))|(guard_target=Exists _;refine oM ?_));(try intro _);conv=>whnf)
  rw [no (fun e=>(SrcV.of_bare e).2.2.2.2.1) h4]
  try refine RunsS.retU ?_
  try refine RunsS.finU ?_
  exact UnwS.ret tab Tryz.func17 rfl (eN () trivial)
 rw [eqB_yes h4] at C4
 refine RunsS.callT (TwoL.tok OpV.tok') (⟨hT.1.O,hT.2.O,hT.1.below.o,hT.2.below.o⟩) (C4) [] sH ?CNa10 ?_
 case CNa10=>rfl
 intro _ _
 conv=>whnf
 (try refine gS ?_);conv=>whnf
 repeat ((first|(guard_target=_∧_;(first|refine oL ?_|refine oR ?_))|(guard_target=Exists _;refine oM ?_));(try intro _);conv=>whnf)
 have C5:=eqfF_fn vF wF a.forbids b.forbids
 by_cases h5:a.forbids.map FbV.bare=b.forbids.map FbV.bare
 rotate_left
 ·rw [eqB_no h5] at C5
  refine RunsS.callT (TwoL.tok FbV.tok') (⟨hT.1.F,hT.2.F,hT.1.below.f,hT.2.below.f⟩) (C5) [] sH ?CNa11 ?_
  case CNa11=>rfl
  intro _ _
  conv=>whnf
  (try refine gS ?_);conv=>whnf
  repeat ((first|(guard_target=_∧_;(first|refine oL ?_|refine oR ?_))|(guard_target=Exists _;refine oM ?_));(try intro _);conv=>whnf)
  rw [no (fun e=>(SrcV.of_bare e).2.2.2.2.2.1) h5]
  try refine RunsS.retU ?_
  try refine RunsS.finU ?_
  exact UnwS.ret tab Tryz.func17 rfl (eN () trivial)
 rw [eqB_yes h5] at C5
 refine RunsS.callT (TwoL.tok FbV.tok') (⟨hT.1.F,hT.2.F,hT.1.below.f,hT.2.below.f⟩) (C5) [] sH ?CNa12 ?_
 case CNa12=>rfl
 intro _ _
 conv=>whnf
 (try refine gS ?_);conv=>whnf
 repeat ((first|(guard_target=_∧_;(first|refine oL ?_|refine oR ?_))|(guard_target=Exists _;refine oM ?_));(try intro _);conv=>whnf)
 have C6:=eqfR_fn vR wR a.recipes b.recipes
 by_cases h6:a.recipes.map RcV.bare=b.recipes.map RcV.bare
 rotate_left
 ·rw [eqB_no h6] at C6
  refine RunsS.callT (TwoL.tok RcV.tok') (⟨hT.1.R,hT.2.R,hT.1.below.r,hT.2.below.r⟩) (C6) [] sH ?CNa13 ?_
  case CNa13=>rfl
  intro _ _
  conv=>whnf
  (try refine gS ?_);conv=>whnf
  repeat ((first|(guard_target=_∧_;(first|refine oL ?_|refine oR ?_))|(guard_target=Exists _;refine oM ?_));(try intro _);conv=>whnf)
  rw [no (fun e=>(SrcV.of_bare e).2.2.2.2.2.2.1) h6]
  try refine RunsS.retU ?_
  try refine RunsS.finU ?_
  exact UnwS.ret tab Tryz.func17 rfl (eN () trivial)
 rw [eqB_yes h6] at C6
 refine RunsS.callT (TwoL.tok RcV.tok') (⟨hT.1.R,hT.2.R,hT.1.below.r,hT.2.below.r⟩) (C6) [] sH ?CNa14 ?_
 case CNa14=>rfl
 intro _ _
 conv=>whnf
 (try refine gS ?_);conv=>whnf
 repeat ((first|(guard_target=_∧_;(first|refine oL ?_|refine oR ?_))|(guard_target=Exists _;refine oM ?_));(try intro _);conv=>whnf)
 have C7:=eqS_fn vS wS a.swaps b.swaps
 by_cases h7:a.swaps=b.swaps
 rotate_left
 ·rw [eqB_no h7] at C7
  refine RunsS.callT (Two.tok _ _ _ _ _) (⟨hT.1.S,hT.2.S⟩) (C7) [] sH ?CNa15 ?_
  case CNa15=>rfl
  intro _ _
  conv=>whnf
  (try refine gS ?_);conv=>whnf
  repeat ((first|(guard_target=_∧_;(first|refine oL ?_|refine oR ?_))|(guard_target=Exists _;refine oM ?_));(try intro _);conv=>whnf)
  rw [no (fun e=>(SrcV.of_bare e).2.2.2.2.2.2.2) h7]
  try refine RunsS.retU ?_
  try refine RunsS.finU ?_
  exact UnwS.ret tab Tryz.func17 rfl (eN () trivial)
 rw [eqB_yes h7] at C7
 refine RunsS.callT (Two.tok _ _ _ _ _) (⟨hT.1.S,hT.2.S⟩) (C7) [] sH ?CNa16 ?_
 case CNa16=>rfl
 intro _ _
 conv=>whnf
 (try refine gS ?_);conv=>whnf
 repeat ((first|(guard_target=_∧_;(first|refine oL ?_|refine oR ?_))|(guard_target=Exists _;refine oM ?_));(try intro _);conv=>whnf)
 have:r=true:=hr.trans (eqB_yes (SrcV.bare_mk h0 h1 h2 h3 h4 h5 h6 h7))
 rw [this]
 try refine RunsS.retU ?_
 try refine RunsS.finU ?_
 exact UnwS.ret tab Tryz.func17 rfl (eN () trivial)
end
end Go.Proofs.YtgbeechjghajcaaGreatDoor

namespace Go.Proofs.YtgbeechjghajcaaGreatDoor
open Go Go.Fw Go.NatM Go.RatM Go.SrcM Go.SynM
set_option maxRecDepth 100000
set_option maxHeartbeats 99999999
abbrev stV (en:Int) (s:St):SV:=.agg [.buf 0,.v (.int .i64 (s.n:Int)),.v (.int .i64 en),.v (.int .i64 s.e),.v (.int .i64 s.pl)]
abbrev roL (L:List Tok):Nat×Fw.Blk:=(0,.ro 4 (L.map Tok.row))
abbrev outM {α:Type} (en:Int) (f:α→SV) (y:α×St):OutS:=.ret (.tup [f y.1,stV en y.2]) 1 []
abbrev outS (en:Int) (y:St):OutS:=.ret (stV en y) 1 []
abbrev intA (z:Int):SV:=.v (.int .i64 z)
abbrev strA (z:ByteArray):SV:=.v (.string z)
section
variable (L:List Tok) (en:Int) (hL:L.length≤65536) (s:St)
theorem lrow {n:Nat} (h:n<L.length):(L.map Tok.row)[((n:Int)).toNat]? = some L[n].row:=by
 rw [Int.toNat_natCast,List.getElem?_map,List.getElem?_eq_getElem h];rfl
theorem rfail_fn (c:Int):FnS Tryz.prog 162 1 [stV en s,intA c] [roL L] (fun y=>y=(rfail L en c s).2) (outS en):=by
 have lm:(L.map Tok.row).length=L.length:=List.length_map _
 refine FnS.of Tryz.func162 (by kernel_rfl) rfl Tryz.ntmps162 rfl fun E0 F h w0 cs=>?_
 conv=>whnf
 refine gS ?_;conv=>whnf
 repeat ((first|(guard_target=_∧_;(first|refine oL ?_|refine oR ?_))|(guard_target=Exists _;refine oM ?_));(try intro _);conv=>whnf)
 refine ⟨fun h0=>?_,fun h0=>?_⟩<;>conv=>whnf
 ·try refine gS ?_
  conv=>whnf
  repeat ((first|(guard_target=_∧_;(first|refine oL ?_|refine oR ?_))|(guard_target=Exists _;refine oM ?_));(try intro _);conv=>whnf)
  refine ⟨fun h1=>?_,fun h1=>?_⟩<;>conv=>whnf
  ·have hn:s.n<L.length:=by omega
   (try refine gS ?_);conv=>whnf
   repeat ((first|(guard_target=_∧_;(first|refine oL ?_|refine oR ?_))|(guard_target=Exists _;refine oM ?_));(try intro _);conv=>whnf)
   refine ⟨_,lrow L hn,?_⟩;conv=>whnf
   try (refine oN ?_;conv=>whnf)
   repeat ((first|(guard_target=_∧_;(first|refine oL ?_|refine oR ?_))|(guard_target=Exists _;refine oM ?_));(try intro _);conv=>whnf)
   try refine RunsS.retU ?_
   try refine RunsS.finU ?_
   exact UnwS.ret tab Tryz.func162 rfl (EndS.mk ((⟨s.n,c,L[s.n].pos⟩:St)) (by unfold rfail;simp only [h0,if_true,List.getElem?_eq_getElem hn]) [] sH rfl rfl (okRet rfl rfl))
  have hn:¬s.n<L.length:=by omega
  (try refine gS ?_);conv=>whnf
  repeat ((first|(guard_target=_∧_;(first|refine oL ?_|refine oR ?_))|(guard_target=Exists _;refine oM ?_));(try intro _);conv=>whnf)
  try refine RunsS.retU ?_
  try refine RunsS.finU ?_
  exact UnwS.ret tab Tryz.func162 rfl (EndS.mk ((⟨s.n,100,en⟩:St)) (by unfold rfail;simp only [h0,if_true,List.getElem?_eq_none (Nat.le_of_not_lt hn)]) [] sH rfl rfl (okRet rfl rfl))
 (try refine gS ?_);conv=>whnf
 repeat ((first|(guard_target=_∧_;(first|refine oL ?_|refine oR ?_))|(guard_target=Exists _;refine oM ?_));(try intro _);conv=>whnf)
 try refine RunsS.retU ?_
 try refine RunsS.finU ?_
 exact UnwS.ret tab Tryz.func162 rfl (EndS.mk (s) (by unfold rfail;simp only [if_neg h0]) [] sH rfl rfl (okRet rfl rfl))
theorem rnext_fn (k:Int) (t:ByteArray):FnS Tryz.prog 159 1 [stV en s,intA k,strA t] [roL L] (fun _:Unit=>True) (fun _=>.ret (.v (.bool (rnext L k t s))) 1 []):=by
 have lm:(L.map Tok.row).length=L.length:=List.length_map _
 obtain ⟨b,hb⟩:∃b,b=rnext L k t s:=⟨_,rfl⟩
 rw [←hb]
 refine FnS.of Tryz.func159 (by kernel_rfl) rfl Tryz.ntmps159 rfl fun E0 F h w0 cs=>?_
 conv=>whnf
 refine gS ?_;conv=>whnf
 repeat ((first|(guard_target=_∧_;(first|refine oL ?_|refine oR ?_))|(guard_target=Exists _;refine oM ?_));(try intro _);conv=>whnf)
 unfold rnext at hb
 refine ⟨fun h0=>?_,fun h0=>?_⟩<;>conv=>whnf
 ·rw [decide_eq_true h0] at hb
  (try refine gS ?_);conv=>whnf
  repeat ((first|(guard_target=_∧_;(first|refine oL ?_|refine oR ?_))|(guard_target=Exists _;refine oM ?_));(try intro _);conv=>whnf)
  refine ⟨fun h1=>?_,fun h1=>?_⟩<;>conv=>whnf
  ·have hn:s.n<L.length:=by omega
   rw [List.getElem?_eq_getElem hn] at hb
   (try refine gS ?_);conv=>whnf
   repeat ((first|(guard_target=_∧_;(first|refine oL ?_|refine oR ?_))|(guard_target=Exists _;refine oM ?_));(try intro _);conv=>whnf)
   refine ⟨_,lrow L hn,?_⟩;conv=>whnf
   try (refine oN ?_;conv=>whnf)
   repeat ((first|(guard_target=_∧_;(first|refine oL ?_|refine oR ?_))|(guard_target=Exists _;refine oM ?_));(try intro _);conv=>whnf)
   refine ⟨fun h2=>?_,fun h2=>?_⟩<;>conv=>whnf
   ·try refine gS ?_
    conv=>whnf
    repeat ((first|(guard_target=_∧_;(first|refine oL ?_|refine oR ?_))|(guard_target=Exists _;refine oM ?_));(try intro _);conv=>whnf)
    refine ⟨_,lrow L hn,?_⟩;conv=>whnf
    try (refine oN ?_;conv=>whnf)
    repeat ((first|(guard_target=_∧_;(first|refine oL ?_|refine oR ?_))|(guard_target=Exists _;refine oM ?_));(try intro _);conv=>whnf)
    have:b=decide (L[s.n].text=t):=hb.trans (by simp [h2])
    rw [this]
    try refine RunsS.retU ?_
    try refine RunsS.finU ?_
    exact UnwS.ret tab Tryz.func159 rfl (eN () trivial)
   (try refine gS ?_);conv=>whnf
   repeat ((first|(guard_target=_∧_;(first|refine oL ?_|refine oR ?_))|(guard_target=Exists _;refine oM ?_));(try intro _);conv=>whnf)
   have:b=false:=hb.trans (by simp [h2])
   rw [this]
   try refine RunsS.retU ?_
   try refine RunsS.finU ?_
   exact UnwS.ret tab Tryz.func159 rfl (eN () trivial)
  have hn:¬s.n<L.length:=by omega
  rw [List.getElem?_eq_none (Nat.le_of_not_lt hn)] at hb
  (try refine gS ?_);conv=>whnf
  repeat ((first|(guard_target=_∧_;(first|refine oL ?_|refine oR ?_))|(guard_target=Exists _;refine oM ?_));(try intro _);conv=>whnf)
  have:b=false:=hb
  rw [this]
  try refine RunsS.retU ?_
  try refine RunsS.finU ?_
  exact UnwS.ret tab Tryz.func159 rfl (eN () trivial)
 rw [decide_eq_false h0] at hb
 (try refine gS ?_);conv=>whnf
 repeat ((first|(guard_target=_∧_;(first|refine oL ?_|refine oR ?_))|(guard_target=Exists _;refine oM ?_));(try intro _);conv=>whnf)
 have:b=false:=hb
 rw [this]
 try refine RunsS.retU ?_
 try refine RunsS.finU ?_
 exact UnwS.ret tab Tryz.func159 rfl (eN () trivial)
theorem risWord_fn (t:ByteArray):FnS Tryz.prog 134 1 [stV en s,strA t] [roL L] (fun _:Unit=>True) (fun _=>.ret (.v (.bool (rnext L 1 t s))) 1 []):=by
 refine FnS.of Tryz.func134 (by kernel_rfl) rfl Tryz.ntmps134 rfl fun E0 F h w0 cs=>?_
 conv=>whnf
 refine gS ?_;conv=>whnf
 repeat ((first|(guard_target=_∧_;(first|refine oL ?_|refine oR ?_))|(guard_target=Exists _;refine oM ?_));(try intro _);conv=>whnf)
 refine RunsS.callN (rnext_fn L en s 1 t) [0] ?_ sH ?CNa1
 case CNa1=>rfl
 intro _ _
 conv=>whnf
 (try refine gS ?_);conv=>whnf
 repeat ((first|(guard_target=_∧_;(first|refine oL ?_|refine oR ?_))|(guard_target=Exists _;refine oM ?_));(try intro _);conv=>whnf)
 try refine RunsS.retU ?_
 try refine RunsS.finU ?_
 exact UnwS.ret tab Tryz.func134 rfl (eN () trivial)
theorem risSign_fn (t:ByteArray):FnS Tryz.prog 160 1 [stV en s,strA t] [roL L] (fun _:Unit=>True) (fun _=>.ret (.v (.bool (rnext L 3 t s))) 1 []):=by
 refine FnS.of Tryz.func160 (by kernel_rfl) rfl Tryz.ntmps160 rfl fun E0 F h w0 cs=>?_
 conv=>whnf
 refine gS ?_;conv=>whnf
 repeat ((first|(guard_target=_∧_;(first|refine oL ?_|refine oR ?_))|(guard_target=Exists _;refine oM ?_));(try intro _);conv=>whnf)
 refine RunsS.callN (rnext_fn L en s 3 t) [0] ?_ sH ?CNa2
 case CNa2=>rfl
 intro _ _
 conv=>whnf
 (try refine gS ?_);conv=>whnf
 repeat ((first|(guard_target=_∧_;(first|refine oL ?_|refine oR ?_))|(guard_target=Exists _;refine oM ?_));(try intro _);conv=>whnf)
 try refine RunsS.retU ?_
 try refine RunsS.finU ?_
 exact UnwS.ret tab Tryz.func160 rfl (eN () trivial)
theorem rnext_lt {k:Int} {t:ByteArray} (h:rnext L k t s=true):s.n<L.length:=by
 unfold rnext at h
 by_cases hn:s.n<L.length
 ·exact hn
 rw [List.getElem?_eq_none (Nat.le_of_not_lt hn)] at h
 simp at h
include hL in
theorem rexp_fn (k:Int) (t:ByteArray):FnS Tryz.prog 164 1 [stV en s,intA k,strA t] [roL L] (fun y=>y=(rexp L en k t s).2) (outS en):=by
 refine FnS.of Tryz.func164 (by kernel_rfl) rfl Tryz.ntmps164 rfl fun E0 F h w0 cs=>?_
 conv=>whnf
 refine gS ?_;conv=>whnf
 repeat ((first|(guard_target=_∧_;(first|refine oL ?_|refine oR ?_))|(guard_target=Exists _;refine oM ?_));(try intro _);conv=>whnf)
 refine RunsS.callN (rnext_fn L en s k t) [0] ?_ sH ?CNa3
 case CNa3=>rfl
 intro _ _
 conv=>whnf
 (try refine gS ?_);conv=>whnf
 repeat ((first|(guard_target=_∧_;(first|refine oL ?_|refine oR ?_))|(guard_target=Exists _;refine oM ?_));(try intro _);conv=>whnf)
 cases hb:rnext L k t s with
 |false=>
  (try refine gS ?_);conv=>whnf
  repeat ((first|(guard_target=_∧_;(first|refine oL ?_|refine oR ?_))|(guard_target=Exists _;refine oM ?_));(try intro _);conv=>whnf)
  refine RunsS.callN (rfail_fn L en s 100) [0] ?_ sH ?CNa4
  case CNa4=>rfl
  rintro y hy<;>conv=>whnf
  (try refine gS ?_);conv=>whnf
  repeat ((first|(guard_target=_∧_;(first|refine oL ?_|refine oR ?_))|(guard_target=Exists _;refine oM ?_));(try intro _);conv=>whnf)
  try refine RunsS.retU ?_
  try refine RunsS.finU ?_
  exact UnwS.ret tab Tryz.func164 rfl (EndS.mk (y) (by unfold rexp;rw [hb,hy];rfl) [] sH rfl rfl (okRet rfl rfl))
 |true=>
  have:=rnext_lt L s hb
  (try refine gS ?_);conv=>whnf
  repeat ((first|(guard_target=_∧_;(first|refine oL ?_|refine oR ?_))|(guard_target=Exists _;refine oM ?_));(try intro _);conv=>whnf)
  try refine RunsS.retU ?_
  try refine RunsS.finU ?_
  exact UnwS.ret tab Tryz.func164 rfl (EndS.mk ((⟨s.n+1,s.e,s.pl⟩:St)) (by unfold rexp;rw [hb];rfl) [] sH rfl rfl (okRet rfl rfl))
include hL in
theorem rword_fn (t:ByteArray):FnS Tryz.prog 139 1 [stV en s,strA t] [roL L] (fun y=>y=(rexp L en 1 t s).2) (outS en):=by
 refine FnS.of Tryz.func139 (by kernel_rfl) rfl Tryz.ntmps139 rfl fun E0 F h w0 cs=>?_
 conv=>whnf
 refine gS ?_;conv=>whnf
 repeat ((first|(guard_target=_∧_;(first|refine oL ?_|refine oR ?_))|(guard_target=Exists _;refine oM ?_));(try intro _);conv=>whnf)
 refine RunsS.callN (rexp_fn L en hL s 1 t) [0] ?_ sH ?CNa5
 case CNa5=>rfl
 rintro y hy<;>conv=>whnf
 (try refine gS ?_);conv=>whnf
 repeat ((first|(guard_target=_∧_;(first|refine oL ?_|refine oR ?_))|(guard_target=Exists _;refine oM ?_));(try intro _);conv=>whnf)
 try refine RunsS.retU ?_
 try refine RunsS.finU ?_
 exact UnwS.ret tab Tryz.func139 rfl (EndS.mk (y) (hy) [] sH rfl rfl (okRet rfl rfl))
include hL in
theorem rsign_fn (t:ByteArray):FnS Tryz.prog 140 1 [stV en s,strA t] [roL L] (fun y=>y=(rexp L en 3 t s).2) (outS en):=by
 refine FnS.of Tryz.func140 (by kernel_rfl) rfl Tryz.ntmps140 rfl fun E0 F h w0 cs=>?_
 conv=>whnf
 refine gS ?_;conv=>whnf
 repeat ((first|(guard_target=_∧_;(first|refine oL ?_|refine oR ?_))|(guard_target=Exists _;refine oM ?_));(try intro _);conv=>whnf)
 refine RunsS.callN (rexp_fn L en hL s 3 t) [0] ?_ sH ?CNa6
 case CNa6=>rfl
 rintro y hy<;>conv=>whnf
 (try refine gS ?_);conv=>whnf
 repeat ((first|(guard_target=_∧_;(first|refine oL ?_|refine oR ?_))|(guard_target=Exists _;refine oM ?_));(try intro _);conv=>whnf)
 try refine RunsS.retU ?_
 try refine RunsS.finU ?_
 exact UnwS.ret tab Tryz.func140 rfl (EndS.mk (y) (hy) [] sH rfl rfl (okRet rfl rfl))
theorem rroom_fn (n m:Nat):FnS Tryz.prog 136 1 [stV en s,intA (n:Int),intA (m:Int)] [roL L] (fun y=>y=(rroom L en n m s).2) (outS en):=by
 refine FnS.of Tryz.func136 (by kernel_rfl) rfl Tryz.ntmps136 rfl fun E0 F h w0 cs=>?_
 conv=>whnf
 refine gS ?_;conv=>whnf
 repeat ((first|(guard_target=_∧_;(first|refine oL ?_|refine oR ?_))|(guard_target=Exists _;refine oM ?_));(try intro _);conv=>whnf)
 refine ⟨fun h=>?_,fun h=>?_⟩<;>conv=>whnf
 ·try refine gS ?_
  conv=>whnf
  repeat ((first|(guard_target=_∧_;(first|refine oL ?_|refine oR ?_))|(guard_target=Exists _;refine oM ?_));(try intro _);conv=>whnf)
  refine RunsS.callN (rfail_fn L en s 2) [0] ?_ sH ?CNa7
  case CNa7=>rfl
  rintro y hy<;>conv=>whnf
  (try refine gS ?_);conv=>whnf
  repeat ((first|(guard_target=_∧_;(first|refine oL ?_|refine oR ?_))|(guard_target=Exists _;refine oM ?_));(try intro _);conv=>whnf)
  try refine RunsS.retU ?_
  try refine RunsS.finU ?_
  exact UnwS.ret tab Tryz.func136 rfl (EndS.mk (y) (by unfold rroom;rw [if_pos (by omega),hy]) [] sH rfl rfl (okRet rfl rfl))
 (try refine gS ?_);conv=>whnf
 repeat ((first|(guard_target=_∧_;(first|refine oL ?_|refine oR ?_))|(guard_target=Exists _;refine oM ?_));(try intro _);conv=>whnf)
 try refine RunsS.retU ?_
 try refine RunsS.finU ?_
 exact UnwS.ret tab Tryz.func136 rfl (EndS.mk (s) (by unfold rroom;rw [if_neg (by omega)]) [] sH rfl rfl (okRet rfl rfl))
include hL in
theorem rname_fn:FnS Tryz.prog 138 1 [stV en s] [roL L] (fun y=>y=rname L en s) (outM en strA):=by
 have lm:(L.map Tok.row).length=L.length:=List.length_map _
 refine FnS.of Tryz.func138 (by kernel_rfl) rfl Tryz.ntmps138 rfl fun E0 F h w0 cs=>?_
 conv=>whnf
 refine gS ?_;conv=>whnf
 repeat ((first|(guard_target=_∧_;(first|refine oL ?_|refine oR ?_))|(guard_target=Exists _;refine oM ?_));(try intro _);conv=>whnf)
 refine ⟨fun h0=>?_,fun h0=>?_⟩<;>conv=>whnf
 ·have e0:(if s.e=0 then L[s.n]? else none)=L[s.n]? :=if_pos h0
  (try refine gS ?_);conv=>whnf
  repeat ((first|(guard_target=_∧_;(first|refine oL ?_|refine oR ?_))|(guard_target=Exists _;refine oM ?_));(try intro _);conv=>whnf)
  refine ⟨fun h1=>?_,fun h1=>?_⟩<;>conv=>whnf
  ·have hn:¬s.n<L.length:=by omega
   replace e0:=e0.trans (List.getElem?_eq_none (Nat.le_of_not_lt hn))
   (try refine gS ?_);conv=>whnf
   repeat ((first|(guard_target=_∧_;(first|refine oL ?_|refine oR ?_))|(guard_target=Exists _;refine oM ?_));(try intro _);conv=>whnf)
   refine RunsS.callN (rfail_fn L en s 100) [0] ?_ sH ?CNa8
   case CNa8=>rfl
   rintro y hy<;>conv=>whnf
   (try refine gS ?_);conv=>whnf
   repeat ((first|(guard_target=_∧_;(first|refine oL ?_|refine oR ?_))|(guard_target=Exists _;refine oM ?_));(try intro _);conv=>whnf)
   try refine RunsS.retU ?_
   try refine RunsS.finU ?_
   exact UnwS.ret tab Tryz.func138 rfl (EndS.mk ((SynM.e0,y)) (by unfold rname;rw [e0,hy]) [] sH rfl rfl (okRet rfl rfl))
  have hn:s.n<L.length:=by omega
  replace e0:=e0.trans (List.getElem?_eq_getElem hn)
  (try refine gS ?_);conv=>whnf
  repeat ((first|(guard_target=_∧_;(first|refine oL ?_|refine oR ?_))|(guard_target=Exists _;refine oM ?_));(try intro _);conv=>whnf)
  refine ⟨_,lrow L hn,?_⟩;conv=>whnf
  try (refine oN ?_;conv=>whnf)
  repeat ((first|(guard_target=_∧_;(first|refine oL ?_|refine oR ?_))|(guard_target=Exists _;refine oM ?_));(try intro _);conv=>whnf)
  refine ⟨fun h2=>?_,fun h2=>?_⟩<;>conv=>whnf
  ·try refine gS ?_
   conv=>whnf
   repeat ((first|(guard_target=_∧_;(first|refine oL ?_|refine oR ?_))|(guard_target=Exists _;refine oM ?_));(try intro _);conv=>whnf)
   refine ⟨_,lrow L hn,?_⟩;conv=>whnf
   try (refine oN ?_;conv=>whnf)
   repeat ((first|(guard_target=_∧_;(first|refine oL ?_|refine oR ?_))|(guard_target=Exists _;refine oM ?_));(try intro _);conv=>whnf)
   refine RunsS.held tab (.fl 0 (.fl 1 (.fl 2 (.e1 3 [] .done)))) (by kernel_rfl) ?_;conv=>whnf
   (try refine gR ?_);conv=>whnf
   repeat ((first|(guard_target=_∧_;(first|refine oL ?_|refine oR ?_|refine oB ?_))|(guard_target=Exists _;refine oM ?_));(try intro _);conv=>whnf)
   (try refine gS ?_);conv=>whnf
   repeat ((first|(guard_target=_∧_;(first|refine oL ?_|refine oR ?_))|(guard_target=Exists _;refine oM ?_));(try intro _);conv=>whnf)
   try refine RunsS.retU ?_
   try refine RunsS.finU ?_
   exact UnwS.ret tab Tryz.func138 rfl (EndS.mk ((L[s.n].text,(⟨s.n+1,s.e,s.pl⟩:St))) (by unfold rname;rw [e0];simp only [h2,if_true]) [] sH rfl rfl (okRet rfl rfl))
  (try refine gS ?_);conv=>whnf
  repeat ((first|(guard_target=_∧_;(first|refine oL ?_|refine oR ?_))|(guard_target=Exists _;refine oM ?_));(try intro _);conv=>whnf)
  refine RunsS.callN (rfail_fn L en s 100) [0] ?_ sH ?CNa9
  case CNa9=>rfl
  rintro y hy<;>conv=>whnf
  (try refine gS ?_);conv=>whnf
  repeat ((first|(guard_target=_∧_;(first|refine oL ?_|refine oR ?_))|(guard_target=Exists _;refine oM ?_));(try intro _);conv=>whnf)
  try refine RunsS.retU ?_
  try refine RunsS.finU ?_
  exact UnwS.ret tab Tryz.func138 rfl (EndS.mk ((SynM.e0,y)) (by unfold rname;rw [e0];simp only [if_neg h2,hy]) [] sH rfl rfl (okRet rfl rfl))
 have e0:(if s.e=0 then L[s.n]? else none)=none:=if_neg h0
 (try refine gS ?_);conv=>whnf
 repeat ((first|(guard_target=_∧_;(first|refine oL ?_|refine oR ?_))|(guard_target=Exists _;refine oM ?_));(try intro _);conv=>whnf)
 refine RunsS.callN (rfail_fn L en s 100) [0] ?_ sH ?CNa10
 case CNa10=>rfl
 rintro y hy<;>conv=>whnf
 (try refine gS ?_);conv=>whnf
 repeat ((first|(guard_target=_∧_;(first|refine oL ?_|refine oR ?_))|(guard_target=Exists _;refine oM ?_));(try intro _);conv=>whnf)
 try refine RunsS.retU ?_
 try refine RunsS.finU ?_
 exact UnwS.ret tab Tryz.func138 rfl (EndS.mk ((SynM.e0,y)) (by unfold rname;rw [e0,hy]) [] sH rfl rfl (okRet rfl rfl))
include hL in
theorem rnum_fn:FnS Tryz.prog 163 1 [stV en s] [roL L] (fun y=>y=rnum L en s) (outM en intA):=by
 have lm:(L.map Tok.row).length=L.length:=List.length_map _
 refine FnS.of Tryz.func163 (by kernel_rfl) rfl Tryz.ntmps163 rfl fun E0 F h w0 cs=>?_
 conv=>whnf
 refine gS ?_;conv=>whnf
 repeat ((first|(guard_target=_∧_;(first|refine oL ?_|refine oR ?_))|(guard_target=Exists _;refine oM ?_));(try intro _);conv=>whnf)
 refine ⟨fun h0=>?_,fun h0=>?_⟩<;>conv=>whnf
 ·have e0:(if s.e=0 then L[s.n]? else none)=L[s.n]? :=if_pos h0
  (try refine gS ?_);conv=>whnf
  repeat ((first|(guard_target=_∧_;(first|refine oL ?_|refine oR ?_))|(guard_target=Exists _;refine oM ?_));(try intro _);conv=>whnf)
  refine ⟨fun h1=>?_,fun h1=>?_⟩<;>conv=>whnf
  ·have hn:¬s.n<L.length:=by omega
   replace e0:=e0.trans (List.getElem?_eq_none (Nat.le_of_not_lt hn))
   (try refine gS ?_);conv=>whnf
   repeat ((first|(guard_target=_∧_;(first|refine oL ?_|refine oR ?_))|(guard_target=Exists _;refine oM ?_));(try intro _);conv=>whnf)
   refine RunsS.callN (rfail_fn L en s 100) [0] ?_ sH ?CNa11
   case CNa11=>rfl
   rintro y hy<;>conv=>whnf
   (try refine gS ?_);conv=>whnf
   repeat ((first|(guard_target=_∧_;(first|refine oL ?_|refine oR ?_))|(guard_target=Exists _;refine oM ?_));(try intro _);conv=>whnf)
   try refine RunsS.retU ?_
   try refine RunsS.finU ?_
   exact UnwS.ret tab Tryz.func163 rfl (EndS.mk (((0:Int),y)) (by unfold rnum;rw [e0,hy]) [] sH rfl rfl (okRet rfl rfl))
  have hn:s.n<L.length:=by omega
  replace e0:=e0.trans (List.getElem?_eq_getElem hn)
  have bad:¬(L[s.n].kind=2∧0≤L[s.n].n∧L[s.n].n≤1048576) → ∀y,y=(rfail L en 100 s).2→((0:Int),y)=rnum L en s:=fun hb y hy=>by
   unfold rnum;rw [e0];simp only [if_neg hb,hy]
  (try refine gS ?_);conv=>whnf
  repeat ((first|(guard_target=_∧_;(first|refine oL ?_|refine oR ?_))|(guard_target=Exists _;refine oM ?_));(try intro _);conv=>whnf)
  refine ⟨_,lrow L hn,?_⟩;conv=>whnf
  try (refine oN ?_;conv=>whnf)
  repeat ((first|(guard_target=_∧_;(first|refine oL ?_|refine oR ?_))|(guard_target=Exists _;refine oM ?_));(try intro _);conv=>whnf)
  refine ⟨fun h2=>?_,fun h2=>?_⟩<;>conv=>whnf
  ·try refine gS ?_
   conv=>whnf
   repeat ((first|(guard_target=_∧_;(first|refine oL ?_|refine oR ?_))|(guard_target=Exists _;refine oM ?_));(try intro _);conv=>whnf)
   refine ⟨_,lrow L hn,?_⟩;conv=>whnf
   try (refine oN ?_;conv=>whnf)
   repeat ((first|(guard_target=_∧_;(first|refine oL ?_|refine oR ?_))|(guard_target=Exists _;refine oM ?_));(try intro _);conv=>whnf)
   refine ⟨fun h3=>?_,fun h3=>?_⟩<;>conv=>whnf
   ·try refine gS ?_
    conv=>whnf
    repeat ((first|(guard_target=_∧_;(first|refine oL ?_|refine oR ?_))|(guard_target=Exists _;refine oM ?_));(try intro _);conv=>whnf)
    refine RunsS.callN (rfail_fn L en s 100) [0] ?_ sH ?CNa12
    case CNa12=>rfl
    rintro y hy<;>conv=>whnf
    (try refine gS ?_);conv=>whnf
    repeat ((first|(guard_target=_∧_;(first|refine oL ?_|refine oR ?_))|(guard_target=Exists _;refine oM ?_));(try intro _);conv=>whnf)
    try refine RunsS.retU ?_
    try refine RunsS.finU ?_
    exact UnwS.ret tab Tryz.func163 rfl (EndS.mk (((0:Int),y)) (bad (by omega) y hy) [] sH rfl rfl (okRet rfl rfl))
   (try refine gS ?_);conv=>whnf
   repeat ((first|(guard_target=_∧_;(first|refine oL ?_|refine oR ?_))|(guard_target=Exists _;refine oM ?_));(try intro _);conv=>whnf)
   refine ⟨_,lrow L hn,?_⟩;conv=>whnf
   try (refine oN ?_;conv=>whnf)
   repeat ((first|(guard_target=_∧_;(first|refine oL ?_|refine oR ?_))|(guard_target=Exists _;refine oM ?_));(try intro _);conv=>whnf)
   refine ⟨fun h4=>?_,fun h4=>?_⟩<;>conv=>whnf
   ·try refine gS ?_
    conv=>whnf
    repeat ((first|(guard_target=_∧_;(first|refine oL ?_|refine oR ?_))|(guard_target=Exists _;refine oM ?_));(try intro _);conv=>whnf)
    refine RunsS.callN (rfail_fn L en s 100) [0] ?_ sH ?CNa13
    case CNa13=>rfl
    rintro y hy<;>conv=>whnf
    (try refine gS ?_);conv=>whnf
    repeat ((first|(guard_target=_∧_;(first|refine oL ?_|refine oR ?_))|(guard_target=Exists _;refine oM ?_));(try intro _);conv=>whnf)
    try refine RunsS.retU ?_
    try refine RunsS.finU ?_
    exact UnwS.ret tab Tryz.func163 rfl (EndS.mk (((0:Int),y)) (bad (by omega) y hy) [] sH rfl rfl (okRet rfl rfl))
   (try refine gS ?_);conv=>whnf
   repeat ((first|(guard_target=_∧_;(first|refine oL ?_|refine oR ?_))|(guard_target=Exists _;refine oM ?_));(try intro _);conv=>whnf)
   refine ⟨_,lrow L hn,?_⟩;conv=>whnf
   try (refine oN ?_;conv=>whnf)
   repeat ((first|(guard_target=_∧_;(first|refine oL ?_|refine oR ?_))|(guard_target=Exists _;refine oM ?_));(try intro _);conv=>whnf)
   refine RunsS.held tab (.fl 0 (.fl 1 (.fl 2 (.e1 3 [] .done)))) (by kernel_rfl) ?_;conv=>whnf
   (try refine gR ?_);conv=>whnf
   repeat ((first|(guard_target=_∧_;(first|refine oL ?_|refine oR ?_|refine oB ?_))|(guard_target=Exists _;refine oM ?_));(try intro _);conv=>whnf)
   (try refine gS ?_);conv=>whnf
   repeat ((first|(guard_target=_∧_;(first|refine oL ?_|refine oR ?_))|(guard_target=Exists _;refine oM ?_));(try intro _);conv=>whnf)
   try refine RunsS.retU ?_
   try refine RunsS.finU ?_
   exact UnwS.ret tab Tryz.func163 rfl (EndS.mk ((L[s.n].n,(⟨s.n+1,s.e,s.pl⟩:St))) (by unfold rnum;rw [e0];simp only [if_pos (show L[s.n].kind=2∧0≤L[s.n].n∧L[s.n].n≤1048576 by omega)]) [] sH rfl rfl (okRet rfl rfl))
  (try refine gS ?_);conv=>whnf
  repeat ((first|(guard_target=_∧_;(first|refine oL ?_|refine oR ?_))|(guard_target=Exists _;refine oM ?_));(try intro _);conv=>whnf)
  refine RunsS.callN (rfail_fn L en s 100) [0] ?_ sH ?CNa14
  case CNa14=>rfl
  rintro y hy<;>conv=>whnf
  (try refine gS ?_);conv=>whnf
  repeat ((first|(guard_target=_∧_;(first|refine oL ?_|refine oR ?_))|(guard_target=Exists _;refine oM ?_));(try intro _);conv=>whnf)
  try refine RunsS.retU ?_
  try refine RunsS.finU ?_
  exact UnwS.ret tab Tryz.func163 rfl (EndS.mk (((0:Int),y)) (bad (fun h=>h2 h.1) y hy) [] sH rfl rfl (okRet rfl rfl))
 have e0:(if s.e=0 then L[s.n]? else none)=none:=if_neg h0
 (try refine gS ?_);conv=>whnf
 repeat ((first|(guard_target=_∧_;(first|refine oL ?_|refine oR ?_))|(guard_target=Exists _;refine oM ?_));(try intro _);conv=>whnf)
 refine RunsS.callN (rfail_fn L en s 100) [0] ?_ sH ?CNa15
 case CNa15=>rfl
 rintro y hy<;>conv=>whnf
 (try refine gS ?_);conv=>whnf
 repeat ((first|(guard_target=_∧_;(first|refine oL ?_|refine oR ?_))|(guard_target=Exists _;refine oM ?_));(try intro _);conv=>whnf)
 try refine RunsS.retU ?_
 try refine RunsS.finU ?_
 exact UnwS.ret tab Tryz.func163 rfl (EndS.mk (((0:Int),y)) (by unfold rnum;rw [e0,hy]) [] sH rfl rfl (okRet rfl rfl))
include hL in
theorem rratio_fn:FnS Tryz.prog 161 1 [stV en s] [roL L] (fun y=>y=rratio L en s) (fun y=>.ret (.tup [intA y.1.1,intA y.1.2,stV en y.2]) 1 []):=by
 refine FnS.of Tryz.func161 (by kernel_rfl) rfl Tryz.ntmps161 rfl fun E0 F h w0 cs=>?_
 conv=>whnf
 refine gS ?_;conv=>whnf
 repeat ((first|(guard_target=_∧_;(first|refine oL ?_|refine oR ?_))|(guard_target=Exists _;refine oM ?_));(try intro _);conv=>whnf)
 refine RunsS.callN (rnum_fn L en hL s) [0] ?_ sH ?CNa16
 case CNa16=>rfl
 rintro ⟨n,s1⟩ h1<;>conv=>whnf
 (try refine gS ?_);conv=>whnf
 repeat ((first|(guard_target=_∧_;(first|refine oL ?_|refine oR ?_))|(guard_target=Exists _;refine oM ?_));(try intro _);conv=>whnf)
 refine RunsS.callN (rsign_fn L en hL s1 (B [47])) [0] ?_ sH ?CNa17
 case CNa17=>rfl
 rintro s2 h2<;>conv=>whnf
 (try refine gS ?_);conv=>whnf
 repeat ((first|(guard_target=_∧_;(first|refine oL ?_|refine oR ?_))|(guard_target=Exists _;refine oM ?_));(try intro _);conv=>whnf)
 refine RunsS.callN (rnum_fn L en hL s2) [0] ?_ sH ?CNa18
 case CNa18=>rfl
 rintro ⟨d,s3⟩ h3<;>conv=>whnf
 (try refine gS ?_);conv=>whnf
 repeat ((first|(guard_target=_∧_;(first|refine oL ?_|refine oR ?_))|(guard_target=Exists _;refine oM ?_));(try intro _);conv=>whnf)
 refine RunsS.held tab (.fl 0 (.fl 1 (.fl 2 (.fl 3 (.fl 4 (.e1 5 [] .done)))))) (by kernel_rfl) ?_;conv=>whnf
 (try refine gR ?_);conv=>whnf
 repeat ((first|(guard_target=_∧_;(first|refine oL ?_|refine oR ?_|refine oB ?_))|(guard_target=Exists _;refine oM ?_));(try intro _);conv=>whnf)
 (try refine gS ?_);conv=>whnf
 repeat ((first|(guard_target=_∧_;(first|refine oL ?_|refine oR ?_))|(guard_target=Exists _;refine oM ?_));(try intro _);conv=>whnf)
 try refine RunsS.retU ?_
 try refine RunsS.finU ?_
 exact UnwS.ret tab Tryz.func161 rfl (EndS.mk (((n,d),s3)) (by unfold rratio sb rt;rw [←h1];simp only;rw [←h2,←h3]) [] sH rfl rfl (okRet rfl rfl))
end
end Go.Proofs.YtgbeechjghajcaaGreatDoor

namespace Go.Proofs.YtgbeechjghajcaaGreatDoor
open Go Go.Fw Go.NatM Go.RatM Go.SrcM Go.SynM
set_option maxRecDepth 100000
set_option maxHeartbeats 99999999
abbrev aggR {α:Type} (row:α→List Value) (a:α):SV:=.agg (toV (row a))
section
variable (L:List Tok) (en:Int) (hL:L.length≤65536) (s:St)
include hL
theorem runit_fn:FnS Tryz.prog 135 1 [stV en s] [roL L] (fun y=>y=runit L en s) (outM en (aggR Un.row)):=by
 refine FnS.of Tryz.func135 (by kernel_rfl) rfl Tryz.ntmps135 rfl fun E0 F h w0 cs=>?_
 conv=>whnf
 refine gS ?_;conv=>whnf
 repeat ((first|(guard_target=_∧_;(first|refine oL ?_|refine oR ?_))|(guard_target=Exists _;refine oM ?_));(try intro _);conv=>whnf)
 refine RunsS.callN (rword_fn L en hL s (B wUnit)) [0] ?_ sH ?CNa1
 case CNa1=>rfl
 rintro s1 h1<;>conv=>whnf
 (try refine gS ?_);conv=>whnf
 repeat ((first|(guard_target=_∧_;(first|refine oL ?_|refine oR ?_))|(guard_target=Exists _;refine oM ?_));(try intro _);conv=>whnf)
 refine RunsS.callN (rname_fn L en hL s1) [0] ?_ sH ?CNa2
 case CNa2=>rfl
 rintro ⟨nm,s2⟩ h2<;>conv=>whnf
 (try refine gS ?_);conv=>whnf
 repeat ((first|(guard_target=_∧_;(first|refine oL ?_|refine oR ?_))|(guard_target=Exists _;refine oM ?_));(try intro _);conv=>whnf)
 refine RunsS.callN (risSign_fn L en s2 (B [61])) [0] ?_ sH ?CNa3
 case CNa3=>rfl
 intro _ _
 conv=>whnf
 (try refine gS ?_);conv=>whnf
 repeat ((first|(guard_target=_∧_;(first|refine oL ?_|refine oR ?_))|(guard_target=Exists _;refine oM ?_));(try intro _);conv=>whnf)
 cases hb:rnext L 3 (B [61]) s2 with
 |false=>
  (try refine gS ?_);conv=>whnf
  repeat ((first|(guard_target=_∧_;(first|refine oL ?_|refine oR ?_))|(guard_target=Exists _;refine oM ?_));(try intro _);conv=>whnf)
  refine RunsS.held tab (.fl 0 (.fl 1 (.e1 2 [0] (.e1 3 [] (.e1 4 [] .done))))) (by kernel_rfl) ?_;conv=>whnf
  (try refine gR ?_);conv=>whnf
  repeat ((first|(guard_target=_∧_;(first|refine oL ?_|refine oR ?_|refine oB ?_))|(guard_target=Exists _;refine oM ?_));(try intro _);conv=>whnf)
  (try refine gS ?_);conv=>whnf
  repeat ((first|(guard_target=_∧_;(first|refine oL ?_|refine oR ?_))|(guard_target=Exists _;refine oM ?_));(try intro _);conv=>whnf)
  refine EffR.callN (rsign_fn L en hL s2 (B [59])) [0] ?_ sH ?CNa4
  case CNa4=>rfl
  rintro s3 h3<;>conv=>whnf
  conv=>whnf
  try refine oB ?_
  (try refine gR ?_);conv=>whnf
  repeat ((first|(guard_target=_∧_;(first|refine oL ?_|refine oR ?_|refine oB ?_))|(guard_target=Exists _;refine oM ?_));(try intro _);conv=>whnf)
  (try refine gS ?_);conv=>whnf
  repeat ((first|(guard_target=_∧_;(first|refine oL ?_|refine oR ?_))|(guard_target=Exists _;refine oM ?_));(try intro _);conv=>whnf)
  try refine RunsS.retU ?_
  try refine RunsS.finU ?_
  exact UnwS.ret tab Tryz.func135 rfl (EndS.mk (((⟨nm,SynM.e0,0,0,0,zr⟩:Un),s3)) (by simp only [runit,sb,rt,ropt,←h1,←h2,hb,Bool.false_eq_true,if_false,←h3]) [] sH rfl rfl (okRet rfl rfl))
 |true=>
  (try refine gS ?_);conv=>whnf
  repeat ((first|(guard_target=_∧_;(first|refine oL ?_|refine oR ?_))|(guard_target=Exists _;refine oM ?_));(try intro _);conv=>whnf)
  refine RunsS.callN (rsign_fn L en hL s2 (B [61])) [0] ?_ sH ?CNa5
  case CNa5=>rfl
  rintro s3 h3<;>conv=>whnf
  (try refine gS ?_);conv=>whnf
  repeat ((first|(guard_target=_∧_;(first|refine oL ?_|refine oR ?_))|(guard_target=Exists _;refine oM ?_));(try intro _);conv=>whnf)
  refine RunsS.callN (rratio_fn L en hL s3) [0] ?_ sH ?CNa6
  case CNa6=>rfl
  rintro ⟨⟨n,d⟩,s4⟩ h4<;>conv=>whnf
  (try refine gS ?_);conv=>whnf
  repeat ((first|(guard_target=_∧_;(first|refine oL ?_|refine oR ?_))|(guard_target=Exists _;refine oM ?_));(try intro _);conv=>whnf)
  refine RunsS.callN (rname_fn L en hL s4) [0] ?_ sH ?CNa7
  case CNa7=>rfl
  rintro ⟨o,s5⟩ h5<;>conv=>whnf
  (try refine gS ?_);conv=>whnf
  repeat ((first|(guard_target=_∧_;(first|refine oL ?_|refine oR ?_))|(guard_target=Exists _;refine oM ?_));(try intro _);conv=>whnf)
  refine RunsS.held tab (.fl 0 (.fl 1 (.e1 2 [0] (.e1 3 [] (.e1 4 [] .done))))) (by kernel_rfl) ?_;conv=>whnf
  (try refine gR ?_);conv=>whnf
  repeat ((first|(guard_target=_∧_;(first|refine oL ?_|refine oR ?_|refine oB ?_))|(guard_target=Exists _;refine oM ?_));(try intro _);conv=>whnf)
  (try refine gS ?_);conv=>whnf
  repeat ((first|(guard_target=_∧_;(first|refine oL ?_|refine oR ?_))|(guard_target=Exists _;refine oM ?_));(try intro _);conv=>whnf)
  refine EffR.callN (rsign_fn L en hL s5 (B [59])) [0] ?_ sH ?CNa8
  case CNa8=>rfl
  rintro s6 h6<;>conv=>whnf
  conv=>whnf
  try refine oB ?_
  (try refine gR ?_);conv=>whnf
  repeat ((first|(guard_target=_∧_;(first|refine oL ?_|refine oR ?_|refine oB ?_))|(guard_target=Exists _;refine oM ?_));(try intro _);conv=>whnf)
  (try refine gS ?_);conv=>whnf
  repeat ((first|(guard_target=_∧_;(first|refine oL ?_|refine oR ?_))|(guard_target=Exists _;refine oM ?_));(try intro _);conv=>whnf)
  try refine RunsS.retU ?_
  try refine RunsS.finU ?_
  exact UnwS.ret tab Tryz.func135 rfl (EndS.mk (((⟨nm,o,n,d,0,zr⟩:Un),s6)) (by simp only [runit,sb,rt,ropt,←h1,←h2,hb,if_true,←h3,←h4,←h5,←h6]) [] sH rfl rfl (okRet rfl rfl))
theorem ritem_fn:FnS Tryz.prog 137 1 [stV en s] [roL L] (fun y=>y=ritem L en s) (outM en (aggR It.row)):=by
 refine FnS.of Tryz.func137 (by kernel_rfl) rfl Tryz.ntmps137 rfl fun E0 F h w0 cs=>?_
 conv=>whnf
 refine gS ?_;conv=>whnf
 repeat ((first|(guard_target=_∧_;(first|refine oL ?_|refine oR ?_))|(guard_target=Exists _;refine oM ?_));(try intro _);conv=>whnf)
 refine RunsS.callN (rword_fn L en hL s (B wItem)) [0] ?_ sH ?CNa9
 case CNa9=>rfl
 rintro s1 h1<;>conv=>whnf
 (try refine gS ?_);conv=>whnf
 repeat ((first|(guard_target=_∧_;(first|refine oL ?_|refine oR ?_))|(guard_target=Exists _;refine oM ?_));(try intro _);conv=>whnf)
 refine RunsS.callN (rname_fn L en hL s1) [0] ?_ sH ?CNa10
 case CNa10=>rfl
 rintro ⟨nm,s2⟩ h2<;>conv=>whnf
 (try refine gS ?_);conv=>whnf
 repeat ((first|(guard_target=_∧_;(first|refine oL ?_|refine oR ?_))|(guard_target=Exists _;refine oM ?_));(try intro _);conv=>whnf)
 refine RunsS.callN (rword_fn L en hL s2 (B wIn)) [0] ?_ sH ?CNa11
 case CNa11=>rfl
 rintro s3 h3<;>conv=>whnf
 (try refine gS ?_);conv=>whnf
 repeat ((first|(guard_target=_∧_;(first|refine oL ?_|refine oR ?_))|(guard_target=Exists _;refine oM ?_));(try intro _);conv=>whnf)
 refine RunsS.callN (rname_fn L en hL s3) [0] ?_ sH ?CNa12
 case CNa12=>rfl
 rintro ⟨u,s4⟩ h4<;>conv=>whnf
 (try refine gS ?_);conv=>whnf
 repeat ((first|(guard_target=_∧_;(first|refine oL ?_|refine oR ?_))|(guard_target=Exists _;refine oM ?_));(try intro _);conv=>whnf)
 refine RunsS.callN (rword_fn L en hL s4 (B wMass)) [0] ?_ sH ?CNa13
 case CNa13=>rfl
 rintro s5 h5<;>conv=>whnf
 (try refine gS ?_);conv=>whnf
 repeat ((first|(guard_target=_∧_;(first|refine oL ?_|refine oR ?_))|(guard_target=Exists _;refine oM ?_));(try intro _);conv=>whnf)
 refine RunsS.callN (rratio_fn L en hL s5) [0] ?_ sH ?CNa14
 case CNa14=>rfl
 rintro ⟨⟨mn,md⟩,s6⟩ h6<;>conv=>whnf
 (try refine gS ?_);conv=>whnf
 repeat ((first|(guard_target=_∧_;(first|refine oL ?_|refine oR ?_))|(guard_target=Exists _;refine oM ?_));(try intro _);conv=>whnf)
 refine RunsS.callN (risWord_fn L en s6 (B wKeeps)) [0] ?_ sH ?CNa15
 case CNa15=>rfl
 intro _ _
 conv=>whnf
 (try refine gS ?_);conv=>whnf
 repeat ((first|(guard_target=_∧_;(first|refine oL ?_|refine oR ?_))|(guard_target=Exists _;refine oM ?_));(try intro _);conv=>whnf)
 cases hb:rnext L 1 (B wKeeps) s6 with
 |false=>
  (try refine gS ?_);conv=>whnf
  repeat ((first|(guard_target=_∧_;(first|refine oL ?_|refine oR ?_))|(guard_target=Exists _;refine oM ?_));(try intro _);conv=>whnf)
  refine RunsS.held tab (.fl 0 (.fl 1 (.e1 2 [0] (.e1 3 [] (.e1 4 [] .done))))) (by kernel_rfl) ?_;conv=>whnf
  (try refine gR ?_);conv=>whnf
  repeat ((first|(guard_target=_∧_;(first|refine oL ?_|refine oR ?_|refine oB ?_))|(guard_target=Exists _;refine oM ?_));(try intro _);conv=>whnf)
  (try refine gS ?_);conv=>whnf
  repeat ((first|(guard_target=_∧_;(first|refine oL ?_|refine oR ?_))|(guard_target=Exists _;refine oM ?_));(try intro _);conv=>whnf)
  refine EffR.callN (rsign_fn L en hL s6 (B [59])) [0] ?_ sH ?CNa16
  case CNa16=>rfl
  rintro s7 h7<;>conv=>whnf
  conv=>whnf
  try refine oB ?_
  (try refine gR ?_);conv=>whnf
  repeat ((first|(guard_target=_∧_;(first|refine oL ?_|refine oR ?_|refine oB ?_))|(guard_target=Exists _;refine oM ?_));(try intro _);conv=>whnf)
  (try refine gS ?_);conv=>whnf
  repeat ((first|(guard_target=_∧_;(first|refine oL ?_|refine oR ?_))|(guard_target=Exists _;refine oM ?_));(try intro _);conv=>whnf)
  try refine RunsS.retU ?_
  try refine RunsS.finU ?_
  exact UnwS.ret tab Tryz.func137 rfl (EndS.mk (((⟨nm,u,mn,md,0,0⟩:It),s7)) (by simp only [ritem,sb,rt,ropt,←h1,←h2,←h3,←h4,←h5,←h6,hb,Bool.false_eq_true,if_false,←h7]) [] sH rfl rfl (okRet rfl rfl))
 |true=>
  (try refine gS ?_);conv=>whnf
  repeat ((first|(guard_target=_∧_;(first|refine oL ?_|refine oR ?_))|(guard_target=Exists _;refine oM ?_));(try intro _);conv=>whnf)
  refine RunsS.callN (rword_fn L en hL s6 (B wKeeps)) [0] ?_ sH ?CNa17
  case CNa17=>rfl
  rintro s7 h7<;>conv=>whnf
  (try refine gS ?_);conv=>whnf
  repeat ((first|(guard_target=_∧_;(first|refine oL ?_|refine oR ?_))|(guard_target=Exists _;refine oM ?_));(try intro _);conv=>whnf)
  refine RunsS.callN (rnum_fn L en hL s7) [0] ?_ sH ?CNa18
  case CNa18=>rfl
  rintro ⟨sh,s8⟩ h8<;>conv=>whnf
  (try refine gS ?_);conv=>whnf
  repeat ((first|(guard_target=_∧_;(first|refine oL ?_|refine oR ?_))|(guard_target=Exists _;refine oM ?_));(try intro _);conv=>whnf)
  refine RunsS.held tab (.fl 0 (.fl 1 (.e1 2 [0] (.e1 3 [] (.e1 4 [] .done))))) (by kernel_rfl) ?_;conv=>whnf
  (try refine gR ?_);conv=>whnf
  repeat ((first|(guard_target=_∧_;(first|refine oL ?_|refine oR ?_|refine oB ?_))|(guard_target=Exists _;refine oM ?_));(try intro _);conv=>whnf)
  (try refine gS ?_);conv=>whnf
  repeat ((first|(guard_target=_∧_;(first|refine oL ?_|refine oR ?_))|(guard_target=Exists _;refine oM ?_));(try intro _);conv=>whnf)
  refine EffR.callN (rsign_fn L en hL s8 (B [59])) [0] ?_ sH ?CNa19
  case CNa19=>rfl
  rintro s9 h9<;>conv=>whnf
  conv=>whnf
  try refine oB ?_
  (try refine gR ?_);conv=>whnf
  repeat ((first|(guard_target=_∧_;(first|refine oL ?_|refine oR ?_|refine oB ?_))|(guard_target=Exists _;refine oM ?_));(try intro _);conv=>whnf)
  (try refine gS ?_);conv=>whnf
  repeat ((first|(guard_target=_∧_;(first|refine oL ?_|refine oR ?_))|(guard_target=Exists _;refine oM ?_));(try intro _);conv=>whnf)
  try refine RunsS.retU ?_
  try refine RunsS.finU ?_
  exact UnwS.ret tab Tryz.func137 rfl (EndS.mk (((⟨nm,u,mn,md,sh,0⟩:It),s9)) (by simp only [ritem,sb,rt,ropt,←h1,←h2,←h3,←h4,←h5,←h6,hb,if_true,←h7,←h8,←h9]) [] sH rfl rfl (okRet rfl rfl))
theorem rmach_fn:FnS Tryz.prog 141 1 [stV en s] [roL L] (fun y=>y=rmach L en s) (outM en (aggR Mc.row)):=by
 refine FnS.of Tryz.func141 (by kernel_rfl) rfl Tryz.ntmps141 rfl fun E0 F h w0 cs=>?_
 conv=>whnf
 refine gS ?_;conv=>whnf
 repeat ((first|(guard_target=_∧_;(first|refine oL ?_|refine oR ?_))|(guard_target=Exists _;refine oM ?_));(try intro _);conv=>whnf)
 refine RunsS.callN (rword_fn L en hL s (B wMachine)) [0] ?_ sH ?CNa20
 case CNa20=>rfl
 rintro s1 h1<;>conv=>whnf
 (try refine gS ?_);conv=>whnf
 repeat ((first|(guard_target=_∧_;(first|refine oL ?_|refine oR ?_))|(guard_target=Exists _;refine oM ?_));(try intro _);conv=>whnf)
 refine RunsS.callN (rname_fn L en hL s1) [0] ?_ sH ?CNa21
 case CNa21=>rfl
 rintro ⟨nm,s2⟩ h2<;>conv=>whnf
 (try refine gS ?_);conv=>whnf
 repeat ((first|(guard_target=_∧_;(first|refine oL ?_|refine oR ?_))|(guard_target=Exists _;refine oM ?_));(try intro _);conv=>whnf)
 refine RunsS.callN (rword_fn L en hL s2 (B wAt)) [0] ?_ sH ?CNa22
 case CNa22=>rfl
 rintro s3 h3<;>conv=>whnf
 (try refine gS ?_);conv=>whnf
 repeat ((first|(guard_target=_∧_;(first|refine oL ?_|refine oR ?_))|(guard_target=Exists _;refine oM ?_));(try intro _);conv=>whnf)
 refine RunsS.callN (rname_fn L en hL s3) [0] ?_ sH ?CNa23
 case CNa23=>rfl
 rintro ⟨pl,s4⟩ h4<;>conv=>whnf
 (try refine gS ?_);conv=>whnf
 repeat ((first|(guard_target=_∧_;(first|refine oL ?_|refine oR ?_))|(guard_target=Exists _;refine oM ?_));(try intro _);conv=>whnf)
 refine RunsS.callN (rword_fn L en hL s4 (B wClean)) [0] ?_ sH ?CNa24
 case CNa24=>rfl
 rintro s5 h5<;>conv=>whnf
 (try refine gS ?_);conv=>whnf
 repeat ((first|(guard_target=_∧_;(first|refine oL ?_|refine oR ?_))|(guard_target=Exists _;refine oM ?_));(try intro _);conv=>whnf)
 refine RunsS.callN (rnum_fn L en hL s5) [0] ?_ sH ?CNa25
 case CNa25=>rfl
 rintro ⟨cl,s6⟩ h6<;>conv=>whnf
 (try refine gS ?_);conv=>whnf
 repeat ((first|(guard_target=_∧_;(first|refine oL ?_|refine oR ?_))|(guard_target=Exists _;refine oM ?_));(try intro _);conv=>whnf)
 refine RunsS.held tab (.fl 0 (.fl 1 (.e1 2 [0] (.e1 3 [] (.e1 4 [] .done))))) (by kernel_rfl) ?_;conv=>whnf
 (try refine gR ?_);conv=>whnf
 repeat ((first|(guard_target=_∧_;(first|refine oL ?_|refine oR ?_|refine oB ?_))|(guard_target=Exists _;refine oM ?_));(try intro _);conv=>whnf)
 (try refine gS ?_);conv=>whnf
 repeat ((first|(guard_target=_∧_;(first|refine oL ?_|refine oR ?_))|(guard_target=Exists _;refine oM ?_));(try intro _);conv=>whnf)
 refine EffR.callN (rsign_fn L en hL s6 (B [59])) [0] ?_ sH ?CNa26
 case CNa26=>rfl
 rintro s7 h7<;>conv=>whnf
 conv=>whnf
 try refine oB ?_
 (try refine gR ?_);conv=>whnf
 repeat ((first|(guard_target=_∧_;(first|refine oL ?_|refine oR ?_|refine oB ?_))|(guard_target=Exists _;refine oM ?_));(try intro _);conv=>whnf)
 (try refine gS ?_);conv=>whnf
 repeat ((first|(guard_target=_∧_;(first|refine oL ?_|refine oR ?_))|(guard_target=Exists _;refine oM ?_));(try intro _);conv=>whnf)
 try refine RunsS.retU ?_
 try refine RunsS.finU ?_
 exact UnwS.ret tab Tryz.func141 rfl (EndS.mk (((⟨nm,pl,cl,0⟩:Mc),s7)) (by simp only [rmach,sb,rt,ropt,←h1,←h2,←h3,←h4,←h5,←h6,←h7]) [] sH rfl rfl (okRet rfl rfl))
theorem rcond_fn:FnS Tryz.prog 174 1 [stV en s] [roL L] (fun y=>y=rcond L en s) (outM en (aggR Cd.row)):=by
 refine FnS.of Tryz.func174 (by kernel_rfl) rfl Tryz.ntmps174 rfl fun E0 F h w0 cs=>?_
 conv=>whnf
 refine gS ?_;conv=>whnf
 repeat ((first|(guard_target=_∧_;(first|refine oL ?_|refine oR ?_))|(guard_target=Exists _;refine oM ?_));(try intro _);conv=>whnf)
 refine RunsS.callN (rname_fn L en hL s) [0] ?_ sH ?CNa27
 case CNa27=>rfl
 rintro ⟨o,s1⟩ h1<;>conv=>whnf
 (try refine gS ?_);conv=>whnf
 repeat ((first|(guard_target=_∧_;(first|refine oL ?_|refine oR ?_))|(guard_target=Exists _;refine oM ?_));(try intro _);conv=>whnf)
 refine RunsS.callN (rsign_fn L en hL s1 (B [61])) [0] ?_ sH ?CNa28
 case CNa28=>rfl
 rintro s2 h2<;>conv=>whnf
 (try refine gS ?_);conv=>whnf
 repeat ((first|(guard_target=_∧_;(first|refine oL ?_|refine oR ?_))|(guard_target=Exists _;refine oM ?_));(try intro _);conv=>whnf)
 refine RunsS.callN (rname_fn L en hL s2) [0] ?_ sH ?CNa29
 case CNa29=>rfl
 rintro ⟨c,s3⟩ h3<;>conv=>whnf
 (try refine gS ?_);conv=>whnf
 repeat ((first|(guard_target=_∧_;(first|refine oL ?_|refine oR ?_))|(guard_target=Exists _;refine oM ?_));(try intro _);conv=>whnf)
 refine RunsS.held tab (.fl 0 (.fl 1 (.e1 2 [1] (.e1 3 [] .done)))) (by kernel_rfl) ?_;conv=>whnf
 (try refine gR ?_);conv=>whnf
 repeat ((first|(guard_target=_∧_;(first|refine oL ?_|refine oR ?_|refine oB ?_))|(guard_target=Exists _;refine oM ?_));(try intro _);conv=>whnf)
 (try refine gS ?_);conv=>whnf
 repeat ((first|(guard_target=_∧_;(first|refine oL ?_|refine oR ?_))|(guard_target=Exists _;refine oM ?_));(try intro _);conv=>whnf)
 try refine RunsS.retU ?_
 try refine RunsS.finU ?_
 exact UnwS.ret tab Tryz.func174 rfl (EndS.mk (((⟨o,c,0,0⟩:Cd),s3)) (by simp only [rcond,sb,rt,ropt,←h1,←h2,←h3]) [] sH rfl rfl (okRet rfl rfl))
theorem ramount_fn:FnS Tryz.prog 166 1 [stV en s] [roL L] (fun y=>y=ramount L en s) (outM en (aggR Am.row)):=by
 refine FnS.of Tryz.func166 (by kernel_rfl) rfl Tryz.ntmps166 rfl fun E0 F h w0 cs=>?_
 conv=>whnf
 refine gS ?_;conv=>whnf
 repeat ((first|(guard_target=_∧_;(first|refine oL ?_|refine oR ?_))|(guard_target=Exists _;refine oM ?_));(try intro _);conv=>whnf)
 refine RunsS.callN (rratio_fn L en hL s) [0] ?_ sH ?CNa30
 case CNa30=>rfl
 rintro ⟨⟨n,d⟩,s1⟩ h1<;>conv=>whnf
 (try refine gS ?_);conv=>whnf
 repeat ((first|(guard_target=_∧_;(first|refine oL ?_|refine oR ?_))|(guard_target=Exists _;refine oM ?_));(try intro _);conv=>whnf)
 refine RunsS.callN (rname_fn L en hL s1) [0] ?_ sH ?CNa31
 case CNa31=>rfl
 rintro ⟨u,s2⟩ h2<;>conv=>whnf
 (try refine gS ?_);conv=>whnf
 repeat ((first|(guard_target=_∧_;(first|refine oL ?_|refine oR ?_))|(guard_target=Exists _;refine oM ?_));(try intro _);conv=>whnf)
 refine RunsS.callN (rname_fn L en hL s2) [0] ?_ sH ?CNa32
 case CNa32=>rfl
 rintro ⟨i,s3⟩ h3<;>conv=>whnf
 (try refine gS ?_);conv=>whnf
 repeat ((first|(guard_target=_∧_;(first|refine oL ?_|refine oR ?_))|(guard_target=Exists _;refine oM ?_));(try intro _);conv=>whnf)
 refine RunsS.held tab (.fl 0 (.fl 1 (.e1 2 [0] (.e1 3 [] (.e1 4 [] .done))))) (by kernel_rfl) ?_;conv=>whnf
 (try refine gR ?_);conv=>whnf
 repeat ((first|(guard_target=_∧_;(first|refine oL ?_|refine oR ?_|refine oB ?_))|(guard_target=Exists _;refine oM ?_));(try intro _);conv=>whnf)
 (try refine gS ?_);conv=>whnf
 repeat ((first|(guard_target=_∧_;(first|refine oL ?_|refine oR ?_))|(guard_target=Exists _;refine oM ?_));(try intro _);conv=>whnf)
 refine EffR.callN (rsign_fn L en hL s3 (B [59])) [0] ?_ sH ?CNa33
 case CNa33=>rfl
 rintro s4 h4<;>conv=>whnf
 conv=>whnf
 try refine oB ?_
 (try refine gR ?_);conv=>whnf
 repeat ((first|(guard_target=_∧_;(first|refine oL ?_|refine oR ?_|refine oB ?_))|(guard_target=Exists _;refine oM ?_));(try intro _);conv=>whnf)
 (try refine gS ?_);conv=>whnf
 repeat ((first|(guard_target=_∧_;(first|refine oL ?_|refine oR ?_))|(guard_target=Exists _;refine oM ?_));(try intro _);conv=>whnf)
 try refine RunsS.retU ?_
 try refine RunsS.finU ?_
 exact UnwS.ret tab Tryz.func166 rfl (EndS.mk (((⟨n,d,u,i,false,0,0⟩:Am),s4)) (by simp only [ramount,sb,rt,ropt,←h1,←h2,←h3,←h4]) [] sH rfl rfl (okRet rfl rfl))
theorem rswap_fn:FnS Tryz.prog 145 1 [stV en s] [roL L] (fun y=>y=rswap L en s) (outM en (aggR Sw.row)):=by
 refine FnS.of Tryz.func145 (by kernel_rfl) rfl Tryz.ntmps145 rfl fun E0 F h w0 cs=>?_
 conv=>whnf
 refine gS ?_;conv=>whnf
 repeat ((first|(guard_target=_∧_;(first|refine oL ?_|refine oR ?_))|(guard_target=Exists _;refine oM ?_));(try intro _);conv=>whnf)
 refine RunsS.callN (rword_fn L en hL s (B wSwap)) [0] ?_ sH ?CNa34
 case CNa34=>rfl
 rintro s1 h1<;>conv=>whnf
 (try refine gS ?_);conv=>whnf
 repeat ((first|(guard_target=_∧_;(first|refine oL ?_|refine oR ?_))|(guard_target=Exists _;refine oM ?_));(try intro _);conv=>whnf)
 refine RunsS.callN (rname_fn L en hL s1) [0] ?_ sH ?CNa35
 case CNa35=>rfl
 rintro ⟨a,s2⟩ h2<;>conv=>whnf
 (try refine gS ?_);conv=>whnf
 repeat ((first|(guard_target=_∧_;(first|refine oL ?_|refine oR ?_))|(guard_target=Exists _;refine oM ?_));(try intro _);conv=>whnf)
 refine RunsS.callN (rword_fn L en hL s2 (B wFor)) [0] ?_ sH ?CNa36
 case CNa36=>rfl
 rintro s3 h3<;>conv=>whnf
 (try refine gS ?_);conv=>whnf
 repeat ((first|(guard_target=_∧_;(first|refine oL ?_|refine oR ?_))|(guard_target=Exists _;refine oM ?_));(try intro _);conv=>whnf)
 refine RunsS.callN (rname_fn L en hL s3) [0] ?_ sH ?CNa37
 case CNa37=>rfl
 rintro ⟨b,s4⟩ h4<;>conv=>whnf
 (try refine gS ?_);conv=>whnf
 repeat ((first|(guard_target=_∧_;(first|refine oL ?_|refine oR ?_))|(guard_target=Exists _;refine oM ?_));(try intro _);conv=>whnf)
 refine RunsS.held tab (.fl 0 (.fl 1 (.e1 2 [0] (.e1 3 [] (.e1 4 [] .done))))) (by kernel_rfl) ?_;conv=>whnf
 (try refine gR ?_);conv=>whnf
 repeat ((first|(guard_target=_∧_;(first|refine oL ?_|refine oR ?_|refine oB ?_))|(guard_target=Exists _;refine oM ?_));(try intro _);conv=>whnf)
 (try refine gS ?_);conv=>whnf
 repeat ((first|(guard_target=_∧_;(first|refine oL ?_|refine oR ?_))|(guard_target=Exists _;refine oM ?_));(try intro _);conv=>whnf)
 refine EffR.callN (rsign_fn L en hL s4 (B [59])) [0] ?_ sH ?CNa38
 case CNa38=>rfl
 rintro s5 h5<;>conv=>whnf
 conv=>whnf
 try refine oB ?_
 (try refine gR ?_);conv=>whnf
 repeat ((first|(guard_target=_∧_;(first|refine oL ?_|refine oR ?_|refine oB ?_))|(guard_target=Exists _;refine oM ?_));(try intro _);conv=>whnf)
 (try refine gS ?_);conv=>whnf
 repeat ((first|(guard_target=_∧_;(first|refine oL ?_|refine oR ?_))|(guard_target=Exists _;refine oM ?_));(try intro _);conv=>whnf)
 try refine RunsS.retU ?_
 try refine RunsS.finU ?_
 exact UnwS.ret tab Tryz.func145 rfl (EndS.mk (((⟨a,b,0,0⟩:Sw),s5)) (by simp only [rswap,sb,rt,ropt,←h1,←h2,←h3,←h4,←h5]) [] sH rfl rfl (okRet rfl rfl))
end
end Go.Proofs.YtgbeechjghajcaaGreatDoor

namespace Go.SynM
open Go Go.Fw Go.RatM Go.SrcM
open Go.Proofs.YtgbeechjghajcaaGreatDoor (Tok)
section
variable {L:List Tok} {en:Int} {α β:Type}
def Adv (m:M α):Prop:=∀s,(m s).2.e=0→s.e=0∧s.n≤(m s).2.n
def Adv1 (m:M α):Prop:=∀s,(m s).2.e=0→s.e=0∧s.n<(m s).2.n
theorem Adv1.a {m:M α} (h:Adv1 m):Adv m:=fun s hs=>⟨(h s hs).1,Nat.le_of_lt (h s hs).2⟩
theorem adv_rt {a:α}:Adv (rt a):=fun _ h=>⟨h,Nat.le_refl _⟩
theorem adv_sb {m:M α} {f:α→M β} (h1:Adv m) (h2:∀a,Adv (f a)):Adv (sb m f):=fun s h=>by
 have a:=h2 (m s).1 (m s).2 h
 have b:=h1 s a.1
 exact ⟨b.1,Nat.le_trans b.2 a.2⟩
theorem adv1_sb {m:M α} {f:α→M β} (h1:Adv1 m) (h2:∀a,Adv (f a)):Adv1 (sb m f):=fun s h=>by
 have a:=h2 (m s).1 (m s).2 h
 have b:=h1 s a.1
 exact ⟨b.1,Nat.lt_of_lt_of_le b.2 a.2⟩
theorem adv1_sb2 {m:M α} {f:α→M β} (h1:Adv m) (h2:∀a,Adv1 (f a)):Adv1 (sb m f):=fun s h=>by
 have a:=h2 (m s).1 (m s).2 h
 have b:=h1 s a.1
 exact ⟨b.1,Nat.lt_of_le_of_lt b.2 a.2⟩
theorem fail_nz {c:Int} (hc:c≠0) (s:St):(rfail L en c s).2.e≠0:=by
 unfold rfail
 by_cases h:s.e=0
 ·simp only [h,if_true]
  cases L[s.n]? with
  |none=>exact (by decide:(100:Int)≠0)
  |some x=>exact hc
 simp only [if_neg h];exact h
theorem adv_exp {k:Int} {t:ByteArray}:Adv1 (rexp L en k t):=fun s h=>by
 unfold rexp at h ⊢
 cases hb:rnext L k t s with
 |true=>
  simp only [hb,if_true] at h ⊢
  exact ⟨h,Nat.lt_succ_self _⟩
 |false=>
  rw [hb] at h
  exact absurd h (fail_nz (by decide) s)
theorem adv_name:Adv1 (rname L en):=fun s h=>by
 unfold rname at h ⊢
 by_cases h0:s.e=0
 ·rw [if_pos h0] at h ⊢
  cases hx:L[s.n]? with
  |none=>rw [hx] at h;exact absurd h (fail_nz (by decide) s)
  |some x=>
   rw [hx] at h
   by_cases hk:x.kind=1
   ·simp only [if_pos hk];exact ⟨h0,Nat.lt_succ_self _⟩
   simp only [if_neg hk] at h;exact absurd h (fail_nz (by decide) s)
 rw [if_neg h0] at h
 exact absurd h (fail_nz (by decide) s)
theorem adv_num:Adv1 (rnum L en):=fun s h=>by
 unfold rnum at h ⊢
 by_cases h0:s.e=0
 ·rw [if_pos h0] at h ⊢
  cases hx:L[s.n]? with
  |none=>rw [hx] at h;exact absurd h (fail_nz (by decide) s)
  |some x=>
   rw [hx] at h
   by_cases hk:x.kind=2∧0≤x.n∧x.n≤1048576
   ·simp only [if_pos hk];exact ⟨h0,Nat.lt_succ_self _⟩
   simp only [if_neg hk] at h;exact absurd h (fail_nz (by decide) s)
 rw [if_neg h0] at h
 exact absurd h (fail_nz (by decide) s)
theorem adv_room {n m:Nat}:Adv (rroom L en n m):=fun s h=>by
 unfold rroom at h ⊢
 by_cases hm:m≤n
 ·rw [if_pos hm] at h;exact absurd h (fail_nz (by decide) s)
 rw [if_neg hm] at h ⊢;exact ⟨h,Nat.le_refl _⟩
theorem adv_opt {k:Int} {t:ByteArray} {a:α} {m:M α} (h:Adv m):Adv (ropt L k t a m):=fun s hs=>by
 unfold ropt at hs ⊢
 cases hb:rnext L k t s with
 |true=>rw [hb] at hs;exact h s hs
 |false=>rw [hb] at hs;exact ⟨hs,Nat.le_refl _⟩
theorem adv_ratio:Adv1 (rratio L en):=adv1_sb adv_num fun _=>adv_sb adv_exp.a fun _=>adv_sb adv_num.a fun _=>adv_rt
theorem adv_cond:Adv1 (rcond L en):=adv1_sb adv_name fun _=>adv_sb adv_exp.a fun _=>adv_sb adv_name.a fun _=>adv_rt
theorem adv_amount:Adv1 (ramount L en):=adv1_sb adv_ratio fun _=>adv_sb adv_name.a fun _=>adv_sb adv_name.a fun _=>adv_sb adv_exp.a fun _=>adv_rt
theorem adv_inp:Adv1 (rinp L en):=adv1_sb adv_exp fun _=>adv_sb (adv_opt (adv_sb adv_exp.a fun _=>adv_rt)) fun _=>adv_sb adv_amount.a fun _=>adv_rt
theorem adv_run:Adv1 (rrun L en):=adv1_sb adv_exp fun _=>adv_sb adv_name.a fun _=>adv_sb adv_num.a fun _=>adv_sb adv_exp.a fun _=>adv_rt
def mu (L:List Tok) (s:St):Nat:=if s.e=0 then L.length+1 - s.n else 0
theorem mu_le (s:St):mu L s≤L.length+1:=by unfold mu;split<;>omega
theorem next_mu {k:Int} {t:ByteArray} {s:St} (h:rnext L k t s=true):s.e=0∧s.n<L.length∧2≤mu L s:=by
 have h0:s.e=0:=by
  unfold rnext at h
  simp only [Bool.and_eq_true,decide_eq_true_eq] at h
  exact h.1
 have h1:s.n<L.length:=by
  unfold rnext at h
  by_cases hn:s.n<L.length
  ·exact hn
  rw [List.getElem?_eq_none (Nat.le_of_not_lt hn)] at h
  simp at h
 refine ⟨h0,h1,?_⟩
 unfold mu
 rw [if_pos h0]
 omega
theorem mu_lt {m:M α} (hm:Adv1 m) {k:Int} {t:ByteArray} {s:St} (h:rnext L k t s=true):mu L (m s).2<mu L s:=by
 obtain ⟨h0,h1,h2⟩:=next_mu h
 unfold mu at h2 ⊢
 rw [if_pos h0] at h2 ⊢
 by_cases he:(m s).2.e=0
 ·have:=(hm s he).2
  rw [if_pos he]
  omega
 rw [if_neg he];omega
theorem many_end {k:Int} {t:ByteArray} {most f:Nat} {m:M α} {l:List α} {s:St} (h:rnext L k t s=false):rmany L en k t most m f l s=(l,s):=by
 cases f with
 |zero=>rfl
 |succ f=>unfold rmany;rw [h];rfl
theorem many_more {k:Int} {t:ByteArray} {most f:Nat} {m:M α} {l:List α} {s:St} (h:rnext L k t s=true):rmany L en k t most m (f+1) l s=sb (sb (rroom L en l.length most) fun _=>m) (fun x=>rmany L en k t most m f (l++[x])) s:=by
 conv=>lhs;unfold rmany
 rw [h];rfl
end
end Go.SynM
namespace Go.Proofs.YtgbeechjghajcaaGreatDoor
open Go Go.Fw Go.NatM Go.RatM Go.SrcM Go.SynM
set_option maxRecDepth 100000
set_option maxHeartbeats 99999999
abbrev stC (en:Int) (s:St):List SV:=[.buf 0,.v (.int .i64 (s.n:Int)),.v (.int .i64 en),.v (.int .i64 s.e),.v (.int .i64 s.pl)]
section
variable (L:List Tok) (en:Int) (hL:L.length≤65536) (s:St)
include hL
theorem rconds_fn:FnS Tryz.prog 165 1 [stV en s] [roL L] (fun y=>y=rconds L en s) (fun y=>.ret (.tup [.buf 1,stV en y.2]) 2 [(1,.own 52 4 (rws Cd.row y.1))]):=by
 refine FnS.of Tryz.func165 (by kernel_rfl) rfl Tryz.ntmps165 rfl fun E0 F h w0 cs=>?_
 conv=>whnf
 refine gS ?_;conv=>whnf
 repeat ((first|(guard_target=_∧_;(first|refine oL ?_|refine oR ?_))|(guard_target=Exists _;refine oM ?_));(try intro _);conv=>whnf)
 refine RunsS.callN (rcond_fn L en hL s) [0] ?_ sH ?CNa1
 case CNa1=>rfl
 rintro ⟨c,s1⟩ h1<;>conv=>whnf
 (try refine gS ?_);conv=>whnf
 repeat ((first|(guard_target=_∧_;(first|refine oL ?_|refine oR ?_))|(guard_target=Exists _;refine oM ?_));(try intro _);conv=>whnf)
 refine RunsS.subR (nx':=6) (l':=[(3,.ptr 2 0),(4,.ptr 3 0),(5,.ptr 4 0),(6,.buf 5)]) (H':=[roL L,(2,.cells 74 [.v nilV,intA 0,intA 0,intA 0,intA 0]),(3,.cells 52 (toV (Cd.row c))),(4,.cells 74 (stC en s1)),(5,.own 52 4 (rws Cd.row [c]))]) [] ?_ sH sH
 refine RunsS.subR [] (RunsS.loop (fun (⟨f,l,c,s2⟩:Nat×List Cd×Cd×St)=>[(3,.ptr 2 0),(4,.ptr 3 0),(5,.ptr 4 0),(6,.buf 5)]) (fun (⟨f,l,c,s2⟩:Nat×List Cd×Cd×St)=>[roL L,(2,.cells 74 [.v nilV,intA 0,intA 0,intA 0,intA 0]),(3,.cells 52 (toV (Cd.row c))),(4,.cells 74 (stC en s2)),(5,.own 52 4 (rws Cd.row l))]) 6 (fun (⟨f,l,c,s2⟩:Nat×List Cd×Cd×St)=>(mu L s2≤f∧l.length+f≤L.length+2)∧rconds L en s=rmany L en 3 (B [44]) 6 (sb (rsg L en 44) fun _=>rcond L en) f l s2) (fun (⟨f,l,c,s2⟩:Nat×List Cd×Cd×St)=>f) ?round2 ((L.length+1,[c],c,s1)) ?J02) sH sH
 case J02=>exact (⟨⟨mu_le _,by show 1+(L.length+1)≤_;omega⟩,by unfold rconds sb;rw [←h1]⟩)
 rintro ⟨f,l,c,s2⟩ hJ back
 try dsimp only at hJ back
 conv=>whnf
 try dsimp only
 refine gS ?_;conv=>whnf
 repeat ((first|(guard_target=_∧_;(first|refine oL ?_|refine oR ?_))|(guard_target=Exists _;refine oM ?_));(try intro _);conv=>whnf)
 obtain ⟨⟨hm,hf⟩,hJ⟩:=hJ
 have ll:=rws_len Cd.row l
 refine RunsS.callN (risSign_fn L en s2 (B [44])) [0] ?_ sH ?CNa3
 case CNa3=>rfl
 intro _ _
 conv=>whnf
 (try refine gS ?_);conv=>whnf
 repeat ((first|(guard_target=_∧_;(first|refine oL ?_|refine oR ?_))|(guard_target=Exists _;refine oM ?_));(try intro _);conv=>whnf)
 cases hb:rnext L 3 (B [44]) s2 with
 |false=>
  (try refine gS ?_);conv=>whnf
  repeat ((first|(guard_target=_∧_;(first|refine oL ?_|refine oR ?_))|(guard_target=Exists _;refine oM ?_));(try intro _);conv=>whnf)
  refine RunsS.held tab (.fl 0 (.fl 1 (.fl 2 (.e1 3 [] .done)))) (by kernel_rfl) ?_;conv=>whnf
  (try refine gR ?_);conv=>whnf
  repeat ((first|(guard_target=_∧_;(first|refine oL ?_|refine oR ?_|refine oB ?_))|(guard_target=Exists _;refine oM ?_));(try intro _);conv=>whnf)
  (try refine gS ?_);conv=>whnf
  repeat ((first|(guard_target=_∧_;(first|refine oL ?_|refine oR ?_))|(guard_target=Exists _;refine oM ?_));(try intro _);conv=>whnf)
  try refine RunsS.retU ?_
  try refine RunsS.finU ?_
  exact UnwS.ret tab Tryz.func165 rfl (EndS.mk ((l,s2)) ((hJ.trans (many_end hb)).symm) [(1,5)] sH rfl rfl (okRet rfl rfl))
 |true=>
  have hmu:=mu_lt (m:=sb (rroom L en l.length 6) fun _=>sb (rsg L en 44) fun _=>rcond L en) (adv1_sb2 adv_room fun _=>adv1_sb adv_exp fun _=>adv_cond.a) hb
  have h2:=(next_mu hb).2.2
  obtain ⟨f,rfl⟩:∃g,f=g+1:=⟨f - 1,by omega⟩
  rw [many_more hb] at hJ
  (try refine gS ?_);conv=>whnf
  repeat ((first|(guard_target=_∧_;(first|refine oL ?_|refine oR ?_))|(guard_target=Exists _;refine oM ?_));(try intro _);conv=>whnf)
  refine RunsS.callN (rroom_fn L en s2 (rws Cd.row l).length 6) [0] ?_ sH ?CNa4
  case CNa4=>rfl
  rintro s3 h3<;>conv=>whnf
  (try refine gS ?_);conv=>whnf
  repeat ((first|(guard_target=_∧_;(first|refine oL ?_|refine oR ?_))|(guard_target=Exists _;refine oM ?_));(try intro _);conv=>whnf)
  refine RunsS.callN (rsign_fn L en hL s3 (B [44])) [0] ?_ sH ?CNa5
  case CNa5=>rfl
  rintro s4 h4<;>conv=>whnf
  (try refine gS ?_);conv=>whnf
  repeat ((first|(guard_target=_∧_;(first|refine oL ?_|refine oR ?_))|(guard_target=Exists _;refine oM ?_));(try intro _);conv=>whnf)
  refine RunsS.callN (rcond_fn L en hL s4) [0] ?_ sH ?CNa6
  case CNa6=>rfl
  rintro ⟨c2,s5⟩ h5<;>conv=>whnf
  rw [ll] at h3
  have e:sb (rroom L en l.length 6) (fun _=>sb (rsg L en 44) fun _=>rcond L en) s2=(c2,s5):=by simp only [sb,←h3,←h4,←h5]
  (try refine gS ?_);conv=>whnf
  repeat ((first|(guard_target=_∧_;(first|refine oL ?_|refine oR ?_))|(guard_target=Exists _;refine oM ?_));(try intro _);conv=>whnf)
  refine And.intro (appOb (by omega)) ?_;conv=>whnf
  (try refine gS ?_);conv=>whnf
  repeat ((first|(guard_target=_∧_;(first|refine oL ?_|refine oR ?_))|(guard_target=Exists _;refine oM ?_));(try intro _);conv=>whnf)
  refine RunsS.rowsEq (7) ((List.map_append (f:=Cd.row) (l₁:=l) (l₂:=[c2])).symm) ?_;conv=>whnf
  refine RunsS.subR [(5,7)] (back ((f,l++[c2],c2,s5)) (by exact (⟨⟨by rw [e] at hmu;show mu L s5≤f;have:mu L s5<mu L s2:=hmu;omega,by rw [List.length_append];show l.length+1+f≤_;omega⟩,hJ.trans (by show (rmany L en 3 (B [44]) 6 _ f (l++[(sb (rroom L en l.length 6) (fun _=>sb (rsg L en 44) fun _=>rcond L en) s2).1])) (sb (rroom L en l.length 6) (fun _=>sb (rsg L en 44) fun _=>rcond L en) s2).2=_;rw [e])⟩)) (by (try dsimp only);omega)) sH sH
abbrev strR10 (x:ByteArray):List Value:=[.string x]
theorem roptn_fn:FnS Tryz.prog 142 1 [stV en s] [roL L] (fun y=>y=roptn L en s) (fun y=>.ret (.tup [.agg [strA y.1.name,.buf 1],stV en y.2]) 2 [(1,.own 9 1 (rws strR10 y.1.ch))]):=by
 refine FnS.of Tryz.func142 (by kernel_rfl) rfl Tryz.ntmps142 rfl fun E0 F h w0 cs=>?_
 conv=>whnf
 refine gS ?_;conv=>whnf
 repeat ((first|(guard_target=_∧_;(first|refine oL ?_|refine oR ?_))|(guard_target=Exists _;refine oM ?_));(try intro _);conv=>whnf)
 refine RunsS.callN (rword_fn L en hL s (B wOption)) [0] ?_ sH ?CNa8
 case CNa8=>rfl
 rintro s1 h1<;>conv=>whnf
 (try refine gS ?_);conv=>whnf
 repeat ((first|(guard_target=_∧_;(first|refine oL ?_|refine oR ?_))|(guard_target=Exists _;refine oM ?_));(try intro _);conv=>whnf)
 refine RunsS.callN (rname_fn L en hL s1) [0] ?_ sH ?CNa9
 case CNa9=>rfl
 rintro ⟨nm,s2⟩ h2<;>conv=>whnf
 (try refine gS ?_);conv=>whnf
 repeat ((first|(guard_target=_∧_;(first|refine oL ?_|refine oR ?_))|(guard_target=Exists _;refine oM ?_));(try intro _);conv=>whnf)
 refine RunsS.callN (rsign_fn L en hL s2 (B [123])) [0] ?_ sH ?CNa10
 case CNa10=>rfl
 rintro s3 h3<;>conv=>whnf
 (try refine gS ?_);conv=>whnf
 repeat ((first|(guard_target=_∧_;(first|refine oL ?_|refine oR ?_))|(guard_target=Exists _;refine oM ?_));(try intro _);conv=>whnf)
 refine RunsS.callN (rname_fn L en hL s3) [0] ?_ sH ?CNa11
 case CNa11=>rfl
 rintro ⟨c,s4⟩ h4<;>conv=>whnf
 (try refine gS ?_);conv=>whnf
 repeat ((first|(guard_target=_∧_;(first|refine oL ?_|refine oR ?_))|(guard_target=Exists _;refine oM ?_));(try intro _);conv=>whnf)
 refine RunsS.subR (nx':=7) (l':=[(2,.ptr 2 0),(3,.ptr 3 0),(4,.ptr 4 0),(5,strA c),(6,.ptr 5 0)]) (H':=[roL L,(2,.cells 50 [strA SynM.e0,.v nilV]),(3,.cells 74 [.v nilV,intA 0,intA 0,intA 0,intA 0]),(4,.cells 50 [strA nm,.buf 6]),(5,.cells 74 (stC en s4)),(6,.own 9 1 (rws strR10 [c]))]) [] ?_ sH sH
 refine RunsS.subR [] (RunsS.loop (fun (⟨f,l,c,s2⟩:Nat×List ByteArray×ByteArray×St)=>[(2,.ptr 2 0),(3,.ptr 3 0),(4,.ptr 4 0),(5,strA c),(6,.ptr 5 0)]) (fun (⟨f,l,c,s2⟩:Nat×List ByteArray×ByteArray×St)=>[roL L,(2,.cells 50 [strA SynM.e0,.v nilV]),(3,.cells 74 [.v nilV,intA 0,intA 0,intA 0,intA 0]),(4,.cells 50 [strA nm,.buf 6]),(5,.cells 74 (stC en s2)),(6,.own 9 1 (rws strR10 l))]) 7 (fun (⟨f,l,c,s2⟩:Nat×List ByteArray×ByteArray×St)=>(mu L s2≤f∧l.length+f≤L.length+2)∧rchs L en s3=rmany L en 3 (B [44]) 4 (sb (rsg L en 44) fun _=>rname L en) f l s2) (fun (⟨f,l,c,s2⟩:Nat×List ByteArray×ByteArray×St)=>f) ?round12 ((L.length+1,[c],c,s4)) ?J012) sH sH
 case J012=>exact (⟨⟨mu_le _,by show 1+(L.length+1)≤_;omega⟩,by unfold rchs sb;rw [←h4]⟩)
 rintro ⟨f,l,c,s2⟩ hJ back
 try dsimp only at hJ back
 conv=>whnf
 try dsimp only
 refine gS ?_;conv=>whnf
 repeat ((first|(guard_target=_∧_;(first|refine oL ?_|refine oR ?_))|(guard_target=Exists _;refine oM ?_));(try intro _);conv=>whnf)
 obtain ⟨⟨hm,hf⟩,hJ⟩:=hJ
 have ll:=rws_len strR10 l
 refine RunsS.callN (risSign_fn L en s2 (B [44])) [0] ?_ sH ?CNa13
 case CNa13=>rfl
 intro _ _
 conv=>whnf
 (try refine gS ?_);conv=>whnf
 repeat ((first|(guard_target=_∧_;(first|refine oL ?_|refine oR ?_))|(guard_target=Exists _;refine oM ?_));(try intro _);conv=>whnf)
 cases hb:rnext L 3 (B [44]) s2 with
 |false=>
  have hJ:=hJ.trans (many_end hb)
  (try refine gS ?_);conv=>whnf
  repeat ((first|(guard_target=_∧_;(first|refine oL ?_|refine oR ?_))|(guard_target=Exists _;refine oM ?_));(try intro _);conv=>whnf)
  refine RunsS.held tab (.fl 0 (.fl 1 (.e1 2 [0] (.e1 3 [0] (.e1 4 [] (.e1 5 [] .done)))))) (by kernel_rfl) ?_;conv=>whnf
  (try refine gR ?_);conv=>whnf
  repeat ((first|(guard_target=_∧_;(first|refine oL ?_|refine oR ?_|refine oB ?_))|(guard_target=Exists _;refine oM ?_));(try intro _);conv=>whnf)
  (try refine gS ?_);conv=>whnf
  repeat ((first|(guard_target=_∧_;(first|refine oL ?_|refine oR ?_))|(guard_target=Exists _;refine oM ?_));(try intro _);conv=>whnf)
  refine EffR.callN (rsign_fn L en hL s2 (B [125])) [0] ?_ sH ?CNa14
  case CNa14=>rfl
  rintro s5 h5<;>conv=>whnf
  conv=>whnf
  try refine oB ?_
  (try refine gR ?_);conv=>whnf
  repeat ((first|(guard_target=_∧_;(first|refine oL ?_|refine oR ?_|refine oB ?_))|(guard_target=Exists _;refine oM ?_));(try intro _);conv=>whnf)
  (try refine gS ?_);conv=>whnf
  repeat ((first|(guard_target=_∧_;(first|refine oL ?_|refine oR ?_))|(guard_target=Exists _;refine oM ?_));(try intro _);conv=>whnf)
  refine EffR.callN (rsign_fn L en hL s5 (B [59])) [0] ?_ sH ?CNa15
  case CNa15=>rfl
  rintro s6 h6<;>conv=>whnf
  conv=>whnf
  try refine oB ?_
  (try refine gR ?_);conv=>whnf
  repeat ((first|(guard_target=_∧_;(first|refine oL ?_|refine oR ?_|refine oB ?_))|(guard_target=Exists _;refine oM ?_));(try intro _);conv=>whnf)
  (try refine gS ?_);conv=>whnf
  repeat ((first|(guard_target=_∧_;(first|refine oL ?_|refine oR ?_))|(guard_target=Exists _;refine oM ?_));(try intro _);conv=>whnf)
  try refine RunsS.retU ?_
  try refine RunsS.finU ?_
  exact UnwS.ret tab Tryz.func142 rfl (EndS.mk (((⟨nm,hd0,l⟩:OpV),s6)) (by simp only [roptn,sb,rt,←h1,←h2,←h3,hJ,←h5,←h6]) [(1,6)] sH rfl rfl (okRet rfl rfl))
 |true=>
  have hmu:=mu_lt (m:=sb (rroom L en l.length 4) fun _=>sb (rsg L en 44) fun _=>rname L en) (adv1_sb2 adv_room fun _=>adv1_sb adv_exp fun _=>adv_name.a) hb
  have h2':=(next_mu hb).2.2
  obtain ⟨f,rfl⟩:∃g,f=g+1:=⟨f - 1,by omega⟩
  rw [many_more hb] at hJ
  (try refine gS ?_);conv=>whnf
  repeat ((first|(guard_target=_∧_;(first|refine oL ?_|refine oR ?_))|(guard_target=Exists _;refine oM ?_));(try intro _);conv=>whnf)
  refine RunsS.callN (rroom_fn L en s2 (rws strR10 l).length 4) [0] ?_ sH ?CNa16
  case CNa16=>rfl
  rintro s5 h5<;>conv=>whnf
  (try refine gS ?_);conv=>whnf
  repeat ((first|(guard_target=_∧_;(first|refine oL ?_|refine oR ?_))|(guard_target=Exists _;refine oM ?_));(try intro _);conv=>whnf)
  refine RunsS.callN (rsign_fn L en hL s5 (B [44])) [0] ?_ sH ?CNa17
  case CNa17=>rfl
  rintro s6 h6<;>conv=>whnf
  (try refine gS ?_);conv=>whnf
  repeat ((first|(guard_target=_∧_;(first|refine oL ?_|refine oR ?_))|(guard_target=Exists _;refine oM ?_));(try intro _);conv=>whnf)
  refine RunsS.callN (rname_fn L en hL s6) [0] ?_ sH ?CNa18
  case CNa18=>rfl
  rintro ⟨c2,s7⟩ h7<;>conv=>whnf
  rw [ll] at h5
  have e:sb (rroom L en l.length 4) (fun _=>sb (rsg L en 44) fun _=>rname L en) s2=(c2,s7):=by simp only [sb,←h5,←h6,←h7]
  (try refine gS ?_);conv=>whnf
  repeat ((first|(guard_target=_∧_;(first|refine oL ?_|refine oR ?_))|(guard_target=Exists _;refine oM ?_));(try intro _);conv=>whnf)
  refine And.intro (appOb (by omega)) ?_;conv=>whnf
  (try refine gS ?_);conv=>whnf
  repeat ((first|(guard_target=_∧_;(first|refine oL ?_|refine oR ?_))|(guard_target=Exists _;refine oM ?_));(try intro _);conv=>whnf)
  refine RunsS.rowsEq (8) ((List.map_append (f:=strR10) (l₁:=l) (l₂:=[c2])).symm) ?_;conv=>whnf
  refine RunsS.subR [(6,8)] (back ((f,l++[c2],c2,s7)) (by exact (⟨⟨by rw [e] at hmu;show mu L s7≤f;have:mu L s7<mu L s2:=hmu;omega,by rw [List.length_append];show l.length+1+f≤_;omega⟩,hJ.trans (by show (rmany L en 3 (B [44]) 4 _ f (l++[(sb (rroom L en l.length 4) (fun _=>sb (rsg L en 44) fun _=>rname L en) s2).1])) (sb (rroom L en l.length 4) (fun _=>sb (rsg L en 44) fun _=>rname L en) s2).2=_;rw [e])⟩)) (by (try dsimp only);omega)) sH sH
theorem rforb_fn:FnS Tryz.prog 143 1 [stV en s] [roL L] (fun y=>y=rforb L en s) (fun y=>.ret (.tup [.buf 1,stV en y.2]) 2 [(1,.own 52 4 (rws Cd.row y.1.cs))]):=by
 refine FnS.of Tryz.func143 (by kernel_rfl) rfl Tryz.ntmps143 rfl fun E0 F h w0 cs=>?_
 conv=>whnf
 refine gS ?_;conv=>whnf
 repeat ((first|(guard_target=_∧_;(first|refine oL ?_|refine oR ?_))|(guard_target=Exists _;refine oM ?_));(try intro _);conv=>whnf)
 refine RunsS.callN (rword_fn L en hL s (B wForbid)) [0] ?_ sH ?CNa20
 case CNa20=>rfl
 rintro s1 h1<;>conv=>whnf
 (try refine gS ?_);conv=>whnf
 repeat ((first|(guard_target=_∧_;(first|refine oL ?_|refine oR ?_))|(guard_target=Exists _;refine oM ?_));(try intro _);conv=>whnf)
 refine RunsS.callN (rconds_fn L en hL s1) [0] ?_ sH ?CNa21
 case CNa21=>rfl
 rintro ⟨l,s2⟩ h2<;>conv=>whnf
 (try refine gS ?_);conv=>whnf
 repeat ((first|(guard_target=_∧_;(first|refine oL ?_|refine oR ?_))|(guard_target=Exists _;refine oM ?_));(try intro _);conv=>whnf)
 refine RunsS.callN (rsign_fn L en hL s2 (B [59])) [0] ?_ sH ?CNa22
 case CNa22=>rfl
 rintro s3 h3<;>conv=>whnf
 (try refine gS ?_);conv=>whnf
 repeat ((first|(guard_target=_∧_;(first|refine oL ?_|refine oR ?_))|(guard_target=Exists _;refine oM ?_));(try intro _);conv=>whnf)
 try refine RunsS.retU ?_
 try refine RunsS.finU ?_
 exact UnwS.ret tab Tryz.func143 rfl (EndS.mk (((⟨hd0,l⟩:FbV),s3)) (by simp only [rforb,sb,rt,←h1,←h2,←h3]) [(1,3)] sH rfl rfl (okRet rfl rfl))
end
end Go.Proofs.YtgbeechjghajcaaGreatDoor

namespace Go.Proofs.YtgbeechjghajcaaGreatDoor
open Go Go.Fw Go.NatM Go.RatM Go.SrcM Go.SynM
set_option maxRecDepth 100000
set_option maxHeartbeats 99999999
def outRR (en:Int) (y:RcV×St):OutS:=.ret (.tup [.agg [strA y.1.item,strA y.1.plant,intA y.1.fr,intA y.1.to,.buf 1,.buf 2,.buf 3,intA y.1.rwN,intA y.1.rwD,intA y.1.yN,intA y.1.yD,intA y.1.tN,intA y.1.tD,intA y.1.lead,.buf 4,intA y.1.inum,intA y.1.pnum],stV en y.2]) 5
 [(1,.own 52 4 (rws Cd.row y.1.cs)),(2,.own 55 7 (rws Am.row y.1.inn)),(3,.own 55 7 (rws Am.row y.1.out)),(4,.own 58 3 (rws Rn.row y.1.runs))]
section
variable (L:List Tok) (en:Int) (hL:L.length≤65536) (s:St)
include hL
theorem rrec_fn:FnS Tryz.prog 144 1 [stV en s] [roL L] (fun y=>y=rrec L en s) (outRR en):=by
 refine FnS.of Tryz.func144 (by kernel_rfl) rfl Tryz.ntmps144 rfl fun E0 F h w0 cs=>?_
 conv=>whnf
 refine gS ?_;conv=>whnf
 repeat ((first|(guard_target=_∧_;(first|refine oL ?_|refine oR ?_))|(guard_target=Exists _;refine oM ?_));(try intro _);conv=>whnf)
 refine RunsS.callN (rword_fn L en hL s (B wMake)) [0] ?_ sH ?CNa1
 case CNa1=>rfl
 rintro s1 h1<;>conv=>whnf
 (try refine gS ?_);conv=>whnf
 repeat ((first|(guard_target=_∧_;(first|refine oL ?_|refine oR ?_))|(guard_target=Exists _;refine oM ?_));(try intro _);conv=>whnf)
 refine RunsS.callN (rname_fn L en hL s1) [0] ?_ sH ?CNa2
 case CNa2=>rfl
 rintro ⟨it,s2⟩ h2<;>conv=>whnf
 refine RunsS.subR (nx':=5) (l':=[(1,.ptr 1 0),(2,.ptr 2 0),(3,.ptr 3 0),(4,.ptr 4 0),(15,.tup [strA it,stV en s2])]) (H':=[roL L,(1,.cells 74 (stC en s)),(2,.cells 61 [strA SynM.e0,strA SynM.e0,intA 0,intA 0,.v nilV,.v nilV,.v nilV,intA 0,intA 0,intA 0,intA 0,intA 0,intA 0,intA 0,.v nilV,intA 0,intA 0]),(3,.cells 74 [.v nilV,intA 0,intA 0,intA 0,intA 0]),(4,.cells 61 [strA SynM.e0,strA SynM.e0,intA 0,intA 0,.v nilV,.v nilV,.v nilV,intA 0,intA 0,intA 0,intA 0,intA 0,intA 0,intA 0,.v nilV,intA 0,intA 0])]) [] ?_ sH sH
 refine RunsS.nilOwn (l':=[(1,.ptr 1 0),(2,.ptr 2 0),(3,.ptr 3 0),(4,.ptr 4 0),(15,.tup [strA it,stV en s2])]) (H':=[roL L,(1,.cells 74 (stC en s)),(2,.cells 61 [strA SynM.e0,strA SynM.e0,intA 0,intA 0,.v nilV,.v nilV,.v nilV,intA 0,intA 0,intA 0,intA 0,intA 0,intA 0,intA 0,.v nilV,intA 0,intA 0]),(3,.cells 74 [.v nilV,intA 0,intA 0,intA 0,intA 0]),(4,.cells 61 [strA SynM.e0,strA SynM.e0,intA 0,intA 0,.buf 5,.v nilV,.v nilV,intA 0,intA 0,intA 0,intA 0,intA 0,intA 0,intA 0,.v nilV,intA 0,intA 0])]) 52 4 ?_ (by rfl) (by rfl) (by rfl)
 refine RunsS.nilOwn (l':=[(1,.ptr 1 0),(2,.ptr 2 0),(3,.ptr 3 0),(4,.ptr 4 0),(15,.tup [strA it,stV en s2])]) (H':=[(5,.own 52 4 []),roL L,(1,.cells 74 (stC en s)),(2,.cells 61 [strA SynM.e0,strA SynM.e0,intA 0,intA 0,.v nilV,.v nilV,.v nilV,intA 0,intA 0,intA 0,intA 0,intA 0,intA 0,intA 0,.v nilV,intA 0,intA 0]),(3,.cells 74 [.v nilV,intA 0,intA 0,intA 0,intA 0]),(4,.cells 61 [strA SynM.e0,strA SynM.e0,intA 0,intA 0,.buf 5,.buf 6,.v nilV,intA 0,intA 0,intA 0,intA 0,intA 0,intA 0,intA 0,.v nilV,intA 0,intA 0])]) 55 7 ?_ (by rfl) (by rfl) (by rfl)
 refine RunsS.nilOwn (l':=[(1,.ptr 1 0),(2,.ptr 2 0),(3,.ptr 3 0),(4,.ptr 4 0),(15,.tup [strA it,stV en s2])]) (H':=[(6,.own 55 7 []),(5,.own 52 4 []),roL L,(1,.cells 74 (stC en s)),(2,.cells 61 [strA SynM.e0,strA SynM.e0,intA 0,intA 0,.v nilV,.v nilV,.v nilV,intA 0,intA 0,intA 0,intA 0,intA 0,intA 0,intA 0,.v nilV,intA 0,intA 0]),(3,.cells 74 [.v nilV,intA 0,intA 0,intA 0,intA 0]),(4,.cells 61 [strA SynM.e0,strA SynM.e0,intA 0,intA 0,.buf 5,.buf 6,.buf 7,intA 0,intA 0,intA 0,intA 0,intA 0,intA 0,intA 0,.v nilV,intA 0,intA 0])]) 55 7 ?_ (by rfl) (by rfl) (by rfl)
 refine RunsS.nilOwn (l':=[(1,.ptr 1 0),(2,.ptr 2 0),(3,.ptr 3 0),(4,.ptr 4 0),(15,.tup [strA it,stV en s2])]) (H':=[(7,.own 55 7 []),(6,.own 55 7 []),(5,.own 52 4 []),roL L,(1,.cells 74 (stC en s)),(2,.cells 61 [strA SynM.e0,strA SynM.e0,intA 0,intA 0,.v nilV,.v nilV,.v nilV,intA 0,intA 0,intA 0,intA 0,intA 0,intA 0,intA 0,.v nilV,intA 0,intA 0]),(3,.cells 74 [.v nilV,intA 0,intA 0,intA 0,intA 0]),(4,.cells 61 [strA SynM.e0,strA SynM.e0,intA 0,intA 0,.buf 5,.buf 6,.buf 7,intA 0,intA 0,intA 0,intA 0,intA 0,intA 0,intA 0,.buf 8,intA 0,intA 0])]) 58 3 ?_ (by rfl) (by rfl) (by rfl)
 (try refine gS ?_);conv=>whnf
 repeat ((first|(guard_target=_∧_;(first|refine oL ?_|refine oR ?_))|(guard_target=Exists _;refine oM ?_));(try intro _);conv=>whnf)
 refine RunsS.callN (rword_fn L en hL s2 (B wAt)) [0] ?_ sH ?CNa3
 case CNa3=>rfl
 rintro s3 h3<;>conv=>whnf
 (try refine gS ?_);conv=>whnf
 repeat ((first|(guard_target=_∧_;(first|refine oL ?_|refine oR ?_))|(guard_target=Exists _;refine oM ?_));(try intro _);conv=>whnf)
 refine RunsS.callN (rname_fn L en hL s3) [0] ?_ sH ?CNa4
 case CNa4=>rfl
 rintro ⟨pl,s4⟩ h4<;>conv=>whnf
 refine RunsS.subR (nx':=9) (l':=[(1,.ptr 1 0),(2,.ptr 2 0),(3,.ptr 3 0),(4,.ptr 4 0),(22,.tup [strA pl,stV en s4])]) (H':=[roL L,(1,.cells 74 (stC en s2)),(2,.cells 61 [strA SynM.e0,strA SynM.e0,intA 0,intA 0,.v nilV,.v nilV,.v nilV,intA 0,intA 0,intA 0,intA 0,intA 0,intA 0,intA 0,.v nilV,intA 0,intA 0]),(3,.cells 74 [.v nilV,intA 0,intA 0,intA 0,intA 0]),(4,.cells 61 [strA it,strA SynM.e0,intA 0,intA 0,.buf 5,.buf 6,.buf 7,intA 0,intA 0,intA 0,intA 0,intA 0,intA 0,intA 0,.buf 8,intA 0,intA 0]),(5,.own 52 4 (rws Cd.row [])),(6,.own 55 7 (rws Am.row [])),(7,.own 55 7 (rws Am.row [])),(8,.own 58 3 (rws Rn.row []))]) [] ?_ sH sH
 (try refine gS ?_);conv=>whnf
 repeat ((first|(guard_target=_∧_;(first|refine oL ?_|refine oR ?_))|(guard_target=Exists _;refine oM ?_));(try intro _);conv=>whnf)
 refine RunsS.callN (rword_fn L en hL s4 (B wFrom)) [0] ?_ sH ?CNa5
 case CNa5=>rfl
 rintro s5 h5<;>conv=>whnf
 (try refine gS ?_);conv=>whnf
 repeat ((first|(guard_target=_∧_;(first|refine oL ?_|refine oR ?_))|(guard_target=Exists _;refine oM ?_));(try intro _);conv=>whnf)
 refine RunsS.callN (rnum_fn L en hL s5) [0] ?_ sH ?CNa6
 case CNa6=>rfl
 rintro ⟨fr,s6⟩ h6<;>conv=>whnf
 refine RunsS.subR (nx':=9) (l':=[(1,.ptr 1 0),(2,.ptr 2 0),(3,.ptr 3 0),(4,.ptr 4 0),(29,.tup [intA fr,stV en s6])]) (H':=[roL L,(1,.cells 74 (stC en s4)),(2,.cells 61 [strA SynM.e0,strA SynM.e0,intA 0,intA 0,.v nilV,.v nilV,.v nilV,intA 0,intA 0,intA 0,intA 0,intA 0,intA 0,intA 0,.v nilV,intA 0,intA 0]),(3,.cells 74 [.v nilV,intA 0,intA 0,intA 0,intA 0]),(4,.cells 61 [strA it,strA pl,intA 0,intA 0,.buf 5,.buf 6,.buf 7,intA 0,intA 0,intA 0,intA 0,intA 0,intA 0,intA 0,.buf 8,intA 0,intA 0]),(5,.own 52 4 (rws Cd.row [])),(6,.own 55 7 (rws Am.row [])),(7,.own 55 7 (rws Am.row [])),(8,.own 58 3 (rws Rn.row []))]) [] ?_ sH sH
 (try refine gS ?_);conv=>whnf
 repeat ((first|(guard_target=_∧_;(first|refine oL ?_|refine oR ?_))|(guard_target=Exists _;refine oM ?_));(try intro _);conv=>whnf)
 refine RunsS.callN (rword_fn L en hL s6 (B wTo)) [0] ?_ sH ?CNa7
 case CNa7=>rfl
 rintro s7 h7<;>conv=>whnf
 (try refine gS ?_);conv=>whnf
 repeat ((first|(guard_target=_∧_;(first|refine oL ?_|refine oR ?_))|(guard_target=Exists _;refine oM ?_));(try intro _);conv=>whnf)
 refine RunsS.callN (rnum_fn L en hL s7) [0] ?_ sH ?CNa8
 case CNa8=>rfl
 rintro ⟨to,s8⟩ h8<;>conv=>whnf
 refine RunsS.subR (nx':=9) (l':=[(1,.ptr 1 0),(2,.ptr 2 0),(3,.ptr 3 0),(4,.ptr 4 0),(36,.tup [intA to,stV en s8])]) (H':=[roL L,(1,.cells 74 (stC en s6)),(2,.cells 61 [strA SynM.e0,strA SynM.e0,intA 0,intA 0,.v nilV,.v nilV,.v nilV,intA 0,intA 0,intA 0,intA 0,intA 0,intA 0,intA 0,.v nilV,intA 0,intA 0]),(3,.cells 74 [.v nilV,intA 0,intA 0,intA 0,intA 0]),(4,.cells 61 [strA it,strA pl,intA fr,intA 0,.buf 5,.buf 6,.buf 7,intA 0,intA 0,intA 0,intA 0,intA 0,intA 0,intA 0,.buf 8,intA 0,intA 0]),(5,.own 52 4 (rws Cd.row [])),(6,.own 55 7 (rws Am.row [])),(7,.own 55 7 (rws Am.row [])),(8,.own 58 3 (rws Rn.row []))]) [] ?_ sH sH
 refine goS_run tab 8 _ _ _ _ ?_;conv=>whnf
 refine RunsS.subR (nx':=9) (l':=[(1,.ptr 1 0),(2,.ptr 2 0),(3,.ptr 3 0),(4,.ptr 4 0)]) (H':=[roL L,(1,.cells 74 (stC en s8)),(2,.cells 61 [strA SynM.e0,strA SynM.e0,intA 0,intA 0,.v nilV,.v nilV,.v nilV,intA 0,intA 0,intA 0,intA 0,intA 0,intA 0,intA 0,.v nilV,intA 0,intA 0]),(3,.cells 74 [.v nilV,intA 0,intA 0,intA 0,intA 0]),(4,.cells 61 [strA it,strA pl,intA fr,intA to,.buf 5,.buf 6,.buf 7,intA 0,intA 0,intA 0,intA 0,intA 0,intA 0,intA 0,.buf 8,intA 0,intA 0]),(5,.own 52 4 (rws Cd.row [])),(6,.own 55 7 (rws Am.row [])),(7,.own 55 7 (rws Am.row [])),(8,.own 58 3 (rws Rn.row []))]) [] ?_ sH sH
 refine RunsS.join (fun (⟨cs,s9⟩:List Cd×St)=>[(1,.ptr 1 0),(2,.ptr 2 0),(3,.ptr 3 0),(4,.ptr 4 0)]) (fun (⟨cs,s9⟩:List Cd×St)=>[roL L,(1,.cells 74 (stC en s9)),(2,.cells 61 [strA SynM.e0,strA SynM.e0,intA 0,intA 0,.v nilV,.v nilV,.v nilV,intA 0,intA 0,intA 0,intA 0,intA 0,intA 0,intA 0,.v nilV,intA 0,intA 0]),(3,.cells 74 [.v nilV,intA 0,intA 0,intA 0,intA 0]),(4,.cells 61 [strA it,strA pl,intA fr,intA to,.buf 5,.buf 6,.buf 7,intA 0,intA 0,intA 0,intA 0,intA 0,intA 0,intA 0,.buf 8,intA 0,intA 0]),(5,.own 52 4 (rws Cd.row cs)),(6,.own 55 7 (rws Am.row [])),(7,.own 55 7 (rws Am.row [])),(8,.own 58 3 (rws Rn.row []))]) 9 (fun (⟨cs,s9⟩:List Cd×St)=>(cs,s9)=ropt L 1 (B wIf) [] (sb (rwd L en wIf) fun _=>rconds L en) s8) ?_ (fun meet=>?_)
 rotate_left
 ·try refine gS ?_
  conv=>whnf
  repeat ((first|(guard_target=_∧_;(first|refine oL ?_|refine oR ?_))|(guard_target=Exists _;refine oM ?_));(try intro _);conv=>whnf)
  refine RunsS.callN (risWord_fn L en s8 (B wIf)) [0] ?_ sH ?CNa9
  case CNa9=>rfl
  intro _ _
  conv=>whnf
  (try refine gS ?_);conv=>whnf
  repeat ((first|(guard_target=_∧_;(first|refine oL ?_|refine oR ?_))|(guard_target=Exists _;refine oM ?_));(try intro _);conv=>whnf)
  cases hb:rnext L 1 (B wIf) s8 with
  |false=>
   (try refine gS ?_);conv=>whnf
   repeat ((first|(guard_target=_∧_;(first|refine oL ?_|refine oR ?_))|(guard_target=Exists _;refine oM ?_));(try intro _);conv=>whnf)
   refine RunsS.subR [] (meet (([],s8)) (by exact (by unfold ropt;rw [hb];rfl))) sH sH
  |true=>
   (try refine gS ?_);conv=>whnf
   repeat ((first|(guard_target=_∧_;(first|refine oL ?_|refine oR ?_))|(guard_target=Exists _;refine oM ?_));(try intro _);conv=>whnf)
   refine RunsS.callN (rword_fn L en hL s8 (B wIf)) [0] ?_ sH ?CNa11
   case CNa11=>rfl
   rintro q1 g1<;>conv=>whnf
   (try refine gS ?_);conv=>whnf
   repeat ((first|(guard_target=_∧_;(first|refine oL ?_|refine oR ?_))|(guard_target=Exists _;refine oM ?_));(try intro _);conv=>whnf)
   refine RunsS.callN (rconds_fn L en hL q1) [0] ?_ sH ?CNa12
   case CNa12=>rfl
   rintro ⟨cs,q2⟩ g2<;>conv=>whnf
   (try refine gS ?_);conv=>whnf
   repeat ((first|(guard_target=_∧_;(first|refine oL ?_|refine oR ?_))|(guard_target=Exists _;refine oM ?_));(try intro _);conv=>whnf)
   refine RunsS.subR [(5,9)] (meet ((cs,q2)) (by exact (by unfold ropt;rw [hb];simp only [if_true,sb,←g1,←g2]))) sH sH
 rintro ⟨cs,s9⟩ h9
 (try refine gS ?_);conv=>whnf
 repeat ((first|(guard_target=_∧_;(first|refine oL ?_|refine oR ?_))|(guard_target=Exists _;refine oM ?_));(try intro _);conv=>whnf)
 refine RunsS.callN (rsign_fn L en hL s9 (B [123])) [0] ?_ sH ?CNa14
 case CNa14=>rfl
 rintro s10 h10<;>conv=>whnf
 refine RunsS.subR (nx':=9) (l':=[(1,.ptr 1 0),(2,.ptr 2 0),(3,.ptr 3 0),(4,.ptr 4 0),(50,stV en s10)]) (H':=[roL L,(1,.cells 74 (stC en s9)),(2,.cells 61 [strA SynM.e0,strA SynM.e0,intA 0,intA 0,.v nilV,.v nilV,.v nilV,intA 0,intA 0,intA 0,intA 0,intA 0,intA 0,intA 0,.v nilV,intA 0,intA 0]),(3,.cells 74 [.v nilV,intA 0,intA 0,intA 0,intA 0]),(4,.cells 61 [strA it,strA pl,intA fr,intA to,.buf 5,.buf 6,.buf 7,intA 0,intA 0,intA 0,intA 0,intA 0,intA 0,intA 0,.buf 8,intA 0,intA 0]),(5,.own 52 4 (rws Cd.row cs)),(6,.own 55 7 (rws Am.row [])),(7,.own 55 7 (rws Am.row [])),(8,.own 58 3 (rws Rn.row []))]) [] ?_ sH sH
 (try refine gS ?_);conv=>whnf
 repeat ((first|(guard_target=_∧_;(first|refine oL ?_|refine oR ?_))|(guard_target=Exists _;refine oM ?_));(try intro _);conv=>whnf)
 refine RunsS.subR [] (RunsS.loop (fun (⟨f,l,q⟩:Nat×List Am×St)=>[(1,.ptr 1 0),(2,.ptr 2 0),(3,.ptr 3 0),(4,.ptr 4 0)]) (fun (⟨f,l,q⟩:Nat×List Am×St)=>[roL L,(1,.cells 74 (stC en q)),(2,.cells 61 [strA SynM.e0,strA SynM.e0,intA 0,intA 0,.v nilV,.v nilV,.v nilV,intA 0,intA 0,intA 0,intA 0,intA 0,intA 0,intA 0,.v nilV,intA 0,intA 0]),(3,.cells 74 [.v nilV,intA 0,intA 0,intA 0,intA 0]),(4,.cells 61 [strA it,strA pl,intA fr,intA to,.buf 5,.buf 6,.buf 7,intA 0,intA 0,intA 0,intA 0,intA 0,intA 0,intA 0,.buf 8,intA 0,intA 0]),(5,.own 52 4 (rws Cd.row cs)),(6,.own 55 7 (rws Am.row l)),(7,.own 55 7 (rws Am.row [])),(8,.own 58 3 (rws Rn.row []))]) 9 (fun (⟨f,l,q⟩:Nat×List Am×St)=>(mu L q≤f∧l.length+f≤L.length+1)∧rmany L en 1 (B wIn) 8 (rinp L en) (L.length+1) [] s10=rmany L en 1 (B wIn) 8 (rinp L en) f l q) (fun (⟨f,l,q⟩:Nat×List Am×St)=>f) ?round15 ((L.length+1,[],s10)) ?J015) sH sH
 case J015=>exact (⟨⟨mu_le _,by show 0+(L.length+1)≤_;omega⟩,rfl⟩)
 rintro ⟨f,l,q⟩ hJ back
 try dsimp only at hJ back
 conv=>whnf
 try dsimp only
 refine gS ?_;conv=>whnf
 repeat ((first|(guard_target=_∧_;(first|refine oL ?_|refine oR ?_))|(guard_target=Exists _;refine oM ?_));(try intro _);conv=>whnf)
 obtain ⟨⟨hm,hf⟩,hJ⟩:=hJ
 have ll:=rws_len Am.row l
 refine RunsS.callN (risWord_fn L en q (B wIn)) [0] ?_ sH ?CNa16
 case CNa16=>rfl
 intro _ _
 conv=>whnf
 (try refine gS ?_);conv=>whnf
 repeat ((first|(guard_target=_∧_;(first|refine oL ?_|refine oR ?_))|(guard_target=Exists _;refine oM ?_));(try intro _);conv=>whnf)
 cases hb:rnext L 1 (B wIn) q with
 |true=>
  have hmu:=mu_lt (m:=sb (rroom L en l.length 8) fun _=>rinp L en) (adv1_sb2 adv_room fun _=>adv_inp) hb
  have h2':=(next_mu hb).2.2
  obtain ⟨f,rfl⟩:∃g,f=g+1:=⟨f - 1,by omega⟩
  rw [many_more hb] at hJ
  (try refine gS ?_);conv=>whnf
  repeat ((first|(guard_target=_∧_;(first|refine oL ?_|refine oR ?_))|(guard_target=Exists _;refine oM ?_));(try intro _);conv=>whnf)
  refine RunsS.callN (rroom_fn L en q (rws Am.row l).length 8) [0] ?_ sH ?CNa17
  case CNa17=>rfl
  rintro q1 g1<;>conv=>whnf
  rw [ll] at g1
  (try refine gS ?_);conv=>whnf
  repeat ((first|(guard_target=_∧_;(first|refine oL ?_|refine oR ?_))|(guard_target=Exists _;refine oM ?_));(try intro _);conv=>whnf)
  refine RunsS.callN (rword_fn L en hL q1 (B wIn)) [0] ?_ sH ?CNa18
  case CNa18=>rfl
  rintro q2 g2<;>conv=>whnf
  (try refine gS ?_);conv=>whnf
  repeat ((first|(guard_target=_∧_;(first|refine oL ?_|refine oR ?_))|(guard_target=Exists _;refine oM ?_));(try intro _);conv=>whnf)
  refine RunsS.callN (risWord_fn L en q2 (B wBack)) [0] ?_ sH ?CNa19
  case CNa19=>rfl
  intro _ _
  conv=>whnf
  (try refine gS ?_);conv=>whnf
  repeat ((first|(guard_target=_∧_;(first|refine oL ?_|refine oR ?_))|(guard_target=Exists _;refine oM ?_));(try intro _);conv=>whnf)
  cases hb2:rnext L 1 (B wBack) q2 with
  |false=>
   (try refine gS ?_);conv=>whnf
   repeat ((first|(guard_target=_∧_;(first|refine oL ?_|refine oR ?_))|(guard_target=Exists _;refine oM ?_));(try intro _);conv=>whnf)
   refine RunsS.callN (ramount_fn L en hL q2) [0] ?_ sH ?CNa20
   case CNa20=>rfl
   rintro ⟨a,q3⟩ g3<;>conv=>whnf
   (try refine gS ?_);conv=>whnf
   repeat ((first|(guard_target=_∧_;(first|refine oL ?_|refine oR ?_))|(guard_target=Exists _;refine oM ?_));(try intro _);conv=>whnf)
   have e:sb (rroom L en l.length 8) (fun _=>rinp L en) q=({a with back:=false},q3):=by simp only [sb,rt,ropt,rinp,rrun,←g1,←g2,hb2,Bool.false_eq_true,if_false,←g3]
   refine And.intro (appOb (by omega)) ?_;conv=>whnf
   (try refine gS ?_);conv=>whnf
   repeat ((first|(guard_target=_∧_;(first|refine oL ?_|refine oR ?_))|(guard_target=Exists _;refine oM ?_));(try intro _);conv=>whnf)
   refine RunsS.rowsEq (12) ((List.map_append (f:=Am.row) (l₁:=l) (l₂:=[{a with back:=false}])).symm) ?_;conv=>whnf
   refine RunsS.subR [(6,12)] (back ((f,l++[{a with back:=false}],q3)) (by exact (⟨⟨by rw [e] at hmu;show mu L q3≤f;have:mu L q3<mu L q:=hmu;omega,by rw [List.length_append];show l.length+1+f≤_;omega⟩,hJ.trans (by show (rmany L en 1 _ 8 _ f (l++[(sb (rroom L en l.length 8) (fun _=>rinp L en) q).1])) (sb (rroom L en l.length 8) (fun _=>rinp L en) q).2=_;rw [e])⟩)) (by (try dsimp only);omega)) sH sH
  |true=>
   (try refine gS ?_);conv=>whnf
   repeat ((first|(guard_target=_∧_;(first|refine oL ?_|refine oR ?_))|(guard_target=Exists _;refine oM ?_));(try intro _);conv=>whnf)
   refine RunsS.callN (rword_fn L en hL q2 (B wBack)) [0] ?_ sH ?CNa22
   case CNa22=>rfl
   rintro q3 g3<;>conv=>whnf
   (try refine gS ?_);conv=>whnf
   repeat ((first|(guard_target=_∧_;(first|refine oL ?_|refine oR ?_))|(guard_target=Exists _;refine oM ?_));(try intro _);conv=>whnf)
   refine RunsS.callN (ramount_fn L en hL q3) [0] ?_ sH ?CNa23
   case CNa23=>rfl
   rintro ⟨a,q4⟩ g4<;>conv=>whnf
   (try refine gS ?_);conv=>whnf
   repeat ((first|(guard_target=_∧_;(first|refine oL ?_|refine oR ?_))|(guard_target=Exists _;refine oM ?_));(try intro _);conv=>whnf)
   have e:sb (rroom L en l.length 8) (fun _=>rinp L en) q=({a with back:=true},q4):=by simp only [sb,rt,ropt,rinp,rrun,←g1,←g2,hb2,if_true,←g3,←g4]
   refine And.intro (appOb (by omega)) ?_;conv=>whnf
   (try refine gS ?_);conv=>whnf
   repeat ((first|(guard_target=_∧_;(first|refine oL ?_|refine oR ?_))|(guard_target=Exists _;refine oM ?_));(try intro _);conv=>whnf)
   refine RunsS.rowsEq (12) ((List.map_append (f:=Am.row) (l₁:=l) (l₂:=[{a with back:=true}])).symm) ?_;conv=>whnf
   refine RunsS.subR [(6,12)] (back ((f,l++[{a with back:=true}],q4)) (by exact (⟨⟨by rw [e] at hmu;show mu L q4≤f;have:mu L q4<mu L q:=hmu;omega,by rw [List.length_append];show l.length+1+f≤_;omega⟩,hJ.trans (by show (rmany L en 1 _ 8 _ f (l++[(sb (rroom L en l.length 8) (fun _=>rinp L en) q).1])) (sb (rroom L en l.length 8) (fun _=>rinp L en) q).2=_;rw [e])⟩)) (by (try dsimp only);omega)) sH sH
 |false=>
  (try refine gS ?_);conv=>whnf
  repeat ((first|(guard_target=_∧_;(first|refine oL ?_|refine oR ?_))|(guard_target=Exists _;refine oM ?_));(try intro _);conv=>whnf)
  have kins:=hJ.trans (many_end hb)
  clear back hJ hb
  obtain ⟨ins,gins⟩:∃z,z=l:=⟨_,rfl⟩
  obtain ⟨t1,gt1⟩:∃z,z=q:=⟨_,rfl⟩
  rw [←gins,←gt1] at kins ⊢
  clear gins gt1 hm hf ll
  refine RunsS.subR (nx':=9) (l':=[(1,.ptr 1 0),(2,.ptr 2 0),(3,.ptr 3 0),(4,.ptr 4 0)]) (H':=[roL L,(1,.cells 74 (stC en t1)),(2,.cells 61 [strA SynM.e0,strA SynM.e0,intA 0,intA 0,.v nilV,.v nilV,.v nilV,intA 0,intA 0,intA 0,intA 0,intA 0,intA 0,intA 0,.v nilV,intA 0,intA 0]),(3,.cells 74 [.v nilV,intA 0,intA 0,intA 0,intA 0]),(4,.cells 61 [strA it,strA pl,intA fr,intA to,.buf 5,.buf 6,.buf 7,intA 0,intA 0,intA 0,intA 0,intA 0,intA 0,intA 0,.buf 8,intA 0,intA 0]),(5,.own 52 4 (rws Cd.row cs)),(6,.own 55 7 (rws Am.row ins)),(7,.own 55 7 (rws Am.row [])),(8,.own 58 3 (rws Rn.row []))]) [] ?_ sH sH
  refine RunsS.subR [] (RunsS.loop (fun (⟨f,l,q⟩:Nat×List Am×St)=>[(1,.ptr 1 0),(2,.ptr 2 0),(3,.ptr 3 0),(4,.ptr 4 0)]) (fun (⟨f,l,q⟩:Nat×List Am×St)=>[roL L,(1,.cells 74 (stC en q)),(2,.cells 61 [strA SynM.e0,strA SynM.e0,intA 0,intA 0,.v nilV,.v nilV,.v nilV,intA 0,intA 0,intA 0,intA 0,intA 0,intA 0,intA 0,.v nilV,intA 0,intA 0]),(3,.cells 74 [.v nilV,intA 0,intA 0,intA 0,intA 0]),(4,.cells 61 [strA it,strA pl,intA fr,intA to,.buf 5,.buf 6,.buf 7,intA 0,intA 0,intA 0,intA 0,intA 0,intA 0,intA 0,.buf 8,intA 0,intA 0]),(5,.own 52 4 (rws Cd.row cs)),(6,.own 55 7 (rws Am.row ins)),(7,.own 55 7 (rws Am.row l)),(8,.own 58 3 (rws Rn.row []))]) 9 (fun (⟨f,l,q⟩:Nat×List Am×St)=>(mu L q≤f∧l.length+f≤L.length+1)∧rmany L en 1 (B wOut) 8 (sb (rwd L en wOut) fun _=>ramount L en) (L.length+1) [] t1=rmany L en 1 (B wOut) 8 (sb (rwd L en wOut) fun _=>ramount L en) f l q) (fun (⟨f,l,q⟩:Nat×List Am×St)=>f) ?round25 ((L.length+1,[],t1)) ?J025) sH sH
  case J025=>exact (⟨⟨mu_le _,by show 0+(L.length+1)≤_;omega⟩,rfl⟩)
  rintro ⟨f,l,q⟩ hJ back
  try dsimp only at hJ back
  conv=>whnf
  try dsimp only
  refine gS ?_;conv=>whnf
  repeat ((first|(guard_target=_∧_;(first|refine oL ?_|refine oR ?_))|(guard_target=Exists _;refine oM ?_));(try intro _);conv=>whnf)
  obtain ⟨⟨hm,hf⟩,hJ⟩:=hJ
  have ll:=rws_len Am.row l
  refine RunsS.callN (risWord_fn L en q (B wOut)) [0] ?_ sH ?CNa26
  case CNa26=>rfl
  intro _ _
  conv=>whnf
  (try refine gS ?_);conv=>whnf
  repeat ((first|(guard_target=_∧_;(first|refine oL ?_|refine oR ?_))|(guard_target=Exists _;refine oM ?_));(try intro _);conv=>whnf)
  cases hb:rnext L 1 (B wOut) q with
  |true=>
   have hmu:=mu_lt (m:=sb (rroom L en l.length 8) fun _=>sb (rwd L en wOut) fun _=>ramount L en) (adv1_sb2 adv_room fun _=>adv1_sb adv_exp fun _=>adv_amount.a) hb
   have h2':=(next_mu hb).2.2
   obtain ⟨f,rfl⟩:∃g,f=g+1:=⟨f - 1,by omega⟩
   rw [many_more hb] at hJ
   (try refine gS ?_);conv=>whnf
   repeat ((first|(guard_target=_∧_;(first|refine oL ?_|refine oR ?_))|(guard_target=Exists _;refine oM ?_));(try intro _);conv=>whnf)
   refine RunsS.callN (rroom_fn L en q (rws Am.row l).length 8) [0] ?_ sH ?CNa27
   case CNa27=>rfl
   rintro q1 g1<;>conv=>whnf
   rw [ll] at g1
   (try refine gS ?_);conv=>whnf
   repeat ((first|(guard_target=_∧_;(first|refine oL ?_|refine oR ?_))|(guard_target=Exists _;refine oM ?_));(try intro _);conv=>whnf)
   refine RunsS.callN (rword_fn L en hL q1 (B wOut)) [0] ?_ sH ?CNa28
   case CNa28=>rfl
   rintro q2 g2<;>conv=>whnf
   (try refine gS ?_);conv=>whnf
   repeat ((first|(guard_target=_∧_;(first|refine oL ?_|refine oR ?_))|(guard_target=Exists _;refine oM ?_));(try intro _);conv=>whnf)
   refine RunsS.callN (ramount_fn L en hL q2) [0] ?_ sH ?CNa29
   case CNa29=>rfl
   rintro ⟨a,q3⟩ g3<;>conv=>whnf
   (try refine gS ?_);conv=>whnf
   repeat ((first|(guard_target=_∧_;(first|refine oL ?_|refine oR ?_))|(guard_target=Exists _;refine oM ?_));(try intro _);conv=>whnf)
   have e:sb (rroom L en l.length 8) (fun _=>sb (rwd L en wOut) fun _=>ramount L en) q=(a,q3):=by simp only [sb,rt,ropt,rinp,rrun,←g1,←g2,←g3]
   refine And.intro (appOb (by omega)) ?_;conv=>whnf
   (try refine gS ?_);conv=>whnf
   repeat ((first|(guard_target=_∧_;(first|refine oL ?_|refine oR ?_))|(guard_target=Exists _;refine oM ?_));(try intro _);conv=>whnf)
   refine RunsS.rowsEq (12) ((List.map_append (f:=Am.row) (l₁:=l) (l₂:=[a])).symm) ?_;conv=>whnf
   refine RunsS.subR [(7,12)] (back ((f,l++[a],q3)) (by exact (⟨⟨by rw [e] at hmu;show mu L q3≤f;have:mu L q3<mu L q:=hmu;omega,by rw [List.length_append];show l.length+1+f≤_;omega⟩,hJ.trans (by show (rmany L en 1 _ 8 _ f (l++[(sb (rroom L en l.length 8) (fun _=>sb (rwd L en wOut) fun _=>ramount L en) q).1])) (sb (rroom L en l.length 8) (fun _=>sb (rwd L en wOut) fun _=>ramount L en) q).2=_;rw [e])⟩)) (by (try dsimp only);omega)) sH sH
  |false=>
   (try refine gS ?_);conv=>whnf
   repeat ((first|(guard_target=_∧_;(first|refine oL ?_|refine oR ?_))|(guard_target=Exists _;refine oM ?_));(try intro _);conv=>whnf)
   have kouts:=hJ.trans (many_end hb)
   clear back hJ hb
   obtain ⟨outs,gouts⟩:∃z,z=l:=⟨_,rfl⟩
   obtain ⟨t2,gt2⟩:∃z,z=q:=⟨_,rfl⟩
   rw [←gouts,←gt2] at kouts ⊢
   clear gouts gt2 hm hf ll
   refine RunsS.subR (nx':=9) (l':=[(1,.ptr 1 0),(2,.ptr 2 0),(3,.ptr 3 0),(4,.ptr 4 0),(98,stV en t2)]) (H':=[roL L,(1,.cells 74 (stC en t2)),(2,.cells 61 [strA SynM.e0,strA SynM.e0,intA 0,intA 0,.v nilV,.v nilV,.v nilV,intA 0,intA 0,intA 0,intA 0,intA 0,intA 0,intA 0,.v nilV,intA 0,intA 0]),(3,.cells 74 [.v nilV,intA 0,intA 0,intA 0,intA 0]),(4,.cells 61 [strA it,strA pl,intA fr,intA to,.buf 5,.buf 6,.buf 7,intA 0,intA 0,intA 0,intA 0,intA 0,intA 0,intA 0,.buf 8,intA 0,intA 0]),(5,.own 52 4 (rws Cd.row cs)),(6,.own 55 7 (rws Am.row ins)),(7,.own 55 7 (rws Am.row outs)),(8,.own 58 3 (rws Rn.row []))]) [] ?_ sH sH
   refine RunsS.callN (rword_fn L en hL t2 (B wRework)) [0] ?_ sH ?CNa31
   case CNa31=>rfl
   rintro s21 h21<;>conv=>whnf
   (try refine gS ?_);conv=>whnf
   repeat ((first|(guard_target=_∧_;(first|refine oL ?_|refine oR ?_))|(guard_target=Exists _;refine oM ?_));(try intro _);conv=>whnf)
   refine RunsS.callN (rratio_fn L en hL s21) [0] ?_ sH ?CNa32
   case CNa32=>rfl
   rintro ⟨⟨rwN,rwD⟩,s22⟩ h22<;>conv=>whnf
   refine RunsS.subR (nx':=9) (l':=[(1,.ptr 1 0),(2,.ptr 2 0),(3,.ptr 3 0),(4,.ptr 4 0),(100,.tup [intA rwN,intA rwD,stV en s22])]) (H':=[roL L,(1,.cells 74 (stC en t2)),(2,.cells 61 [strA SynM.e0,strA SynM.e0,intA 0,intA 0,.v nilV,.v nilV,.v nilV,intA 0,intA 0,intA 0,intA 0,intA 0,intA 0,intA 0,.v nilV,intA 0,intA 0]),(3,.cells 74 [.v nilV,intA 0,intA 0,intA 0,intA 0]),(4,.cells 61 [strA it,strA pl,intA fr,intA to,.buf 5,.buf 6,.buf 7,intA 0,intA 0,intA 0,intA 0,intA 0,intA 0,intA 0,.buf 8,intA 0,intA 0]),(5,.own 52 4 (rws Cd.row cs)),(6,.own 55 7 (rws Am.row ins)),(7,.own 55 7 (rws Am.row outs)),(8,.own 58 3 (rws Rn.row []))]) [] ?_ sH sH
   (try refine gS ?_);conv=>whnf
   repeat ((first|(guard_target=_∧_;(first|refine oL ?_|refine oR ?_))|(guard_target=Exists _;refine oM ?_));(try intro _);conv=>whnf)
   refine RunsS.callN (rsign_fn L en hL s22 (B [59])) [0] ?_ sH ?CNa33
   case CNa33=>rfl
   rintro s23 h23<;>conv=>whnf
   (try refine gS ?_);conv=>whnf
   repeat ((first|(guard_target=_∧_;(first|refine oL ?_|refine oR ?_))|(guard_target=Exists _;refine oM ?_));(try intro _);conv=>whnf)
   refine RunsS.callN (rword_fn L en hL s23 (B wYield)) [0] ?_ sH ?CNa34
   case CNa34=>rfl
   rintro s24 h24<;>conv=>whnf
   (try refine gS ?_);conv=>whnf
   repeat ((first|(guard_target=_∧_;(first|refine oL ?_|refine oR ?_))|(guard_target=Exists _;refine oM ?_));(try intro _);conv=>whnf)
   refine RunsS.callN (rratio_fn L en hL s24) [0] ?_ sH ?CNa35
   case CNa35=>rfl
   rintro ⟨⟨yN,yD⟩,s25⟩ h25<;>conv=>whnf
   refine RunsS.subR (nx':=9) (l':=[(1,.ptr 1 0),(2,.ptr 2 0),(3,.ptr 3 0),(4,.ptr 4 0),(110,.tup [intA yN,intA yD,stV en s25])]) (H':=[roL L,(1,.cells 74 (stC en s22)),(2,.cells 61 [strA SynM.e0,strA SynM.e0,intA 0,intA 0,.v nilV,.v nilV,.v nilV,intA 0,intA 0,intA 0,intA 0,intA 0,intA 0,intA 0,.v nilV,intA 0,intA 0]),(3,.cells 74 [.v nilV,intA 0,intA 0,intA 0,intA 0]),(4,.cells 61 [strA it,strA pl,intA fr,intA to,.buf 5,.buf 6,.buf 7,intA rwN,intA rwD,intA 0,intA 0,intA 0,intA 0,intA 0,.buf 8,intA 0,intA 0]),(5,.own 52 4 (rws Cd.row cs)),(6,.own 55 7 (rws Am.row ins)),(7,.own 55 7 (rws Am.row outs)),(8,.own 58 3 (rws Rn.row []))]) [] ?_ sH sH
   (try refine gS ?_);conv=>whnf
   repeat ((first|(guard_target=_∧_;(first|refine oL ?_|refine oR ?_))|(guard_target=Exists _;refine oM ?_));(try intro _);conv=>whnf)
   refine RunsS.callN (rword_fn L en hL s25 (B wWithin)) [0] ?_ sH ?CNa36
   case CNa36=>rfl
   rintro s26 h26<;>conv=>whnf
   (try refine gS ?_);conv=>whnf
   repeat ((first|(guard_target=_∧_;(first|refine oL ?_|refine oR ?_))|(guard_target=Exists _;refine oM ?_));(try intro _);conv=>whnf)
   refine RunsS.callN (rratio_fn L en hL s26) [0] ?_ sH ?CNa37
   case CNa37=>rfl
   rintro ⟨⟨tN,tD⟩,s27⟩ h27<;>conv=>whnf
   refine RunsS.subR (nx':=9) (l':=[(1,.ptr 1 0),(2,.ptr 2 0),(3,.ptr 3 0),(4,.ptr 4 0),(119,.tup [intA tN,intA tD,stV en s27])]) (H':=[roL L,(1,.cells 74 (stC en s25)),(2,.cells 61 [strA SynM.e0,strA SynM.e0,intA 0,intA 0,.v nilV,.v nilV,.v nilV,intA 0,intA 0,intA 0,intA 0,intA 0,intA 0,intA 0,.v nilV,intA 0,intA 0]),(3,.cells 74 [.v nilV,intA 0,intA 0,intA 0,intA 0]),(4,.cells 61 [strA it,strA pl,intA fr,intA to,.buf 5,.buf 6,.buf 7,intA rwN,intA rwD,intA yN,intA yD,intA 0,intA 0,intA 0,.buf 8,intA 0,intA 0]),(5,.own 52 4 (rws Cd.row cs)),(6,.own 55 7 (rws Am.row ins)),(7,.own 55 7 (rws Am.row outs)),(8,.own 58 3 (rws Rn.row []))]) [] ?_ sH sH
   (try refine gS ?_);conv=>whnf
   repeat ((first|(guard_target=_∧_;(first|refine oL ?_|refine oR ?_))|(guard_target=Exists _;refine oM ?_));(try intro _);conv=>whnf)
   refine RunsS.callN (rsign_fn L en hL s27 (B [59])) [0] ?_ sH ?CNa38
   case CNa38=>rfl
   rintro s28 h28<;>conv=>whnf
   (try refine gS ?_);conv=>whnf
   repeat ((first|(guard_target=_∧_;(first|refine oL ?_|refine oR ?_))|(guard_target=Exists _;refine oM ?_));(try intro _);conv=>whnf)
   refine RunsS.callN (rword_fn L en hL s28 (B wLead)) [0] ?_ sH ?CNa39
   case CNa39=>rfl
   rintro s29 h29<;>conv=>whnf
   (try refine gS ?_);conv=>whnf
   repeat ((first|(guard_target=_∧_;(first|refine oL ?_|refine oR ?_))|(guard_target=Exists _;refine oM ?_));(try intro _);conv=>whnf)
   refine RunsS.callN (rnum_fn L en hL s29) [0] ?_ sH ?CNa40
   case CNa40=>rfl
   rintro ⟨ld,s30⟩ h30<;>conv=>whnf
   refine RunsS.subR (nx':=9) (l':=[(1,.ptr 1 0),(2,.ptr 2 0),(3,.ptr 3 0),(4,.ptr 4 0),(129,.tup [intA ld,stV en s30])]) (H':=[roL L,(1,.cells 74 (stC en s27)),(2,.cells 61 [strA SynM.e0,strA SynM.e0,intA 0,intA 0,.v nilV,.v nilV,.v nilV,intA 0,intA 0,intA 0,intA 0,intA 0,intA 0,intA 0,.v nilV,intA 0,intA 0]),(3,.cells 74 [.v nilV,intA 0,intA 0,intA 0,intA 0]),(4,.cells 61 [strA it,strA pl,intA fr,intA to,.buf 5,.buf 6,.buf 7,intA rwN,intA rwD,intA yN,intA yD,intA tN,intA tD,intA 0,.buf 8,intA 0,intA 0]),(5,.own 52 4 (rws Cd.row cs)),(6,.own 55 7 (rws Am.row ins)),(7,.own 55 7 (rws Am.row outs)),(8,.own 58 3 (rws Rn.row []))]) [] ?_ sH sH
   (try refine gS ?_);conv=>whnf
   repeat ((first|(guard_target=_∧_;(first|refine oL ?_|refine oR ?_))|(guard_target=Exists _;refine oM ?_));(try intro _);conv=>whnf)
   refine RunsS.callN (rsign_fn L en hL s30 (B [59])) [0] ?_ sH ?CNa41
   case CNa41=>rfl
   rintro s31 h31<;>conv=>whnf
   refine RunsS.subR (nx':=9) (l':=[(1,.ptr 1 0),(2,.ptr 2 0),(3,.ptr 3 0),(4,.ptr 4 0),(134,stV en s31)]) (H':=[roL L,(1,.cells 74 (stC en s30)),(2,.cells 61 [strA SynM.e0,strA SynM.e0,intA 0,intA 0,.v nilV,.v nilV,.v nilV,intA 0,intA 0,intA 0,intA 0,intA 0,intA 0,intA 0,.v nilV,intA 0,intA 0]),(3,.cells 74 [.v nilV,intA 0,intA 0,intA 0,intA 0]),(4,.cells 61 [strA it,strA pl,intA fr,intA to,.buf 5,.buf 6,.buf 7,intA rwN,intA rwD,intA yN,intA yD,intA tN,intA tD,intA ld,.buf 8,intA 0,intA 0]),(5,.own 52 4 (rws Cd.row cs)),(6,.own 55 7 (rws Am.row ins)),(7,.own 55 7 (rws Am.row outs)),(8,.own 58 3 (rws Rn.row []))]) [] ?_ sH sH
   (try refine gS ?_);conv=>whnf
   repeat ((first|(guard_target=_∧_;(first|refine oL ?_|refine oR ?_))|(guard_target=Exists _;refine oM ?_));(try intro _);conv=>whnf)
   refine RunsS.subR [] (RunsS.loop (fun (⟨f,l,q⟩:Nat×List Rn×St)=>[(1,.ptr 1 0),(2,.ptr 2 0),(3,.ptr 3 0),(4,.ptr 4 0)]) (fun (⟨f,l,q⟩:Nat×List Rn×St)=>[roL L,(1,.cells 74 (stC en q)),(2,.cells 61 [strA SynM.e0,strA SynM.e0,intA 0,intA 0,.v nilV,.v nilV,.v nilV,intA 0,intA 0,intA 0,intA 0,intA 0,intA 0,intA 0,.v nilV,intA 0,intA 0]),(3,.cells 74 [.v nilV,intA 0,intA 0,intA 0,intA 0]),(4,.cells 61 [strA it,strA pl,intA fr,intA to,.buf 5,.buf 6,.buf 7,intA rwN,intA rwD,intA yN,intA yD,intA tN,intA tD,intA ld,.buf 8,intA 0,intA 0]),(5,.own 52 4 (rws Cd.row cs)),(6,.own 55 7 (rws Am.row ins)),(7,.own 55 7 (rws Am.row outs)),(8,.own 58 3 (rws Rn.row l))]) 9 (fun (⟨f,l,q⟩:Nat×List Rn×St)=>(mu L q≤f∧l.length+f≤L.length+1)∧rmany L en 1 (B wRun) 8 (rrun L en) (L.length+1) [] s31=rmany L en 1 (B wRun) 8 (rrun L en) f l q) (fun (⟨f,l,q⟩:Nat×List Rn×St)=>f) ?round42 ((L.length+1,[],s31)) ?J042) sH sH
   case J042=>exact (⟨⟨mu_le _,by show 0+(L.length+1)≤_;omega⟩,rfl⟩)
   rintro ⟨f,l,q⟩ hJ back
   try dsimp only at hJ back
   conv=>whnf
   try dsimp only
   refine gS ?_;conv=>whnf
   repeat ((first|(guard_target=_∧_;(first|refine oL ?_|refine oR ?_))|(guard_target=Exists _;refine oM ?_));(try intro _);conv=>whnf)
   obtain ⟨⟨hm,hf⟩,hJ⟩:=hJ
   have ll:=rws_len Rn.row l
   refine RunsS.callN (risWord_fn L en q (B wRun)) [0] ?_ sH ?CNa43
   case CNa43=>rfl
   intro _ _
   conv=>whnf
   (try refine gS ?_);conv=>whnf
   repeat ((first|(guard_target=_∧_;(first|refine oL ?_|refine oR ?_))|(guard_target=Exists _;refine oM ?_));(try intro _);conv=>whnf)
   cases hb:rnext L 1 (B wRun) q with
   |true=>
    have hmu:=mu_lt (m:=sb (rroom L en l.length 8) fun _=>rrun L en) (adv1_sb2 adv_room fun _=>adv_run) hb
    have h2':=(next_mu hb).2.2
    obtain ⟨f,rfl⟩:∃g,f=g+1:=⟨f - 1,by omega⟩
    rw [many_more hb] at hJ
    (try refine gS ?_);conv=>whnf
    repeat ((first|(guard_target=_∧_;(first|refine oL ?_|refine oR ?_))|(guard_target=Exists _;refine oM ?_));(try intro _);conv=>whnf)
    refine RunsS.callN (rroom_fn L en q (rws Rn.row l).length 8) [0] ?_ sH ?CNa44
    case CNa44=>rfl
    rintro q1 g1<;>conv=>whnf
    rw [ll] at g1
    (try refine gS ?_);conv=>whnf
    repeat ((first|(guard_target=_∧_;(first|refine oL ?_|refine oR ?_))|(guard_target=Exists _;refine oM ?_));(try intro _);conv=>whnf)
    refine RunsS.callN (rword_fn L en hL q1 (B wRun)) [0] ?_ sH ?CNa45
    case CNa45=>rfl
    rintro q2 g2<;>conv=>whnf
    (try refine gS ?_);conv=>whnf
    repeat ((first|(guard_target=_∧_;(first|refine oL ?_|refine oR ?_))|(guard_target=Exists _;refine oM ?_));(try intro _);conv=>whnf)
    refine RunsS.callN (rname_fn L en hL q2) [0] ?_ sH ?CNa46
    case CNa46=>rfl
    rintro ⟨m,q3⟩ g3<;>conv=>whnf
    (try refine gS ?_);conv=>whnf
    repeat ((first|(guard_target=_∧_;(first|refine oL ?_|refine oR ?_))|(guard_target=Exists _;refine oM ?_));(try intro _);conv=>whnf)
    refine RunsS.callN (rnum_fn L en hL q3) [0] ?_ sH ?CNa47
    case CNa47=>rfl
    rintro ⟨sl,q4⟩ g4<;>conv=>whnf
    (try refine gS ?_);conv=>whnf
    repeat ((first|(guard_target=_∧_;(first|refine oL ?_|refine oR ?_))|(guard_target=Exists _;refine oM ?_));(try intro _);conv=>whnf)
    refine RunsS.callN (rsign_fn L en hL q4 (B [59])) [0] ?_ sH ?CNa48
    case CNa48=>rfl
    rintro q5 g5<;>conv=>whnf
    (try refine gS ?_);conv=>whnf
    repeat ((first|(guard_target=_∧_;(first|refine oL ?_|refine oR ?_))|(guard_target=Exists _;refine oM ?_));(try intro _);conv=>whnf)
    have e:sb (rroom L en l.length 8) (fun _=>rrun L en) q=(⟨m,sl,0⟩,q5):=by simp only [sb,rt,ropt,rinp,rrun,←g1,←g2,←g3,←g4,←g5]
    refine And.intro (appOb (by omega)) ?_;conv=>whnf
    (try refine gS ?_);conv=>whnf
    repeat ((first|(guard_target=_∧_;(first|refine oL ?_|refine oR ?_))|(guard_target=Exists _;refine oM ?_));(try intro _);conv=>whnf)
    refine RunsS.rowsEq (11) ((List.map_append (f:=Rn.row) (l₁:=l) (l₂:=[⟨m,sl,0⟩])).symm) ?_;conv=>whnf
    refine RunsS.subR [(8,11)] (back ((f,l++[⟨m,sl,0⟩],q5)) (by exact (⟨⟨by rw [e] at hmu;show mu L q5≤f;have:mu L q5<mu L q:=hmu;omega,by rw [List.length_append];show l.length+1+f≤_;omega⟩,hJ.trans (by show (rmany L en 1 _ 8 _ f (l++[(sb (rroom L en l.length 8) (fun _=>rrun L en) q).1])) (sb (rroom L en l.length 8) (fun _=>rrun L en) q).2=_;rw [e])⟩)) (by (try dsimp only);omega)) sH sH
   |false=>
    (try refine gS ?_);conv=>whnf
    repeat ((first|(guard_target=_∧_;(first|refine oL ?_|refine oR ?_))|(guard_target=Exists _;refine oM ?_));(try intro _);conv=>whnf)
    have kruns:=hJ.trans (many_end hb)
    clear back hJ hb
    obtain ⟨runs,gruns⟩:∃z,z=l:=⟨_,rfl⟩
    obtain ⟨t3,gt3⟩:∃z,z=q:=⟨_,rfl⟩
    rw [←gruns,←gt3] at kruns ⊢
    clear gruns gt3 hm hf ll
    refine RunsS.subR (nx':=9) (l':=[(1,.ptr 1 0),(2,.ptr 2 0),(3,.ptr 3 0),(4,.ptr 4 0)]) (H':=[roL L,(1,.cells 74 (stC en t3)),(2,.cells 61 [strA SynM.e0,strA SynM.e0,intA 0,intA 0,.v nilV,.v nilV,.v nilV,intA 0,intA 0,intA 0,intA 0,intA 0,intA 0,intA 0,.v nilV,intA 0,intA 0]),(3,.cells 74 [.v nilV,intA 0,intA 0,intA 0,intA 0]),(4,.cells 61 [strA it,strA pl,intA fr,intA to,.buf 5,.buf 6,.buf 7,intA rwN,intA rwD,intA yN,intA yD,intA tN,intA tD,intA ld,.buf 8,intA 0,intA 0]),(5,.own 52 4 (rws Cd.row cs)),(6,.own 55 7 (rws Am.row ins)),(7,.own 55 7 (rws Am.row outs)),(8,.own 58 3 (rws Rn.row runs))]) [] ?_ sH sH
    refine RunsS.held tab (.fl 0 (.fl 1 (.e1 2 [0] (.e1 3 [] (.e1 4 [] .done))))) (by kernel_rfl) ?_;conv=>whnf
    (try refine gR ?_);conv=>whnf
    repeat ((first|(guard_target=_∧_;(first|refine oL ?_|refine oR ?_|refine oB ?_))|(guard_target=Exists _;refine oM ?_));(try intro _);conv=>whnf)
    (try refine gS ?_);conv=>whnf
    repeat ((first|(guard_target=_∧_;(first|refine oL ?_|refine oR ?_))|(guard_target=Exists _;refine oM ?_));(try intro _);conv=>whnf)
    refine EffR.callN (rsign_fn L en hL t3 (B [125])) [0] ?_ sH ?CNa50
    case CNa50=>rfl
    rintro t4 h40<;>conv=>whnf
    conv=>whnf
    try refine oB ?_
    (try refine gR ?_);conv=>whnf
    repeat ((first|(guard_target=_∧_;(first|refine oL ?_|refine oR ?_|refine oB ?_))|(guard_target=Exists _;refine oM ?_));(try intro _);conv=>whnf)
    (try refine gS ?_);conv=>whnf
    repeat ((first|(guard_target=_∧_;(first|refine oL ?_|refine oR ?_))|(guard_target=Exists _;refine oM ?_));(try intro _);conv=>whnf)
    try refine RunsS.retU ?_
    try refine RunsS.finU ?_
    exact UnwS.ret tab Tryz.func144 rfl (EndS.mk (((⟨it,pl,fr,to,hd0,cs,hd0,ins,hd0,outs,rwN,rwD,yN,yD,tN,tD,ld,hd0,runs,0,0⟩:RcV),t4)) ((by simp only [rrec,sb,rt,←h1,←h2,←h3,←h4,←h5,←h6,←h7,←h8,←h9,←h10,kins,kouts,←h21,←h22,←h23,←h24,←h25,←h26,←h27,←h28,←h29,←h30,←h31,kruns,←h40])) [(1,5),(2,6),(3,7),(4,8)] sH rfl rfl (okRet rfl rfl))
end
end Go.Proofs.YtgbeechjghajcaaGreatDoor

namespace Go.SrcM
open Go Go.Fw Go.RatM
structure TopLen (n:Nat) (s:SrcV):Prop where
 U:s.units.length≤n
 I:s.items.length≤n
 P:s.plants.length≤n
 M:s.machines.length≤n
 O:s.options.length≤n
 F:s.forbids.length≤n
 R:s.recipes.length≤n
 S:s.swaps.length≤n
end Go.SrcM
namespace Go.Proofs.YtgbeechjghajcaaGreatDoor
open Go Go.Fw Go.NatM Go.RatM Go.SrcM Go.SynM
set_option maxRecDepth 100000
set_option maxHeartbeats 99999999
abbrev srcH (b:Nat) (s:SrcV):SH:=[(b,.own 81 8 (rws Un.row s.units)),(b+1,.own 83 6 (rws It.row s.items)),(b+2,.own 9 1 (rws strR10 s.plants)),(b+3,.own 85 4 (rws Mc.row s.machines)),
 (b+4,.own 50 2 (rws OpV.row s.options)),(b+5,.own 53 1 (rws FbV.row s.forbids)),(b+6,.own 61 17 (rws RcV.row s.recipes)),(b+7,.own 89 4 (rws Sw.row s.swaps))]
abbrev srcS (b:Nat):SV:=.agg [.buf b,.buf (b+1),.buf (b+2),.buf (b+3),.buf (b+4),.buf (b+5),.buf (b+6),.buf (b+7)]
structure DefJ (L:List Tok) (en:Int) (src:SrcV) (s:St) (n:Nat) (y:SrcV×St) (G:Nat→Prop) (h:Array Obj):Prop where
 eq:rdef L en src.bare s=(y.1.bare,y.2)
 sub:y.1.sub G h
 len:TopLen (n+1) y.1
theorem snoc_len {α:Type} {l:List α} {a:α} {n:Nat} (h:l.length≤n):(l++[a]).length≤n+1:=by rw [List.length_append];exact Nat.succ_le_succ h
theorem snoc_mem {α:Type} {l:List α} {a:α} {Q:α→Prop} (h:∀x∈l,Q x) (ha:Q a):∀x∈l++[a],Q x:=mem_snoc h ha
section
variable (L:List Tok) (en:Int) (hL:L.length≤65536) (s:St)
include hL
theorem rdef_fn (src:SrcV) (n:Nat) (hn:TopLen n src) (hN:n≤900000):FnX Tryz.prog 89 9 [srcS 1,stV en s] (roL L::srcH 1 src) (fun G h=>src.sub G h) (DefJ L en src s n) (fun y=>.ret (.tup [srcS 9,stV en y.2]) 17 (srcH 9 y.1)):=by
 have lU:=rws_len Un.row src.units
 have lI:=rws_len It.row src.items
 have lP:=rws_len strR10 src.plants
 have lM:=rws_len Mc.row src.machines
 have lO:=rws_len OpV.row src.options
 have lF:=rws_len FbV.row src.forbids
 have lR:=rws_len RcV.row src.recipes
 have lS:=rws_len Sw.row src.swaps
 obtain ⟨hU,hI,hP',hM,hO,hF,hR,hS⟩:=hn
 have hn:TopLen (n+1) src:=⟨Nat.le_succ_of_le hU,Nat.le_succ_of_le hI,Nat.le_succ_of_le hP',Nat.le_succ_of_le hM,Nat.le_succ_of_le hO,Nat.le_succ_of_le hF,Nat.le_succ_of_le hR,Nat.le_succ_of_le hS⟩
 refine FnX.of Tryz.func89 (by kernel_rfl) rfl Tryz.ntmps89 rfl fun E0 F G h N hP w0 cs=>?_
 conv=>whnf
 refine gS ?_;conv=>whnf
 repeat ((first|(guard_target=_∧_;(first|refine oL ?_|refine oR ?_))|(guard_target=Exists _;refine oM ?_));(try intro _);conv=>whnf)
 refine RunsS.callN (risWord_fn L en s (B wUnit)) [0] ?_ sH ?CNa1
 case CNa1=>rfl
 intro _ _
 conv=>whnf
 (try refine goS_run tab 0 _ _ _ _ ?_);conv=>whnf
 repeat ((first|(guard_target=_∧_;(first|refine oL ?_|refine oR ?_))|(guard_target=Exists _;refine oM ?_));(try intro _);conv=>whnf)
 refine RunsS.subR (nx':=13) (l':=[(2,.ptr 9 0),(3,.ptr 10 0),(4,.ptr 11 0),(5,.ptr 12 0),(23,.v (.bool (rnext L 1 (B wUnit) s)))]) (H':=[roL L,(9,.cells 32 [.buf 1,.buf 2,.buf 3,.buf 4,.buf 5,.buf 6,.buf 7,.buf 8]),(10,.cells 74 (stC en s)),(11,.cells 32 [.v nilV,.v nilV,.v nilV,.v nilV,.v nilV,.v nilV,.v nilV,.v nilV]),(12,.cells 74 [.v nilV,intA 0,intA 0,intA 0,intA 0]),(1,.own 81 8 (rws Un.row src.units)),(2,.own 83 6 (rws It.row src.items)),(3,.own 9 1 (rws strR10 src.plants)),(4,.own 85 4 (rws Mc.row src.machines)),(5,.own 50 2 (rws OpV.row src.options)),(6,.own 53 1 (rws FbV.row src.forbids)),(7,.own 61 17 (rws RcV.row src.recipes)),(8,.own 89 4 (rws Sw.row src.swaps))]) [] ?_ sH sH
 cases hbU:rnext L 1 (B wUnit) s with
 |true=>
  (try refine gS ?_);conv=>whnf
  repeat ((first|(guard_target=_∧_;(first|refine oL ?_|refine oR ?_))|(guard_target=Exists _;refine oM ?_));(try intro _);conv=>whnf)
  refine RunsS.callN (rroom_fn L en s (rws Un.row src.units).length 32) [0] ?_ sH ?CNa2
  case CNa2=>rfl
  rintro s1 h1<;>conv=>whnf
  rw [lU] at h1
  (try refine gS ?_);conv=>whnf
  repeat ((first|(guard_target=_∧_;(first|refine oL ?_|refine oR ?_))|(guard_target=Exists _;refine oM ?_));(try intro _);conv=>whnf)
  refine RunsS.callN (runit_fn L en hL s1) [0] ?_ sH ?CNa3
  case CNa3=>rfl
  rintro ⟨a,s2⟩ h2<;>conv=>whnf
  (try refine gS ?_);conv=>whnf
  repeat ((first|(guard_target=_∧_;(first|refine oL ?_|refine oR ?_))|(guard_target=Exists _;refine oM ?_));(try intro _);conv=>whnf)
  refine And.intro (appOb (by omega)) ?_;conv=>whnf
  (try refine gS ?_);conv=>whnf
  repeat ((first|(guard_target=_∧_;(first|refine oL ?_|refine oR ?_))|(guard_target=Exists _;refine oM ?_));(try intro _);conv=>whnf)
  refine RunsS.rowsEq (16) ((List.map_append (f:=Un.row) (l₁:=src.units) (l₂:=[a])).symm) ?_;conv=>whnf
  refine RunsS.held tab (.fl 0 (.fl 1 (.e1 2 [1] (.e1 3 [] .done)))) (by kernel_rfl) ?_;conv=>whnf
  (try refine gR ?_);conv=>whnf
  repeat ((first|(guard_target=_∧_;(first|refine oL ?_|refine oR ?_|refine oB ?_))|(guard_target=Exists _;refine oM ?_));(try intro _);conv=>whnf)
  (try refine gS ?_);conv=>whnf
  repeat ((first|(guard_target=_∧_;(first|refine oL ?_|refine oR ?_))|(guard_target=Exists _;refine oM ?_));(try intro _);conv=>whnf)
  try refine RunsS.retU ?_
  try refine RunsS.finU ?_
  exact UnwS.ret tab Tryz.func89 rfl (EndX.mk (N) ((({src with units:=src.units++[a]},s2):SrcV×St)) (fun h U=>⟨(by simp only [rdef,rbr,hbU,Bool.false_eq_true,if_true,if_false];show (sb (rroom L en src.units.length 32) _) s=_;simp only [sb,rt,←h1,←h2,SrcV.bare]),SrcV.sub.up ⟨hP.o,hP.f,hP.r⟩ U,⟨snoc_len hU,hn.I,hn.P,hn.M,hn.O,hn.F,hn.R,hn.S⟩⟩) [(9,16),(10,2),(11,3),(12,4),(13,5),(14,6),(15,7),(16,8)] sH rfl rfl (okRet rfl rfl))
 |false=>
  (try refine gS ?_);conv=>whnf
  repeat ((first|(guard_target=_∧_;(first|refine oL ?_|refine oR ?_))|(guard_target=Exists _;refine oM ?_));(try intro _);conv=>whnf)
  refine RunsS.callN (risWord_fn L en s (B wItem)) [0] ?_ sH ?CNa4
  case CNa4=>rfl
  intro _ _
  conv=>whnf
  (try refine goS_run tab 0 _ _ _ _ ?_);conv=>whnf
  repeat ((first|(guard_target=_∧_;(first|refine oL ?_|refine oR ?_))|(guard_target=Exists _;refine oM ?_));(try intro _);conv=>whnf)
  refine RunsS.subR (nx':=13) (l':=[(2,.ptr 9 0),(3,.ptr 10 0),(4,.ptr 11 0),(5,.ptr 12 0),(42,.v (.bool (rnext L 1 (B wItem) s)))]) (H':=[roL L,(9,.cells 32 [.buf 1,.buf 2,.buf 3,.buf 4,.buf 5,.buf 6,.buf 7,.buf 8]),(10,.cells 74 (stC en s)),(11,.cells 32 [.v nilV,.v nilV,.v nilV,.v nilV,.v nilV,.v nilV,.v nilV,.v nilV]),(12,.cells 74 [.v nilV,intA 0,intA 0,intA 0,intA 0]),(1,.own 81 8 (rws Un.row src.units)),(2,.own 83 6 (rws It.row src.items)),(3,.own 9 1 (rws strR10 src.plants)),(4,.own 85 4 (rws Mc.row src.machines)),(5,.own 50 2 (rws OpV.row src.options)),(6,.own 53 1 (rws FbV.row src.forbids)),(7,.own 61 17 (rws RcV.row src.recipes)),(8,.own 89 4 (rws Sw.row src.swaps))]) [] ?_ sH sH
  cases hbI:rnext L 1 (B wItem) s with
  |true=>
   (try refine gS ?_);conv=>whnf
   repeat ((first|(guard_target=_∧_;(first|refine oL ?_|refine oR ?_))|(guard_target=Exists _;refine oM ?_));(try intro _);conv=>whnf)
   refine RunsS.callN (rroom_fn L en s (rws It.row src.items).length 32) [0] ?_ sH ?CNa5
   case CNa5=>rfl
   rintro s1 h1<;>conv=>whnf
   rw [lI] at h1
   (try refine gS ?_);conv=>whnf
   repeat ((first|(guard_target=_∧_;(first|refine oL ?_|refine oR ?_))|(guard_target=Exists _;refine oM ?_));(try intro _);conv=>whnf)
   refine RunsS.callN (ritem_fn L en hL s1) [0] ?_ sH ?CNa6
   case CNa6=>rfl
   rintro ⟨a,s2⟩ h2<;>conv=>whnf
   (try refine gS ?_);conv=>whnf
   repeat ((first|(guard_target=_∧_;(first|refine oL ?_|refine oR ?_))|(guard_target=Exists _;refine oM ?_));(try intro _);conv=>whnf)
   refine And.intro (appOb (by omega)) ?_;conv=>whnf
   (try refine gS ?_);conv=>whnf
   repeat ((first|(guard_target=_∧_;(first|refine oL ?_|refine oR ?_))|(guard_target=Exists _;refine oM ?_));(try intro _);conv=>whnf)
   refine RunsS.rowsEq (16) ((List.map_append (f:=It.row) (l₁:=src.items) (l₂:=[a])).symm) ?_;conv=>whnf
   refine RunsS.held tab (.fl 0 (.fl 1 (.e1 2 [1] (.e1 3 [] .done)))) (by kernel_rfl) ?_;conv=>whnf
   (try refine gR ?_);conv=>whnf
   repeat ((first|(guard_target=_∧_;(first|refine oL ?_|refine oR ?_|refine oB ?_))|(guard_target=Exists _;refine oM ?_));(try intro _);conv=>whnf)
   (try refine gS ?_);conv=>whnf
   repeat ((first|(guard_target=_∧_;(first|refine oL ?_|refine oR ?_))|(guard_target=Exists _;refine oM ?_));(try intro _);conv=>whnf)
   try refine RunsS.retU ?_
   try refine RunsS.finU ?_
   exact UnwS.ret tab Tryz.func89 rfl (EndX.mk (N) ((({src with items:=src.items++[a]},s2):SrcV×St)) (fun h U=>⟨(by simp only [rdef,rbr,hbU,hbI,Bool.false_eq_true,if_true,if_false];show (sb (rroom L en src.items.length 32) _) s=_;simp only [sb,rt,←h1,←h2,SrcV.bare]),SrcV.sub.up ⟨hP.o,hP.f,hP.r⟩ U,⟨hn.U,snoc_len hI,hn.P,hn.M,hn.O,hn.F,hn.R,hn.S⟩⟩) [(9,1),(10,16),(11,3),(12,4),(13,5),(14,6),(15,7),(16,8)] sH rfl rfl (okRet rfl rfl))
  |false=>
   (try refine gS ?_);conv=>whnf
   repeat ((first|(guard_target=_∧_;(first|refine oL ?_|refine oR ?_))|(guard_target=Exists _;refine oM ?_));(try intro _);conv=>whnf)
   refine RunsS.callN (risWord_fn L en s (B wPlant)) [0] ?_ sH ?CNa7
   case CNa7=>rfl
   intro _ _
   conv=>whnf
   (try refine goS_run tab 0 _ _ _ _ ?_);conv=>whnf
   repeat ((first|(guard_target=_∧_;(first|refine oL ?_|refine oR ?_))|(guard_target=Exists _;refine oM ?_));(try intro _);conv=>whnf)
   refine RunsS.subR (nx':=13) (l':=[(2,.ptr 9 0),(3,.ptr 10 0),(4,.ptr 11 0),(5,.ptr 12 0),(61,.v (.bool (rnext L 1 (B wPlant) s)))]) (H':=[roL L,(9,.cells 32 [.buf 1,.buf 2,.buf 3,.buf 4,.buf 5,.buf 6,.buf 7,.buf 8]),(10,.cells 74 (stC en s)),(11,.cells 32 [.v nilV,.v nilV,.v nilV,.v nilV,.v nilV,.v nilV,.v nilV,.v nilV]),(12,.cells 74 [.v nilV,intA 0,intA 0,intA 0,intA 0]),(1,.own 81 8 (rws Un.row src.units)),(2,.own 83 6 (rws It.row src.items)),(3,.own 9 1 (rws strR10 src.plants)),(4,.own 85 4 (rws Mc.row src.machines)),(5,.own 50 2 (rws OpV.row src.options)),(6,.own 53 1 (rws FbV.row src.forbids)),(7,.own 61 17 (rws RcV.row src.recipes)),(8,.own 89 4 (rws Sw.row src.swaps))]) [] ?_ sH sH
   cases hbP:rnext L 1 (B wPlant) s with
   |true=>
    (try refine gS ?_);conv=>whnf
    repeat ((first|(guard_target=_∧_;(first|refine oL ?_|refine oR ?_))|(guard_target=Exists _;refine oM ?_));(try intro _);conv=>whnf)
    refine RunsS.callN (rroom_fn L en s (rws strR10 src.plants).length 8) [0] ?_ sH ?CNa8
    case CNa8=>rfl
    rintro s1 h1<;>conv=>whnf
    rw [lP] at h1
    (try refine gS ?_);conv=>whnf
    repeat ((first|(guard_target=_∧_;(first|refine oL ?_|refine oR ?_))|(guard_target=Exists _;refine oM ?_));(try intro _);conv=>whnf)
    refine RunsS.callN (rword_fn L en hL s1 (B wPlant)) [0] ?_ sH ?CNa9
    case CNa9=>rfl
    rintro s2 h2<;>conv=>whnf
    (try refine gS ?_);conv=>whnf
    repeat ((first|(guard_target=_∧_;(first|refine oL ?_|refine oR ?_))|(guard_target=Exists _;refine oM ?_));(try intro _);conv=>whnf)
    refine RunsS.callN (rname_fn L en hL s2) [0] ?_ sH ?CNa10
    case CNa10=>rfl
    rintro ⟨a,s3⟩ h3<;>conv=>whnf
    (try refine gS ?_);conv=>whnf
    repeat ((first|(guard_target=_∧_;(first|refine oL ?_|refine oR ?_))|(guard_target=Exists _;refine oM ?_));(try intro _);conv=>whnf)
    refine And.intro (appOb (by omega)) ?_;conv=>whnf
    (try refine gS ?_);conv=>whnf
    repeat ((first|(guard_target=_∧_;(first|refine oL ?_|refine oR ?_))|(guard_target=Exists _;refine oM ?_));(try intro _);conv=>whnf)
    refine RunsS.rowsEq (15) ((List.map_append (f:=strR10) (l₁:=src.plants) (l₂:=[a])).symm) ?_;conv=>whnf
    refine RunsS.held tab (.fl 0 (.fl 1 (.e1 2 [0] (.e1 3 [] (.e1 4 [] .done))))) (by kernel_rfl) ?_;conv=>whnf
    (try refine gR ?_);conv=>whnf
    repeat ((first|(guard_target=_∧_;(first|refine oL ?_|refine oR ?_|refine oB ?_))|(guard_target=Exists _;refine oM ?_));(try intro _);conv=>whnf)
    (try refine gS ?_);conv=>whnf
    repeat ((first|(guard_target=_∧_;(first|refine oL ?_|refine oR ?_))|(guard_target=Exists _;refine oM ?_));(try intro _);conv=>whnf)
    refine EffR.callN (rsign_fn L en hL s3 (B [59])) [0] ?_ sH ?CNa11
    case CNa11=>rfl
    rintro s4 h4<;>conv=>whnf
    conv=>whnf
    try refine oB ?_
    (try refine gR ?_);conv=>whnf
    repeat ((first|(guard_target=_∧_;(first|refine oL ?_|refine oR ?_|refine oB ?_))|(guard_target=Exists _;refine oM ?_));(try intro _);conv=>whnf)
    (try refine gS ?_);conv=>whnf
    repeat ((first|(guard_target=_∧_;(first|refine oL ?_|refine oR ?_))|(guard_target=Exists _;refine oM ?_));(try intro _);conv=>whnf)
    try refine RunsS.retU ?_
    try refine RunsS.finU ?_
    exact UnwS.ret tab Tryz.func89 rfl (EndX.mk (N) ((({src with plants:=src.plants++[a]},s4):SrcV×St)) (fun h U=>⟨(by simp only [rdef,rbr,hbU,hbI,hbP,Bool.false_eq_true,if_true,if_false];show (sb (rroom L en src.plants.length 8) _) s=_;simp only [sb,rt,rplant,←h1,←h2,←h3,←h4,SrcV.bare]),SrcV.sub.up ⟨hP.o,hP.f,hP.r⟩ U,⟨hn.U,hn.I,snoc_len hP',hn.M,hn.O,hn.F,hn.R,hn.S⟩⟩) [(9,1),(10,2),(11,15),(12,4),(13,5),(14,6),(15,7),(16,8)] sH rfl rfl (okRet rfl rfl))
   |false=>
    (try refine gS ?_);conv=>whnf
    repeat ((first|(guard_target=_∧_;(first|refine oL ?_|refine oR ?_))|(guard_target=Exists _;refine oM ?_));(try intro _);conv=>whnf)
    refine RunsS.callN (risWord_fn L en s (B wMachine)) [0] ?_ sH ?CNa12
    case CNa12=>rfl
    intro _ _
    conv=>whnf
    (try refine goS_run tab 0 _ _ _ _ ?_);conv=>whnf
    repeat ((first|(guard_target=_∧_;(first|refine oL ?_|refine oR ?_))|(guard_target=Exists _;refine oM ?_));(try intro _);conv=>whnf)
    refine RunsS.subR (nx':=13) (l':=[(2,.ptr 9 0),(3,.ptr 10 0),(4,.ptr 11 0),(5,.ptr 12 0),(82,.v (.bool (rnext L 1 (B wMachine) s)))]) (H':=[roL L,(9,.cells 32 [.buf 1,.buf 2,.buf 3,.buf 4,.buf 5,.buf 6,.buf 7,.buf 8]),(10,.cells 74 (stC en s)),(11,.cells 32 [.v nilV,.v nilV,.v nilV,.v nilV,.v nilV,.v nilV,.v nilV,.v nilV]),(12,.cells 74 [.v nilV,intA 0,intA 0,intA 0,intA 0]),(1,.own 81 8 (rws Un.row src.units)),(2,.own 83 6 (rws It.row src.items)),(3,.own 9 1 (rws strR10 src.plants)),(4,.own 85 4 (rws Mc.row src.machines)),(5,.own 50 2 (rws OpV.row src.options)),(6,.own 53 1 (rws FbV.row src.forbids)),(7,.own 61 17 (rws RcV.row src.recipes)),(8,.own 89 4 (rws Sw.row src.swaps))]) [] ?_ sH sH
    cases hbM:rnext L 1 (B wMachine) s with
    |true=>
     (try refine gS ?_);conv=>whnf
     repeat ((first|(guard_target=_∧_;(first|refine oL ?_|refine oR ?_))|(guard_target=Exists _;refine oM ?_));(try intro _);conv=>whnf)
     refine RunsS.callN (rroom_fn L en s (rws Mc.row src.machines).length 16) [0] ?_ sH ?CNa13
     case CNa13=>rfl
     rintro s1 h1<;>conv=>whnf
     rw [lM] at h1
     (try refine gS ?_);conv=>whnf
     repeat ((first|(guard_target=_∧_;(first|refine oL ?_|refine oR ?_))|(guard_target=Exists _;refine oM ?_));(try intro _);conv=>whnf)
     refine RunsS.callN (rmach_fn L en hL s1) [0] ?_ sH ?CNa14
     case CNa14=>rfl
     rintro ⟨a,s2⟩ h2<;>conv=>whnf
     (try refine gS ?_);conv=>whnf
     repeat ((first|(guard_target=_∧_;(first|refine oL ?_|refine oR ?_))|(guard_target=Exists _;refine oM ?_));(try intro _);conv=>whnf)
     refine And.intro (appOb (by omega)) ?_;conv=>whnf
     (try refine gS ?_);conv=>whnf
     repeat ((first|(guard_target=_∧_;(first|refine oL ?_|refine oR ?_))|(guard_target=Exists _;refine oM ?_));(try intro _);conv=>whnf)
     refine RunsS.rowsEq (16) ((List.map_append (f:=Mc.row) (l₁:=src.machines) (l₂:=[a])).symm) ?_;conv=>whnf
     refine RunsS.held tab (.fl 0 (.fl 1 (.e1 2 [1] (.e1 3 [] .done)))) (by kernel_rfl) ?_;conv=>whnf
     (try refine gR ?_);conv=>whnf
     repeat ((first|(guard_target=_∧_;(first|refine oL ?_|refine oR ?_|refine oB ?_))|(guard_target=Exists _;refine oM ?_));(try intro _);conv=>whnf)
     (try refine gS ?_);conv=>whnf
     repeat ((first|(guard_target=_∧_;(first|refine oL ?_|refine oR ?_))|(guard_target=Exists _;refine oM ?_));(try intro _);conv=>whnf)
     try refine RunsS.retU ?_
     try refine RunsS.finU ?_
     exact UnwS.ret tab Tryz.func89 rfl (EndX.mk (N) ((({src with machines:=src.machines++[a]},s2):SrcV×St)) (fun h U=>⟨(by simp only [rdef,rbr,hbU,hbI,hbP,hbM,Bool.false_eq_true,if_true,if_false];show (sb (rroom L en src.machines.length 16) _) s=_;simp only [sb,rt,←h1,←h2,SrcV.bare]),SrcV.sub.up ⟨hP.o,hP.f,hP.r⟩ U,⟨hn.U,hn.I,hn.P,snoc_len hM,hn.O,hn.F,hn.R,hn.S⟩⟩) [(9,1),(10,2),(11,3),(12,16),(13,5),(14,6),(15,7),(16,8)] sH rfl rfl (okRet rfl rfl))
    |false=>
     (try refine gS ?_);conv=>whnf
     repeat ((first|(guard_target=_∧_;(first|refine oL ?_|refine oR ?_))|(guard_target=Exists _;refine oM ?_));(try intro _);conv=>whnf)
     refine RunsS.callN (risWord_fn L en s (B wOption)) [0] ?_ sH ?CNa15
     case CNa15=>rfl
     intro _ _
     conv=>whnf
     (try refine goS_run tab 0 _ _ _ _ ?_);conv=>whnf
     repeat ((first|(guard_target=_∧_;(first|refine oL ?_|refine oR ?_))|(guard_target=Exists _;refine oM ?_));(try intro _);conv=>whnf)
     refine RunsS.subR (nx':=13) (l':=[(2,.ptr 9 0),(3,.ptr 10 0),(4,.ptr 11 0),(5,.ptr 12 0),(101,.v (.bool (rnext L 1 (B wOption) s)))]) (H':=[roL L,(9,.cells 32 [.buf 1,.buf 2,.buf 3,.buf 4,.buf 5,.buf 6,.buf 7,.buf 8]),(10,.cells 74 (stC en s)),(11,.cells 32 [.v nilV,.v nilV,.v nilV,.v nilV,.v nilV,.v nilV,.v nilV,.v nilV]),(12,.cells 74 [.v nilV,intA 0,intA 0,intA 0,intA 0]),(1,.own 81 8 (rws Un.row src.units)),(2,.own 83 6 (rws It.row src.items)),(3,.own 9 1 (rws strR10 src.plants)),(4,.own 85 4 (rws Mc.row src.machines)),(5,.own 50 2 (rws OpV.row src.options)),(6,.own 53 1 (rws FbV.row src.forbids)),(7,.own 61 17 (rws RcV.row src.recipes)),(8,.own 89 4 (rws Sw.row src.swaps))]) [] ?_ sH sH
     cases hbO:rnext L 1 (B wOption) s with
     |true=>
      (try refine gS ?_);conv=>whnf
      repeat ((first|(guard_target=_∧_;(first|refine oL ?_|refine oR ?_))|(guard_target=Exists _;refine oM ?_));(try intro _);conv=>whnf)
      refine RunsS.callN (rroom_fn L en s (rws OpV.row src.options).length 6) [0] ?_ sH ?CNa16
      case CNa16=>rfl
      rintro s1 h1<;>conv=>whnf
      rw [lO] at h1
      (try refine gS ?_);conv=>whnf
      repeat ((first|(guard_target=_∧_;(first|refine oL ?_|refine oR ?_))|(guard_target=Exists _;refine oM ?_));(try intro _);conv=>whnf)
      refine RunsS.callN (roptn_fn L en hL s1) [0] ?_ sH ?CNa17
      case CNa17=>rfl
      rintro ⟨a,s2⟩ h2<;>conv=>whnf
      have ha:a=(roptn L en s1).1:=congrArg Prod.fst h2
      refine RunsS.concY (n:=a.ch.length) (N.gsub) 13 ?_ (hlen:=rws_len _ _)
      intro F1 a1 c1 G1 k1 N1 R1
      conv=>whnf
      have hs:=hP.up (Now.step N.gsub N1)
      have hb0:(⟨a.name,⟨a1,c1⟩,a.ch⟩:OpV).bare=a:=by rw [ha];rfl
      (try refine gS ?_);conv=>whnf
      repeat ((first|(guard_target=_∧_;(first|refine oL ?_|refine oR ?_))|(guard_target=Exists _;refine oM ?_));(try intro _);conv=>whnf)
      refine And.intro (appOb (by omega)) ?_;conv=>whnf
      (try refine gS ?_);conv=>whnf
      repeat ((first|(guard_target=_∧_;(first|refine oL ?_|refine oR ?_))|(guard_target=Exists _;refine oM ?_));(try intro _);conv=>whnf)
      refine RunsS.rowsEq (17) ((List.map_append (f:=OpV.row) (l₁:=src.options) (l₂:=[⟨a.name,⟨a1,c1⟩,a.ch⟩])).symm) ?_;conv=>whnf
      refine RunsS.held tab (.fl 0 (.fl 1 (.e1 2 [1] (.e1 3 [] .done)))) (by kernel_rfl) ?_;conv=>whnf
      (try refine gR ?_);conv=>whnf
      repeat ((first|(guard_target=_∧_;(first|refine oL ?_|refine oR ?_|refine oB ?_))|(guard_target=Exists _;refine oM ?_));(try intro _);conv=>whnf)
      (try refine gS ?_);conv=>whnf
      repeat ((first|(guard_target=_∧_;(first|refine oL ?_|refine oR ?_))|(guard_target=Exists _;refine oM ?_));(try intro _);conv=>whnf)
      try refine RunsS.retU ?_
      try refine RunsS.finU ?_
      exact UnwS.ret tab Tryz.func89 rfl (EndX.mk (N.trans N1) ((({src with options:=src.options++[⟨a.name,⟨a1,c1⟩,a.ch⟩]},s2):SrcV×St)) (fun h U=>⟨(by simp only [rdef,rbr,hbU,hbI,hbP,hbM,hbO,Bool.false_eq_true,if_true,if_false];show (sb (rroom L en src.bare.options.length 6) _) s=_;rw [show src.bare.options.length=src.options.length from List.length_map _];simp only [sb,rt,←h1,←h2,SrcV.bare,List.map_append,List.map_cons,List.map_nil,hb0]),SrcV.sub.up ⟨snoc_mem hs.o (R1),hs.f,hs.r⟩ U,⟨hn.U,hn.I,hn.P,hn.M,snoc_len hO,hn.F,hn.R,hn.S⟩⟩) [(9,1),(10,2),(11,3),(12,4),(13,17),(14,6),(15,7),(16,8)] sH rfl rfl (okRet rfl rfl))
     |false=>
      (try refine gS ?_);conv=>whnf
      repeat ((first|(guard_target=_∧_;(first|refine oL ?_|refine oR ?_))|(guard_target=Exists _;refine oM ?_));(try intro _);conv=>whnf)
      refine RunsS.callN (risWord_fn L en s (B wForbid)) [0] ?_ sH ?CNa18
      case CNa18=>rfl
      intro _ _
      conv=>whnf
      (try refine goS_run tab 0 _ _ _ _ ?_);conv=>whnf
      repeat ((first|(guard_target=_∧_;(first|refine oL ?_|refine oR ?_))|(guard_target=Exists _;refine oM ?_));(try intro _);conv=>whnf)
      refine RunsS.subR (nx':=13) (l':=[(2,.ptr 9 0),(3,.ptr 10 0),(4,.ptr 11 0),(5,.ptr 12 0),(120,.v (.bool (rnext L 1 (B wForbid) s)))]) (H':=[roL L,(9,.cells 32 [.buf 1,.buf 2,.buf 3,.buf 4,.buf 5,.buf 6,.buf 7,.buf 8]),(10,.cells 74 (stC en s)),(11,.cells 32 [.v nilV,.v nilV,.v nilV,.v nilV,.v nilV,.v nilV,.v nilV,.v nilV]),(12,.cells 74 [.v nilV,intA 0,intA 0,intA 0,intA 0]),(1,.own 81 8 (rws Un.row src.units)),(2,.own 83 6 (rws It.row src.items)),(3,.own 9 1 (rws strR10 src.plants)),(4,.own 85 4 (rws Mc.row src.machines)),(5,.own 50 2 (rws OpV.row src.options)),(6,.own 53 1 (rws FbV.row src.forbids)),(7,.own 61 17 (rws RcV.row src.recipes)),(8,.own 89 4 (rws Sw.row src.swaps))]) [] ?_ sH sH
      cases hbF:rnext L 1 (B wForbid) s with
      |true=>
       (try refine gS ?_);conv=>whnf
       repeat ((first|(guard_target=_∧_;(first|refine oL ?_|refine oR ?_))|(guard_target=Exists _;refine oM ?_));(try intro _);conv=>whnf)
       refine RunsS.callN (rroom_fn L en s (rws FbV.row src.forbids).length 16) [0] ?_ sH ?CNa19
       case CNa19=>rfl
       rintro s1 h1<;>conv=>whnf
       rw [lF] at h1
       (try refine gS ?_);conv=>whnf
       repeat ((first|(guard_target=_∧_;(first|refine oL ?_|refine oR ?_))|(guard_target=Exists _;refine oM ?_));(try intro _);conv=>whnf)
       refine RunsS.callN (rforb_fn L en hL s1) [0] ?_ sH ?CNa20
       case CNa20=>rfl
       rintro ⟨a,s2⟩ h2<;>conv=>whnf
       have ha:a=(rforb L en s1).1:=congrArg Prod.fst h2
       refine RunsS.concY (n:=a.cs.length) (N.gsub) 13 ?_ (hlen:=rws_len _ _)
       intro F1 a1 c1 G1 k1 N1 R1
       conv=>whnf
       have hs:=hP.up (Now.step N.gsub N1)
       have hb0:(⟨⟨a1,c1⟩,a.cs⟩:FbV).bare=a:=by rw [ha];rfl
       (try refine gS ?_);conv=>whnf
       repeat ((first|(guard_target=_∧_;(first|refine oL ?_|refine oR ?_))|(guard_target=Exists _;refine oM ?_));(try intro _);conv=>whnf)
       refine And.intro (appOb (by omega)) ?_;conv=>whnf
       (try refine gS ?_);conv=>whnf
       repeat ((first|(guard_target=_∧_;(first|refine oL ?_|refine oR ?_))|(guard_target=Exists _;refine oM ?_));(try intro _);conv=>whnf)
       refine RunsS.rowsEq (16) ((List.map_append (f:=FbV.row) (l₁:=src.forbids) (l₂:=[⟨⟨a1,c1⟩,a.cs⟩])).symm) ?_;conv=>whnf
       refine RunsS.held tab (.fl 0 (.fl 1 (.e1 2 [1] (.e1 3 [] .done)))) (by kernel_rfl) ?_;conv=>whnf
       (try refine gR ?_);conv=>whnf
       repeat ((first|(guard_target=_∧_;(first|refine oL ?_|refine oR ?_|refine oB ?_))|(guard_target=Exists _;refine oM ?_));(try intro _);conv=>whnf)
       (try refine gS ?_);conv=>whnf
       repeat ((first|(guard_target=_∧_;(first|refine oL ?_|refine oR ?_))|(guard_target=Exists _;refine oM ?_));(try intro _);conv=>whnf)
       try refine RunsS.retU ?_
       try refine RunsS.finU ?_
       exact UnwS.ret tab Tryz.func89 rfl (EndX.mk (N.trans N1) ((({src with forbids:=src.forbids++[⟨⟨a1,c1⟩,a.cs⟩]},s2):SrcV×St)) (fun h U=>⟨(by simp only [rdef,rbr,hbU,hbI,hbP,hbM,hbO,hbF,Bool.false_eq_true,if_true,if_false];show (sb (rroom L en src.bare.forbids.length 16) _) s=_;rw [show src.bare.forbids.length=src.forbids.length from List.length_map _];simp only [sb,rt,←h1,←h2,SrcV.bare,List.map_append,List.map_cons,List.map_nil,hb0]),SrcV.sub.up ⟨hs.o,snoc_mem hs.f (R1),hs.r⟩ U,⟨hn.U,hn.I,hn.P,hn.M,hn.O,snoc_len hF,hn.R,hn.S⟩⟩) [(9,1),(10,2),(11,3),(12,4),(13,5),(14,16),(15,7),(16,8)] sH rfl rfl (okRet rfl rfl))
      |false=>
       (try refine gS ?_);conv=>whnf
       repeat ((first|(guard_target=_∧_;(first|refine oL ?_|refine oR ?_))|(guard_target=Exists _;refine oM ?_));(try intro _);conv=>whnf)
       refine RunsS.callN (risWord_fn L en s (B wMake)) [0] ?_ sH ?CNa21
       case CNa21=>rfl
       intro _ _
       conv=>whnf
       (try refine goS_run tab 0 _ _ _ _ ?_);conv=>whnf
       repeat ((first|(guard_target=_∧_;(first|refine oL ?_|refine oR ?_))|(guard_target=Exists _;refine oM ?_));(try intro _);conv=>whnf)
       refine RunsS.subR (nx':=13) (l':=[(2,.ptr 9 0),(3,.ptr 10 0),(4,.ptr 11 0),(5,.ptr 12 0),(139,.v (.bool (rnext L 1 (B wMake) s)))]) (H':=[roL L,(9,.cells 32 [.buf 1,.buf 2,.buf 3,.buf 4,.buf 5,.buf 6,.buf 7,.buf 8]),(10,.cells 74 (stC en s)),(11,.cells 32 [.v nilV,.v nilV,.v nilV,.v nilV,.v nilV,.v nilV,.v nilV,.v nilV]),(12,.cells 74 [.v nilV,intA 0,intA 0,intA 0,intA 0]),(1,.own 81 8 (rws Un.row src.units)),(2,.own 83 6 (rws It.row src.items)),(3,.own 9 1 (rws strR10 src.plants)),(4,.own 85 4 (rws Mc.row src.machines)),(5,.own 50 2 (rws OpV.row src.options)),(6,.own 53 1 (rws FbV.row src.forbids)),(7,.own 61 17 (rws RcV.row src.recipes)),(8,.own 89 4 (rws Sw.row src.swaps))]) [] ?_ sH sH
       cases hbR:rnext L 1 (B wMake) s with
       |true=>
        (try refine gS ?_);conv=>whnf
        repeat ((first|(guard_target=_∧_;(first|refine oL ?_|refine oR ?_))|(guard_target=Exists _;refine oM ?_));(try intro _);conv=>whnf)
        refine RunsS.callN (rroom_fn L en s (rws RcV.row src.recipes).length 64) [0] ?_ sH ?CNa22
        case CNa22=>rfl
        rintro s1 h1<;>conv=>whnf
        rw [lR] at h1
        (try refine gS ?_);conv=>whnf
        repeat ((first|(guard_target=_∧_;(first|refine oL ?_|refine oR ?_))|(guard_target=Exists _;refine oM ?_));(try intro _);conv=>whnf)
        refine RunsS.callN (rrec_fn L en hL s1) [0] ?_ sH ?CNa23
        case CNa23=>rfl
        rintro ⟨a,s2⟩ h2<;>conv=>whnf
        have ha:a=(rrec L en s1).1:=congrArg Prod.fst h2
        refine RunsS.concY (n:=a.cs.length) (N.gsub) 13 ?_ (hlen:=rws_len _ _)
        intro F1 a1 c1 G1 k1 N1 R1
        conv=>whnf
        refine RunsS.concY (n:=a.inn.length) (N1.gsub) 14 ?_ (hlen:=rws_len _ _)
        intro F2 a2 c2 G2 k2 N2 R2
        conv=>whnf
        refine RunsS.concY (n:=a.out.length) (N2.gsub) 15 ?_ (hlen:=rws_len _ _)
        intro F3 a3 c3 G3 k3 N3 R3
        conv=>whnf
        refine RunsS.concY (n:=a.runs.length) (N3.gsub) 16 ?_ (hlen:=rws_len _ _)
        intro F4 a4 c4 G4 k4 N4 R4
        conv=>whnf
        have hs:=hP.up (((Now.step N.gsub N1).trans (Now.step N1.gsub N2)).trans ((Now.step N2.gsub N3).trans (Now.step N3.gsub N4)))
        have hb0:(⟨a.item,a.plant,a.fr,a.to,⟨a1,c1⟩,a.cs,⟨a2,c2⟩,a.inn,⟨a3,c3⟩,a.out,a.rwN,a.rwD,a.yN,a.yD,a.tN,a.tD,a.lead,⟨a4,c4⟩,a.runs,a.inum,a.pnum⟩:RcV).bare=a:=by rw [ha];rfl
        (try refine gS ?_);conv=>whnf
        repeat ((first|(guard_target=_∧_;(first|refine oL ?_|refine oR ?_))|(guard_target=Exists _;refine oM ?_));(try intro _);conv=>whnf)
        refine And.intro (appOb (by omega)) ?_;conv=>whnf
        (try refine gS ?_);conv=>whnf
        repeat ((first|(guard_target=_∧_;(first|refine oL ?_|refine oR ?_))|(guard_target=Exists _;refine oM ?_));(try intro _);conv=>whnf)
        refine RunsS.rowsEq (20) ((List.map_append (f:=RcV.row) (l₁:=src.recipes) (l₂:=[⟨a.item,a.plant,a.fr,a.to,⟨a1,c1⟩,a.cs,⟨a2,c2⟩,a.inn,⟨a3,c3⟩,a.out,a.rwN,a.rwD,a.yN,a.yD,a.tN,a.tD,a.lead,⟨a4,c4⟩,a.runs,a.inum,a.pnum⟩])).symm) ?_;conv=>whnf
        refine RunsS.held tab (.fl 0 (.fl 1 (.e1 2 [1] (.e1 3 [] .done)))) (by kernel_rfl) ?_;conv=>whnf
        (try refine gR ?_);conv=>whnf
        repeat ((first|(guard_target=_∧_;(first|refine oL ?_|refine oR ?_|refine oB ?_))|(guard_target=Exists _;refine oM ?_));(try intro _);conv=>whnf)
        (try refine gS ?_);conv=>whnf
        repeat ((first|(guard_target=_∧_;(first|refine oL ?_|refine oR ?_))|(guard_target=Exists _;refine oM ?_));(try intro _);conv=>whnf)
        try refine RunsS.retU ?_
        try refine RunsS.finU ?_
        exact UnwS.ret tab Tryz.func89 rfl (EndX.mk (((N.trans N1).trans N2).trans (N3.trans N4)) ((({src with recipes:=src.recipes++[⟨a.item,a.plant,a.fr,a.to,⟨a1,c1⟩,a.cs,⟨a2,c2⟩,a.inn,⟨a3,c3⟩,a.out,a.rwN,a.rwD,a.yN,a.yD,a.tN,a.tD,a.lead,⟨a4,c4⟩,a.runs,a.inum,a.pnum⟩]},s2):SrcV×St)) (fun h U=>⟨(by simp only [rdef,rbr,hbU,hbI,hbP,hbM,hbO,hbF,hbR,Bool.false_eq_true,if_true,if_false];show (sb (rroom L en src.bare.recipes.length 64) _) s=_;rw [show src.bare.recipes.length=src.recipes.length from List.length_map _];simp only [sb,rt,←h1,←h2,SrcV.bare,List.map_append,List.map_cons,List.map_nil,hb0]),SrcV.sub.up ⟨hs.o,hs.f,snoc_mem hs.r (⟨R1.up ((Now.step N1.gsub N2).trans ((Now.step N2.gsub N3).trans (Now.step N3.gsub N4))),R2.up ((Now.step N2.gsub N3).trans (Now.step N3.gsub N4)),R3.up (Now.step N3.gsub N4),R4⟩)⟩ U,⟨hn.U,hn.I,hn.P,hn.M,hn.O,hn.F,snoc_len hR,hn.S⟩⟩) [(9,1),(10,2),(11,3),(12,4),(13,5),(14,6),(15,20),(16,8)] sH rfl rfl (okRet rfl rfl))
       |false=>
        (try refine gS ?_);conv=>whnf
        repeat ((first|(guard_target=_∧_;(first|refine oL ?_|refine oR ?_))|(guard_target=Exists _;refine oM ?_));(try intro _);conv=>whnf)
        refine RunsS.callN (risWord_fn L en s (B wSwap)) [0] ?_ sH ?CNa24
        case CNa24=>rfl
        intro _ _
        conv=>whnf
        (try refine goS_run tab 0 _ _ _ _ ?_);conv=>whnf
        repeat ((first|(guard_target=_∧_;(first|refine oL ?_|refine oR ?_))|(guard_target=Exists _;refine oM ?_));(try intro _);conv=>whnf)
        refine RunsS.subR (nx':=13) (l':=[(2,.ptr 9 0),(3,.ptr 10 0),(4,.ptr 11 0),(5,.ptr 12 0),(158,.v (.bool (rnext L 1 (B wSwap) s)))]) (H':=[roL L,(9,.cells 32 [.buf 1,.buf 2,.buf 3,.buf 4,.buf 5,.buf 6,.buf 7,.buf 8]),(10,.cells 74 (stC en s)),(11,.cells 32 [.v nilV,.v nilV,.v nilV,.v nilV,.v nilV,.v nilV,.v nilV,.v nilV]),(12,.cells 74 [.v nilV,intA 0,intA 0,intA 0,intA 0]),(1,.own 81 8 (rws Un.row src.units)),(2,.own 83 6 (rws It.row src.items)),(3,.own 9 1 (rws strR10 src.plants)),(4,.own 85 4 (rws Mc.row src.machines)),(5,.own 50 2 (rws OpV.row src.options)),(6,.own 53 1 (rws FbV.row src.forbids)),(7,.own 61 17 (rws RcV.row src.recipes)),(8,.own 89 4 (rws Sw.row src.swaps))]) [] ?_ sH sH
        cases hbS:rnext L 1 (B wSwap) s with
        |true=>
         (try refine gS ?_);conv=>whnf
         repeat ((first|(guard_target=_∧_;(first|refine oL ?_|refine oR ?_))|(guard_target=Exists _;refine oM ?_));(try intro _);conv=>whnf)
         refine RunsS.callN (rroom_fn L en s (rws Sw.row src.swaps).length 32) [0] ?_ sH ?CNa25
         case CNa25=>rfl
         rintro s1 h1<;>conv=>whnf
         rw [lS] at h1
         (try refine gS ?_);conv=>whnf
         repeat ((first|(guard_target=_∧_;(first|refine oL ?_|refine oR ?_))|(guard_target=Exists _;refine oM ?_));(try intro _);conv=>whnf)
         refine RunsS.callN (rswap_fn L en hL s1) [0] ?_ sH ?CNa26
         case CNa26=>rfl
         rintro ⟨a,s2⟩ h2<;>conv=>whnf
         (try refine gS ?_);conv=>whnf
         repeat ((first|(guard_target=_∧_;(first|refine oL ?_|refine oR ?_))|(guard_target=Exists _;refine oM ?_));(try intro _);conv=>whnf)
         refine And.intro (appOb (by omega)) ?_;conv=>whnf
         (try refine gS ?_);conv=>whnf
         repeat ((first|(guard_target=_∧_;(first|refine oL ?_|refine oR ?_))|(guard_target=Exists _;refine oM ?_));(try intro _);conv=>whnf)
         refine RunsS.rowsEq (16) ((List.map_append (f:=Sw.row) (l₁:=src.swaps) (l₂:=[a])).symm) ?_;conv=>whnf
         refine RunsS.held tab (.fl 0 (.fl 1 (.e1 2 [1] (.e1 3 [] .done)))) (by kernel_rfl) ?_;conv=>whnf
         (try refine gR ?_);conv=>whnf
         repeat ((first|(guard_target=_∧_;(first|refine oL ?_|refine oR ?_|refine oB ?_))|(guard_target=Exists _;refine oM ?_));(try intro _);conv=>whnf)
         (try refine gS ?_);conv=>whnf
         repeat ((first|(guard_target=_∧_;(first|refine oL ?_|refine oR ?_))|(guard_target=Exists _;refine oM ?_));(try intro _);conv=>whnf)
         try refine RunsS.retU ?_
         try refine RunsS.finU ?_
         exact UnwS.ret tab Tryz.func89 rfl (EndX.mk (N) ((({src with swaps:=src.swaps++[a]},s2):SrcV×St)) (fun h U=>⟨(by simp only [rdef,rbr,hbU,hbI,hbP,hbM,hbO,hbF,hbR,hbS,Bool.false_eq_true,if_true,if_false];show (sb (rroom L en src.swaps.length 32) _) s=_;simp only [sb,rt,←h1,←h2,SrcV.bare]),SrcV.sub.up ⟨hP.o,hP.f,hP.r⟩ U,⟨hn.U,hn.I,hn.P,hn.M,hn.O,hn.F,hn.R,snoc_len hS⟩⟩) [(9,1),(10,2),(11,3),(12,4),(13,5),(14,6),(15,7),(16,16)] sH rfl rfl (okRet rfl rfl))
        |false=>
         (try refine gS ?_);conv=>whnf
         repeat ((first|(guard_target=_∧_;(first|refine oL ?_|refine oR ?_))|(guard_target=Exists _;refine oM ?_));(try intro _);conv=>whnf)
         refine RunsS.callN (rswap_fn L en hL s) [0] ?_ sH ?CNa27
         case CNa27=>rfl
         rintro ⟨a,s2⟩ h2<;>conv=>whnf
         (try refine gS ?_);conv=>whnf
         repeat ((first|(guard_target=_∧_;(first|refine oL ?_|refine oR ?_))|(guard_target=Exists _;refine oM ?_));(try intro _);conv=>whnf)
         refine And.intro (appOb (by omega)) ?_;conv=>whnf
         (try refine gS ?_);conv=>whnf
         repeat ((first|(guard_target=_∧_;(first|refine oL ?_|refine oR ?_))|(guard_target=Exists _;refine oM ?_));(try intro _);conv=>whnf)
         refine RunsS.rowsEq (16) ((List.map_append (f:=Sw.row) (l₁:=src.swaps) (l₂:=[a])).symm) ?_;conv=>whnf
         refine RunsS.held tab (.fl 0 (.fl 1 (.e1 2 [1] (.e1 3 [] .done)))) (by kernel_rfl) ?_;conv=>whnf
         (try refine gR ?_);conv=>whnf
         repeat ((first|(guard_target=_∧_;(first|refine oL ?_|refine oR ?_|refine oB ?_))|(guard_target=Exists _;refine oM ?_));(try intro _);conv=>whnf)
         (try refine gS ?_);conv=>whnf
         repeat ((first|(guard_target=_∧_;(first|refine oL ?_|refine oR ?_))|(guard_target=Exists _;refine oM ?_));(try intro _);conv=>whnf)
         try refine RunsS.retU ?_
         try refine RunsS.finU ?_
         exact UnwS.ret tab Tryz.func89 rfl (EndX.mk (N) ((({src with swaps:=src.swaps++[a]},s2):SrcV×St)) (fun h U=>⟨(by simp only [rdef,rbr,hbU,hbI,hbP,hbM,hbO,hbF,hbR,hbS,Bool.false_eq_true,if_true,if_false];simp only [sb,rt,←h2,SrcV.bare]),SrcV.sub.up ⟨hP.o,hP.f,hP.r⟩ U,⟨hn.U,hn.I,hn.P,hn.M,hn.O,hn.F,hn.R,snoc_len hS⟩⟩) [(9,1),(10,2),(11,3),(12,4),(13,5),(14,6),(15,7),(16,16)] sH rfl rfl (okRet rfl rfl))
end
end Go.Proofs.YtgbeechjghajcaaGreatDoor

namespace Go.SynM
open Go Go.Fw Go.RatM Go.SrcM
open Go.Proofs.YtgbeechjghajcaaGreatDoor (Tok)
section
variable {L:List Tok} {en:Int} {α β:Type}
theorem adv_many {k:Int} {t:ByteArray} {most:Nat} {m:M α} (hm:Adv m):∀(f:Nat) (l:List α),Adv (rmany L en k t most m f l)
 |0,_=>adv_rt
 |f+1,l=>fun s h=>by
  unfold rmany at h ⊢
  cases hb:rnext L k t s with
  |false=>rw [hb] at h;exact ⟨h,Nat.le_refl _⟩
  |true=>
   rw [hb] at h
   exact (adv_sb (adv_sb adv_room fun _=>hm) fun x=>adv_many hm f (l++[x])) s h
theorem adv_br {w:List UInt8} {n most:Nat} {m q:M α} (hm:Adv1 m) (hq:Adv1 q):Adv1 (rbr L en w n most m q):=fun s h=>by
 unfold rbr at h ⊢
 cases hb:rnext L 1 (B w) s with
 |false=>rw [hb] at h;exact hq s h
 |true=>rw [hb] at h;exact (adv1_sb2 adv_room fun _=>hm) s h
theorem adv_chs:Adv (rchs L en):=adv_sb adv_name.a fun _=>adv_many (adv_sb adv_exp.a fun _=>adv_name.a) _ _
theorem adv_conds:Adv (rconds L en):=adv_sb adv_cond.a fun _=>adv_many (adv_sb adv_exp.a fun _=>adv_cond.a) _ _
theorem adv_unit:Adv1 (runit L en):=adv1_sb adv_exp fun _=>adv_sb adv_name.a fun _=>adv_sb (adv_opt (adv_sb adv_exp.a fun _=>adv_sb adv_ratio.a fun _=>adv_sb adv_name.a fun _=>adv_rt)) fun _=>adv_sb adv_exp.a fun _=>adv_rt
theorem adv_item:Adv1 (ritem L en):=adv1_sb adv_exp fun _=>adv_sb adv_name.a fun _=>adv_sb adv_exp.a fun _=>adv_sb adv_name.a fun _=>adv_sb adv_exp.a fun _=>adv_sb adv_ratio.a fun _=>adv_sb (adv_opt (adv_sb adv_exp.a fun _=>adv_num.a)) fun _=>adv_sb adv_exp.a fun _=>adv_rt
theorem adv_plant:Adv1 (rplant L en):=adv1_sb adv_exp fun _=>adv_sb adv_name.a fun _=>adv_sb adv_exp.a fun _=>adv_rt
theorem adv_mach:Adv1 (rmach L en):=adv1_sb adv_exp fun _=>adv_sb adv_name.a fun _=>adv_sb adv_exp.a fun _=>adv_sb adv_name.a fun _=>adv_sb adv_exp.a fun _=>adv_sb adv_num.a fun _=>adv_sb adv_exp.a fun _=>adv_rt
theorem adv_optn:Adv1 (roptn L en):=adv1_sb adv_exp fun _=>adv_sb adv_name.a fun _=>adv_sb adv_exp.a fun _=>adv_sb adv_chs fun _=>adv_sb adv_exp.a fun _=>adv_sb adv_exp.a fun _=>adv_rt
theorem adv_forb:Adv1 (rforb L en):=adv1_sb adv_exp fun _=>adv_sb adv_conds fun _=>adv_sb adv_exp.a fun _=>adv_rt
theorem adv_swap:Adv1 (rswap L en):=adv1_sb adv_exp fun _=>adv_sb adv_name.a fun _=>adv_sb adv_exp.a fun _=>adv_sb adv_name.a fun _=>adv_sb adv_exp.a fun _=>adv_rt
theorem adv_rec:Adv1 (rrec L en):=by
 unfold rrec
 refine adv1_sb adv_exp fun _=>adv_sb adv_name.a fun _=>adv_sb adv_exp.a fun _=>adv_sb adv_name.a fun _=>adv_sb adv_exp.a fun _=>adv_sb adv_num.a fun _=>adv_sb adv_exp.a fun _=>adv_sb adv_num.a fun _=>?_
 refine adv_sb (adv_opt (adv_sb adv_exp.a fun _=>adv_conds)) fun _=>adv_sb adv_exp.a fun _=>adv_sb (adv_many adv_inp.a _ _) fun _=>adv_sb (adv_many (adv_sb adv_exp.a fun _=>adv_amount.a) _ _) fun _=>?_
 refine adv_sb adv_exp.a fun _=>adv_sb adv_ratio.a fun _=>adv_sb adv_exp.a fun _=>adv_sb adv_exp.a fun _=>adv_sb adv_ratio.a fun _=>adv_sb adv_exp.a fun _=>adv_sb adv_ratio.a fun _=>?_
 exact adv_sb adv_exp.a fun _=>adv_sb adv_exp.a fun _=>adv_sb adv_num.a fun _=>adv_sb adv_exp.a fun _=>adv_sb (adv_many adv_run.a _ _) fun _=>adv_sb adv_exp.a fun _=>adv_rt
theorem adv_def (s:SrcV):Adv1 (rdef L en s):=
 adv_br (adv1_sb adv_unit fun _=>adv_rt)<|adv_br (adv1_sb adv_item fun _=>adv_rt)<|adv_br (adv1_sb adv_plant fun _=>adv_rt)<|adv_br (adv1_sb adv_mach fun _=>adv_rt) <|
 adv_br (adv1_sb adv_optn fun _=>adv_rt)<|adv_br (adv1_sb adv_forb fun _=>adv_rt)<|adv_br (adv1_sb adv_rec fun _=>adv_rt)<|adv_br (adv1_sb adv_swap fun _=>adv_rt)<|adv1_sb adv_swap fun _=>adv_rt
theorem mu_def {s:St} (src:SrcV) (h0:s.e=0) (h1:s.n<L.length):mu L (rdef L en src s).2<mu L s:=by
 unfold mu
 rw [if_pos h0]
 by_cases he:(rdef L en src s).2.e=0
 ·have:=(adv_def src s he).2
  rw [if_pos he]
  omega
 rw [if_neg he];omega
theorem defs_no {f:Nat} {src:SrcV} {s:St} (h:¬(s.e=0∧s.n<L.length)):rdefs L en f src s=(src,s):=by
 cases f with
 |zero=>rfl
 |succ f=>simp only [rdefs];rw [if_neg h]
theorem defs_yes {f:Nat} {src:SrcV} {s:St} (h:s.e=0∧s.n<L.length):rdefs L en (f+1) src s=sb (rdef L en src) (rdefs L en f) s:=by
 simp only [rdefs]
 rw [if_pos h]
end
end Go.SynM
namespace Go.Proofs.YtgbeechjghajcaaGreatDoor
open Go Go.Fw Go.NatM Go.RatM Go.SrcM Go.SynM
set_option maxRecDepth 100000
set_option maxHeartbeats 99999999
structure ReadJ (L:List Tok) (en:Int) (y:SrcV×St) (G:Nat→Prop) (h:Array Obj):Prop where
 eq:rdefs L en (L.length+1) noS ⟨0,0,0⟩=(y.1.bare,y.2)
 sub:y.1.sub G h
section
variable (L:List Tok) (en:Int) (hL:L.length≤65536)
include hL
theorem rread_fn:FnX Tryz.prog 26 1 [stV en ⟨0,0,0⟩] [roL L] (fun _ _=>True) (ReadJ L en) (fun y=>.ret (.tup [srcS 1,stV en y.2]) 9 (srcH 1 y.1)):=by
 have lm:(L.map Tok.row).length=L.length:=List.length_map _
 refine FnX.of Tryz.func26 (by kernel_rfl) rfl Tryz.ntmps26 rfl fun E0 F G h N hP w0 cs=>?_
 conv=>whnf
 refine gS ?_;conv=>whnf
 repeat ((first|(guard_target=_∧_;(first|refine oL ?_|refine oR ?_))|(guard_target=Exists _;refine oM ?_));(try intro _);conv=>whnf)
 refine RunsS.subR (nx':=5) (l':=[(1,.ptr 1 0),(2,.ptr 2 0),(3,.ptr 3 0),(4,.ptr 4 0)]) (H':=[roL L,(1,.cells 74 (stC en ⟨0,0,0⟩)),(2,.cells 32 [.v nilV,.v nilV,.v nilV,.v nilV,.v nilV,.v nilV,.v nilV,.v nilV]),(3,.cells 74 [.v nilV,intA 0,intA 0,intA 0,intA 0]),(4,.cells 32 [.v nilV,.v nilV,.v nilV,.v nilV,.v nilV,.v nilV,.v nilV,.v nilV])]) [] ?_ sH sH
 refine RunsS.nilOwn (l':=[(1,.ptr 1 0),(2,.ptr 2 0),(3,.ptr 3 0),(4,.ptr 4 0)]) (H':=[roL L,(1,.cells 74 (stC en ⟨0,0,0⟩)),(2,.cells 32 [.v nilV,.v nilV,.v nilV,.v nilV,.v nilV,.v nilV,.v nilV,.v nilV]),(3,.cells 74 [.v nilV,intA 0,intA 0,intA 0,intA 0]),(4,.cells 32 [.buf 5,.v nilV,.v nilV,.v nilV,.v nilV,.v nilV,.v nilV,.v nilV])]) 81 8 ?_ (by rfl) (by rfl) (by rfl)
 refine RunsS.nilOwn (l':=[(1,.ptr 1 0),(2,.ptr 2 0),(3,.ptr 3 0),(4,.ptr 4 0)]) (H':=[(5,.own 81 8 []),roL L,(1,.cells 74 (stC en ⟨0,0,0⟩)),(2,.cells 32 [.v nilV,.v nilV,.v nilV,.v nilV,.v nilV,.v nilV,.v nilV,.v nilV]),(3,.cells 74 [.v nilV,intA 0,intA 0,intA 0,intA 0]),(4,.cells 32 [.buf 5,.buf 6,.v nilV,.v nilV,.v nilV,.v nilV,.v nilV,.v nilV])]) 83 6 ?_ (by rfl) (by rfl) (by rfl)
 refine RunsS.nilOwn (l':=[(1,.ptr 1 0),(2,.ptr 2 0),(3,.ptr 3 0),(4,.ptr 4 0)]) (H':=[(6,.own 83 6 []),(5,.own 81 8 []),roL L,(1,.cells 74 (stC en ⟨0,0,0⟩)),(2,.cells 32 [.v nilV,.v nilV,.v nilV,.v nilV,.v nilV,.v nilV,.v nilV,.v nilV]),(3,.cells 74 [.v nilV,intA 0,intA 0,intA 0,intA 0]),(4,.cells 32 [.buf 5,.buf 6,.buf 7,.v nilV,.v nilV,.v nilV,.v nilV,.v nilV])]) 9 1 ?_ (by rfl) (by rfl) (by rfl)
 refine RunsS.nilOwn (l':=[(1,.ptr 1 0),(2,.ptr 2 0),(3,.ptr 3 0),(4,.ptr 4 0)]) (H':=[(7,.own 9 1 []),(6,.own 83 6 []),(5,.own 81 8 []),roL L,(1,.cells 74 (stC en ⟨0,0,0⟩)),(2,.cells 32 [.v nilV,.v nilV,.v nilV,.v nilV,.v nilV,.v nilV,.v nilV,.v nilV]),(3,.cells 74 [.v nilV,intA 0,intA 0,intA 0,intA 0]),(4,.cells 32 [.buf 5,.buf 6,.buf 7,.buf 8,.v nilV,.v nilV,.v nilV,.v nilV])]) 85 4 ?_ (by rfl) (by rfl) (by rfl)
 refine RunsS.nilOwn (l':=[(1,.ptr 1 0),(2,.ptr 2 0),(3,.ptr 3 0),(4,.ptr 4 0)]) (H':=[(8,.own 85 4 []),(7,.own 9 1 []),(6,.own 83 6 []),(5,.own 81 8 []),roL L,(1,.cells 74 (stC en ⟨0,0,0⟩)),(2,.cells 32 [.v nilV,.v nilV,.v nilV,.v nilV,.v nilV,.v nilV,.v nilV,.v nilV]),(3,.cells 74 [.v nilV,intA 0,intA 0,intA 0,intA 0]),(4,.cells 32 [.buf 5,.buf 6,.buf 7,.buf 8,.buf 9,.v nilV,.v nilV,.v nilV])]) 50 2 ?_ (by rfl) (by rfl) (by rfl)
 refine RunsS.nilOwn (l':=[(1,.ptr 1 0),(2,.ptr 2 0),(3,.ptr 3 0),(4,.ptr 4 0)]) (H':=[(9,.own 50 2 []),(8,.own 85 4 []),(7,.own 9 1 []),(6,.own 83 6 []),(5,.own 81 8 []),roL L,(1,.cells 74 (stC en ⟨0,0,0⟩)),(2,.cells 32 [.v nilV,.v nilV,.v nilV,.v nilV,.v nilV,.v nilV,.v nilV,.v nilV]),(3,.cells 74 [.v nilV,intA 0,intA 0,intA 0,intA 0]),(4,.cells 32 [.buf 5,.buf 6,.buf 7,.buf 8,.buf 9,.buf 10,.v nilV,.v nilV])]) 53 1 ?_ (by rfl) (by rfl) (by rfl)
 refine RunsS.nilOwn (l':=[(1,.ptr 1 0),(2,.ptr 2 0),(3,.ptr 3 0),(4,.ptr 4 0)]) (H':=[(10,.own 53 1 []),(9,.own 50 2 []),(8,.own 85 4 []),(7,.own 9 1 []),(6,.own 83 6 []),(5,.own 81 8 []),roL L,(1,.cells 74 (stC en ⟨0,0,0⟩)),(2,.cells 32 [.v nilV,.v nilV,.v nilV,.v nilV,.v nilV,.v nilV,.v nilV,.v nilV]),(3,.cells 74 [.v nilV,intA 0,intA 0,intA 0,intA 0]),(4,.cells 32 [.buf 5,.buf 6,.buf 7,.buf 8,.buf 9,.buf 10,.buf 11,.v nilV])]) 61 17 ?_ (by rfl) (by rfl) (by rfl)
 refine RunsS.nilOwn (l':=[(1,.ptr 1 0),(2,.ptr 2 0),(3,.ptr 3 0),(4,.ptr 4 0)]) (H':=[(11,.own 61 17 []),(10,.own 53 1 []),(9,.own 50 2 []),(8,.own 85 4 []),(7,.own 9 1 []),(6,.own 83 6 []),(5,.own 81 8 []),roL L,(1,.cells 74 (stC en ⟨0,0,0⟩)),(2,.cells 32 [.v nilV,.v nilV,.v nilV,.v nilV,.v nilV,.v nilV,.v nilV,.v nilV]),(3,.cells 74 [.v nilV,intA 0,intA 0,intA 0,intA 0]),(4,.cells 32 [.buf 5,.buf 6,.buf 7,.buf 8,.buf 9,.buf 10,.buf 11,.buf 12])]) 89 4 ?_ (by rfl) (by rfl) (by rfl)
 refine RunsS.subR [] (RunsS.loopB (fun (⟨f,src,s,F',G',h'⟩:Nat×SrcV×St×(Nat→Prop)×(Nat→Prop)×Array Obj)=>(F',h')) (fun (⟨f,src,s,F',G',h'⟩:Nat×SrcV×St×(Nat→Prop)×(Nat→Prop)×Array Obj)=>[(1,.ptr 1 0),(2,.ptr 2 0),(3,.ptr 3 0),(4,.ptr 4 0)]) (fun (⟨f,src,s,F',G',h'⟩:Nat×SrcV×St×(Nat→Prop)×(Nat→Prop)×Array Obj)=>[roL L,(1,.cells 74 (stC en s)),(2,.cells 32 [.v nilV,.v nilV,.v nilV,.v nilV,.v nilV,.v nilV,.v nilV,.v nilV]),(3,.cells 74 [.v nilV,intA 0,intA 0,intA 0,intA 0]),(4,.cells 32 [.buf 5,.buf 6,.buf 7,.buf 8,.buf 9,.buf 10,.buf 11,.buf 12]),(5,.own 81 8 (rws Un.row src.units)),(6,.own 83 6 (rws It.row src.items)),(7,.own 9 1 (rws strR10 src.plants)),(8,.own 85 4 (rws Mc.row src.machines)),(9,.own 50 2 (rws OpV.row src.options)),(10,.own 53 1 (rws FbV.row src.forbids)),(11,.own 61 17 (rws RcV.row src.recipes)),(12,.own 89 4 (rws Sw.row src.swaps))]) 13 (fun (⟨f,src,s,F',G',h'⟩:Nat×SrcV×St×(Nat→Prop)×(Nat→Prop)×Array Obj)=>((Now F G h F' G' h'∧src.sub G' h')∧mu L s≤f∧f≤L.length+1∧TopLen (L.length+1 - f) src)∧rdefs L en (L.length+1) noS ⟨0,0,0⟩=rdefs L en f src.bare s) (fun (⟨f,src,s,F',G',h'⟩:Nat×SrcV×St×(Nat→Prop)×(Nat→Prop)×Array Obj)=>f) ?round1 (⟨L.length+1,noS,⟨0,0,0⟩,F,G,h⟩) ?J01) sH sH
 case J01=>exact (⟨⟨⟨N,fun _ h=>absurd h List.not_mem_nil,fun _ h=>absurd h List.not_mem_nil,fun _ h=>absurd h List.not_mem_nil⟩,mu_le _,Nat.le_refl _,⟨Nat.zero_le _,Nat.zero_le _,Nat.zero_le _,Nat.zero_le _,Nat.zero_le _,Nat.zero_le _,Nat.zero_le _,Nat.zero_le _⟩⟩,rfl⟩)
 rintro ⟨f,src,s,F',G',h'⟩ hJ back
 try dsimp only at hJ back
 conv=>whnf
 try dsimp only
 refine gS ?_;conv=>whnf
 repeat ((first|(guard_target=_∧_;(first|refine oL ?_|refine oR ?_))|(guard_target=Exists _;refine oM ?_));(try intro _);conv=>whnf)
 obtain ⟨⟨⟨N1,hsub⟩,hm,hf,hT⟩,hJ⟩:=hJ
 refine ⟨fun h0=>?_,fun h0=>?_⟩<;>conv=>whnf
 ·try refine gS ?_
  conv=>whnf
  repeat ((first|(guard_target=_∧_;(first|refine oL ?_|refine oR ?_))|(guard_target=Exists _;refine oM ?_));(try intro _);conv=>whnf)
  refine ⟨fun h1=>?_,fun h1=>?_⟩<;>conv=>whnf
  ·have h1:s.n<L.length:=by omega
   have hmu:=mu_def (en:=en) src.bare h0 h1
   have hm2:2≤mu L s:=by unfold mu;rw [if_pos h0];omega
   obtain ⟨g,rfl⟩:∃g,f=g+1:=⟨f - 1,by omega⟩
   rw [defs_yes ⟨h0,h1⟩] at hJ
   (try refine gS ?_);conv=>whnf
   repeat ((first|(guard_target=_∧_;(first|refine oL ?_|refine oR ?_))|(guard_target=Exists _;refine oM ?_));(try intro _);conv=>whnf)
   refine RunsS.callY (N1.gsub) (rdef_fn L en hL s src _ hT (by omega)) (fun h U=>hsub.up U) [0,5,6,7,8,9,10,11,12] sH ?CNa2 ?_
   case CNa2=>rfl
   rintro _ ⟨src2,s2⟩ G2 h2 N2 J2
   have e:rdef L en src.bare s=(src2.bare,s2):=J2.eq
   rw [e] at hmu
   conv=>whnf
   refine RunsS.subR (nx':=21) (l':=[(1,.ptr 1 0),(2,.ptr 2 0),(3,.ptr 3 0),(4,.ptr 4 0),(20,.tup [.agg [.buf 13,.buf 14,.buf 15,.buf 16,.buf 17,.buf 18,.buf 19,.buf 20],stV en s2])]) (H':=[roL L,(1,.cells 74 (stC en s)),(2,.cells 32 [.v nilV,.v nilV,.v nilV,.v nilV,.v nilV,.v nilV,.v nilV,.v nilV]),(3,.cells 74 [.v nilV,intA 0,intA 0,intA 0,intA 0]),(4,.cells 32 [.buf 5,.buf 6,.buf 7,.buf 8,.buf 9,.buf 10,.buf 11,.buf 12]),(13,.own 81 8 (rws Un.row src2.units)),(14,.own 83 6 (rws It.row src2.items)),(15,.own 9 1 (rws strR10 src2.plants)),(16,.own 85 4 (rws Mc.row src2.machines)),(17,.own 50 2 (rws OpV.row src2.options)),(18,.own 53 1 (rws FbV.row src2.forbids)),(19,.own 61 17 (rws RcV.row src2.recipes)),(20,.own 89 4 (rws Sw.row src2.swaps))]) [] ?_ sH sH
   (try refine gS ?_);conv=>whnf
   repeat ((first|(guard_target=_∧_;(first|refine oL ?_|refine oR ?_))|(guard_target=Exists _;refine oM ?_));(try intro _);conv=>whnf)
   refine RunsS.subR [(5,13),(6,14),(7,15),(8,16),(9,17),(10,18),(11,19),(12,20)] (back ((g,src2,s2,_,G2,h2)) (by exact (⟨⟨⟨N1.trans N2,J2.sub⟩,by show mu L s2≤g;have:mu L s2<mu L s:=hmu;omega,by show g≤_;omega,by have:=J2.len;rwa [show L.length+1 - (g+1)+1=L.length+1 - g by omega] at this⟩,hJ.trans (by simp only [sb,e])⟩)) (by (try dsimp only);omega)) sH sH
  have h1:¬(s.e=0∧s.n<L.length):=by omega
  (try refine gS ?_);conv=>whnf
  repeat ((first|(guard_target=_∧_;(first|refine oL ?_|refine oR ?_))|(guard_target=Exists _;refine oM ?_));(try intro _);conv=>whnf)
  refine RunsS.held tab (.fl 0 (.fl 1 (.e1 2 [1] (.e1 3 [] .done)))) (by kernel_rfl) ?_;conv=>whnf
  (try refine gR ?_);conv=>whnf
  repeat ((first|(guard_target=_∧_;(first|refine oL ?_|refine oR ?_|refine oB ?_))|(guard_target=Exists _;refine oM ?_));(try intro _);conv=>whnf)
  (try refine gS ?_);conv=>whnf
  repeat ((first|(guard_target=_∧_;(first|refine oL ?_|refine oR ?_))|(guard_target=Exists _;refine oM ?_));(try intro _);conv=>whnf)
  try refine RunsS.retU ?_
  try refine RunsS.finU ?_
  exact UnwS.ret tab Tryz.func26 rfl (EndX.mk (N1) (((src,s):SrcV×St)) (fun h U=>⟨hJ.trans (defs_no h1),hsub.up U⟩) [(1,5),(2,6),(3,7),(4,8),(5,9),(6,10),(7,11),(8,12)] sH rfl rfl (okRet rfl rfl))
 have h1:¬(s.e=0∧s.n<L.length):=fun h=>h0 h.1
 (try refine gS ?_);conv=>whnf
 repeat ((first|(guard_target=_∧_;(first|refine oL ?_|refine oR ?_))|(guard_target=Exists _;refine oM ?_));(try intro _);conv=>whnf)
 refine RunsS.held tab (.fl 0 (.fl 1 (.e1 2 [1] (.e1 3 [] .done)))) (by kernel_rfl) ?_;conv=>whnf
 (try refine gR ?_);conv=>whnf
 repeat ((first|(guard_target=_∧_;(first|refine oL ?_|refine oR ?_|refine oB ?_))|(guard_target=Exists _;refine oM ?_));(try intro _);conv=>whnf)
 (try refine gS ?_);conv=>whnf
 repeat ((first|(guard_target=_∧_;(first|refine oL ?_|refine oR ?_))|(guard_target=Exists _;refine oM ?_));(try intro _);conv=>whnf)
 try refine RunsS.retU ?_
 try refine RunsS.finU ?_
 exact UnwS.ret tab Tryz.func26 rfl (EndX.mk (N1) (((src,s):SrcV×St)) (fun h U=>⟨hJ.trans (defs_no h1),hsub.up U⟩) [(1,5),(2,6),(3,7),(4,8),(5,9),(6,10),(7,11),(8,12)] sH rfl rfl (okRet rfl rfl))
end
end Go.Proofs.YtgbeechjghajcaaGreatDoor

namespace Go.SynM
open Go Go.Fw Go.RatM Go.SrcM
open Go.Proofs.YtgbeechjghajcaaGreatDoor (Tok)
abbrev ix (L r:List Tok):Int:=((L.length - r.length:Nat):Int)
section
variable {L r:List Tok} {x:Tok}
theorem suf_tail (h:x::r <:+ L):r <:+ L:=(List.suffix_cons x r).trans h
theorem ix_succ (h:x::r <:+ L):ix L (x::r)+1=ix L r:=by
 have:=suf_len h
 simp only [List.length_cons] at this
 show ((L.length - (r.length+1):Nat):Int)+1=((L.length - r.length:Nat):Int)
 omega
theorem ix_lt (h:x::r <:+ L):0≤ix L (x::r)∧ix L (x::r)<L.length:=by
 have:=suf_len h
 simp only [List.length_cons] at this
 show (0:Int)≤((L.length - (r.length+1):Nat):Int)∧((L.length - (r.length+1):Nat):Int)<L.length
 omega
theorem ix_nil:ix L []=L.length:=by
 show ((L.length - 0:Nat):Int)=_
 rw [Nat.sub_zero]
theorem drop_ix (h:r <:+ L):L.drop (L.length - r.length)=r:=by
 obtain ⟨a,rfl⟩:=h
 rw [List.length_append,Nat.add_sub_cancel,List.drop_left]
theorem row_ix (h:x::r <:+ L):(L.map Tok.row)[(ix L (x::r)).toNat]? = some x.row:=by
 have e:(ix L (x::r)).toNat=L.length - (x::r).length:=Int.toNat_natCast _
 have:=drop_ix h
 rw [e,List.getElem?_map,←List.head?_drop,this];rfl
end
def isA (t:ByteArray):List Tok→Bool
 | []=>false
 |x::_=>decide (x.kind≠2∧x.text=t)
def skipA (t:ByteArray):P Unit:=fun r=>if isA t r then .ok () r.tail else .bad r 100
theorem isA_cons {t:ByteArray} {r:List Tok} (h:isA t r=true):∃x r',r=x::r':=by
 cases r with
 |nil=>cases h
 |cons x r=>exact ⟨x,r,rfl⟩
def skipsA:List ByteArray→P Unit
 | []=>pur ()
 |t::l=>bnd (skipA t) fun _=>skipsA l
end Go.SynM
namespace Go.Proofs.YtgbeechjghajcaaGreatDoor
open Go Go.Fw Go.NatM Go.RatM Go.SrcM Go.SynM
set_option maxRecDepth 100000
set_option maxHeartbeats 99999999
abbrev psB (src:ByteArray) (i:Int):Nat×Fw.Blk:=(0,.cells 67 [.v (.string src),.buf 1,.v (.int .i64 i),.buf 2,.buf 3,.buf 4,.buf 5,.buf 6,.buf 7,.buf 8,.buf 9])
abbrev tkB (L:List Tok):Nat×Fw.Blk:=(1,.own 47 4 (L.map Tok.row))
def failV (q:Int×Nat):List PanicEntry:=[{v:=.iface 63 (.agg #[.int .i64 q.1,.int .i64 (q.2:Int)]),recovered:=false}]
def outP {α:Type} (src:ByteArray) (L:List Tok) (f:α→SV) (n:Nat:=10):Rs α→OutS
 | .ok a r=>.ret (f a) n [psB src (ix L r),tkB L]
 | .bad r e=>.pan (failV (place src.size e r)) n [psB src (ix L r),tkB L]
section
variable (src:ByteArray) (L r:List Tok) (hr:r <:+ L)
include hr
theorem pfail_fn (e:Nat):FnS Tryz.prog 24 10 [.ptr 0 0,.v (.int .i64 (e:Int))] [psB src (ix L r),tkB L] (fun _:Unit=>True) (fun _=>.pan (failV (place src.size e r)) 10 [psB src (ix L r),tkB L]):=by
 have lm:(L.map Tok.row).length=L.length:=List.length_map _
 refine FnS.of Tryz.func24 (by kernel_rfl) rfl Tryz.ntmps24 rfl fun E0 F h w0 cs=>?_
 conv=>whnf
 refine gS ?_;conv=>whnf
 repeat ((first|(guard_target=_∧_;(first|refine oL ?_|refine oR ?_))|(guard_target=Exists _;refine oM ?_));(try intro _);conv=>whnf)
 refine RunsS.held tab (.fl 0 (.fl 1 (.fl 2 (.fl 3 (.fl 4 (.fl 5 (.fl 6 (.fl 7 (.fl 8 (.fl 9 .done)))))))))) (by kernel_rfl) ?_;conv=>whnf
 (try refine gR ?_);conv=>whnf
 repeat ((first|(guard_target=_∧_;(first|refine oL ?_|refine oR ?_|refine oB ?_))|(guard_target=Exists _;refine oM ?_));(try intro _);conv=>whnf)
 (try refine gS ?_);conv=>whnf
 repeat ((first|(guard_target=_∧_;(first|refine oL ?_|refine oR ?_))|(guard_target=Exists _;refine oM ?_));(try intro _);conv=>whnf)
 cases r with
 |nil=>
  have e1:ix L []=L.length:=ix_nil
  refine ⟨fun h1=>?_,fun h1=>?_⟩<;>conv=>whnf
  ·try refine gR ?_
   conv=>whnf
   repeat ((first|(guard_target=_∧_;(first|refine oL ?_|refine oR ?_|refine oB ?_))|(guard_target=Exists _;refine oM ?_));(try intro _);conv=>whnf)
   (try refine gS ?_);conv=>whnf
   repeat ((first|(guard_target=_∧_;(first|refine oL ?_|refine oR ?_))|(guard_target=Exists _;refine oM ?_));(try intro _);conv=>whnf)
   refine RunsS.panicX (v:=.agg #[.int .i64 src.size,.int .i64 100]) ?_ (fun _=>rfl)
   try refine RunsS.panicU ?_
   exact UnwS.pan Tryz.func24 (EndS.mk (()) (trivial) [] sH rfl rfl (okPan rfl))
  exact absurd (by rw [e1,lm]) h1
 |cons x r=>
  have h2:=ix_lt hr
  refine ⟨fun h1=>?_,fun h1=>?_⟩<;>conv=>whnf
  ·omega
  (try refine gR ?_);conv=>whnf
  repeat ((first|(guard_target=_∧_;(first|refine oL ?_|refine oR ?_|refine oB ?_))|(guard_target=Exists _;refine oM ?_));(try intro _);conv=>whnf)
  (try refine gS ?_);conv=>whnf
  repeat ((first|(guard_target=_∧_;(first|refine oL ?_|refine oR ?_))|(guard_target=Exists _;refine oM ?_));(try intro _);conv=>whnf)
  refine RunsS.held tab (.fl 0 (.fl 1 (.fl 2 (.fl 3 (.fl 4 (.fl 5 (.fl 6 (.fl 7 (.fl 8 (.fl 9 (.fl 10 (.fl 11 (.fl 12 (.fl 13 (.e1 14 [] .done))))))))))))))) (by kernel_rfl) ?_;conv=>whnf
  (try refine gR ?_);conv=>whnf
  repeat ((first|(guard_target=_∧_;(first|refine oL ?_|refine oR ?_|refine oB ?_))|(guard_target=Exists _;refine oM ?_));(try intro _);conv=>whnf)
  (try refine gS ?_);conv=>whnf
  repeat ((first|(guard_target=_∧_;(first|refine oL ?_|refine oR ?_))|(guard_target=Exists _;refine oM ?_));(try intro _);conv=>whnf)
  refine ⟨_,row_ix hr,?_⟩;conv=>whnf
  try (refine And.intro (by first|omega|exact Nat.le_of_ble_eq_true rfl) ?_;(try intro _);conv=>whnf)
  (try refine gR ?_);conv=>whnf
  repeat ((first|(guard_target=_∧_;(first|refine oL ?_|refine oR ?_|refine oB ?_))|(guard_target=Exists _;refine oM ?_));(try intro _);conv=>whnf)
  (try refine gS ?_);conv=>whnf
  repeat ((first|(guard_target=_∧_;(first|refine oL ?_|refine oR ?_))|(guard_target=Exists _;refine oM ?_));(try intro _);conv=>whnf)
  refine EffR.panicX (v:=.agg #[.int .i64 x.pos,.int .i64 (e:Int)]) ?_ (fun _=>rfl)
  try refine RunsS.panicU ?_
  exact UnwS.pan Tryz.func24 (EndS.mk (()) (trivial) [] sH rfl rfl (okPan rfl))
theorem pis_fn (t:ByteArray):FnS Tryz.prog 122 10 [.ptr 0 0,.v (.string t)] [psB src (ix L r),tkB L] (fun _:Unit=>True) (fun _=>.ret (.v (.bool (isA t r))) 10 [psB src (ix L r),tkB L]):=by
 have lm:(L.map Tok.row).length=L.length:=List.length_map _
 refine FnS.of Tryz.func122 (by kernel_rfl) rfl Tryz.ntmps122 rfl fun E0 F h w0 cs=>?_
 conv=>whnf
 refine gS ?_;conv=>whnf
 repeat ((first|(guard_target=_∧_;(first|refine oL ?_|refine oR ?_))|(guard_target=Exists _;refine oM ?_));(try intro _);conv=>whnf)
 refine RunsS.held tab (.fl 0 (.fl 1 (.fl 2 (.fl 3 (.fl 4 (.fl 5 (.fl 6 (.fl 7 (.fl 8 (.fl 9 (.fl 10 (.fl 11 (.fl 12 (.fl 13 (.fl 14 (.fl 15 (.fl 16 (.fl 17 (.fl 18 (.fl 19 (.fl 20 (.fl 21 (.fl 22 (.fl 23 (.fl 24 (.fl 25 (.fl 26 (.fl 27 (.fl 28 (.fl 29 (.fl 30 (.fl 31 (.fl 32 (.fl 33 (.fl 34 (.fl 35 (.fl 36 (.fl 37 (.fl 38 (.fl 39 .done)))))))))))))))))))))))))))))))))))))))) (by kernel_rfl) ?_;conv=>whnf
 (try refine gR ?_);conv=>whnf
 repeat ((first|(guard_target=_∧_;(first|refine oL ?_|refine oR ?_|refine oB ?_))|(guard_target=Exists _;refine oM ?_));(try intro _);conv=>whnf)
 (try refine gS ?_);conv=>whnf
 repeat ((first|(guard_target=_∧_;(first|refine oL ?_|refine oR ?_))|(guard_target=Exists _;refine oM ?_));(try intro _);conv=>whnf)
 cases r with
 |nil=>
  have e1:ix L []=L.length:=ix_nil
  refine And.intro (fun hp=>absurd hp ((by rw [e1,lm];omega))) (fun _=>?_)
  conv=>whnf
  (try refine gR ?_);conv=>whnf
  repeat ((first|(guard_target=_∧_;(first|refine oL ?_|refine oR ?_|refine oB ?_))|(guard_target=Exists _;refine oM ?_));(try intro _);conv=>whnf)
  (try refine gS ?_);conv=>whnf
  repeat ((first|(guard_target=_∧_;(first|refine oL ?_|refine oR ?_))|(guard_target=Exists _;refine oM ?_));(try intro _);conv=>whnf)
  try refine RunsS.retU ?_
  try refine RunsS.finU ?_
  exact UnwS.ret tab Tryz.func122 rfl (eN () trivial)
 |cons x r=>
  have h2:=ix_lt hr
  refine And.intro (fun _=>?_) (fun hn=>absurd ((by rw [lm];exact h2.2)) hn)
  conv=>whnf
  (try refine gR ?_);conv=>whnf
  repeat ((first|(guard_target=_∧_;(first|refine oL ?_|refine oR ?_|refine oB ?_))|(guard_target=Exists _;refine oM ?_));(try intro _);conv=>whnf)
  (try refine gS ?_);conv=>whnf
  repeat ((first|(guard_target=_∧_;(first|refine oL ?_|refine oR ?_))|(guard_target=Exists _;refine oM ?_));(try intro _);conv=>whnf)
  refine ⟨_,row_ix hr,?_⟩;conv=>whnf
  try (refine And.intro (by first|omega|exact Nat.le_of_ble_eq_true rfl) ?_;(try intro _);conv=>whnf)
  (try refine gR ?_);conv=>whnf
  repeat ((first|(guard_target=_∧_;(first|refine oL ?_|refine oR ?_|refine oB ?_))|(guard_target=Exists _;refine oM ?_));(try intro _);conv=>whnf)
  (try refine gS ?_);conv=>whnf
  repeat ((first|(guard_target=_∧_;(first|refine oL ?_|refine oR ?_))|(guard_target=Exists _;refine oM ?_));(try intro _);conv=>whnf)
  refine ⟨fun hk=>?_,fun hk=>?_⟩<;>conv=>whnf
  ·try refine gR ?_
   conv=>whnf
   repeat ((first|(guard_target=_∧_;(first|refine oL ?_|refine oR ?_|refine oB ?_))|(guard_target=Exists _;refine oM ?_));(try intro _);conv=>whnf)
   (try refine gS ?_);conv=>whnf
   repeat ((first|(guard_target=_∧_;(first|refine oL ?_|refine oR ?_))|(guard_target=Exists _;refine oM ?_));(try intro _);conv=>whnf)
   try refine RunsS.retU ?_
   try refine RunsS.finU ?_
   exact UnwS.ret tab Tryz.func122 rfl (EndS.mk (()) (trivial) [] sH rfl rfl (okRet rfl (congrArg (fun b=>SV.v (Value.bool b)) ((decide_eq_false fun h=>h.1 hk).symm))))
  (try refine gR ?_);conv=>whnf
  repeat ((first|(guard_target=_∧_;(first|refine oL ?_|refine oR ?_|refine oB ?_))|(guard_target=Exists _;refine oM ?_));(try intro _);conv=>whnf)
  (try refine gS ?_);conv=>whnf
  repeat ((first|(guard_target=_∧_;(first|refine oL ?_|refine oR ?_))|(guard_target=Exists _;refine oM ?_));(try intro _);conv=>whnf)
  refine ⟨_,row_ix hr,?_⟩;conv=>whnf
  try (refine And.intro (by first|omega|exact Nat.le_of_ble_eq_true rfl) ?_;(try intro _);conv=>whnf)
  (try refine gR ?_);conv=>whnf
  repeat ((first|(guard_target=_∧_;(first|refine oL ?_|refine oR ?_|refine oB ?_))|(guard_target=Exists _;refine oM ?_));(try intro _);conv=>whnf)
  (try refine gS ?_);conv=>whnf
  repeat ((first|(guard_target=_∧_;(first|refine oL ?_|refine oR ?_))|(guard_target=Exists _;refine oM ?_));(try intro _);conv=>whnf)
  (try refine gS ?_);conv=>whnf
  repeat ((first|(guard_target=_∧_;(first|refine oL ?_|refine oR ?_))|(guard_target=Exists _;refine oM ?_));(try intro _);conv=>whnf)
  try refine RunsS.retU ?_
  try refine RunsS.finU ?_
  exact UnwS.ret tab Tryz.func122 rfl (EndS.mk (()) (trivial) [] sH rfl rfl (okRet rfl (congrArg (fun b=>SV.v (Value.bool b)) ((decide_eq_decide.2 ⟨fun h=>⟨hk,h⟩,fun h=>h.2⟩:decide (x.text=t)=decide (x.kind≠2∧x.text=t))))))
theorem pname_fn (hL:L.length≤65536):FnS Tryz.prog 121 10 [.ptr 0 0] [psB src (ix L r),tkB L] (fun x:Rs ByteArray=>x=nameP r) (outP src L fun a=>.v (.string a)):=by
 have lm:(L.map Tok.row).length=L.length:=List.length_map _
 refine FnS.of Tryz.func121 (by kernel_rfl) rfl Tryz.ntmps121 rfl fun E0 F h w0 cs=>?_
 conv=>whnf
 refine gS ?_;conv=>whnf
 repeat ((first|(guard_target=_∧_;(first|refine oL ?_|refine oR ?_))|(guard_target=Exists _;refine oM ?_));(try intro _);conv=>whnf)
 refine RunsS.held tab (.fl 0 (.fl 1 (.fl 2 (.fl 3 (.fl 4 (.fl 5 (.fl 6 (.fl 7 (.fl 8 (.fl 9 (.fl 10 (.fl 11 (.fl 12 (.fl 13 (.fl 14 (.fl 15 (.fl 16 (.fl 17 (.fl 18 (.fl 19 (.fl 20 (.fl 21 (.fl 22 (.fl 23 .done)))))))))))))))))))))))) (by kernel_rfl) ?_;conv=>whnf
 (try refine gR ?_);conv=>whnf
 repeat ((first|(guard_target=_∧_;(first|refine oL ?_|refine oR ?_|refine oB ?_))|(guard_target=Exists _;refine oM ?_));(try intro _);conv=>whnf)
 (try refine gS ?_);conv=>whnf
 repeat ((first|(guard_target=_∧_;(first|refine oL ?_|refine oR ?_))|(guard_target=Exists _;refine oM ?_));(try intro _);conv=>whnf)
 cases r with
 |nil=>
  have e1:ix L []=L.length:=ix_nil
  refine And.intro (fun _=>?_) (fun hn=>absurd ((by rw [e1,lm])) hn)
  conv=>whnf
  (try refine gR ?_);conv=>whnf
  repeat ((first|(guard_target=_∧_;(first|refine oL ?_|refine oR ?_|refine oB ?_))|(guard_target=Exists _;refine oM ?_));(try intro _);conv=>whnf)
  (try refine gS ?_);conv=>whnf
  repeat ((first|(guard_target=_∧_;(first|refine oL ?_|refine oR ?_))|(guard_target=Exists _;refine oM ?_));(try intro _);conv=>whnf)
  refine RunsS.callN (pfail_fn src L [] hr 100) [0,1,2,3,4,5,6,7,8,9] ?_ sH ?CNa1
  case CNa1=>rfl
  intro _ _
  conv=>whnf
  (try refine gS ?_);conv=>whnf
  repeat ((first|(guard_target=_∧_;(first|refine oL ?_|refine oR ?_))|(guard_target=Exists _;refine oM ?_));(try intro _);conv=>whnf)
  try refine RunsS.panicU ?_
  exact UnwS.pan Tryz.func121 (EndS.mk ((Rs.bad [] 100:Rs ByteArray)) ((by rfl)) [] sH rfl rfl (okPan rfl))
 |cons x r=>
  have h2:=ix_lt hr
  refine And.intro (fun hp=>absurd hp ((by rw [lm];omega))) (fun _=>?_)
  conv=>whnf
  (try refine gR ?_);conv=>whnf
  repeat ((first|(guard_target=_∧_;(first|refine oL ?_|refine oR ?_|refine oB ?_))|(guard_target=Exists _;refine oM ?_));(try intro _);conv=>whnf)
  (try refine gS ?_);conv=>whnf
  repeat ((first|(guard_target=_∧_;(first|refine oL ?_|refine oR ?_))|(guard_target=Exists _;refine oM ?_));(try intro _);conv=>whnf)
  refine ⟨_,row_ix hr,?_⟩;conv=>whnf
  try (refine And.intro (by first|omega|exact Nat.le_of_ble_eq_true rfl) ?_;(try intro _);conv=>whnf)
  (try refine gR ?_);conv=>whnf
  repeat ((first|(guard_target=_∧_;(first|refine oL ?_|refine oR ?_|refine oB ?_))|(guard_target=Exists _;refine oM ?_));(try intro _);conv=>whnf)
  (try refine gS ?_);conv=>whnf
  repeat ((first|(guard_target=_∧_;(first|refine oL ?_|refine oR ?_))|(guard_target=Exists _;refine oM ?_));(try intro _);conv=>whnf)
  refine ⟨fun hk=>?_,fun hk=>?_⟩<;>conv=>whnf
  ·try refine gR ?_
   conv=>whnf
   repeat ((first|(guard_target=_∧_;(first|refine oL ?_|refine oR ?_|refine oB ?_))|(guard_target=Exists _;refine oM ?_));(try intro _);conv=>whnf)
   (try refine gS ?_);conv=>whnf
   repeat ((first|(guard_target=_∧_;(first|refine oL ?_|refine oR ?_))|(guard_target=Exists _;refine oM ?_));(try intro _);conv=>whnf)
   refine RunsS.held tab (.fl 0 (.fl 1 (.fl 2 (.fl 3 (.fl 4 (.fl 5 (.fl 6 (.fl 7 (.fl 8 (.fl 9 (.fl 10 (.fl 11 (.fl 12 .done))))))))))))) (by kernel_rfl) ?_;conv=>whnf
   (try refine gR ?_);conv=>whnf
   repeat ((first|(guard_target=_∧_;(first|refine oL ?_|refine oR ?_|refine oB ?_))|(guard_target=Exists _;refine oM ?_));(try intro _);conv=>whnf)
   (try refine gS ?_);conv=>whnf
   repeat ((first|(guard_target=_∧_;(first|refine oL ?_|refine oR ?_))|(guard_target=Exists _;refine oM ?_));(try intro _);conv=>whnf)
   refine ⟨_,(by rw [Int.add_sub_cancel];exact row_ix hr),?_⟩;conv=>whnf
   try (refine And.intro (by first|omega|exact Nat.le_of_ble_eq_true rfl) ?_;(try intro _);conv=>whnf)
   (try refine gR ?_);conv=>whnf
   repeat ((first|(guard_target=_∧_;(first|refine oL ?_|refine oR ?_|refine oB ?_))|(guard_target=Exists _;refine oM ?_));(try intro _);conv=>whnf)
   (try refine gS ?_);conv=>whnf
   repeat ((first|(guard_target=_∧_;(first|refine oL ?_|refine oR ?_))|(guard_target=Exists _;refine oM ?_));(try intro _);conv=>whnf)
   rw [ix_succ hr]
   (try refine gR ?_);conv=>whnf
   repeat ((first|(guard_target=_∧_;(first|refine oL ?_|refine oR ?_|refine oB ?_))|(guard_target=Exists _;refine oM ?_));(try intro _);conv=>whnf)
   (try refine gS ?_);conv=>whnf
   repeat ((first|(guard_target=_∧_;(first|refine oL ?_|refine oR ?_))|(guard_target=Exists _;refine oM ?_));(try intro _);conv=>whnf)
   try refine RunsS.retU ?_
   try refine RunsS.finU ?_
   exact UnwS.ret tab Tryz.func121 rfl (EndS.mk ((Rs.ok x.text r)) ((by simp only [nameP,if_pos hk])) [] sH rfl rfl (okRet rfl rfl))
  (try refine gR ?_);conv=>whnf
  repeat ((first|(guard_target=_∧_;(first|refine oL ?_|refine oR ?_|refine oB ?_))|(guard_target=Exists _;refine oM ?_));(try intro _);conv=>whnf)
  (try refine gS ?_);conv=>whnf
  repeat ((first|(guard_target=_∧_;(first|refine oL ?_|refine oR ?_))|(guard_target=Exists _;refine oM ?_));(try intro _);conv=>whnf)
  refine RunsS.callN (pfail_fn src L (x::r) hr 100) [0,1,2,3,4,5,6,7,8,9] ?_ sH ?CNa2
  case CNa2=>rfl
  intro _ _
  conv=>whnf
  (try refine gS ?_);conv=>whnf
  repeat ((first|(guard_target=_∧_;(first|refine oL ?_|refine oR ?_))|(guard_target=Exists _;refine oM ?_));(try intro _);conv=>whnf)
  try refine RunsS.panicU ?_
  exact UnwS.pan Tryz.func121 (EndS.mk ((Rs.bad (x::r) 100:Rs ByteArray)) ((by simp only [nameP,if_neg hk])) [] sH rfl rfl (okPan rfl))
theorem pnumber_fn (hL:L.length≤65536):FnS Tryz.prog 125 10 [.ptr 0 0] [psB src (ix L r),tkB L] (fun x:Rs Int=>x=numP r) (outP src L fun a=>.v (.int .i64 a)):=by
 have lm:(L.map Tok.row).length=L.length:=List.length_map _
 refine FnS.of Tryz.func125 (by kernel_rfl) rfl Tryz.ntmps125 rfl fun E0 F h w0 cs=>?_
 conv=>whnf
 refine gS ?_;conv=>whnf
 repeat ((first|(guard_target=_∧_;(first|refine oL ?_|refine oR ?_))|(guard_target=Exists _;refine oM ?_));(try intro _);conv=>whnf)
 refine RunsS.held tab (.fl 0 (.fl 1 (.fl 2 (.fl 3 (.fl 4 (.fl 5 (.fl 6 (.fl 7 (.fl 8 (.fl 9 (.fl 10 (.fl 11 (.fl 12 (.fl 13 (.fl 14 (.fl 15 (.fl 16 (.fl 17 (.fl 18 (.fl 19 (.fl 20 (.fl 21 (.fl 22 (.fl 23 (.fl 24 (.fl 25 (.fl 26 (.fl 27 (.fl 28 (.fl 29 (.fl 30 (.fl 31 (.fl 32 (.fl 33 (.fl 34 (.fl 35 (.fl 36 (.fl 37 .done)))))))))))))))))))))))))))))))))))))) (by kernel_rfl) ?_;conv=>whnf
 (try refine gR ?_);conv=>whnf
 repeat ((first|(guard_target=_∧_;(first|refine oL ?_|refine oR ?_|refine oB ?_))|(guard_target=Exists _;refine oM ?_));(try intro _);conv=>whnf)
 (try refine gS ?_);conv=>whnf
 repeat ((first|(guard_target=_∧_;(first|refine oL ?_|refine oR ?_))|(guard_target=Exists _;refine oM ?_));(try intro _);conv=>whnf)
 cases r with
 |nil=>
  have e1:ix L []=L.length:=ix_nil
  refine And.intro (fun _=>?_) (fun hn=>absurd ((by rw [e1,lm])) hn)
  conv=>whnf
  (try refine gR ?_);conv=>whnf
  repeat ((first|(guard_target=_∧_;(first|refine oL ?_|refine oR ?_|refine oB ?_))|(guard_target=Exists _;refine oM ?_));(try intro _);conv=>whnf)
  (try refine gS ?_);conv=>whnf
  repeat ((first|(guard_target=_∧_;(first|refine oL ?_|refine oR ?_))|(guard_target=Exists _;refine oM ?_));(try intro _);conv=>whnf)
  refine RunsS.callN (pfail_fn src L [] hr 100) [0,1,2,3,4,5,6,7,8,9] ?_ sH ?CNa3
  case CNa3=>rfl
  intro _ _
  conv=>whnf
  (try refine gS ?_);conv=>whnf
  repeat ((first|(guard_target=_∧_;(first|refine oL ?_|refine oR ?_))|(guard_target=Exists _;refine oM ?_));(try intro _);conv=>whnf)
  try refine RunsS.panicU ?_
  exact UnwS.pan Tryz.func125 (EndS.mk ((Rs.bad [] 100:Rs Int)) ((by rfl)) [] sH rfl rfl (okPan rfl))
 |cons x r=>
  have h2:=ix_lt hr
  refine And.intro (fun hp=>absurd hp ((by rw [lm];omega))) (fun _=>?_)
  conv=>whnf
  (try refine gR ?_);conv=>whnf
  repeat ((first|(guard_target=_∧_;(first|refine oL ?_|refine oR ?_|refine oB ?_))|(guard_target=Exists _;refine oM ?_));(try intro _);conv=>whnf)
  (try refine gS ?_);conv=>whnf
  repeat ((first|(guard_target=_∧_;(first|refine oL ?_|refine oR ?_))|(guard_target=Exists _;refine oM ?_));(try intro _);conv=>whnf)
  refine ⟨_,row_ix hr,?_⟩;conv=>whnf
  try (refine And.intro (by first|omega|exact Nat.le_of_ble_eq_true rfl) ?_;(try intro _);conv=>whnf)
  (try refine gR ?_);conv=>whnf
  repeat ((first|(guard_target=_∧_;(first|refine oL ?_|refine oR ?_|refine oB ?_))|(guard_target=Exists _;refine oM ?_));(try intro _);conv=>whnf)
  (try refine gS ?_);conv=>whnf
  repeat ((first|(guard_target=_∧_;(first|refine oL ?_|refine oR ?_))|(guard_target=Exists _;refine oM ?_));(try intro _);conv=>whnf)
  refine ⟨fun hk=>?_,fun hk=>?_⟩<;>conv=>whnf
  ·try refine gR ?_
   conv=>whnf
   repeat ((first|(guard_target=_∧_;(first|refine oL ?_|refine oR ?_|refine oB ?_))|(guard_target=Exists _;refine oM ?_));(try intro _);conv=>whnf)
   (try refine gS ?_);conv=>whnf
   repeat ((first|(guard_target=_∧_;(first|refine oL ?_|refine oR ?_))|(guard_target=Exists _;refine oM ?_));(try intro _);conv=>whnf)
   refine ⟨_,row_ix hr,?_⟩;conv=>whnf
   try (refine And.intro (by first|omega|exact Nat.le_of_ble_eq_true rfl) ?_;(try intro _);conv=>whnf)
   (try refine gR ?_);conv=>whnf
   repeat ((first|(guard_target=_∧_;(first|refine oL ?_|refine oR ?_|refine oB ?_))|(guard_target=Exists _;refine oM ?_));(try intro _);conv=>whnf)
   (try refine gS ?_);conv=>whnf
   repeat ((first|(guard_target=_∧_;(first|refine oL ?_|refine oR ?_))|(guard_target=Exists _;refine oM ?_));(try intro _);conv=>whnf)
   refine ⟨fun hn=>?_,fun hn=>?_⟩<;>conv=>whnf
   ·try refine gR ?_
    conv=>whnf
    repeat ((first|(guard_target=_∧_;(first|refine oL ?_|refine oR ?_|refine oB ?_))|(guard_target=Exists _;refine oM ?_));(try intro _);conv=>whnf)
    (try refine gS ?_);conv=>whnf
    repeat ((first|(guard_target=_∧_;(first|refine oL ?_|refine oR ?_))|(guard_target=Exists _;refine oM ?_));(try intro _);conv=>whnf)
    refine RunsS.callN (pfail_fn src L (x::r) hr 100) [0,1,2,3,4,5,6,7,8,9] ?_ sH ?CNa4
    case CNa4=>rfl
    intro _ _
    conv=>whnf
    (try refine gS ?_);conv=>whnf
    repeat ((first|(guard_target=_∧_;(first|refine oL ?_|refine oR ?_))|(guard_target=Exists _;refine oM ?_));(try intro _);conv=>whnf)
    try refine RunsS.panicU ?_
    exact UnwS.pan Tryz.func125 (EndS.mk ((Rs.bad (x::r) 100:Rs Int)) ((by simp only [numP];rw [if_neg fun h=>by have:=h.2;omega])) [] sH rfl rfl (okPan rfl))
   (try refine gR ?_);conv=>whnf
   repeat ((first|(guard_target=_∧_;(first|refine oL ?_|refine oR ?_|refine oB ?_))|(guard_target=Exists _;refine oM ?_));(try intro _);conv=>whnf)
   (try refine gS ?_);conv=>whnf
   repeat ((first|(guard_target=_∧_;(first|refine oL ?_|refine oR ?_))|(guard_target=Exists _;refine oM ?_));(try intro _);conv=>whnf)
   refine RunsS.held tab (.fl 0 (.fl 1 (.fl 2 (.fl 3 (.fl 4 (.fl 5 (.fl 6 (.fl 7 (.fl 8 (.fl 9 (.fl 10 (.fl 11 (.fl 12 .done))))))))))))) (by kernel_rfl) ?_;conv=>whnf
   (try refine gR ?_);conv=>whnf
   repeat ((first|(guard_target=_∧_;(first|refine oL ?_|refine oR ?_|refine oB ?_))|(guard_target=Exists _;refine oM ?_));(try intro _);conv=>whnf)
   (try refine gS ?_);conv=>whnf
   repeat ((first|(guard_target=_∧_;(first|refine oL ?_|refine oR ?_))|(guard_target=Exists _;refine oM ?_));(try intro _);conv=>whnf)
   refine ⟨_,(by rw [Int.add_sub_cancel];exact row_ix hr),?_⟩;conv=>whnf
   try (refine And.intro (by first|omega|exact Nat.le_of_ble_eq_true rfl) ?_;(try intro _);conv=>whnf)
   (try refine gR ?_);conv=>whnf
   repeat ((first|(guard_target=_∧_;(first|refine oL ?_|refine oR ?_|refine oB ?_))|(guard_target=Exists _;refine oM ?_));(try intro _);conv=>whnf)
   (try refine gS ?_);conv=>whnf
   repeat ((first|(guard_target=_∧_;(first|refine oL ?_|refine oR ?_))|(guard_target=Exists _;refine oM ?_));(try intro _);conv=>whnf)
   rw [ix_succ hr]
   (try refine gR ?_);conv=>whnf
   repeat ((first|(guard_target=_∧_;(first|refine oL ?_|refine oR ?_|refine oB ?_))|(guard_target=Exists _;refine oM ?_));(try intro _);conv=>whnf)
   (try refine gS ?_);conv=>whnf
   repeat ((first|(guard_target=_∧_;(first|refine oL ?_|refine oR ?_))|(guard_target=Exists _;refine oM ?_));(try intro _);conv=>whnf)
   try refine RunsS.retU ?_
   try refine RunsS.finU ?_
   exact UnwS.ret tab Tryz.func125 rfl (EndS.mk ((Rs.ok x.n r)) ((by simp only [numP];rw [if_pos ⟨hk,by omega⟩])) [] sH rfl rfl (okRet rfl rfl))
  (try refine gR ?_);conv=>whnf
  repeat ((first|(guard_target=_∧_;(first|refine oL ?_|refine oR ?_|refine oB ?_))|(guard_target=Exists _;refine oM ?_));(try intro _);conv=>whnf)
  (try refine gS ?_);conv=>whnf
  repeat ((first|(guard_target=_∧_;(first|refine oL ?_|refine oR ?_))|(guard_target=Exists _;refine oM ?_));(try intro _);conv=>whnf)
  refine RunsS.callN (pfail_fn src L (x::r) hr 100) [0,1,2,3,4,5,6,7,8,9] ?_ sH ?CNa5
  case CNa5=>rfl
  intro _ _
  conv=>whnf
  (try refine gS ?_);conv=>whnf
  repeat ((first|(guard_target=_∧_;(first|refine oL ?_|refine oR ?_))|(guard_target=Exists _;refine oM ?_));(try intro _);conv=>whnf)
  try refine RunsS.panicU ?_
  exact UnwS.pan Tryz.func125 (EndS.mk ((Rs.bad (x::r) 100:Rs Int)) ((by simp only [numP];rw [if_neg fun h=>hk h.1])) [] sH rfl rfl (okPan rfl))
theorem pfurther_fn (hL:L.length≤65536) (n m:Int) (hne:r ≠ []):FnS Tryz.prog 120 10 [.ptr 0 0,.v (.int .i64 n),.v (.int .i64 m)] [psB src (ix L r),tkB L] (fun x:Rs Unit=>x=if m≤n then .bad r 2 else .ok () r.tail) (outP src L fun _=>.tup []):=by
 refine FnS.of Tryz.func120 (by kernel_rfl) rfl Tryz.ntmps120 rfl fun E0 F h w0 cs=>?_
 conv=>whnf
 refine gS ?_;conv=>whnf
 repeat ((first|(guard_target=_∧_;(first|refine oL ?_|refine oR ?_))|(guard_target=Exists _;refine oM ?_));(try intro _);conv=>whnf)
 obtain ⟨x,r,rfl⟩:∃x r',r=x::r':=by cases r with|nil=>exact absurd rfl hne|cons x r=>exact ⟨x,r,rfl⟩
 have h2:=ix_lt hr
 refine ⟨fun hk=>?_,fun hk=>?_⟩<;>conv=>whnf
 ·try refine gS ?_
  conv=>whnf
  repeat ((first|(guard_target=_∧_;(first|refine oL ?_|refine oR ?_))|(guard_target=Exists _;refine oM ?_));(try intro _);conv=>whnf)
  refine RunsS.callN (pfail_fn src L (x::r) hr 2) [0,1,2,3,4,5,6,7,8,9] ?_ sH ?CNa6
  case CNa6=>rfl
  intro _ _
  conv=>whnf
  (try refine gS ?_);conv=>whnf
  repeat ((first|(guard_target=_∧_;(first|refine oL ?_|refine oR ?_))|(guard_target=Exists _;refine oM ?_));(try intro _);conv=>whnf)
  try refine RunsS.panicU ?_
  exact UnwS.pan Tryz.func120 (EndS.mk ((Rs.bad (x::r) 2:Rs Unit)) ((by rw [if_pos (by omega)])) [] sH rfl rfl (okPan rfl))
 (try refine gS ?_);conv=>whnf
 repeat ((first|(guard_target=_∧_;(first|refine oL ?_|refine oR ?_))|(guard_target=Exists _;refine oM ?_));(try intro _);conv=>whnf)
 rw [ix_succ hr]
 try refine RunsS.retU ?_
 try refine RunsS.finU ?_
 exact UnwS.ret tab Tryz.func120 rfl (EndS.mk ((Rs.ok () r:Rs Unit)) ((by rw [if_neg (by omega)];rfl)) [] sH rfl rfl (okRet rfl rfl))
end
end Go.Proofs.YtgbeechjghajcaaGreatDoor

namespace Go.SynM
open Go Go.Fw Go.RatM Go.SrcM
open Go.Proofs.YtgbeechjghajcaaGreatDoor (Tok)
structure KL (N:ByteArray→Prop) (L:List Tok):Prop where
 k:∀x∈L,(x.kind=1∧N x.text)∨(x.kind=2∧0≤x.n)∨(x.kind=3 ∧ ¬N x.text)
section
variable {N:ByteArray→Prop} {L r:List Tok} (K:KL N L) (hr:r <:+ L)
include K hr
theorem isA_w {t:ByteArray} (h:N t):isA t r=isT 1 t r:=by
 cases r with
 |nil=>rfl
 |cons x r=>
  show decide _=decide _
  rw [decide_eq_decide]
  rcases K.k x (hr.subset (List.mem_cons_self ..)) with h1|h1|h1
  ·exact ⟨fun h2=>⟨h1.1,h2.2⟩,fun h2=>⟨by omega,h2.2⟩⟩
  ·exact ⟨fun h2=>absurd h1.1 h2.1,fun h2=>by omega⟩
  exact ⟨fun h2=>absurd (h2.2▸h) h1.2,fun h2=>by omega⟩
theorem isA_s {t:ByteArray} (h:¬N t):isA t r=isT 3 t r:=by
 cases r with
 |nil=>rfl
 |cons x r=>
  show decide _=decide _
  rw [decide_eq_decide]
  rcases K.k x (hr.subset (List.mem_cons_self ..)) with h1|h1|h1
  ·exact ⟨fun h2=>absurd (h2.2▸h1.2) h,fun h2=>by omega⟩
  ·exact ⟨fun h2=>absurd h1.1 h2.1,fun h2=>by omega⟩
  exact ⟨fun h2=>⟨h1.1,h2.2⟩,fun h2=>⟨by omega,h2.2⟩⟩
theorem skipA_w {t:ByteArray} (h:N t):skipA t r=skip 1 t r:=by unfold skipA skip;rw [isA_w K hr h]
theorem skipA_s {t:ByteArray} (h:¬N t):skipA t r=skip 3 t r:=by unfold skipA skip;rw [isA_s K hr h]
theorem skips_w {t:ByteArray} (h:N t):skipsA [t] r=skip 1 t r:=by
 rw [←skipA_w K hr h]
 simp only [skipsA,bnd,pur]
 cases skipA t r<;>rfl
theorem skips_s {t:ByteArray} (h:¬N t):skipsA [t] r=skip 3 t r:=by
 rw [←skipA_s K hr h]
 simp only [skipsA,bnd,pur]
 cases skipA t r<;>rfl
end
end Go.SynM
namespace Go.Proofs.YtgbeechjghajcaaGreatDoor
open Go Go.Fw Go.NatM Go.RatM Go.SrcM Go.SynM
set_option maxRecDepth 100000
set_option maxHeartbeats 99999999
section
variable (src:ByteArray) (L r:List Tok) (hr:r <:+ L) (hL:L.length≤65536)
include hr hL
theorem pexpect_fn (ts:List ByteArray) (h2:ts.length≤2):FnS Tryz.prog 124 11 [.ptr 0 0,.buf 10] [psB src (ix L r),tkB L,(10,.own 9 1 (rwsB ts))] (fun x:Rs Unit=>x=skipsA ts r) (outP src L (fun _=>.tup []) 11):=by
 have lt:=rwsB_len ts
 refine FnS.of Tryz.func124 (by kernel_rfl) rfl Tryz.ntmps124 rfl fun E0 F h w0 cs=>?_
 conv=>whnf
 refine gS ?_;conv=>whnf
 repeat ((first|(guard_target=_∧_;(first|refine oL ?_|refine oR ?_))|(guard_target=Exists _;refine oM ?_));(try intro _);conv=>whnf)
 refine RunsS.subR [] (RunsS.loop (fun (⟨i,q⟩:Nat×List Tok)=>[(0,.ptr 0 0),(6,.buf 10),(7,.v (.int .i64 (rwsB ts).length)),(8,.v (.int .i64 i))]) (fun (⟨i,q⟩:Nat×List Tok)=>[psB src (ix L q),tkB L,(10,.own 9 1 (rwsB ts))]) 11 (fun (⟨i,q⟩:Nat×List Tok)=>(i≤ts.length∧q <:+ L)∧skipsA ts r=skipsA (ts.drop i) q) (fun (⟨i,q⟩:Nat×List Tok)=>ts.length - i) ?round1 ((0,r)) ?J01) sH sH
 case J01=>exact (⟨⟨Nat.zero_le _,hr⟩,rfl⟩)
 rintro ⟨i,q⟩ hJ back
 try dsimp only at hJ back
 conv=>whnf
 try dsimp only
 refine gS ?_;conv=>whnf
 repeat ((first|(guard_target=_∧_;(first|refine oL ?_|refine oR ?_))|(guard_target=Exists _;refine oM ?_));(try intro _);conv=>whnf)
 obtain ⟨⟨hi,hq⟩,hJ⟩:=hJ
 refine ⟨fun hk=>?_,fun hk=>?_⟩<;>conv=>whnf
 ·have hk:i<ts.length:=by omega
  conv=>whnf
  repeat ((first|(guard_target=_∧_;(first|refine oL ?_|refine oR ?_))|(guard_target=Exists _;refine oM ?_));(try intro _);conv=>whnf)
  refine ⟨_,rws_get hk,?_⟩;conv=>whnf
  try (refine oN ?_;conv=>whnf)
  repeat ((first|(guard_target=_∧_;(first|refine oL ?_|refine oR ?_))|(guard_target=Exists _;refine oM ?_));(try intro _);conv=>whnf)
  refine RunsS.callN (pis_fn src L q hq ts[i]) [0,1,2,3,4,5,6,7,8,9] ?_ sH ?CNa2
  case CNa2=>rfl
  intro _ _
  conv=>whnf
  (try refine gS ?_);conv=>whnf
  repeat ((first|(guard_target=_∧_;(first|refine oL ?_|refine oR ?_))|(guard_target=Exists _;refine oM ?_));(try intro _);conv=>whnf)
  have hd:ts.drop i=ts[i]::ts.drop (i+1):=List.drop_eq_getElem_cons hk
  cases hA:isA ts[i] q with
  |false=>
   (try refine gS ?_);conv=>whnf
   repeat ((first|(guard_target=_∧_;(first|refine oL ?_|refine oR ?_))|(guard_target=Exists _;refine oM ?_));(try intro _);conv=>whnf)
   refine RunsS.callN (pfail_fn src L q hq 100) [0,1,2,3,4,5,6,7,8,9] ?_ sH ?CNa3
   case CNa3=>rfl
   intro _ _
   conv=>whnf
   (try refine gS ?_);conv=>whnf
   repeat ((first|(guard_target=_∧_;(first|refine oL ?_|refine oR ?_))|(guard_target=Exists _;refine oM ?_));(try intro _);conv=>whnf)
   try refine RunsS.panicU ?_
   exact UnwS.pan Tryz.func124 (EndS.mk ((Rs.bad q 100:Rs Unit)) ((by rw [hJ,hd];simp only [skipsA,bnd,skipA,hA];rfl)) [] sH rfl rfl (okPan rfl))
  |true=>
   obtain ⟨x,q',rfl⟩:=isA_cons hA
   have h3:=ix_lt hq
   (try refine gS ?_);conv=>whnf
   repeat ((first|(guard_target=_∧_;(first|refine oL ?_|refine oR ?_))|(guard_target=Exists _;refine oM ?_));(try intro _);conv=>whnf)
   rw [ix_succ hq]
   refine RunsS.subR [] (back ((i+1,q')) (by exact (⟨⟨hk,suf_tail hq⟩,by rw [hJ,hd];simp only [skipsA,bnd,skipA,hA];rfl⟩)) (by (try dsimp only);omega)) sH sH
 (try refine gS ?_);conv=>whnf
 repeat ((first|(guard_target=_∧_;(first|refine oL ?_|refine oR ?_))|(guard_target=Exists _;refine oM ?_));(try intro _);conv=>whnf)
 have e:ts.drop i=[]:=List.drop_eq_nil_of_le (by omega)
 try refine RunsS.retU ?_
 try refine RunsS.finU ?_
 exact UnwS.ret tab Tryz.func124 rfl (EndS.mk ((Rs.ok () q:Rs Unit)) ((by rw [hJ,e];rfl)) [] sH rfl rfl (okRet rfl rfl))
variable {N:ByteArray→Prop} (K:KL N L) (V:VocN N)
include K V
theorem pfrac_fn:FnS Tryz.prog 123 10 [.ptr 0 0] [psB src (ix L r),tkB L] (fun x:Rs (Int×Int)=>x=fracP r) (outP src L fun q=>.tup [.v (.int .i64 q.1),.v (.int .i64 q.2)]):=by
 refine FnS.of Tryz.func123 (by kernel_rfl) rfl Tryz.ntmps123 rfl fun E0 F h w0 cs=>?_
 conv=>whnf
 refine gS ?_;conv=>whnf
 repeat ((first|(guard_target=_∧_;(first|refine oL ?_|refine oR ?_))|(guard_target=Exists _;refine oM ?_));(try intro _);conv=>whnf)
 refine RunsS.callN (pnumber_fn src L r hr hL) [0,1,2,3,4,5,6,7,8,9] ?_ sH ?CNa5
 case CNa5=>rfl
 rintro (⟨n,r1⟩|⟨r1,e1⟩) h1<;>conv=>whnf
 rotate_left
 ·try refine RunsS.panicU ?_
  exact UnwS.pan Tryz.func123 (EndS.mk ((Rs.bad r1 e1:Rs (Int×Int))) ((by unfold fracP;rw [bnd_bad h1.symm])) [] sH rfl rfl (okPan rfl))
 have s1:=(num_one.1.suf _ _ _ h1.symm).trans hr
 refine RunsS.subR (nx':=10) (l':=[(5,.v (.int .i64 n)),(0,.ptr 0 0)]) (H':=[psB src (ix L r1),tkB L]) [] ?_ sH sH
 (try refine gS ?_);conv=>whnf
 repeat ((first|(guard_target=_∧_;(first|refine oL ?_|refine oR ?_))|(guard_target=Exists _;refine oM ?_));(try intro _);conv=>whnf)
 refine RunsS.callN (pexpect_fn src L r1 s1 hL [B [47]] (by decide)) [0,1,2,3,4,5,6,7,8,9,10] ?_ sH ?CNa6
 case CNa6=>rfl
 rintro (⟨_,r2⟩|⟨r2,e2⟩) h2<;>conv=>whnf
 all_goals rw [skips_s K s1 (V.s 47 (by decide))] at h2
 rotate_left
 ·try refine RunsS.panicU ?_
  exact UnwS.pan Tryz.func123 (EndS.mk ((Rs.bad r2 e2:Rs (Int×Int))) ((by unfold fracP;rw [bnd_ok h1.symm,bnd_bad h2.symm])) [] sH rfl rfl (okPan rfl))
 have s2:=((skip_one _ _).1.suf _ _ _ h2.symm).trans s1
 refine RunsS.subR (nx':=10) (l':=[(2,.v (.int .i64 n)),(0,.ptr 0 0)]) (H':=[psB src (ix L r2),tkB L]) [] ?_ sH sH
 (try refine gS ?_);conv=>whnf
 repeat ((first|(guard_target=_∧_;(first|refine oL ?_|refine oR ?_))|(guard_target=Exists _;refine oM ?_));(try intro _);conv=>whnf)
 refine RunsS.callN (pnumber_fn src L r2 s2 hL) [0,1,2,3,4,5,6,7,8,9] ?_ sH ?CNa7
 case CNa7=>rfl
 rintro (⟨d,r3⟩|⟨r3,e3⟩) h3<;>conv=>whnf
 rotate_left
 ·try refine RunsS.panicU ?_
  exact UnwS.pan Tryz.func123 (EndS.mk ((Rs.bad r3 e3:Rs (Int×Int))) ((by unfold fracP;rw [bnd_ok h1.symm,bnd_ok h2.symm,bnd_bad h3.symm])) [] sH rfl rfl (okPan rfl))
 refine RunsS.subR (nx':=10) (l':=[(9,.v (.int .i64 n)),(11,.v (.int .i64 d)),(0,.ptr 0 0)]) (H':=[psB src (ix L r3),tkB L]) [] ?_ sH sH
 (try refine gS ?_);conv=>whnf
 repeat ((first|(guard_target=_∧_;(first|refine oL ?_|refine oR ?_))|(guard_target=Exists _;refine oM ?_));(try intro _);conv=>whnf)
 try refine RunsS.retU ?_
 try refine RunsS.finU ?_
 exact UnwS.ret tab Tryz.func123 rfl (EndS.mk ((Rs.ok (n,d) r3:Rs (Int×Int))) ((by unfold fracP;rw [bnd_ok h1.symm,bnd_ok h2.symm,bnd_ok h3.symm];rfl)) [] sH rfl rfl (okRet rfl rfl))
end
end Go.Proofs.YtgbeechjghajcaaGreatDoor

namespace Go.Proofs.YtgbeechjghajcaaGreatDoor
open Go Go.Fw Go.NatM Go.RatM Go.SrcM Go.SynM
set_option maxRecDepth 100000
set_option maxHeartbeats 99999999
section
variable (src:ByteArray) (L r:List Tok) (hr:r <:+ L) (hL:L.length≤65536) {N:ByteArray→Prop} (K:KL N L) (V:VocN N)
include hr hL K V
theorem pcond_fn:FnS Tryz.prog 128 10 [.ptr 0 0] [psB src (ix L r),tkB L] (fun x:Rs Cd=>x=condP r) (outP src L (fun x=>.agg (toV x.row)) 11):=by
 refine FnS.of Tryz.func128 (by kernel_rfl) rfl Tryz.ntmps128 rfl fun E0 F h w0 cs=>?_
 conv=>whnf
 refine gS ?_;conv=>whnf
 repeat ((first|(guard_target=_∧_;(first|refine oL ?_|refine oR ?_))|(guard_target=Exists _;refine oM ?_));(try intro _);conv=>whnf)
 refine RunsS.callN (pname_fn src L r hr hL) [0,1,2,3,4,5,6,7,8,9] ?_ sH ?CNa1
 case CNa1=>rfl
 rintro (⟨a1,r1⟩|⟨r1,e1⟩) h1<;>conv=>whnf
 rotate_left
 ·try refine RunsS.panicU ?_
  exact UnwS.pan Tryz.func128 (EndS.mk ((Rs.bad r1 e1:Rs Cd)) ((by unfold condP;rw [bnd_bad h1.symm])) [] sH rfl rfl (okPan rfl))
 have s1:=(name_one.1.suf _ _ _ h1.symm).trans hr
 refine RunsS.subR (nx':=11) (l':=[(4,.v (.string a1)),(0,.ptr 0 0),(2,.ptr 10 0)]) (H':=[psB src (ix L r1),tkB L,(10,.cells 52 [.v (.string ⟨#[]⟩),.v (.string ⟨#[]⟩),.v (.int .i64 0),.v (.int .i64 0)])]) [] ?_ sH sH
 (try refine gS ?_);conv=>whnf
 repeat ((first|(guard_target=_∧_;(first|refine oL ?_|refine oR ?_))|(guard_target=Exists _;refine oM ?_));(try intro _);conv=>whnf)
 refine RunsS.callN (pexpect_fn src L r1 s1 hL [B [61]] (by decide)) [0,1,2,3,4,5,6,7,8,9,11] ?_ sH ?CNa2
 case CNa2=>rfl
 rintro (⟨_,r2⟩|⟨r2,e2⟩) h2<;>conv=>whnf
 all_goals rw [skips_s K s1 (V.s 61 (by decide))] at h2
 rotate_left
 ·try refine RunsS.panicU ?_
  exact UnwS.pan Tryz.func128 (EndS.mk ((Rs.bad r2 e2:Rs Cd)) ((by unfold condP;rw [bnd_ok h1.symm,bnd_bad h2.symm])) [] sH rfl rfl (okPan rfl))
 have s2:=((skip_one _ _).1.suf _ _ _ h2.symm).trans s1
 refine RunsS.subR (nx':=11) (l':=[(0,.ptr 0 0),(2,.ptr 10 0)]) (H':=[psB src (ix L r2),tkB L,(10,.cells 52 [.v (.string a1),.v (.string ⟨#[]⟩),.v (.int .i64 0),.v (.int .i64 0)])]) [] ?_ sH sH
 (try refine gS ?_);conv=>whnf
 repeat ((first|(guard_target=_∧_;(first|refine oL ?_|refine oR ?_))|(guard_target=Exists _;refine oM ?_));(try intro _);conv=>whnf)
 refine RunsS.callN (pname_fn src L r2 s2 hL) [0,1,2,3,4,5,6,7,8,9] ?_ sH ?CNa3
 case CNa3=>rfl
 rintro (⟨a3,r3⟩|⟨r3,e3⟩) h3<;>conv=>whnf
 rotate_left
 ·try refine RunsS.panicU ?_
  exact UnwS.pan Tryz.func128 (EndS.mk ((Rs.bad r3 e3:Rs Cd)) ((by unfold condP;rw [bnd_ok h1.symm,bnd_ok h2.symm,bnd_bad h3.symm])) [] sH rfl rfl (okPan rfl))
 have s3:=(name_one.1.suf _ _ _ h3.symm).trans s2
 refine RunsS.subR (nx':=11) (l':=[(10,.v (.string a3)),(0,.ptr 0 0),(2,.ptr 10 0)]) (H':=[psB src (ix L r3),tkB L,(10,.cells 52 [.v (.string a1),.v (.string ⟨#[]⟩),.v (.int .i64 0),.v (.int .i64 0)])]) [] ?_ sH sH
 (try refine gS ?_);conv=>whnf
 repeat ((first|(guard_target=_∧_;(first|refine oL ?_|refine oR ?_))|(guard_target=Exists _;refine oM ?_));(try intro _);conv=>whnf)
 try refine RunsS.retU ?_
 try refine RunsS.finU ?_
 exact UnwS.ret tab Tryz.func128 rfl (EndS.mk ((Rs.ok ⟨a1,a3,0,0⟩ r3:Rs Cd)) ((by unfold condP;rw [bnd_ok h1.symm,bnd_ok h2.symm,bnd_ok h3.symm];rfl)) [] sH rfl rfl (okRet rfl rfl))
theorem pswap_fn:FnS Tryz.prog 81 10 [.ptr 0 0] [psB src (ix L r),tkB L] (fun x:Rs Sw=>x=swapP r) (outP src L (fun x=>.agg (toV x.row)) 11):=by
 refine FnS.of Tryz.func81 (by kernel_rfl) rfl Tryz.ntmps81 rfl fun E0 F h w0 cs=>?_
 conv=>whnf
 refine gS ?_;conv=>whnf
 repeat ((first|(guard_target=_∧_;(first|refine oL ?_|refine oR ?_))|(guard_target=Exists _;refine oM ?_));(try intro _);conv=>whnf)
 refine RunsS.callN (pname_fn src L r hr hL) [0,1,2,3,4,5,6,7,8,9] ?_ sH ?CNa4
 case CNa4=>rfl
 rintro (⟨a1,r1⟩|⟨r1,e1⟩) h1<;>conv=>whnf
 rotate_left
 ·try refine RunsS.panicU ?_
  exact UnwS.pan Tryz.func81 (EndS.mk ((Rs.bad r1 e1:Rs Sw)) ((by unfold swapP;rw [bnd_bad h1.symm])) [] sH rfl rfl (okPan rfl))
 have s1:=(name_one.1.suf _ _ _ h1.symm).trans hr
 refine RunsS.subR (nx':=11) (l':=[(4,.v (.string a1)),(0,.ptr 0 0),(2,.ptr 10 0)]) (H':=[psB src (ix L r1),tkB L,(10,.cells 89 [.v (.string ⟨#[]⟩),.v (.string ⟨#[]⟩),.v (.int .i64 0),.v (.int .i64 0)])]) [] ?_ sH sH
 (try refine gS ?_);conv=>whnf
 repeat ((first|(guard_target=_∧_;(first|refine oL ?_|refine oR ?_))|(guard_target=Exists _;refine oM ?_));(try intro _);conv=>whnf)
 refine RunsS.callN (pexpect_fn src L r1 s1 hL [B wFor] (by decide)) [0,1,2,3,4,5,6,7,8,9,11] ?_ sH ?CNa5
 case CNa5=>rfl
 rintro (⟨_,r2⟩|⟨r2,e2⟩) h2<;>conv=>whnf
 all_goals rw [skips_w K s1 (V.w wFor (by simp))] at h2
 rotate_left
 ·try refine RunsS.panicU ?_
  exact UnwS.pan Tryz.func81 (EndS.mk ((Rs.bad r2 e2:Rs Sw)) ((by unfold swapP;rw [bnd_ok h1.symm,bnd_bad h2.symm])) [] sH rfl rfl (okPan rfl))
 have s2:=((skip_one _ _).1.suf _ _ _ h2.symm).trans s1
 refine RunsS.subR (nx':=11) (l':=[(0,.ptr 0 0),(2,.ptr 10 0)]) (H':=[psB src (ix L r2),tkB L,(10,.cells 89 [.v (.string a1),.v (.string ⟨#[]⟩),.v (.int .i64 0),.v (.int .i64 0)])]) [] ?_ sH sH
 (try refine gS ?_);conv=>whnf
 repeat ((first|(guard_target=_∧_;(first|refine oL ?_|refine oR ?_))|(guard_target=Exists _;refine oM ?_));(try intro _);conv=>whnf)
 refine RunsS.callN (pname_fn src L r2 s2 hL) [0,1,2,3,4,5,6,7,8,9] ?_ sH ?CNa6
 case CNa6=>rfl
 rintro (⟨a3,r3⟩|⟨r3,e3⟩) h3<;>conv=>whnf
 rotate_left
 ·try refine RunsS.panicU ?_
  exact UnwS.pan Tryz.func81 (EndS.mk ((Rs.bad r3 e3:Rs Sw)) ((by unfold swapP;rw [bnd_ok h1.symm,bnd_ok h2.symm,bnd_bad h3.symm])) [] sH rfl rfl (okPan rfl))
 have s3:=(name_one.1.suf _ _ _ h3.symm).trans s2
 refine RunsS.subR (nx':=11) (l':=[(10,.v (.string a3)),(0,.ptr 0 0),(2,.ptr 10 0)]) (H':=[psB src (ix L r3),tkB L,(10,.cells 89 [.v (.string a1),.v (.string ⟨#[]⟩),.v (.int .i64 0),.v (.int .i64 0)])]) [] ?_ sH sH
 (try refine gS ?_);conv=>whnf
 repeat ((first|(guard_target=_∧_;(first|refine oL ?_|refine oR ?_))|(guard_target=Exists _;refine oM ?_));(try intro _);conv=>whnf)
 refine RunsS.callN (pexpect_fn src L r3 s3 hL [B [59]] (by decide)) [0,1,2,3,4,5,6,7,8,9,11] ?_ sH ?CNa7
 case CNa7=>rfl
 rintro (⟨_,r4⟩|⟨r4,e4⟩) h4<;>conv=>whnf
 all_goals rw [skips_s K s3 (V.s 59 (by decide))] at h4
 rotate_left
 ·try refine RunsS.panicU ?_
  exact UnwS.pan Tryz.func81 (EndS.mk ((Rs.bad r4 e4:Rs Sw)) ((by unfold swapP;rw [bnd_ok h1.symm,bnd_ok h2.symm,bnd_ok h3.symm,bnd_bad h4.symm])) [] sH rfl rfl (okPan rfl))
 have s4:=((skip_one _ _).1.suf _ _ _ h4.symm).trans s3
 refine RunsS.subR (nx':=11) (l':=[(0,.ptr 0 0),(2,.ptr 10 0)]) (H':=[psB src (ix L r4),tkB L,(10,.cells 89 [.v (.string a1),.v (.string a3),.v (.int .i64 0),.v (.int .i64 0)])]) [] ?_ sH sH
 (try refine gS ?_);conv=>whnf
 repeat ((first|(guard_target=_∧_;(first|refine oL ?_|refine oR ?_))|(guard_target=Exists _;refine oM ?_));(try intro _);conv=>whnf)
 try refine RunsS.retU ?_
 try refine RunsS.finU ?_
 exact UnwS.ret tab Tryz.func81 rfl (EndS.mk ((Rs.ok ⟨a1,a3,0,0⟩ r4:Rs Sw)) ((by unfold swapP;rw [bnd_ok h1.symm,bnd_ok h2.symm,bnd_ok h3.symm,bnd_ok h4.symm];rfl)) [] sH rfl rfl (okRet rfl rfl))
theorem pmach_fn:FnS Tryz.prog 69 10 [.ptr 0 0] [psB src (ix L r),tkB L] (fun x:Rs Mc=>x=machP r) (outP src L (fun x=>.agg (toV x.row)) 11):=by
 refine FnS.of Tryz.func69 (by kernel_rfl) rfl Tryz.ntmps69 rfl fun E0 F h w0 cs=>?_
 conv=>whnf
 refine gS ?_;conv=>whnf
 repeat ((first|(guard_target=_∧_;(first|refine oL ?_|refine oR ?_))|(guard_target=Exists _;refine oM ?_));(try intro _);conv=>whnf)
 refine RunsS.callN (pname_fn src L r hr hL) [0,1,2,3,4,5,6,7,8,9] ?_ sH ?CNa8
 case CNa8=>rfl
 rintro (⟨a1,r1⟩|⟨r1,e1⟩) h1<;>conv=>whnf
 rotate_left
 ·try refine RunsS.panicU ?_
  exact UnwS.pan Tryz.func69 (EndS.mk ((Rs.bad r1 e1:Rs Mc)) ((by unfold machP;rw [bnd_bad h1.symm])) [] sH rfl rfl (okPan rfl))
 have s1:=(name_one.1.suf _ _ _ h1.symm).trans hr
 refine RunsS.subR (nx':=11) (l':=[(4,.v (.string a1)),(0,.ptr 0 0),(2,.ptr 10 0)]) (H':=[psB src (ix L r1),tkB L,(10,.cells 85 [.v (.string ⟨#[]⟩),.v (.string ⟨#[]⟩),.v (.int .i64 0),.v (.int .i64 0)])]) [] ?_ sH sH
 (try refine gS ?_);conv=>whnf
 repeat ((first|(guard_target=_∧_;(first|refine oL ?_|refine oR ?_))|(guard_target=Exists _;refine oM ?_));(try intro _);conv=>whnf)
 refine RunsS.callN (pexpect_fn src L r1 s1 hL [B wAt] (by decide)) [0,1,2,3,4,5,6,7,8,9,11] ?_ sH ?CNa9
 case CNa9=>rfl
 rintro (⟨_,r2⟩|⟨r2,e2⟩) h2<;>conv=>whnf
 all_goals rw [skips_w K s1 (V.w wAt (by simp))] at h2
 rotate_left
 ·try refine RunsS.panicU ?_
  exact UnwS.pan Tryz.func69 (EndS.mk ((Rs.bad r2 e2:Rs Mc)) ((by unfold machP;rw [bnd_ok h1.symm,bnd_bad h2.symm])) [] sH rfl rfl (okPan rfl))
 have s2:=((skip_one _ _).1.suf _ _ _ h2.symm).trans s1
 refine RunsS.subR (nx':=11) (l':=[(0,.ptr 0 0),(2,.ptr 10 0)]) (H':=[psB src (ix L r2),tkB L,(10,.cells 85 [.v (.string a1),.v (.string ⟨#[]⟩),.v (.int .i64 0),.v (.int .i64 0)])]) [] ?_ sH sH
 (try refine gS ?_);conv=>whnf
 repeat ((first|(guard_target=_∧_;(first|refine oL ?_|refine oR ?_))|(guard_target=Exists _;refine oM ?_));(try intro _);conv=>whnf)
 refine RunsS.callN (pname_fn src L r2 s2 hL) [0,1,2,3,4,5,6,7,8,9] ?_ sH ?CNa10
 case CNa10=>rfl
 rintro (⟨a3,r3⟩|⟨r3,e3⟩) h3<;>conv=>whnf
 rotate_left
 ·try refine RunsS.panicU ?_
  exact UnwS.pan Tryz.func69 (EndS.mk ((Rs.bad r3 e3:Rs Mc)) ((by unfold machP;rw [bnd_ok h1.symm,bnd_ok h2.symm,bnd_bad h3.symm])) [] sH rfl rfl (okPan rfl))
 have s3:=(name_one.1.suf _ _ _ h3.symm).trans s2
 refine RunsS.subR (nx':=11) (l':=[(10,.v (.string a3)),(0,.ptr 0 0),(2,.ptr 10 0)]) (H':=[psB src (ix L r3),tkB L,(10,.cells 85 [.v (.string a1),.v (.string ⟨#[]⟩),.v (.int .i64 0),.v (.int .i64 0)])]) [] ?_ sH sH
 (try refine gS ?_);conv=>whnf
 repeat ((first|(guard_target=_∧_;(first|refine oL ?_|refine oR ?_))|(guard_target=Exists _;refine oM ?_));(try intro _);conv=>whnf)
 refine RunsS.callN (pexpect_fn src L r3 s3 hL [B wClean] (by decide)) [0,1,2,3,4,5,6,7,8,9,11] ?_ sH ?CNa11
 case CNa11=>rfl
 rintro (⟨_,r4⟩|⟨r4,e4⟩) h4<;>conv=>whnf
 all_goals rw [skips_w K s3 (V.w wClean (by simp))] at h4
 rotate_left
 ·try refine RunsS.panicU ?_
  exact UnwS.pan Tryz.func69 (EndS.mk ((Rs.bad r4 e4:Rs Mc)) ((by unfold machP;rw [bnd_ok h1.symm,bnd_ok h2.symm,bnd_ok h3.symm,bnd_bad h4.symm])) [] sH rfl rfl (okPan rfl))
 have s4:=((skip_one _ _).1.suf _ _ _ h4.symm).trans s3
 refine RunsS.subR (nx':=11) (l':=[(0,.ptr 0 0),(2,.ptr 10 0)]) (H':=[psB src (ix L r4),tkB L,(10,.cells 85 [.v (.string a1),.v (.string a3),.v (.int .i64 0),.v (.int .i64 0)])]) [] ?_ sH sH
 (try refine gS ?_);conv=>whnf
 repeat ((first|(guard_target=_∧_;(first|refine oL ?_|refine oR ?_))|(guard_target=Exists _;refine oM ?_));(try intro _);conv=>whnf)
 refine RunsS.callN (pnumber_fn src L r4 s4 hL) [0,1,2,3,4,5,6,7,8,9] ?_ sH ?CNa12
 case CNa12=>rfl
 rintro (⟨a5,r5⟩|⟨r5,e5⟩) h5<;>conv=>whnf
 rotate_left
 ·try refine RunsS.panicU ?_
  exact UnwS.pan Tryz.func69 (EndS.mk ((Rs.bad r5 e5:Rs Mc)) ((by unfold machP;rw [bnd_ok h1.symm,bnd_ok h2.symm,bnd_ok h3.symm,bnd_ok h4.symm,bnd_bad h5.symm])) [] sH rfl rfl (okPan rfl))
 have s5:=(num_one.1.suf _ _ _ h5.symm).trans s4
 refine RunsS.subR (nx':=11) (l':=[(16,.v (.int .i64 a5)),(0,.ptr 0 0),(2,.ptr 10 0)]) (H':=[psB src (ix L r5),tkB L,(10,.cells 85 [.v (.string a1),.v (.string a3),.v (.int .i64 0),.v (.int .i64 0)])]) [] ?_ sH sH
 (try refine gS ?_);conv=>whnf
 repeat ((first|(guard_target=_∧_;(first|refine oL ?_|refine oR ?_))|(guard_target=Exists _;refine oM ?_));(try intro _);conv=>whnf)
 refine RunsS.callN (pexpect_fn src L r5 s5 hL [B [59]] (by decide)) [0,1,2,3,4,5,6,7,8,9,11] ?_ sH ?CNa13
 case CNa13=>rfl
 rintro (⟨_,r6⟩|⟨r6,e6⟩) h6<;>conv=>whnf
 all_goals rw [skips_s K s5 (V.s 59 (by decide))] at h6
 rotate_left
 ·try refine RunsS.panicU ?_
  exact UnwS.pan Tryz.func69 (EndS.mk ((Rs.bad r6 e6:Rs Mc)) ((by unfold machP;rw [bnd_ok h1.symm,bnd_ok h2.symm,bnd_ok h3.symm,bnd_ok h4.symm,bnd_ok h5.symm,bnd_bad h6.symm])) [] sH rfl rfl (okPan rfl))
 have s6:=((skip_one _ _).1.suf _ _ _ h6.symm).trans s5
 refine RunsS.subR (nx':=11) (l':=[(0,.ptr 0 0),(2,.ptr 10 0)]) (H':=[psB src (ix L r6),tkB L,(10,.cells 85 [.v (.string a1),.v (.string a3),.v (.int .i64 a5),.v (.int .i64 0)])]) [] ?_ sH sH
 (try refine gS ?_);conv=>whnf
 repeat ((first|(guard_target=_∧_;(first|refine oL ?_|refine oR ?_))|(guard_target=Exists _;refine oM ?_));(try intro _);conv=>whnf)
 try refine RunsS.retU ?_
 try refine RunsS.finU ?_
 exact UnwS.ret tab Tryz.func69 rfl (EndS.mk ((Rs.ok ⟨a1,a3,a5,0⟩ r6:Rs Mc)) ((by unfold machP;rw [bnd_ok h1.symm,bnd_ok h2.symm,bnd_ok h3.symm,bnd_ok h4.symm,bnd_ok h5.symm,bnd_ok h6.symm];rfl)) [] sH rfl rfl (okRet rfl rfl))
theorem prun_fn:FnS Tryz.prog 133 10 [.ptr 0 0] [psB src (ix L r),tkB L] (fun x:Rs Rn=>x=runP r) (outP src L (fun x=>.agg (toV x.row)) 11):=by
 refine FnS.of Tryz.func133 (by kernel_rfl) rfl Tryz.ntmps133 rfl fun E0 F h w0 cs=>?_
 conv=>whnf
 refine gS ?_;conv=>whnf
 repeat ((first|(guard_target=_∧_;(first|refine oL ?_|refine oR ?_))|(guard_target=Exists _;refine oM ?_));(try intro _);conv=>whnf)
 refine RunsS.callN (pname_fn src L r hr hL) [0,1,2,3,4,5,6,7,8,9] ?_ sH ?CNa14
 case CNa14=>rfl
 rintro (⟨a1,r1⟩|⟨r1,e1⟩) h1<;>conv=>whnf
 rotate_left
 ·try refine RunsS.panicU ?_
  exact UnwS.pan Tryz.func133 (EndS.mk ((Rs.bad r1 e1:Rs Rn)) ((by unfold runP;rw [bnd_bad h1.symm])) [] sH rfl rfl (okPan rfl))
 have s1:=(name_one.1.suf _ _ _ h1.symm).trans hr
 refine RunsS.subR (nx':=11) (l':=[(4,.v (.string a1)),(0,.ptr 0 0),(2,.ptr 10 0)]) (H':=[psB src (ix L r1),tkB L,(10,.cells 58 [.v (.string ⟨#[]⟩),.v (.int .i64 0),.v (.int .i64 0)])]) [] ?_ sH sH
 (try refine gS ?_);conv=>whnf
 repeat ((first|(guard_target=_∧_;(first|refine oL ?_|refine oR ?_))|(guard_target=Exists _;refine oM ?_));(try intro _);conv=>whnf)
 refine RunsS.callN (pnumber_fn src L r1 s1 hL) [0,1,2,3,4,5,6,7,8,9] ?_ sH ?CNa15
 case CNa15=>rfl
 rintro (⟨a2,r2⟩|⟨r2,e2⟩) h2<;>conv=>whnf
 rotate_left
 ·try refine RunsS.panicU ?_
  exact UnwS.pan Tryz.func133 (EndS.mk ((Rs.bad r2 e2:Rs Rn)) ((by unfold runP;rw [bnd_ok h1.symm,bnd_bad h2.symm])) [] sH rfl rfl (okPan rfl))
 have s2:=(num_one.1.suf _ _ _ h2.symm).trans s1
 refine RunsS.subR (nx':=11) (l':=[(7,.v (.int .i64 a2)),(0,.ptr 0 0),(2,.ptr 10 0)]) (H':=[psB src (ix L r2),tkB L,(10,.cells 58 [.v (.string a1),.v (.int .i64 0),.v (.int .i64 0)])]) [] ?_ sH sH
 (try refine gS ?_);conv=>whnf
 repeat ((first|(guard_target=_∧_;(first|refine oL ?_|refine oR ?_))|(guard_target=Exists _;refine oM ?_));(try intro _);conv=>whnf)
 refine RunsS.callN (pexpect_fn src L r2 s2 hL [B [59]] (by decide)) [0,1,2,3,4,5,6,7,8,9,11] ?_ sH ?CNa16
 case CNa16=>rfl
 rintro (⟨_,r3⟩|⟨r3,e3⟩) h3<;>conv=>whnf
 all_goals rw [skips_s K s2 (V.s 59 (by decide))] at h3
 rotate_left
 ·try refine RunsS.panicU ?_
  exact UnwS.pan Tryz.func133 (EndS.mk ((Rs.bad r3 e3:Rs Rn)) ((by unfold runP;rw [bnd_ok h1.symm,bnd_ok h2.symm,bnd_bad h3.symm])) [] sH rfl rfl (okPan rfl))
 have s3:=((skip_one _ _).1.suf _ _ _ h3.symm).trans s2
 refine RunsS.subR (nx':=11) (l':=[(0,.ptr 0 0),(2,.ptr 10 0)]) (H':=[psB src (ix L r3),tkB L,(10,.cells 58 [.v (.string a1),.v (.int .i64 a2),.v (.int .i64 0)])]) [] ?_ sH sH
 (try refine gS ?_);conv=>whnf
 repeat ((first|(guard_target=_∧_;(first|refine oL ?_|refine oR ?_))|(guard_target=Exists _;refine oM ?_));(try intro _);conv=>whnf)
 try refine RunsS.retU ?_
 try refine RunsS.finU ?_
 exact UnwS.ret tab Tryz.func133 rfl (EndS.mk ((Rs.ok ⟨a1,a2,0⟩ r3:Rs Rn)) ((by unfold runP;rw [bnd_ok h1.symm,bnd_ok h2.symm,bnd_ok h3.symm];rfl)) [] sH rfl rfl (okRet rfl rfl))
theorem pout_fn:FnS Tryz.prog 131 10 [.ptr 0 0] [psB src (ix L r),tkB L] (fun x:Rs Am=>x=SynM.outP r) (outP src L (fun x=>.agg (toV x.row)) 11):=by
 refine FnS.of Tryz.func131 (by kernel_rfl) rfl Tryz.ntmps131 rfl fun E0 F h w0 cs=>?_
 conv=>whnf
 refine gS ?_;conv=>whnf
 repeat ((first|(guard_target=_∧_;(first|refine oL ?_|refine oR ?_))|(guard_target=Exists _;refine oM ?_));(try intro _);conv=>whnf)
 refine RunsS.callN (pfrac_fn src L r hr hL K V) [0,1,2,3,4,5,6,7,8,9] ?_ sH ?CNa17
 case CNa17=>rfl
 rintro (⟨⟨a1,b1⟩,r1⟩|⟨r1,e1⟩) h1<;>conv=>whnf
 rotate_left
 ·try refine RunsS.panicU ?_
  exact UnwS.pan Tryz.func131 (EndS.mk ((Rs.bad r1 e1:Rs Am)) ((by unfold SynM.outP;rw [bnd_bad h1.symm])) [] sH rfl rfl (okPan rfl))
 have s1:=(frac_g.g.suf _ _ _ h1.symm).trans hr
 refine RunsS.subR (nx':=11) (l':=[(5,.tup [.v (.int .i64 a1),.v (.int .i64 b1)]),(0,.ptr 0 0),(2,.ptr 10 0)]) (H':=[psB src (ix L r1),tkB L,(10,.cells 55 [.v (.int .i64 0),.v (.int .i64 0),.v (.string ⟨#[]⟩),.v (.string ⟨#[]⟩),.v (.bool false),.v (.int .i64 0),.v (.int .i64 0)])]) [] ?_ sH sH
 (try refine gS ?_);conv=>whnf
 repeat ((first|(guard_target=_∧_;(first|refine oL ?_|refine oR ?_))|(guard_target=Exists _;refine oM ?_));(try intro _);conv=>whnf)
 refine RunsS.callN (pname_fn src L r1 s1 hL) [0,1,2,3,4,5,6,7,8,9] ?_ sH ?CNa18
 case CNa18=>rfl
 rintro (⟨a2,r2⟩|⟨r2,e2⟩) h2<;>conv=>whnf
 rotate_left
 ·try refine RunsS.panicU ?_
  exact UnwS.pan Tryz.func131 (EndS.mk ((Rs.bad r2 e2:Rs Am)) ((by unfold SynM.outP;rw [bnd_ok h1.symm,bnd_bad h2.symm])) [] sH rfl rfl (okPan rfl))
 have s2:=(name_one.1.suf _ _ _ h2.symm).trans s1
 refine RunsS.subR (nx':=11) (l':=[(11,.v (.string a2)),(0,.ptr 0 0),(2,.ptr 10 0)]) (H':=[psB src (ix L r2),tkB L,(10,.cells 55 [.v (.int .i64 a1),.v (.int .i64 b1),.v (.string ⟨#[]⟩),.v (.string ⟨#[]⟩),.v (.bool false),.v (.int .i64 0),.v (.int .i64 0)])]) [] ?_ sH sH
 (try refine gS ?_);conv=>whnf
 repeat ((first|(guard_target=_∧_;(first|refine oL ?_|refine oR ?_))|(guard_target=Exists _;refine oM ?_));(try intro _);conv=>whnf)
 refine RunsS.callN (pname_fn src L r2 s2 hL) [0,1,2,3,4,5,6,7,8,9] ?_ sH ?CNa19
 case CNa19=>rfl
 rintro (⟨a3,r3⟩|⟨r3,e3⟩) h3<;>conv=>whnf
 rotate_left
 ·try refine RunsS.panicU ?_
  exact UnwS.pan Tryz.func131 (EndS.mk ((Rs.bad r3 e3:Rs Am)) ((by unfold SynM.outP;rw [bnd_ok h1.symm,bnd_ok h2.symm,bnd_bad h3.symm])) [] sH rfl rfl (okPan rfl))
 have s3:=(name_one.1.suf _ _ _ h3.symm).trans s2
 refine RunsS.subR (nx':=11) (l':=[(14,.v (.string a3)),(0,.ptr 0 0),(2,.ptr 10 0)]) (H':=[psB src (ix L r3),tkB L,(10,.cells 55 [.v (.int .i64 a1),.v (.int .i64 b1),.v (.string a2),.v (.string ⟨#[]⟩),.v (.bool false),.v (.int .i64 0),.v (.int .i64 0)])]) [] ?_ sH sH
 (try refine gS ?_);conv=>whnf
 repeat ((first|(guard_target=_∧_;(first|refine oL ?_|refine oR ?_))|(guard_target=Exists _;refine oM ?_));(try intro _);conv=>whnf)
 refine RunsS.callN (pexpect_fn src L r3 s3 hL [B [59]] (by decide)) [0,1,2,3,4,5,6,7,8,9,11] ?_ sH ?CNa20
 case CNa20=>rfl
 rintro (⟨_,r4⟩|⟨r4,e4⟩) h4<;>conv=>whnf
 all_goals rw [skips_s K s3 (V.s 59 (by decide))] at h4
 rotate_left
 ·try refine RunsS.panicU ?_
  exact UnwS.pan Tryz.func131 (EndS.mk ((Rs.bad r4 e4:Rs Am)) ((by unfold SynM.outP;rw [bnd_ok h1.symm,bnd_ok h2.symm,bnd_ok h3.symm,bnd_bad h4.symm])) [] sH rfl rfl (okPan rfl))
 have s4:=((skip_one _ _).1.suf _ _ _ h4.symm).trans s3
 refine RunsS.subR (nx':=11) (l':=[(0,.ptr 0 0),(2,.ptr 10 0)]) (H':=[psB src (ix L r4),tkB L,(10,.cells 55 [.v (.int .i64 a1),.v (.int .i64 b1),.v (.string a2),.v (.string a3),.v (.bool false),.v (.int .i64 0),.v (.int .i64 0)])]) [] ?_ sH sH
 (try refine gS ?_);conv=>whnf
 repeat ((first|(guard_target=_∧_;(first|refine oL ?_|refine oR ?_))|(guard_target=Exists _;refine oM ?_));(try intro _);conv=>whnf)
 try refine RunsS.retU ?_
 try refine RunsS.finU ?_
 exact UnwS.ret tab Tryz.func131 rfl (EndS.mk ((Rs.ok ⟨a1,b1,a2,a3,false,0,0⟩ r4:Rs Am)) ((by unfold SynM.outP;rw [bnd_ok h1.symm,bnd_ok h2.symm,bnd_ok h3.symm,bnd_ok h4.symm];rfl)) [] sH rfl rfl (okRet rfl rfl))
end
end Go.Proofs.YtgbeechjghajcaaGreatDoor

namespace Go.SynM
open Go Go.Fw Go.RatM Go.SrcM
open Go.Proofs.YtgbeechjghajcaaGreatDoor (Tok)
theorem optW_no {α:Type} {k:Int} {t:ByteArray} {a:α} {p:P α} {r:List Tok} (h:isT k t r=false):optP k t a p r=.ok a r:=if_neg (by rw [h];exact Bool.false_ne_true)
theorem optW_yes {α:Type} {k:Int} {t:ByteArray} {a:α} {p:P α} {x:Tok} {r:List Tok} {s:Rs α} (h:isT k t (x::r)=true) (hp:p r=s):optP k t a p (x::r)=s:=by rw [←hp];exact if_pos h
end Go.SynM
namespace Go.Proofs.YtgbeechjghajcaaGreatDoor
open Go Go.Fw Go.NatM Go.RatM Go.SrcM Go.SynM
set_option maxRecDepth 100000
set_option maxHeartbeats 99999999
section
variable (src:ByteArray) (L r:List Tok) (hr:r <:+ L) (hL:L.length≤65536) {N:ByteArray→Prop} (K:KL N L) (V:VocN N)
include hr hL K V
theorem pplant_fn:FnS Tryz.prog 66 10 [.ptr 0 0] [psB src (ix L r),tkB L] (fun x:Rs ByteArray=>x=plantP r) (outP src L (fun x=>.v (.string x)) 11):=by
 refine FnS.of Tryz.func66 (by kernel_rfl) rfl Tryz.ntmps66 rfl fun E0 F h w0 cs=>?_
 conv=>whnf
 refine gS ?_;conv=>whnf
 repeat ((first|(guard_target=_∧_;(first|refine oL ?_|refine oR ?_))|(guard_target=Exists _;refine oM ?_));(try intro _);conv=>whnf)
 refine RunsS.callN (pname_fn src L r hr hL) [0,1,2,3,4,5,6,7,8,9] ?_ sH ?CNa1
 case CNa1=>rfl
 rintro (⟨a1,r1⟩|⟨r1,e1⟩) h1<;>conv=>whnf
 rotate_left
 ·try refine RunsS.panicU ?_
  exact UnwS.pan Tryz.func66 (EndS.mk ((Rs.bad r1 e1:Rs ByteArray)) ((by unfold plantP;rw [bnd_bad h1.symm])) [] sH rfl rfl (okPan rfl))
 have s1:=(name_one.1.suf _ _ _ h1.symm).trans hr
 refine RunsS.subR (nx':=10) (l':=[(5,.v (.string a1)),(0,.ptr 0 0)]) (H':=[psB src (ix L r1),tkB L]) [] ?_ sH sH
 (try refine gS ?_);conv=>whnf
 repeat ((first|(guard_target=_∧_;(first|refine oL ?_|refine oR ?_))|(guard_target=Exists _;refine oM ?_));(try intro _);conv=>whnf)
 refine RunsS.callN (pexpect_fn src L r1 s1 hL [B [59]] (by decide)) [0,1,2,3,4,5,6,7,8,9,10] ?_ sH ?CNa2
 case CNa2=>rfl
 rintro (⟨_,r2⟩|⟨r2,e2⟩) h2<;>conv=>whnf
 all_goals rw [skips_s K s1 (V.s 59 (by decide))] at h2
 rotate_left
 ·try refine RunsS.panicU ?_
  exact UnwS.pan Tryz.func66 (EndS.mk ((Rs.bad r2 e2:Rs ByteArray)) ((by unfold plantP;rw [bnd_ok h1.symm,bnd_bad h2.symm])) [] sH rfl rfl (okPan rfl))
 (try refine gS ?_);conv=>whnf
 repeat ((first|(guard_target=_∧_;(first|refine oL ?_|refine oR ?_))|(guard_target=Exists _;refine oM ?_));(try intro _);conv=>whnf)
 try refine RunsS.retU ?_
 try refine RunsS.finU ?_
 exact UnwS.ret tab Tryz.func66 rfl (EndS.mk ((Rs.ok a1 r2:Rs ByteArray)) ((by unfold plantP;rw [bnd_ok h1.symm,bnd_ok h2.symm];rfl)) [] sH rfl rfl (okRet rfl rfl))
theorem pitem_fn:FnS Tryz.prog 63 10 [.ptr 0 0] [psB src (ix L r),tkB L] (fun x:Rs It=>x=itemP r) (outP src L (fun x=>.agg (toV x.row)) 11):=by
 refine FnS.of Tryz.func63 (by kernel_rfl) rfl Tryz.ntmps63 rfl fun E0 F h w0 cs=>?_
 conv=>whnf
 refine gS ?_;conv=>whnf
 repeat ((first|(guard_target=_∧_;(first|refine oL ?_|refine oR ?_))|(guard_target=Exists _;refine oM ?_));(try intro _);conv=>whnf)
 refine RunsS.callN (pname_fn src L r hr hL) [0,1,2,3,4,5,6,7,8,9] ?_ sH ?CNa3
 case CNa3=>rfl
 rintro (⟨a1,r1⟩|⟨r1,e1⟩) h1<;>conv=>whnf
 rotate_left
 ·try refine RunsS.panicU ?_
  exact UnwS.pan Tryz.func63 (EndS.mk ((Rs.bad r1 e1:Rs It)) ((by unfold itemP;rw [bnd_bad h1.symm])) [] sH rfl rfl (okPan rfl))
 have s1:=(name_one.1.suf _ _ _ h1.symm).trans hr
 refine RunsS.subR (nx':=11) (l':=[(4,.v (.string a1)),(0,.ptr 0 0),(2,.ptr 10 0)]) (H':=[psB src (ix L r1),tkB L,(10,.cells 83 [.v (.string ⟨#[]⟩),.v (.string ⟨#[]⟩),.v (.int .i64 0),.v (.int .i64 0),.v (.int .i64 0),.v (.int .i64 0)])]) [] ?_ sH sH
 (try refine gS ?_);conv=>whnf
 repeat ((first|(guard_target=_∧_;(first|refine oL ?_|refine oR ?_))|(guard_target=Exists _;refine oM ?_));(try intro _);conv=>whnf)
 refine RunsS.callN (pexpect_fn src L r1 s1 hL [B wIn] (by decide)) [0,1,2,3,4,5,6,7,8,9,11] ?_ sH ?CNa4
 case CNa4=>rfl
 rintro (⟨_,r2⟩|⟨r2,e2⟩) h2<;>conv=>whnf
 all_goals rw [skips_w K s1 (V.w wIn (by simp))] at h2
 rotate_left
 ·try refine RunsS.panicU ?_
  exact UnwS.pan Tryz.func63 (EndS.mk ((Rs.bad r2 e2:Rs It)) ((by unfold itemP;rw [bnd_ok h1.symm,bnd_bad h2.symm])) [] sH rfl rfl (okPan rfl))
 have s2:=((skip_one _ _).1.suf _ _ _ h2.symm).trans s1
 refine RunsS.subR (nx':=11) (l':=[(0,.ptr 0 0),(2,.ptr 10 0)]) (H':=[psB src (ix L r2),tkB L,(10,.cells 83 [.v (.string a1),.v (.string ⟨#[]⟩),.v (.int .i64 0),.v (.int .i64 0),.v (.int .i64 0),.v (.int .i64 0)])]) [] ?_ sH sH
 (try refine gS ?_);conv=>whnf
 repeat ((first|(guard_target=_∧_;(first|refine oL ?_|refine oR ?_))|(guard_target=Exists _;refine oM ?_));(try intro _);conv=>whnf)
 refine RunsS.callN (pname_fn src L r2 s2 hL) [0,1,2,3,4,5,6,7,8,9] ?_ sH ?CNa5
 case CNa5=>rfl
 rintro (⟨a3,r3⟩|⟨r3,e3⟩) h3<;>conv=>whnf
 rotate_left
 ·try refine RunsS.panicU ?_
  exact UnwS.pan Tryz.func63 (EndS.mk ((Rs.bad r3 e3:Rs It)) ((by unfold itemP;rw [bnd_ok h1.symm,bnd_ok h2.symm,bnd_bad h3.symm])) [] sH rfl rfl (okPan rfl))
 have s3:=(name_one.1.suf _ _ _ h3.symm).trans s2
 refine RunsS.subR (nx':=11) (l':=[(10,.v (.string a3)),(0,.ptr 0 0),(2,.ptr 10 0)]) (H':=[psB src (ix L r3),tkB L,(10,.cells 83 [.v (.string a1),.v (.string ⟨#[]⟩),.v (.int .i64 0),.v (.int .i64 0),.v (.int .i64 0),.v (.int .i64 0)])]) [] ?_ sH sH
 (try refine gS ?_);conv=>whnf
 repeat ((first|(guard_target=_∧_;(first|refine oL ?_|refine oR ?_))|(guard_target=Exists _;refine oM ?_));(try intro _);conv=>whnf)
 refine RunsS.callN (pexpect_fn src L r3 s3 hL [B wMass] (by decide)) [0,1,2,3,4,5,6,7,8,9,11] ?_ sH ?CNa6
 case CNa6=>rfl
 rintro (⟨_,r4⟩|⟨r4,e4⟩) h4<;>conv=>whnf
 all_goals rw [skips_w K s3 (V.w wMass (by simp))] at h4
 rotate_left
 ·try refine RunsS.panicU ?_
  exact UnwS.pan Tryz.func63 (EndS.mk ((Rs.bad r4 e4:Rs It)) ((by unfold itemP;rw [bnd_ok h1.symm,bnd_ok h2.symm,bnd_ok h3.symm,bnd_bad h4.symm])) [] sH rfl rfl (okPan rfl))
 have s4:=((skip_one _ _).1.suf _ _ _ h4.symm).trans s3
 refine RunsS.subR (nx':=11) (l':=[(0,.ptr 0 0),(2,.ptr 10 0)]) (H':=[psB src (ix L r4),tkB L,(10,.cells 83 [.v (.string a1),.v (.string a3),.v (.int .i64 0),.v (.int .i64 0),.v (.int .i64 0),.v (.int .i64 0)])]) [] ?_ sH sH
 (try refine gS ?_);conv=>whnf
 repeat ((first|(guard_target=_∧_;(first|refine oL ?_|refine oR ?_))|(guard_target=Exists _;refine oM ?_));(try intro _);conv=>whnf)
 refine RunsS.callN (pfrac_fn src L r4 s4 hL K V) [0,1,2,3,4,5,6,7,8,9] ?_ sH ?CNa7
 case CNa7=>rfl
 rintro (⟨⟨a5,b5⟩,r5⟩|⟨r5,e5⟩) h5<;>conv=>whnf
 rotate_left
 ·try refine RunsS.panicU ?_
  exact UnwS.pan Tryz.func63 (EndS.mk ((Rs.bad r5 e5:Rs It)) ((by unfold itemP;rw [bnd_ok h1.symm,bnd_ok h2.symm,bnd_ok h3.symm,bnd_ok h4.symm,bnd_bad h5.symm])) [] sH rfl rfl (okPan rfl))
 have s5:=(frac_g.g.suf _ _ _ h5.symm).trans s4
 refine RunsS.subR (nx':=11) (l':=[(17,.tup [.v (.int .i64 a5),.v (.int .i64 b5)]),(0,.ptr 0 0),(2,.ptr 10 0)]) (H':=[psB src (ix L r5),tkB L,(10,.cells 83 [.v (.string a1),.v (.string a3),.v (.int .i64 0),.v (.int .i64 0),.v (.int .i64 0),.v (.int .i64 0)])]) [] ?_ sH sH
 (try refine gS ?_);conv=>whnf
 repeat ((first|(guard_target=_∧_;(first|refine oL ?_|refine oR ?_))|(guard_target=Exists _;refine oM ?_));(try intro _);conv=>whnf)
 refine RunsS.callN (pis_fn src L r5 s5 (B wKeeps)) [0,1,2,3,4,5,6,7,8,9] ?_ sH ?CNa8
 case CNa8=>rfl
 intro _ _
 conv=>whnf
 (try refine gS ?_);conv=>whnf
 repeat ((first|(guard_target=_∧_;(first|refine oL ?_|refine oR ?_))|(guard_target=Exists _;refine oM ?_));(try intro _);conv=>whnf)
 cases hA:isA (B wKeeps) r5 with
 |false=>
  have b6:optP 1 (B wKeeps) 0 numP r5=.ok 0 r5:=optW_no (by rw [←isA_w K s5 (V.w wKeeps (by simp)),hA])
  (try refine gS ?_);conv=>whnf
  repeat ((first|(guard_target=_∧_;(first|refine oL ?_|refine oR ?_))|(guard_target=Exists _;refine oM ?_));(try intro _);conv=>whnf)
  refine RunsS.callN (pexpect_fn src L r5 s5 hL [B [59]] (by decide)) [0,1,2,3,4,5,6,7,8,9,11] ?_ sH ?CNa9
  case CNa9=>rfl
  rintro (⟨_,r7⟩|⟨r7,e7⟩) h7<;>conv=>whnf
  all_goals rw [skips_s K s5 (V.s 59 (by decide))] at h7
  rotate_left
  ·try refine RunsS.panicU ?_
   exact UnwS.pan Tryz.func63 (EndS.mk ((Rs.bad r7 e7:Rs It)) ((by unfold itemP;rw [bnd_ok h1.symm,bnd_ok h2.symm,bnd_ok h3.symm,bnd_ok h4.symm,bnd_ok h5.symm,bnd_ok b6,bnd_bad h7.symm])) [] sH rfl rfl (okPan rfl))
  have s7:=((skip_one _ _).1.suf _ _ _ h7.symm).trans s5
  refine RunsS.subR (nx':=11) (l':=[(0,.ptr 0 0),(2,.ptr 10 0)]) (H':=[psB src (ix L r7),tkB L,(10,.cells 83 [.v (.string a1),.v (.string a3),.v (.int .i64 a5),.v (.int .i64 b5),.v (.int .i64 0),.v (.int .i64 0)])]) [] ?_ sH sH
  (try refine gS ?_);conv=>whnf
  repeat ((first|(guard_target=_∧_;(first|refine oL ?_|refine oR ?_))|(guard_target=Exists _;refine oM ?_));(try intro _);conv=>whnf)
  try refine RunsS.retU ?_
  try refine RunsS.finU ?_
  exact UnwS.ret tab Tryz.func63 rfl (EndS.mk ((Rs.ok ⟨a1,a3,a5,b5,0,0⟩ r7:Rs It)) ((by unfold itemP;rw [bnd_ok h1.symm,bnd_ok h2.symm,bnd_ok h3.symm,bnd_ok h4.symm,bnd_ok h5.symm,bnd_ok b6,bnd_ok h7.symm];rfl)) [] sH rfl rfl (okRet rfl rfl))
 |true=>
  obtain ⟨x,q,rfl⟩:=isA_cons hA
  have hT:isT 1 (B wKeeps) (x::q)=true:=by rw [←isA_w K s5 (V.w wKeeps (by simp)),hA]
  have hx5:=ix_lt s5
  (try refine gS ?_);conv=>whnf
  repeat ((first|(guard_target=_∧_;(first|refine oL ?_|refine oR ?_))|(guard_target=Exists _;refine oM ?_));(try intro _);conv=>whnf)
  rw [ix_succ s5]
  refine RunsS.callN (pnumber_fn src L q (suf_tail s5) hL) [0,1,2,3,4,5,6,7,8,9] ?_ sH ?CNa10
  case CNa10=>rfl
  rintro (⟨a6,r6⟩|⟨r6,e6⟩) h6<;>conv=>whnf
  rotate_left
  ·have b6:optP 1 (B wKeeps) 0 numP (x::q)=.bad r6 e6:=optW_yes hT h6.symm
   try refine RunsS.panicU ?_
   exact UnwS.pan Tryz.func63 (EndS.mk ((Rs.bad r6 e6:Rs It)) ((by unfold itemP;rw [bnd_ok h1.symm,bnd_ok h2.symm,bnd_ok h3.symm,bnd_ok h4.symm,bnd_ok h5.symm,bnd_bad b6])) [] sH rfl rfl (okPan rfl))
  have s6:=(num_one.1.suf _ _ _ h6.symm).trans (suf_tail s5)
  have b6:optP 1 (B wKeeps) 0 numP (x::q)=.ok a6 r6:=optW_yes hT h6.symm
  refine RunsS.subR (nx':=11) (l':=[(32,.v (.int .i64 a6)),(0,.ptr 0 0),(2,.ptr 10 0)]) (H':=[psB src (ix L r6),tkB L,(10,.cells 83 [.v (.string a1),.v (.string a3),.v (.int .i64 a5),.v (.int .i64 b5),.v (.int .i64 0),.v (.int .i64 0)])]) [] ?_ sH sH
  (try refine gS ?_);conv=>whnf
  repeat ((first|(guard_target=_∧_;(first|refine oL ?_|refine oR ?_))|(guard_target=Exists _;refine oM ?_));(try intro _);conv=>whnf)
  refine RunsS.callN (pexpect_fn src L r6 s6 hL [B [59]] (by decide)) [0,1,2,3,4,5,6,7,8,9,11] ?_ sH ?CNa11
  case CNa11=>rfl
  rintro (⟨_,r7⟩|⟨r7,e7⟩) h7<;>conv=>whnf
  all_goals rw [skips_s K s6 (V.s 59 (by decide))] at h7
  rotate_left
  ·try refine RunsS.panicU ?_
   exact UnwS.pan Tryz.func63 (EndS.mk ((Rs.bad r7 e7:Rs It)) ((by unfold itemP;rw [bnd_ok h1.symm,bnd_ok h2.symm,bnd_ok h3.symm,bnd_ok h4.symm,bnd_ok h5.symm,bnd_ok b6,bnd_bad h7.symm])) [] sH rfl rfl (okPan rfl))
  have s7:=((skip_one _ _).1.suf _ _ _ h7.symm).trans s6
  refine RunsS.subR (nx':=11) (l':=[(0,.ptr 0 0),(2,.ptr 10 0)]) (H':=[psB src (ix L r7),tkB L,(10,.cells 83 [.v (.string a1),.v (.string a3),.v (.int .i64 a5),.v (.int .i64 b5),.v (.int .i64 a6),.v (.int .i64 0)])]) [] ?_ sH sH
  (try refine gS ?_);conv=>whnf
  repeat ((first|(guard_target=_∧_;(first|refine oL ?_|refine oR ?_))|(guard_target=Exists _;refine oM ?_));(try intro _);conv=>whnf)
  try refine RunsS.retU ?_
  try refine RunsS.finU ?_
  exact UnwS.ret tab Tryz.func63 rfl (EndS.mk ((Rs.ok ⟨a1,a3,a5,b5,a6,0⟩ r7:Rs It)) ((by unfold itemP;rw [bnd_ok h1.symm,bnd_ok h2.symm,bnd_ok h3.symm,bnd_ok h4.symm,bnd_ok h5.symm,bnd_ok b6,bnd_ok h7.symm];rfl)) [] sH rfl rfl (okRet rfl rfl))
theorem punit_fn:FnS Tryz.prog 60 10 [.ptr 0 0] [psB src (ix L r),tkB L] (fun x:Rs Un=>x=unitP r) (outP src L (fun x=>.agg (toV (Un.row x))) 11):=by
 refine FnS.of Tryz.func60 (by kernel_rfl) rfl Tryz.ntmps60 rfl fun E0 F h w0 cs=>?_
 conv=>whnf
 refine gS ?_;conv=>whnf
 repeat ((first|(guard_target=_∧_;(first|refine oL ?_|refine oR ?_))|(guard_target=Exists _;refine oM ?_));(try intro _);conv=>whnf)
 refine RunsS.callN (pname_fn src L r hr hL) [0,1,2,3,4,5,6,7,8,9] ?_ sH ?CNa12
 case CNa12=>rfl
 rintro (⟨a1,r1⟩|⟨r1,e1⟩) h1<;>conv=>whnf
 rotate_left
 ·try refine RunsS.panicU ?_
  exact UnwS.pan Tryz.func60 (EndS.mk ((Rs.bad r1 e1:Rs Un)) ((by unfold unitP;rw [bnd_bad h1.symm])) [] sH rfl rfl (okPan rfl))
 have s1:=(name_one.1.suf _ _ _ h1.symm).trans hr
 refine RunsS.subR (nx':=11) (l':=[(4,.v (.string a1)),(0,.ptr 0 0),(2,.ptr 10 0)]) (H':=[psB src (ix L r1),tkB L,(10,.cells 81 [.v (.string ⟨#[]⟩),.v (.string ⟨#[]⟩),.v (.int .i64 0),.v (.int .i64 0),.v (.int .i64 0),.v (.bool false),.v (.string ⟨#[]⟩),.v (.string ⟨#[]⟩)])]) [] ?_ sH sH
 (try refine gS ?_);conv=>whnf
 repeat ((first|(guard_target=_∧_;(first|refine oL ?_|refine oR ?_))|(guard_target=Exists _;refine oM ?_));(try intro _);conv=>whnf)
 refine RunsS.callN (pis_fn src L r1 s1 (B [61])) [0,1,2,3,4,5,6,7,8,9] ?_ sH ?CNa13
 case CNa13=>rfl
 intro _ _
 conv=>whnf
 (try refine gS ?_);conv=>whnf
 repeat ((first|(guard_target=_∧_;(first|refine oL ?_|refine oR ?_))|(guard_target=Exists _;refine oM ?_));(try intro _);conv=>whnf)
 cases hA:isA (B [61]) r1 with
 |false=>
  have b2:optP 3 (B [61]) (0,0,e0) (bnd fracP fun q=>bnd nameP fun o=>pur (q.1,q.2,o)) r1=.ok (0,0,e0) r1:=optW_no (by rw [←isA_s K s1 (V.s 61 (by decide)),hA])
  (try refine gS ?_);conv=>whnf
  repeat ((first|(guard_target=_∧_;(first|refine oL ?_|refine oR ?_))|(guard_target=Exists _;refine oM ?_));(try intro _);conv=>whnf)
  refine RunsS.callN (pexpect_fn src L r1 s1 hL [B [59]] (by decide)) [0,1,2,3,4,5,6,7,8,9,11] ?_ sH ?CNa14
  case CNa14=>rfl
  rintro (⟨_,r3⟩|⟨r3,e3⟩) h3<;>conv=>whnf
  all_goals rw [skips_s K s1 (V.s 59 (by decide))] at h3
  rotate_left
  ·try refine RunsS.panicU ?_
   exact UnwS.pan Tryz.func60 (EndS.mk ((Rs.bad r3 e3:Rs Un)) ((by unfold unitP;rw [bnd_ok h1.symm,bnd_ok b2,bnd_bad h3.symm])) [] sH rfl rfl (okPan rfl))
  have s3:=((skip_one _ _).1.suf _ _ _ h3.symm).trans s1
  refine RunsS.subR (nx':=11) (l':=[(0,.ptr 0 0),(2,.ptr 10 0)]) (H':=[psB src (ix L r3),tkB L,(10,.cells 81 [.v (.string a1),.v (.string ⟨#[]⟩),.v (.int .i64 0),.v (.int .i64 0),.v (.int .i64 0),.v (.bool false),.v (.string ⟨#[]⟩),.v (.string ⟨#[]⟩)])]) [] ?_ sH sH
  (try refine gS ?_);conv=>whnf
  repeat ((first|(guard_target=_∧_;(first|refine oL ?_|refine oR ?_))|(guard_target=Exists _;refine oM ?_));(try intro _);conv=>whnf)
  try refine RunsS.retU ?_
  try refine RunsS.finU ?_
  exact UnwS.ret tab Tryz.func60 rfl (EndS.mk ((Rs.ok ⟨a1,e0,0,0,0,zr⟩ r3:Rs Un)) ((by unfold unitP;rw [bnd_ok h1.symm,bnd_ok b2,bnd_ok h3.symm];rfl)) [] sH rfl rfl (okRet rfl rfl))
 |true=>
  obtain ⟨x,q,rfl⟩:=isA_cons hA
  have hT:isT 3 (B [61]) (x::q)=true:=by rw [←isA_s K s1 (V.s 61 (by decide)),hA]
  have hx1:=ix_lt s1
  (try refine gS ?_);conv=>whnf
  repeat ((first|(guard_target=_∧_;(first|refine oL ?_|refine oR ?_))|(guard_target=Exists _;refine oM ?_));(try intro _);conv=>whnf)
  rw [ix_succ s1]
  refine RunsS.callN (pfrac_fn src L q (suf_tail s1) hL K V) [0,1,2,3,4,5,6,7,8,9] ?_ sH ?CNa15
  case CNa15=>rfl
  rintro (⟨⟨n,d⟩,r2⟩|⟨r2,e2⟩) h2<;>conv=>whnf
  rotate_left
  ·have b2:optP 3 (B [61]) ((0,0,e0):Int×Int×ByteArray) (bnd fracP fun q=>bnd nameP fun o=>pur (q.1,q.2,o)) (x::q)=.bad r2 e2:=optW_yes hT (bnd_bad h2.symm)
   try refine RunsS.panicU ?_
   exact UnwS.pan Tryz.func60 (EndS.mk ((Rs.bad r2 e2:Rs Un)) ((by unfold unitP;rw [bnd_ok h1.symm,bnd_bad b2])) [] sH rfl rfl (okPan rfl))
  have s2:=(frac_g.g.suf _ _ _ h2.symm).trans (suf_tail s1)
  refine RunsS.subR (nx':=11) (l':=[(17,.tup [.v (.int .i64 n),.v (.int .i64 d)]),(0,.ptr 0 0),(2,.ptr 10 0)]) (H':=[psB src (ix L r2),tkB L,(10,.cells 81 [.v (.string a1),.v (.string ⟨#[]⟩),.v (.int .i64 0),.v (.int .i64 0),.v (.int .i64 0),.v (.bool false),.v (.string ⟨#[]⟩),.v (.string ⟨#[]⟩)])]) [] ?_ sH sH
  (try refine gS ?_);conv=>whnf
  repeat ((first|(guard_target=_∧_;(first|refine oL ?_|refine oR ?_))|(guard_target=Exists _;refine oM ?_));(try intro _);conv=>whnf)
  refine RunsS.callN (pname_fn src L r2 s2 hL) [0,1,2,3,4,5,6,7,8,9] ?_ sH ?CNa16
  case CNa16=>rfl
  rintro (⟨o,r3⟩|⟨r3,e3⟩) h3'<;>conv=>whnf
  rotate_left
  ·have b2:optP 3 (B [61]) ((0,0,e0):Int×Int×ByteArray) (bnd fracP fun q=>bnd nameP fun o=>pur (q.1,q.2,o)) (x::q)=.bad r3 e3:=optW_yes hT (by rw [bnd_ok h2.symm,bnd_bad h3'.symm])
   try refine RunsS.panicU ?_
   exact UnwS.pan Tryz.func60 (EndS.mk ((Rs.bad r3 e3:Rs Un)) ((by unfold unitP;rw [bnd_ok h1.symm,bnd_bad b2])) [] sH rfl rfl (okPan rfl))
  have s3:=(name_one.1.suf _ _ _ h3'.symm).trans s2
  have b2:optP 3 (B [61]) ((0,0,e0):Int×Int×ByteArray) (bnd fracP fun q=>bnd nameP fun o=>pur (q.1,q.2,o)) (x::q)=.ok (n,d,o) r3:=optW_yes hT (by rw [bnd_ok h2.symm,bnd_ok h3'.symm];rfl)
  refine RunsS.subR (nx':=11) (l':=[(23,.v (.string o)),(0,.ptr 0 0),(2,.ptr 10 0)]) (H':=[psB src (ix L r3),tkB L,(10,.cells 81 [.v (.string a1),.v (.string ⟨#[]⟩),.v (.int .i64 n),.v (.int .i64 d),.v (.int .i64 0),.v (.bool false),.v (.string ⟨#[]⟩),.v (.string ⟨#[]⟩)])]) [] ?_ sH sH
  (try refine gS ?_);conv=>whnf
  repeat ((first|(guard_target=_∧_;(first|refine oL ?_|refine oR ?_))|(guard_target=Exists _;refine oM ?_));(try intro _);conv=>whnf)
  refine RunsS.callN (pexpect_fn src L r3 s3 hL [B [59]] (by decide)) [0,1,2,3,4,5,6,7,8,9,11] ?_ sH ?CNa17
  case CNa17=>rfl
  rintro (⟨_,r4⟩|⟨r4,e4⟩) h4<;>conv=>whnf
  all_goals rw [skips_s K s3 (V.s 59 (by decide))] at h4
  rotate_left
  ·try refine RunsS.panicU ?_
   exact UnwS.pan Tryz.func60 (EndS.mk ((Rs.bad r4 e4:Rs Un)) ((by unfold unitP;rw [bnd_ok h1.symm,bnd_ok b2,bnd_bad h4.symm])) [] sH rfl rfl (okPan rfl))
  have s4:=((skip_one _ _).1.suf _ _ _ h4.symm).trans s3
  refine RunsS.subR (nx':=11) (l':=[(0,.ptr 0 0),(2,.ptr 10 0)]) (H':=[psB src (ix L r4),tkB L,(10,.cells 81 [.v (.string a1),.v (.string o),.v (.int .i64 n),.v (.int .i64 d),.v (.int .i64 0),.v (.bool false),.v (.string ⟨#[]⟩),.v (.string ⟨#[]⟩)])]) [] ?_ sH sH
  (try refine gS ?_);conv=>whnf
  repeat ((first|(guard_target=_∧_;(first|refine oL ?_|refine oR ?_))|(guard_target=Exists _;refine oM ?_));(try intro _);conv=>whnf)
  try refine RunsS.retU ?_
  try refine RunsS.finU ?_
  exact UnwS.ret tab Tryz.func60 rfl (EndS.mk ((Rs.ok ⟨a1,o,n,d,0,zr⟩ r4:Rs Un)) ((by unfold unitP;rw [bnd_ok h1.symm,bnd_ok b2,bnd_ok h4.symm];rfl)) [] sH rfl rfl (okRet rfl rfl))
end
end Go.Proofs.YtgbeechjghajcaaGreatDoor

namespace Go.Proofs.YtgbeechjghajcaaGreatDoor
open Go Go.Fw Go.NatM Go.RatM Go.SrcM Go.SynM
set_option maxRecDepth 100000
set_option maxHeartbeats 99999999
section
variable (src:ByteArray) (L r:List Tok) (hr:r <:+ L) (hL:L.length≤65536) {N:ByteArray→Prop} (K:KL N L) (V:VocN N)
include hr hL K V
theorem pin_fn:FnS Tryz.prog 130 10 [.ptr 0 0] [psB src (ix L r),tkB L] (fun x:Rs Am=>x=inP r) (outP src L (fun x=>.agg (toV x.row)) 11):=by
 refine FnS.of Tryz.func130 (by kernel_rfl) rfl Tryz.ntmps130 rfl fun E0 F h w0 cs=>?_
 conv=>whnf
 refine gS ?_;conv=>whnf
 repeat ((first|(guard_target=_∧_;(first|refine oL ?_|refine oR ?_))|(guard_target=Exists _;refine oM ?_));(try intro _);conv=>whnf)
 refine RunsS.callN (pis_fn src L r hr (B wBack)) [0,1,2,3,4,5,6,7,8,9] ?_ sH ?CNa1
 case CNa1=>rfl
 intro _ _
 conv=>whnf
 (try refine gS ?_);conv=>whnf
 repeat ((first|(guard_target=_∧_;(first|refine oL ?_|refine oR ?_))|(guard_target=Exists _;refine oM ?_));(try intro _);conv=>whnf)
 cases hA:isA (B wBack) r with
 |false=>
  have b1:optP 1 (B wBack) false (pur true) r=.ok false r:=optW_no (by rw [←isA_w K hr (V.w wBack (by simp)),hA])
  (try refine gS ?_);conv=>whnf
  repeat ((first|(guard_target=_∧_;(first|refine oL ?_|refine oR ?_))|(guard_target=Exists _;refine oM ?_));(try intro _);conv=>whnf)
  refine RunsS.callN (pout_fn src L r hr hL K V) [0,1,2,3,4,5,6,7,8,9] ?_ sH ?CNa2
  case CNa2=>rfl
  rintro (⟨a,r1⟩|⟨r1,e1⟩) h1<;>conv=>whnf
  rotate_left
  ·try refine RunsS.panicU ?_
   exact UnwS.pan Tryz.func130 (EndS.mk ((Rs.bad r1 e1:Rs Am)) ((by unfold inP;rw [bnd_ok b1,bnd_bad h1.symm])) [] sH rfl rfl (okPan rfl))
  refine RunsS.subR (nx':=12) (l':=[(16,.agg (toV a.row)),(3,.v (.bool false)),(0,.ptr 0 0),(2,.ptr 10 0)]) (H':=[psB src (ix L r1),tkB L,(10,.cells 55 [.v (.int .i64 0),.v (.int .i64 0),.v (.string ⟨#[]⟩),.v (.string ⟨#[]⟩),.v (.bool false),.v (.int .i64 0),.v (.int .i64 0)])]) [] ?_ sH sH
  (try refine gS ?_);conv=>whnf
  repeat ((first|(guard_target=_∧_;(first|refine oL ?_|refine oR ?_))|(guard_target=Exists _;refine oM ?_));(try intro _);conv=>whnf)
  try refine RunsS.retU ?_
  try refine RunsS.finU ?_
  exact UnwS.ret tab Tryz.func130 rfl (EndS.mk ((Rs.ok {a with back:=false} r1:Rs Am)) ((by unfold inP;rw [bnd_ok b1,bnd_ok h1.symm];rfl)) [] sH rfl rfl (okRet rfl rfl))
 |true=>
  obtain ⟨x,q,rfl⟩:=isA_cons hA
  have hT:isT 1 (B wBack) (x::q)=true:=by rw [←isA_w K hr (V.w wBack (by simp)),hA]
  have b1:optP 1 (B wBack) false (pur true) (x::q)=.ok true q:=optW_yes hT rfl
  have hx:=ix_lt hr
  (try refine gS ?_);conv=>whnf
  repeat ((first|(guard_target=_∧_;(first|refine oL ?_|refine oR ?_))|(guard_target=Exists _;refine oM ?_));(try intro _);conv=>whnf)
  rw [ix_succ hr]
  refine RunsS.callN (pout_fn src L q (suf_tail hr) hL K V) [0,1,2,3,4,5,6,7,8,9] ?_ sH ?CNa3
  case CNa3=>rfl
  rintro (⟨a,r1⟩|⟨r1,e1⟩) h1<;>conv=>whnf
  rotate_left
  ·try refine RunsS.panicU ?_
   exact UnwS.pan Tryz.func130 (EndS.mk ((Rs.bad r1 e1:Rs Am)) ((by unfold inP;rw [bnd_ok b1,bnd_bad h1.symm])) [] sH rfl rfl (okPan rfl))
  refine RunsS.subR (nx':=12) (l':=[(16,.agg (toV a.row)),(3,.v (.bool true)),(0,.ptr 0 0),(2,.ptr 10 0)]) (H':=[psB src (ix L r1),tkB L,(10,.cells 55 [.v (.int .i64 0),.v (.int .i64 0),.v (.string ⟨#[]⟩),.v (.string ⟨#[]⟩),.v (.bool false),.v (.int .i64 0),.v (.int .i64 0)])]) [] ?_ sH sH
  (try refine gS ?_);conv=>whnf
  repeat ((first|(guard_target=_∧_;(first|refine oL ?_|refine oR ?_))|(guard_target=Exists _;refine oM ?_));(try intro _);conv=>whnf)
  try refine RunsS.retU ?_
  try refine RunsS.finU ?_
  exact UnwS.ret tab Tryz.func130 rfl (EndS.mk ((Rs.ok {a with back:=true} r1:Rs Am)) ((by unfold inP;rw [bnd_ok b1,bnd_ok h1.symm];rfl)) [] sH rfl rfl (okRet rfl rfl))
end
end Go.Proofs.YtgbeechjghajcaaGreatDoor
