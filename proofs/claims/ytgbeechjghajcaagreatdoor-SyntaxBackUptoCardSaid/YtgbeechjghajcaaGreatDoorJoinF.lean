/- Texts of this seat, joined: The statements about layer 10: SyntaxSpaces. The statements about layer 10: SyntaxPlaces. The statements about layer 10: S -/
import Derived.Test.YtgbeechjghajcaaGreatDoorJoinE
set_option linter.unusedVariables false
set_option linter.unusedSimpArgs false
namespace Go.Proofs.YtgbeechjghajcaaGreatDoor
open Go Go.Fw Go.NatM Go.RatM Go.SrcM Go.SynM
set_option maxRecDepth 100000
set_option maxHeartbeats 99999999
theorem synSpaces_fn (src:ByteArray):FnX Tryz.prog 7 0 [.v (.string src)] [] (fun G h=>PowT G h) (fun (_:Unit) _ _=>True) (fun _=>.ret (.v (.bool true)) 0 []):=by
 refine FnX.of Tryz.func7 (by kernel_rfl) rfl Tryz.ntmps7 rfl fun E0 F G h N hP w0 cs=>?_
 conv=>whnf
 refine gS ?_;conv=>whnf
 refine RunsS.callY (N.gsub) (sane_syn_fn) (fun h U=>hP.up U) [] sH ?CNa1 ?_
 case CNa1=>rfl
 rintro _ _ G1 h1 N1 J1
 conv=>whnf
 (try refine gS ?_);conv=>whnf
 refine ⟨fun hs=>?_,fun hs=>?_⟩<;>conv=>whnf
 ·try refine gS ?_
  conv=>whnf
  try refine RunsS.retU ?_
  exact UnwS.ret tab Tryz.func7 rfl (eX (N1) (()) (fun _ _=>trivial))
 (try refine gS ?_);conv=>whnf
 have hz:src.size≤4000:=by omega
 have hl:src.size≤65536:=by omega
 refine RunsS.callY (N1.gsub) (parse_fn src hl) (fun _ _=>trivial) [] sH ?CNa2 ?_
 case CNa2=>rfl
 rintro _ ⟨s1,a1,e1,y1,y2,y3,y4,y5,y6,y7,y8⟩ G2 h2 N2 J2
 have T2:TopF G2 h2 y1 y2 y3 y4 y5 y6 y7 y8 s1:=J2.top
 obtain ⟨pU2,qU2,pI2,qI2,pP2,qP2,pM2,qM2,pO2,qO2,pF2,qF2,pR2,qR2,pS2,qS2,rfl,rfl,rfl,rfl,rfl,rfl,rfl,rfl⟩:=topShapes T2
 conv=>whnf
 (try refine gS ?_);conv=>whnf
 refine RunsS.subR (nx':=1) (l':=[(0,.v (.string src)),(26,.v (.string src)),(3,.ptr 0 0),(4,intA a1),(5,intA e1)]) (H':=[(0,.cells 32 [.v (.slice pU2 s1.units.length qU2),.v (.slice pI2 s1.items.length qI2),.v (.slice pP2 s1.plants.length qP2),.v (.slice pM2 s1.machines.length qM2),.v (.slice pO2 s1.options.length qO2),.v (.slice pF2 s1.forbids.length qF2),.v (.slice pR2 s1.recipes.length qR2),.v (.slice pS2 s1.swaps.length qS2)])]) [] ?_ sH sH
 have hP2:=(hP.up ((Now.step N.gsub N1).trans (Now.step N1.gsub N2))).up ⟨N2.gsub,fun _ _=>rfl⟩
 cases hx:lexS (bs src) 0 with
 |inr q=>
  have hq:parseP src=.inr ((q:Int),50):=by unfold parseP;rw [hx]
  rw [hq] at J2
  obtain ⟨q1,q2,q3⟩:=J2.res
  simp only at q1 q2 q3
  subst q2 q3
  refine RunsS.callN (lexErr_fn hl hx) [] ?_ sH ?CNa3
  case CNa3=>rfl
  intro _ _
  conv=>whnf
  (try refine gS ?_);conv=>whnf
  repeat ((first|(guard_target=_∧_;(first|refine oL ?_|refine oR ?_))|(guard_target=Exists _;refine oM ?_));(try intro _);conv=>whnf)
  try refine RunsS.retU ?_
  exact UnwS.ret tab Tryz.func7 rfl (EndX.mk (N1.trans N2) (()) (fun _ _=>trivial) [] sH rfl rfl (okRet rfl (congrArg (fun b=>SV.v (Value.bool b)) (decide_eq_true rfl))))
 |inl l=>
  have hV:=(lex_allV hx).1
  have hn:=(lexS_len _ (bs src) 0 l rfl hx).1
  rw [bs_len] at hn
  have hn2:(toksP l).length≤65536:=by unfold toksP;rw [List.length_map];omega
  have hsp:=parse_spaces hx
  refine RunsS.callN (lexOk_fn hl hx) [] ?_ sH ?CNa4
  case CNa4=>rfl
  intro _ _
  conv=>whnf
  (try refine gS ?_);conv=>whnf
  repeat ((first|(guard_target=_∧_;(first|refine oL ?_|refine oR ?_))|(guard_target=Exists _;refine oM ?_));(try intro _);conv=>whnf)
  have ht:textV (toksP l)=.tuple #[.string (joinB (toksP l)),.int .i64 0]:=if_pos hV
  refine RunsS.callV (fun Ez Hz Az Sz K=>Text_fn (toksP l) hn2 (Sz.ro (b:=1) rfl) (hP2.kp K)) ?_
  conv=>whnf
  rw [ht]
  (try refine gS ?_);conv=>whnf
  repeat ((first|(guard_target=_∧_;(first|refine oL ?_|refine oR ?_))|(guard_target=Exists _;refine oM ?_));(try intro _);conv=>whnf)
  refine ⟨fun hs2=>?_,fun hs2=>?_⟩<;>conv=>whnf
  ·try refine gS ?_
   conv=>whnf
   try refine RunsS.retU ?_
   exact UnwS.ret tab Tryz.func7 rfl (eX (N1.trans N2) (()) (fun _ _=>trivial))
  (try refine gS ?_);conv=>whnf
  refine RunsS.subR (nx':=1) (l':=[(3,.ptr 0 0),(5,intA e1),(56,.v (.string (joinB (toksP l))))]) (H':=[(0,.cells 32 [.v (.slice pU2 s1.units.length qU2),.v (.slice pI2 s1.items.length qI2),.v (.slice pP2 s1.plants.length qP2),.v (.slice pM2 s1.machines.length qM2),.v (.slice pO2 s1.options.length qO2),.v (.slice pF2 s1.forbids.length qF2),.v (.slice pR2 s1.recipes.length qR2),.v (.slice pS2 s1.swaps.length qS2)])]) [] ?_ sH sH
  refine RunsS.callY (N2.gsub) (parse_fn (joinB (toksP l)) (by omega)) (fun _ _=>trivial) [] sH ?CNa5 ?_
  case CNa5=>rfl
  rintro _ ⟨s2,a2,e2,y1,y2,y3,y4,y5,y6,y7,y8⟩ G3 h3 N3 J3
  have T3:TopF G3 h3 y1 y2 y3 y4 y5 y6 y7 y8 s2:=J3.top
  obtain ⟨pU3,qU3,pI3,qI3,pP3,qP3,pM3,qM3,pO3,qO3,pF3,qF3,pR3,qR3,pS3,qS3,rfl,rfl,rfl,rfl,rfl,rfl,rfl,rfl⟩:=topShapes T3
  have hqq:s1.bare=s2.bare∧e1=e2:=by
   cases hp:parseP src with
   |inl x=>
    rw [hp] at hsp J2
    rw [hsp] at J3
    exact ⟨J2.res.1.trans J3.res.1.symm,J2.res.2.2.trans J3.res.2.2.symm⟩
   |inr q=>
    rw [hp] at hsp J2
    obtain ⟨p,hp2⟩:=hsp
    rw [hp2] at J3
    exact ⟨by rw [show s1=noSrc from J2.res.1,show s2=noSrc from J3.res.1],J2.res.2.2.trans J3.res.2.2.symm⟩
  obtain ⟨q1,rfl⟩:=hqq
  conv=>whnf
  (try refine gS ?_);conv=>whnf
  refine RunsS.callT (Two2T.tok _ _ _ _ _ _ _ _ _ _ _ _ _ _ _ _ _ _) (⟨T2.up ((Now.step N2.gsub N3).trans ⟨N3.gsub,fun _ _=>rfl⟩),T3.up ⟨N3.gsub,fun _ _=>rfl⟩⟩) (sSameY_fn q1) [] sH ?CNa6 ?_
  case CNa6=>rfl
  intro _ _
  conv=>whnf
  (try refine gS ?_);conv=>whnf
  try refine RunsS.retU ?_
  exact UnwS.ret tab Tryz.func7 rfl (EndX.mk ((N1.trans N2).trans N3) (()) (fun _ _=>trivial) [] sH rfl rfl (okRet rfl (congrArg (fun b=>SV.v (Value.bool b)) (decide_eq_true rfl))))

def metB (n:Nat) (p:Int) (l:List Tok) (i:Nat):Bool:=decide (p=n)||(l.take i).any fun t=>decide (t.pos=p)
theorem met_zero {n:Nat} {p:Int} {l:List Tok}:metB n p l 0=decide (p=n):=by simp [metB]
theorem met_succ {n:Nat} {p:Int} {l:List Tok} {i:Nat} (hi:i<l.length):metB n p l (i+1)=(metB n p l i||decide (l[i].pos=p)):=by
 unfold metB
 rw [take_snoc hi,List.any_append]
 simp [Bool.or_assoc]
theorem met_all {n:Nat} {p:Int} {l:List Tok} (h:p=n ∨ ∃t∈l,t.pos=p):metB n p l l.length=true:=by
 unfold metB
 rw [List.take_length]
 rcases h with h|⟨t,h1,h2⟩
 ·simp [h]
 rw [Bool.or_eq_true]
 exact .inr (List.any_eq_true.2 ⟨t,h1,decide_eq_true h2⟩)
theorem synPlaces_fn (src:ByteArray):FnX Tryz.prog 8 0 [.v (.string src)] [] (fun G h=>PowT G h) (fun (_:Unit) _ _=>True) (fun _=>.ret (.v (.bool true)) 0 []):=by
 refine FnX.of Tryz.func8 (by kernel_rfl) rfl Tryz.ntmps8 rfl fun E0 F G h N hP w0 cs=>?_
 conv=>whnf
 refine gS ?_;conv=>whnf
 refine RunsS.callY (N.gsub) (sane_syn_fn) (fun h U=>hP.up U) [] sH ?CNa1 ?_
 case CNa1=>rfl
 rintro _ _ G1 h1 N1 J1
 conv=>whnf
 (try refine gS ?_);conv=>whnf
 refine ⟨fun hs=>?_,fun hs=>?_⟩<;>conv=>whnf
 ·try refine gS ?_
  conv=>whnf
  try refine RunsS.retU ?_
  exact UnwS.ret tab Tryz.func8 rfl (eX (N1) (()) (fun _ _=>trivial))
 (try refine gS ?_);conv=>whnf
 have hz:src.size≤4000:=by omega
 have hl:src.size≤65536:=by omega
 refine RunsS.callY (N1.gsub) (parse_fn src hl) (fun _ _=>trivial) [] sH ?CNa2 ?_
 case CNa2=>rfl
 rintro _ ⟨s1,a1,e1,y1,y2,y3,y4,y5,y6,y7,y8⟩ G2 h2 N2 J2
 have T2:TopF G2 h2 y1 y2 y3 y4 y5 y6 y7 y8 s1:=J2.top
 obtain ⟨pU2,qU2,pI2,qI2,pP2,qP2,pM2,qM2,pO2,qO2,pF2,qF2,pR2,qR2,pS2,qS2,rfl,rfl,rfl,rfl,rfl,rfl,rfl,rfl⟩:=topShapes T2
 conv=>whnf
 (try refine gS ?_);conv=>whnf
 refine RunsS.subR (nx':=1) (l':=[(0,.v (.string src)),(27,.v (.string src)),(4,intA a1),(5,intA e1),(3,.ptr 0 0)]) (H':=[(0,.cells 32 [.v (.slice pU2 s1.units.length qU2),.v (.slice pI2 s1.items.length qI2),.v (.slice pP2 s1.plants.length qP2),.v (.slice pM2 s1.machines.length qM2),.v (.slice pO2 s1.options.length qO2),.v (.slice pF2 s1.forbids.length qF2),.v (.slice pR2 s1.recipes.length qR2),.v (.slice pS2 s1.swaps.length qS2)])]) [] ?_ sH sH
 cases hx:lexS (bs src) 0 with
 |inr q=>
  have hq:parseP src=.inr ((q:Int),50):=by unfold parseP;rw [hx]
  rw [hq] at J2
  obtain ⟨q1,q2,q3⟩:=J2.res
  simp only at q1 q2 q3
  subst q2 q3
  refine RunsS.callN (lexErr_fn hl hx) [] ?_ sH ?CNa3
  case CNa3=>rfl
  intro _ _
  conv=>whnf
  (try refine gS ?_);conv=>whnf
  repeat ((first|(guard_target=_∧_;(first|refine oL ?_|refine oR ?_))|(guard_target=Exists _;refine oM ?_));(try intro _);conv=>whnf)
  try refine RunsS.retU ?_
  exact UnwS.ret tab Tryz.func8 rfl (EndX.mk (N1.trans N2) (()) (fun _ _=>trivial) [] sH rfl rfl (okRet rfl (congrArg (fun b=>SV.v (Value.bool b)) (decide_eq_true rfl))))
 |inl l=>
  have hn:=(lexS_len _ (bs src) 0 l rfl hx).1
  rw [bs_len] at hn
  have hn2:(toksP l).length≤65536:=by unfold toksP;rw [List.length_map];omega
  have lm:((toksP l).map Tok.row).length=(toksP l).length:=List.length_map _
  refine RunsS.callN (lexOk_fn hl hx) [] ?_ sH ?CNa4
  case CNa4=>rfl
  intro _ _
  conv=>whnf
  (try refine gS ?_);conv=>whnf
  repeat ((first|(guard_target=_∧_;(first|refine oL ?_|refine oR ?_))|(guard_target=Exists _;refine oM ?_));(try intro _);conv=>whnf)
  refine ⟨fun he=>?_,fun he=>?_⟩<;>conv=>whnf
  ·try refine gS ?_
   conv=>whnf
   repeat ((first|(guard_target=_∧_;(first|refine oL ?_|refine oR ?_))|(guard_target=Exists _;refine oM ?_));(try intro _);conv=>whnf)
   try refine RunsS.retU ?_
   exact UnwS.ret tab Tryz.func8 rfl (eX (N1.trans N2) (()) (fun _ _=>trivial))
  have hp:parseP src=.inr (a1,e1):=by
   cases hp:parseP src with
   |inl x=>rw [hp] at J2;exact absurd J2.res.2.2 he
   |inr q=>
    rw [hp] at J2
    obtain ⟨q1,q2,q3⟩:=J2.res
    simp only at q2 q3
    rw [q2,q3]
  obtain ⟨k1,k2,q,hq,k3,k4⟩:=parse_places hx hp
  subst hq
  have k2:((q:Int)=src.size∧e1=100) ∨ ∃t∈toksP l,t.pos=(q:Int):=k2.imp id fun ⟨q',_,_,h⟩=>h
  have k5:(q:Int)=src.size ∨ ∃t∈toksP l,t.pos=(q:Int):=k2.imp (fun h=>h.1) id
  have hq2:q≤src.size:=k3
  rcases k1 with rfl|rfl
  ·try refine gS ?_
   conv=>whnf
   repeat ((first|(guard_target=_∧_;(first|refine oL ?_|refine oR ?_))|(guard_target=Exists _;refine oM ?_));(try intro _);conv=>whnf)
   by_cases h9:(q:Int)=src.size
   ·refine And.intro (fun _=>?_) (fun hn=>absurd (h9) hn)
    conv=>whnf
    repeat ((first|(guard_target=_∧_;(first|refine oL ?_|refine oR ?_))|(guard_target=Exists _;refine oM ?_));(try intro _);conv=>whnf)
    rw [show decide ((q:Int)=(src.size:Int))=metB src.size q (toksP l) 0 from met_zero.symm]
    refine RunsS.subR (nx':=2) (l':=[(0,.v (.string src)),(4,intA (q:Int)),(9,.v (.bool (metB src.size q (toksP l) 0))),(75,.buf 1),(76,.v (.int .i64 ((toksP l).map Tok.row).length)),(77,.v (.int .i64 (0:Nat)))]) (H':=[(1,.own 47 4 ((toksP l).map Tok.row))]) [] ?_ sH sH
    refine RunsS.subR [] (RunsS.loop (fun (⟨i,b⟩:Nat×Bool)=>[(0,.v (.string src)),(4,intA (q:Int)),(9,.v (.bool b)),(75,.buf 1),(76,.v (.int .i64 ((toksP l).map Tok.row).length)),(77,.v (.int .i64 i))]) (fun (⟨i,b⟩:Nat×Bool)=>[(1,.own 47 4 ((toksP l).map Tok.row))]) 2 (fun (⟨i,b⟩:Nat×Bool)=>i≤(toksP l).length∧b=metB src.size q (toksP l) i) (fun (⟨i,b⟩:Nat×Bool)=>(toksP l).length - i) ?round5 ((0,metB src.size q (toksP l) 0)) ?J05) sH sH
    case J05=>exact (⟨Nat.zero_le _,rfl⟩)
    rintro ⟨i,b⟩ hJ back
    try dsimp only at hJ back
    conv=>whnf
    try dsimp only
    refine gS ?_;conv=>whnf
    obtain ⟨hi,hJ⟩:=hJ
    refine ⟨fun hk=>?_,fun hk=>?_⟩<;>conv=>whnf
    ·have hk:i<(toksP l).length:=by omega
     have hsu:=met_succ (n:=src.size) (p:=(q:Int)) hk
     rw [←hJ] at hsu
     conv=>whnf
     repeat ((first|(guard_target=_∧_;(first|refine oL ?_|refine oR ?_))|(guard_target=Exists _;refine oM ?_));(try intro _);conv=>whnf)
     refine ⟨_,(show ((toksP l).map Tok.row)[((i:Nat):Int).toNat]? = some (toksP l)[i].row from lrow (toksP l) hk),?_⟩;conv=>whnf
     try (refine oN ?_;conv=>whnf)
     cases b with
     |true=>
      conv=>whnf
      repeat ((first|(guard_target=_∧_;(first|refine oL ?_|refine oR ?_))|(guard_target=Exists _;refine oM ?_));(try intro _);conv=>whnf)
      refine RunsS.subR [] (back ((i+1,true)) (by exact (⟨hk,hsu.symm⟩)) (by (try dsimp only);omega)) sH sH
     |false=>
      conv=>whnf
      repeat ((first|(guard_target=_∧_;(first|refine oL ?_|refine oR ?_))|(guard_target=Exists _;refine oM ?_));(try intro _);conv=>whnf)
      refine RunsS.subR [] (back ((i+1,decide ((toksP l)[i].pos=(q:Int)))) (by exact (⟨hk,(hsu.trans (Bool.false_or _)).symm⟩)) (by (try dsimp only);omega)) sH sH
    have ei:i=(toksP l).length:=by omega
    subst ei
    rw [met_all k5] at hJ
    subst hJ
    conv=>whnf
    repeat ((first|(guard_target=_∧_;(first|refine oL ?_|refine oR ?_))|(guard_target=Exists _;refine oM ?_));(try intro _);conv=>whnf)
    rw [Int.toNat_natCast]
    refine RunsS.callY (N2.gsub) (parse_fn (src.extract 0 q) (by rw [ByteArray.size_extract];omega)) (fun _ _=>trivial) [] sH ?CNa8 ?_
    case CNa8=>rfl
    rintro _ ⟨s2,a2,e2,y1,y2,y3,y4,y5,y6,y7,y8⟩ G3 h3 N3 J3
    have T3:TopF G3 h3 y1 y2 y3 y4 y5 y6 y7 y8 s2:=J3.top
    obtain ⟨pU3,qU3,pI3,qI3,pP3,qP3,pM3,qM3,pO3,qO3,pF3,qF3,pR3,qR3,pS3,qS3,rfl,rfl,rfl,rfl,rfl,rfl,rfl,rfl⟩:=topShapes T3
    rcases k4 with ⟨x,hx4⟩|hx4
    ·rw [hx4] at J3
     obtain ⟨q1,q2,q3⟩:=J3.res
     simp only at q2 q3
     subst q2 q3
     conv=>whnf
     refine RunsS.subR (nx':=2) (l':=[(4,intA (q:Int)),(9,.v (.bool true)),(93,.tup [.agg [.v (.slice pU3 s2.units.length qU3),.v (.slice pI3 s2.items.length qI3),.v (.slice pP3 s2.plants.length qP3),.v (.slice pM3 s2.machines.length qM3),.v (.slice pO3 s2.options.length qO3),.v (.slice pF3 s2.forbids.length qF3),.v (.slice pR3 s2.recipes.length qR3),.v (.slice pS3 s2.swaps.length qS3)],intA 0,intA 0])]) (H':=[]) [] ?_ sH sH
     (try refine gS ?_);conv=>whnf
     repeat ((first|(guard_target=_∧_;(first|refine oL ?_|refine oR ?_))|(guard_target=Exists _;refine oM ?_));(try intro _);conv=>whnf)
     try refine RunsS.retU ?_
     exact UnwS.ret tab Tryz.func8 rfl (eX ((N1.trans N2).trans N3) (()) (fun _ _=>trivial))
    rw [hx4] at J3
    obtain ⟨q1,q2,q3⟩:=J3.res
    simp only at q2 q3
    subst q2 q3
    conv=>whnf
    refine RunsS.subR (nx':=2) (l':=[(4,intA (q:Int)),(9,.v (.bool true)),(93,.tup [.agg [.v (.slice pU3 s2.units.length qU3),.v (.slice pI3 s2.items.length qI3),.v (.slice pP3 s2.plants.length qP3),.v (.slice pM3 s2.machines.length qM3),.v (.slice pO3 s2.options.length qO3),.v (.slice pF3 s2.forbids.length qF3),.v (.slice pR3 s2.recipes.length qR3),.v (.slice pS3 s2.swaps.length qS3)],intA (q:Int),intA 100])]) (H':=[]) [] ?_ sH sH
    (try refine gS ?_);conv=>whnf
    repeat ((first|(guard_target=_∧_;(first|refine oL ?_|refine oR ?_))|(guard_target=Exists _;refine oM ?_));(try intro _);conv=>whnf)
    try refine RunsS.retU ?_
    exact UnwS.ret tab Tryz.func8 rfl (EndX.mk ((N1.trans N2).trans N3) (()) (fun _ _=>trivial) [] sH rfl rfl (okRet rfl (congrArg (fun b=>SV.v (Value.bool b)) (decide_eq_true rfl))))
   refine And.intro (fun hp=>absurd hp (h9)) (fun _=>?_)
   conv=>whnf
   (try refine gS ?_);conv=>whnf
   rw [show decide ((q:Int)=(src.size:Int))=metB src.size q (toksP l) 0 from met_zero.symm]
   refine RunsS.subR (nx':=2) (l':=[(0,.v (.string src)),(4,intA (q:Int)),(9,.v (.bool (metB src.size q (toksP l) 0))),(75,.buf 1),(76,.v (.int .i64 ((toksP l).map Tok.row).length)),(77,.v (.int .i64 (0:Nat)))]) (H':=[(1,.own 47 4 ((toksP l).map Tok.row))]) [] ?_ sH sH
   refine RunsS.subR [] (RunsS.loop (fun (⟨i,b⟩:Nat×Bool)=>[(0,.v (.string src)),(4,intA (q:Int)),(9,.v (.bool b)),(75,.buf 1),(76,.v (.int .i64 ((toksP l).map Tok.row).length)),(77,.v (.int .i64 i))]) (fun (⟨i,b⟩:Nat×Bool)=>[(1,.own 47 4 ((toksP l).map Tok.row))]) 2 (fun (⟨i,b⟩:Nat×Bool)=>i≤(toksP l).length∧b=metB src.size q (toksP l) i) (fun (⟨i,b⟩:Nat×Bool)=>(toksP l).length - i) ?round9 ((0,metB src.size q (toksP l) 0)) ?J09) sH sH
   case J09=>exact (⟨Nat.zero_le _,rfl⟩)
   rintro ⟨i,b⟩ hJ back
   try dsimp only at hJ back
   conv=>whnf
   try dsimp only
   refine gS ?_;conv=>whnf
   obtain ⟨hi,hJ⟩:=hJ
   refine ⟨fun hk=>?_,fun hk=>?_⟩<;>conv=>whnf
   ·have hk:i<(toksP l).length:=by omega
    have hsu:=met_succ (n:=src.size) (p:=(q:Int)) hk
    rw [←hJ] at hsu
    conv=>whnf
    repeat ((first|(guard_target=_∧_;(first|refine oL ?_|refine oR ?_))|(guard_target=Exists _;refine oM ?_));(try intro _);conv=>whnf)
    refine ⟨_,(show ((toksP l).map Tok.row)[((i:Nat):Int).toNat]? = some (toksP l)[i].row from lrow (toksP l) hk),?_⟩;conv=>whnf
    try (refine oN ?_;conv=>whnf)
    cases b with
    |true=>
     conv=>whnf
     repeat ((first|(guard_target=_∧_;(first|refine oL ?_|refine oR ?_))|(guard_target=Exists _;refine oM ?_));(try intro _);conv=>whnf)
     refine RunsS.subR [] (back ((i+1,true)) (by exact (⟨hk,hsu.symm⟩)) (by (try dsimp only);omega)) sH sH
    |false=>
     conv=>whnf
     repeat ((first|(guard_target=_∧_;(first|refine oL ?_|refine oR ?_))|(guard_target=Exists _;refine oM ?_));(try intro _);conv=>whnf)
     refine RunsS.subR [] (back ((i+1,decide ((toksP l)[i].pos=(q:Int)))) (by exact (⟨hk,(hsu.trans (Bool.false_or _)).symm⟩)) (by (try dsimp only);omega)) sH sH
   have ei:i=(toksP l).length:=by omega
   subst ei
   rw [met_all k5] at hJ
   subst hJ
   conv=>whnf
   repeat ((first|(guard_target=_∧_;(first|refine oL ?_|refine oR ?_))|(guard_target=Exists _;refine oM ?_));(try intro _);conv=>whnf)
   rw [Int.toNat_natCast]
   refine RunsS.callY (N2.gsub) (parse_fn (src.extract 0 q) (by rw [ByteArray.size_extract];omega)) (fun _ _=>trivial) [] sH ?CNa12 ?_
   case CNa12=>rfl
   rintro _ ⟨s2,a2,e2,y1,y2,y3,y4,y5,y6,y7,y8⟩ G3 h3 N3 J3
   have T3:TopF G3 h3 y1 y2 y3 y4 y5 y6 y7 y8 s2:=J3.top
   obtain ⟨pU3,qU3,pI3,qI3,pP3,qP3,pM3,qM3,pO3,qO3,pF3,qF3,pR3,qR3,pS3,qS3,rfl,rfl,rfl,rfl,rfl,rfl,rfl,rfl⟩:=topShapes T3
   rcases k4 with ⟨x,hx4⟩|hx4
   ·rw [hx4] at J3
    obtain ⟨q1,q2,q3⟩:=J3.res
    simp only at q2 q3
    subst q2 q3
    conv=>whnf
    refine RunsS.subR (nx':=2) (l':=[(4,intA (q:Int)),(9,.v (.bool true)),(93,.tup [.agg [.v (.slice pU3 s2.units.length qU3),.v (.slice pI3 s2.items.length qI3),.v (.slice pP3 s2.plants.length qP3),.v (.slice pM3 s2.machines.length qM3),.v (.slice pO3 s2.options.length qO3),.v (.slice pF3 s2.forbids.length qF3),.v (.slice pR3 s2.recipes.length qR3),.v (.slice pS3 s2.swaps.length qS3)],intA 0,intA 0])]) (H':=[]) [] ?_ sH sH
    (try refine gS ?_);conv=>whnf
    repeat ((first|(guard_target=_∧_;(first|refine oL ?_|refine oR ?_))|(guard_target=Exists _;refine oM ?_));(try intro _);conv=>whnf)
    try refine RunsS.retU ?_
    exact UnwS.ret tab Tryz.func8 rfl (eX ((N1.trans N2).trans N3) (()) (fun _ _=>trivial))
   rw [hx4] at J3
   obtain ⟨q1,q2,q3⟩:=J3.res
   simp only at q2 q3
   subst q2 q3
   conv=>whnf
   refine RunsS.subR (nx':=2) (l':=[(4,intA (q:Int)),(9,.v (.bool true)),(93,.tup [.agg [.v (.slice pU3 s2.units.length qU3),.v (.slice pI3 s2.items.length qI3),.v (.slice pP3 s2.plants.length qP3),.v (.slice pM3 s2.machines.length qM3),.v (.slice pO3 s2.options.length qO3),.v (.slice pF3 s2.forbids.length qF3),.v (.slice pR3 s2.recipes.length qR3),.v (.slice pS3 s2.swaps.length qS3)],intA (q:Int),intA 100])]) (H':=[]) [] ?_ sH sH
   (try refine gS ?_);conv=>whnf
   repeat ((first|(guard_target=_∧_;(first|refine oL ?_|refine oR ?_))|(guard_target=Exists _;refine oM ?_));(try intro _);conv=>whnf)
   try refine RunsS.retU ?_
   exact UnwS.ret tab Tryz.func8 rfl (EndX.mk ((N1.trans N2).trans N3) (()) (fun _ _=>trivial) [] sH rfl rfl (okRet rfl (congrArg (fun b=>SV.v (Value.bool b)) (decide_eq_true rfl))))
  (try refine gS ?_);conv=>whnf
  repeat ((first|(guard_target=_∧_;(first|refine oL ?_|refine oR ?_))|(guard_target=Exists _;refine oM ?_));(try intro _);conv=>whnf)
  have h9:¬(q:Int)=src.size:=fun e=>by
   rcases parse_places hx hp with ⟨_,⟨_,h⟩|⟨q',h1,h2,_⟩,_⟩
   ·cases h
   have h1:(q:Int)=(q':Int):=h1
   omega
  rw [show decide ((q:Int)=(src.size:Int))=metB src.size q (toksP l) 0 from met_zero.symm]
  refine RunsS.subR (nx':=2) (l':=[(0,.v (.string src)),(4,intA (q:Int)),(9,.v (.bool (metB src.size q (toksP l) 0))),(75,.buf 1),(76,.v (.int .i64 ((toksP l).map Tok.row).length)),(77,.v (.int .i64 (0:Nat)))]) (H':=[(1,.own 47 4 ((toksP l).map Tok.row))]) [] ?_ sH sH
  refine RunsS.subR [] (RunsS.loop (fun (⟨i,b⟩:Nat×Bool)=>[(0,.v (.string src)),(4,intA (q:Int)),(9,.v (.bool b)),(75,.buf 1),(76,.v (.int .i64 ((toksP l).map Tok.row).length)),(77,.v (.int .i64 i))]) (fun (⟨i,b⟩:Nat×Bool)=>[(1,.own 47 4 ((toksP l).map Tok.row))]) 2 (fun (⟨i,b⟩:Nat×Bool)=>i≤(toksP l).length∧b=metB src.size q (toksP l) i) (fun (⟨i,b⟩:Nat×Bool)=>(toksP l).length - i) ?round13 ((0,metB src.size q (toksP l) 0)) ?J013) sH sH
  case J013=>exact (⟨Nat.zero_le _,rfl⟩)
  rintro ⟨i,b⟩ hJ back
  try dsimp only at hJ back
  conv=>whnf
  try dsimp only
  refine gS ?_;conv=>whnf
  obtain ⟨hi,hJ⟩:=hJ
  refine ⟨fun hk=>?_,fun hk=>?_⟩<;>conv=>whnf
  ·have hk:i<(toksP l).length:=by omega
   have hsu:=met_succ (n:=src.size) (p:=(q:Int)) hk
   rw [←hJ] at hsu
   conv=>whnf
   repeat ((first|(guard_target=_∧_;(first|refine oL ?_|refine oR ?_))|(guard_target=Exists _;refine oM ?_));(try intro _);conv=>whnf)
   refine ⟨_,(show ((toksP l).map Tok.row)[((i:Nat):Int).toNat]? = some (toksP l)[i].row from lrow (toksP l) hk),?_⟩;conv=>whnf
   try (refine oN ?_;conv=>whnf)
   cases b with
   |true=>
    conv=>whnf
    repeat ((first|(guard_target=_∧_;(first|refine oL ?_|refine oR ?_))|(guard_target=Exists _;refine oM ?_));(try intro _);conv=>whnf)
    refine RunsS.subR [] (back ((i+1,true)) (by exact (⟨hk,hsu.symm⟩)) (by (try dsimp only);omega)) sH sH
   |false=>
    conv=>whnf
    repeat ((first|(guard_target=_∧_;(first|refine oL ?_|refine oR ?_))|(guard_target=Exists _;refine oM ?_));(try intro _);conv=>whnf)
    refine RunsS.subR [] (back ((i+1,decide ((toksP l)[i].pos=(q:Int)))) (by exact (⟨hk,(hsu.trans (Bool.false_or _)).symm⟩)) (by (try dsimp only);omega)) sH sH
  have ei:i=(toksP l).length:=by omega
  subst ei
  rw [met_all k5] at hJ
  subst hJ
  conv=>whnf
  repeat ((first|(guard_target=_∧_;(first|refine oL ?_|refine oR ?_))|(guard_target=Exists _;refine oM ?_));(try intro _);conv=>whnf)
  rw [Int.toNat_natCast]
  refine RunsS.callY (N2.gsub) (parse_fn (src.extract 0 q) (by rw [ByteArray.size_extract];omega)) (fun _ _=>trivial) [] sH ?CNa16 ?_
  case CNa16=>rfl
  rintro _ ⟨s2,a2,e2,y1,y2,y3,y4,y5,y6,y7,y8⟩ G3 h3 N3 J3
  have T3:TopF G3 h3 y1 y2 y3 y4 y5 y6 y7 y8 s2:=J3.top
  obtain ⟨pU3,qU3,pI3,qI3,pP3,qP3,pM3,qM3,pO3,qO3,pF3,qF3,pR3,qR3,pS3,qS3,rfl,rfl,rfl,rfl,rfl,rfl,rfl,rfl⟩:=topShapes T3
  rcases k4 with ⟨x,hx4⟩|hx4
  ·rw [hx4] at J3
   obtain ⟨q1,q2,q3⟩:=J3.res
   simp only at q2 q3
   subst q2 q3
   conv=>whnf
   refine RunsS.subR (nx':=2) (l':=[(4,intA (q:Int)),(9,.v (.bool true)),(93,.tup [.agg [.v (.slice pU3 s2.units.length qU3),.v (.slice pI3 s2.items.length qI3),.v (.slice pP3 s2.plants.length qP3),.v (.slice pM3 s2.machines.length qM3),.v (.slice pO3 s2.options.length qO3),.v (.slice pF3 s2.forbids.length qF3),.v (.slice pR3 s2.recipes.length qR3),.v (.slice pS3 s2.swaps.length qS3)],intA 0,intA 0])]) (H':=[]) [] ?_ sH sH
   (try refine gS ?_);conv=>whnf
   repeat ((first|(guard_target=_∧_;(first|refine oL ?_|refine oR ?_))|(guard_target=Exists _;refine oM ?_));(try intro _);conv=>whnf)
   try refine RunsS.retU ?_
   exact UnwS.ret tab Tryz.func8 rfl (eX ((N1.trans N2).trans N3) (()) (fun _ _=>trivial))
  rw [hx4] at J3
  obtain ⟨q1,q2,q3⟩:=J3.res
  simp only at q2 q3
  subst q2 q3
  conv=>whnf
  refine RunsS.subR (nx':=2) (l':=[(4,intA (q:Int)),(9,.v (.bool true)),(93,.tup [.agg [.v (.slice pU3 s2.units.length qU3),.v (.slice pI3 s2.items.length qI3),.v (.slice pP3 s2.plants.length qP3),.v (.slice pM3 s2.machines.length qM3),.v (.slice pO3 s2.options.length qO3),.v (.slice pF3 s2.forbids.length qF3),.v (.slice pR3 s2.recipes.length qR3),.v (.slice pS3 s2.swaps.length qS3)],intA (q:Int),intA 100])]) (H':=[]) [] ?_ sH sH
  (try refine gS ?_);conv=>whnf
  repeat ((first|(guard_target=_∧_;(first|refine oL ?_|refine oR ?_))|(guard_target=Exists _;refine oM ?_));(try intro _);conv=>whnf)
  try refine RunsS.retU ?_
  exact UnwS.ret tab Tryz.func8 rfl (EndX.mk ((N1.trans N2).trans N3) (()) (fun _ _=>trivial) [] sH rfl rfl (okRet rfl (congrArg (fun b=>SV.v (Value.bool b)) (decide_eq_true rfl))))

theorem fits_fn (s t:SrcV) (aU aI aP aM aO aF aR aS bU bI bP bM bO bF bR bS:Option Addr) (cU cI cP cM cO cF cR cS dU dI dP dM dO dF dR dS:Nat) (hs:Fit s) (ht:Fit t):FnS Tryz.prog 21 0 [srcA (.slice aU s.units.length cU) (.slice aI s.items.length cI) (.slice aP s.plants.length cP) (.slice aM s.machines.length cM) (.slice aO s.options.length cO) (.slice aF s.forbids.length cF) (.slice aR s.recipes.length cR) (.slice aS s.swaps.length cS),srcA (.slice bU t.units.length dU) (.slice bI t.items.length dI) (.slice bP t.plants.length dP) (.slice bM t.machines.length dM) (.slice bO t.options.length dO) (.slice bF t.forbids.length dF) (.slice bR t.recipes.length dR) (.slice bS t.swaps.length dS)] []
  (fun _:Unit=>True) (fun _=>.ret (.v (.bool (decide (Fit (addS s t))))) 0 []):=by
 obtain ⟨b,hb⟩:∃b,b=decide (Fit (addS s t)):=⟨_,rfl⟩
 rw [←hb]
 have hb:b=decide (s.units.length+t.units.length≤32∧s.items.length+t.items.length≤32∧s.plants.length+t.plants.length≤8∧s.machines.length+t.machines.length≤16∧s.options.length+t.options.length≤6∧s.forbids.length+t.forbids.length≤16∧s.recipes.length+t.recipes.length≤64∧s.swaps.length+t.swaps.length≤32):=hb.trans (decide_eq_decide.2 ((fit_iff _).trans (by simp only [addS,List.length_append])))
 obtain ⟨f1,f2,f3,f4,f5,f6,f7,f8⟩:=(fit_iff s).1 hs
 obtain ⟨g1,g2,g3,g4,g5,g6,g7,g8⟩:=(fit_iff t).1 ht
 clear hs ht
 refine FnS.of Tryz.func21 (by kernel_rfl) rfl Tryz.ntmps21 rfl fun E0 F h w0 cs=>?_
 conv=>whnf
 refine gS ?_;conv=>whnf
 repeat ((first|(guard_target=_∧_;(first|refine oL ?_|refine oR ?_))|(guard_target=Exists _;refine oM ?_));(try intro _);conv=>whnf)
 by_cases h0:s.units.length+t.units.length≤32
 rotate_left
 ·refine And.intro (fun hp=>absurd hp ((by omega))) (fun _=>?_)
  conv=>whnf
  (try refine gS ?_);conv=>whnf
  have:b=false:=hb.trans (decide_eq_false fun h=>by omega)
  rw [this]
  try refine RunsS.retU ?_
  exact UnwS.ret tab Tryz.func21 rfl (eN () trivial)
 refine And.intro (fun _=>?_) (fun hn=>absurd ((by omega)) hn)
 conv=>whnf
 repeat ((first|(guard_target=_∧_;(first|refine oL ?_|refine oR ?_))|(guard_target=Exists _;refine oM ?_));(try intro _);conv=>whnf)
 by_cases h1:s.items.length+t.items.length≤32
 rotate_left
 ·refine And.intro (fun hp=>absurd hp ((by omega))) (fun _=>?_)
  conv=>whnf
  (try refine gS ?_);conv=>whnf
  have:b=false:=hb.trans (decide_eq_false fun h=>by omega)
  rw [this]
  try refine RunsS.retU ?_
  exact UnwS.ret tab Tryz.func21 rfl (eN () trivial)
 refine And.intro (fun _=>?_) (fun hn=>absurd ((by omega)) hn)
 conv=>whnf
 repeat ((first|(guard_target=_∧_;(first|refine oL ?_|refine oR ?_))|(guard_target=Exists _;refine oM ?_));(try intro _);conv=>whnf)
 by_cases h2:s.plants.length+t.plants.length≤8
 rotate_left
 ·refine And.intro (fun hp=>absurd hp ((by omega))) (fun _=>?_)
  conv=>whnf
  (try refine gS ?_);conv=>whnf
  have:b=false:=hb.trans (decide_eq_false fun h=>by omega)
  rw [this]
  try refine RunsS.retU ?_
  exact UnwS.ret tab Tryz.func21 rfl (eN () trivial)
 refine And.intro (fun _=>?_) (fun hn=>absurd ((by omega)) hn)
 conv=>whnf
 repeat ((first|(guard_target=_∧_;(first|refine oL ?_|refine oR ?_))|(guard_target=Exists _;refine oM ?_));(try intro _);conv=>whnf)
 by_cases h3:s.machines.length+t.machines.length≤16
 rotate_left
 ·refine And.intro (fun hp=>absurd hp ((by omega))) (fun _=>?_)
  conv=>whnf
  (try refine gS ?_);conv=>whnf
  have:b=false:=hb.trans (decide_eq_false fun h=>by omega)
  rw [this]
  try refine RunsS.retU ?_
  exact UnwS.ret tab Tryz.func21 rfl (eN () trivial)
 refine And.intro (fun _=>?_) (fun hn=>absurd ((by omega)) hn)
 conv=>whnf
 repeat ((first|(guard_target=_∧_;(first|refine oL ?_|refine oR ?_))|(guard_target=Exists _;refine oM ?_));(try intro _);conv=>whnf)
 by_cases h4:s.options.length+t.options.length≤6
 rotate_left
 ·refine And.intro (fun hp=>absurd hp ((by omega))) (fun _=>?_)
  conv=>whnf
  (try refine gS ?_);conv=>whnf
  have:b=false:=hb.trans (decide_eq_false fun h=>by omega)
  rw [this]
  try refine RunsS.retU ?_
  exact UnwS.ret tab Tryz.func21 rfl (eN () trivial)
 refine And.intro (fun _=>?_) (fun hn=>absurd ((by omega)) hn)
 conv=>whnf
 repeat ((first|(guard_target=_∧_;(first|refine oL ?_|refine oR ?_))|(guard_target=Exists _;refine oM ?_));(try intro _);conv=>whnf)
 by_cases h5:s.forbids.length+t.forbids.length≤16
 rotate_left
 ·refine And.intro (fun hp=>absurd hp ((by omega))) (fun _=>?_)
  conv=>whnf
  (try refine gS ?_);conv=>whnf
  have:b=false:=hb.trans (decide_eq_false fun h=>by omega)
  rw [this]
  try refine RunsS.retU ?_
  exact UnwS.ret tab Tryz.func21 rfl (eN () trivial)
 refine And.intro (fun _=>?_) (fun hn=>absurd ((by omega)) hn)
 conv=>whnf
 repeat ((first|(guard_target=_∧_;(first|refine oL ?_|refine oR ?_))|(guard_target=Exists _;refine oM ?_));(try intro _);conv=>whnf)
 by_cases h6:s.recipes.length+t.recipes.length≤64
 rotate_left
 ·refine And.intro (fun hp=>absurd hp ((by omega))) (fun _=>?_)
  conv=>whnf
  (try refine gS ?_);conv=>whnf
  have:b=false:=hb.trans (decide_eq_false fun h=>by omega)
  rw [this]
  try refine RunsS.retU ?_
  exact UnwS.ret tab Tryz.func21 rfl (eN () trivial)
 refine And.intro (fun _=>?_) (fun hn=>absurd ((by omega)) hn)
 conv=>whnf
 repeat ((first|(guard_target=_∧_;(first|refine oL ?_|refine oR ?_))|(guard_target=Exists _;refine oM ?_));(try intro _);conv=>whnf)
 have:b=decide ((s.swaps.length:Int)+(t.swaps.length:Int)≤32):=hb.trans (decide_eq_decide.2 ⟨fun h=>by omega,fun h=>by omega⟩)
 rw [this]
 try refine RunsS.retU ?_
 exact UnwS.ret tab Tryz.func21 rfl (eN () trivial)
theorem bare_fit {s:SrcV} (h:Fit s.bare):Fit s:=⟨h.U,h.I,h.P,h.M,by have:=h.O;simpa [SrcV.bare] using this,by have:=h.F;simpa [SrcV.bare] using this,by have:=h.R;simpa [SrcV.bare] using this,h.S⟩
theorem bare_add (s t:SrcV):(addS s t).bare=addS s.bare t.bare:=by simp [addS,SrcV.bare]
theorem fit_bare {s:SrcV}:Fit s.bare↔Fit s:=⟨bare_fit,fun h=>⟨h.U,h.I,h.P,h.M,by simpa [SrcV.bare] using h.O,by simpa [SrcV.bare] using h.F,by simpa [SrcV.bare] using h.R,h.S⟩⟩
theorem parse_err {src:ByteArray} {q:Int×Int} (h:parseP src=.inr q):q.2≠0:=by
 unfold parseP at h
 split at h
 ·cases h;exact (by decide:(50:Int)≠0)
 rename_i l hl
 cases hr:readP (toksP l) with
 |ok x r=>rw [hr] at h;cases h
 |bad r e=>
  rw [hr] at h
  cases h
  have:=er_defs _ _ _ _ _ hr
  cases r with
  |nil=>exact (by decide:(100:Int)≠0)
  |cons t r=>
   rcases this with rfl|rfl
   ·show ((100:Nat):Int)≠0;decide
   show ((2:Nat):Int)≠0;decide
theorem synJoins_fn (a b:ByteArray) (ha:a.size≤140737488355328) (hb:b.size≤140737488355328):FnX Tryz.prog 9 0 [.v (.string a),.v (.string b)] [] (fun G h=>PowT G h) (fun (_:Unit) _ _=>True) (fun _=>.ret (.v (.bool true)) 0 []):=by
 refine FnX.of Tryz.func9 (by kernel_rfl) rfl Tryz.ntmps9 rfl fun E0 F G h N hP w0 cs=>?_
 conv=>whnf
 refine gS ?_;conv=>whnf
 refine RunsS.callY (N.gsub) (sane_syn_fn) (fun h U=>hP.up U) [] sH ?CNa1 ?_
 case CNa1=>rfl
 rintro _ _ G1 h1 N1 J1
 conv=>whnf
 (try refine gS ?_);conv=>whnf
 refine ⟨fun z1=>?_,fun z1=>?_⟩<;>conv=>whnf
 ·try refine gS ?_
  conv=>whnf
  try refine RunsS.retU ?_
  exact UnwS.ret tab Tryz.func9 rfl (eX (N1) (()) (fun _ _=>trivial))
 conv=>whnf
 refine ⟨fun z2=>?_,fun z2=>?_⟩<;>conv=>whnf
 ·try refine gS ?_
  conv=>whnf
  try refine RunsS.retU ?_
  exact UnwS.ret tab Tryz.func9 rfl (eX (N1) (()) (fun _ _=>trivial))
 conv=>whnf
 repeat ((first|(guard_target=_∧_;(first|refine oL ?_|refine oR ?_))|(guard_target=Exists _;refine oM ?_));(try intro _);conv=>whnf)
 refine ⟨fun z3=>?_,fun z3=>?_⟩<;>conv=>whnf
 ·try refine gS ?_
  conv=>whnf
  try refine RunsS.retU ?_
  exact UnwS.ret tab Tryz.func9 rfl (eX (N1) (()) (fun _ _=>trivial))
 (try refine gS ?_);conv=>whnf
 refine RunsS.callY (N1.gsub) (parse_fn a (by omega)) (fun _ _=>trivial) [] sH ?CNa2 ?_
 case CNa2=>rfl
 rintro _ ⟨s1,a1,e1,y1,y2,y3,y4,y5,y6,y7,y8⟩ G2 h2 N2 J2
 have T2:TopF G2 h2 y1 y2 y3 y4 y5 y6 y7 y8 s1:=J2.top
 obtain ⟨pU2,qU2,pI2,qI2,pP2,qP2,pM2,qM2,pO2,qO2,pF2,qF2,pR2,qR2,pS2,qS2,rfl,rfl,rfl,rfl,rfl,rfl,rfl,rfl⟩:=topShapes T2
 conv=>whnf
 (try refine gS ?_);conv=>whnf
 refine RunsS.subR (nx':=1) (l':=[(0,.v (.string a)),(1,.v (.string b)),(39,.v (.string b)),(5,.ptr 0 0),(7,intA e1)]) (H':=[(0,.cells 32 [.v (.slice pU2 s1.units.length qU2),.v (.slice pI2 s1.items.length qI2),.v (.slice pP2 s1.plants.length qP2),.v (.slice pM2 s1.machines.length qM2),.v (.slice pO2 s1.options.length qO2),.v (.slice pF2 s1.forbids.length qF2),.v (.slice pR2 s1.recipes.length qR2),.v (.slice pS2 s1.swaps.length qS2)])]) [] ?_ sH sH
 have z4:(⟨#[10]⟩:ByteArray).size=1:=rfl
 have z5:(a++⟨#[10]⟩).size=a.size+1:=ByteArray.size_append
 refine RunsS.callY (N2.gsub) (parse_fn b (by omega)) (fun _ _=>trivial) [] sH ?CNa3 ?_
 case CNa3=>rfl
 rintro _ ⟨s2,a2,e2,y1,y2,y3,y4,y5,y6,y7,y8⟩ G3 h3 N3 J3
 have T3:TopF G3 h3 y1 y2 y3 y4 y5 y6 y7 y8 s2:=J3.top
 obtain ⟨pU3,qU3,pI3,qI3,pP3,qP3,pM3,qM3,pO3,qO3,pF3,qF3,pR3,qR3,pS3,qS3,rfl,rfl,rfl,rfl,rfl,rfl,rfl,rfl⟩:=topShapes T3
 conv=>whnf
 (try refine gS ?_);conv=>whnf
 repeat ((first|(guard_target=_∧_;(first|refine oL ?_|refine oR ?_))|(guard_target=Exists _;refine oM ?_));(try intro _);conv=>whnf)
 refine RunsS.subR (nx':=2) (l':=[(0,.v (.string a)),(48,.v (.string (a++⟨#[10]⟩++b))),(5,.ptr 0 0),(7,intA e1),(8,.ptr 1 0),(10,intA e2)]) (H':=[(0,.cells 32 [.v (.slice pU2 s1.units.length qU2),.v (.slice pI2 s1.items.length qI2),.v (.slice pP2 s1.plants.length qP2),.v (.slice pM2 s1.machines.length qM2),.v (.slice pO2 s1.options.length qO2),.v (.slice pF2 s1.forbids.length qF2),.v (.slice pR2 s1.recipes.length qR2),.v (.slice pS2 s1.swaps.length qS2)]),(1,.cells 32 [.v (.slice pU3 s2.units.length qU3),.v (.slice pI3 s2.items.length qI3),.v (.slice pP3 s2.plants.length qP3),.v (.slice pM3 s2.machines.length qM3),.v (.slice pO3 s2.options.length qO3),.v (.slice pF3 s2.forbids.length qF3),.v (.slice pR3 s2.recipes.length qR3),.v (.slice pS3 s2.swaps.length qS3)])]) [] ?_ sH sH
 refine RunsS.callY (N3.gsub) (parse_fn (a++⟨#[10]⟩++b) (by rw [ByteArray.size_append,ByteArray.size_append];show a.size+1+b.size≤_;omega)) (fun _ _=>trivial) [] sH ?CNa4 ?_
 case CNa4=>rfl
 rintro _ ⟨s3,a3,e3,y1,y2,y3,y4,y5,y6,y7,y8⟩ G4 h4 N4 J4
 have T4:TopF G4 h4 y1 y2 y3 y4 y5 y6 y7 y8 s3:=J4.top
 obtain ⟨pU4,qU4,pI4,qI4,pP4,qP4,pM4,qM4,pO4,qO4,pF4,qF4,pR4,qR4,pS4,qS4,rfl,rfl,rfl,rfl,rfl,rfl,rfl,rfl⟩:=topShapes T4
 conv=>whnf
 refine RunsS.subR (nx':=2) (l':=[(0,.v (.string a)),(5,.ptr 0 0),(7,intA e1),(8,.ptr 1 0),(10,intA e2),(49,.tup [.agg [.v (.slice pU4 s3.units.length qU4),.v (.slice pI4 s3.items.length qI4),.v (.slice pP4 s3.plants.length qP4),.v (.slice pM4 s3.machines.length qM4),.v (.slice pO4 s3.options.length qO4),.v (.slice pF4 s3.forbids.length qF4),.v (.slice pR4 s3.recipes.length qR4),.v (.slice pS4 s3.swaps.length qS4)],intA a3,intA e3])]) (H':=[(0,.cells 32 [.v (.slice pU2 s1.units.length qU2),.v (.slice pI2 s1.items.length qI2),.v (.slice pP2 s1.plants.length qP2),.v (.slice pM2 s1.machines.length qM2),.v (.slice pO2 s1.options.length qO2),.v (.slice pF2 s1.forbids.length qF2),.v (.slice pR2 s1.recipes.length qR2),.v (.slice pS2 s1.swaps.length qS2)]),(1,.cells 32 [.v (.slice pU3 s2.units.length qU3),.v (.slice pI3 s2.items.length qI3),.v (.slice pP3 s2.plants.length qP3),.v (.slice pM3 s2.machines.length qM3),.v (.slice pO3 s2.options.length qO3),.v (.slice pF3 s2.forbids.length qF3),.v (.slice pR3 s2.recipes.length qR3),.v (.slice pS3 s2.swaps.length qS3)])]) [] ?_ sH sH
 (try refine gS ?_);conv=>whnf
 refine ⟨fun he1=>?_,fun he1=>?_⟩<;>conv=>whnf
 rotate_left
 ·try refine gS ?_
  conv=>whnf
  try refine RunsS.retU ?_
  exact UnwS.ret tab Tryz.func9 rfl (eX (((N1.trans N2).trans N3).trans N4) (()) (fun _ _=>trivial))
 conv=>whnf
 refine ⟨fun he2=>?_,fun he2=>?_⟩<;>conv=>whnf
 rotate_left
 ·try refine gS ?_
  conv=>whnf
  try refine RunsS.retU ?_
  exact UnwS.ret tab Tryz.func9 rfl (eX (((N1.trans N2).trans N3).trans N4) (()) (fun _ _=>trivial))
 have pa:∃x,parseP a=.inl x∧s1.bare=x:=by
  cases hp:parseP a with
  |inl x=>rw [hp] at J2;exact ⟨x,rfl,J2.res.1⟩
  |inr q=>
   rw [hp] at J2
   have e0:=parse_err hp
   exact absurd (J2.res.2.2.symm.trans he1) e0
 have pb:∃x,parseP b=.inl x∧s2.bare=x:=by
  cases hp:parseP b with
  |inl x=>rw [hp] at J3;exact ⟨x,rfl,J3.res.1⟩
  |inr q=>
   rw [hp] at J3
   have e0:=parse_err hp
   exact absurd (J3.res.2.2.symm.trans he2) e0
 obtain ⟨x,pa,q1⟩:=pa
 obtain ⟨y,pb,q2⟩:=pb
 subst q1 q2
 have fa:=bare_fit (good_fit (parse_good pa).1)
 have fb:=bare_fit (good_fit (parse_good pb).1)
 (try refine gS ?_);conv=>whnf
 have hfb:Fit (addS s1.bare s2.bare)↔Fit (addS s1 s2):=by rw [←bare_add];exact fit_bare
 have C:=fits_fn s1 s2 pU2 pI2 pP2 pM2 pO2 pF2 pR2 pS2 pU3 pI3 pP3 pM3 pO3 pF3 pR3 pS3 qU2 qI2 qP2 qM2 qO2 qF2 qR2 qS2 qU3 qI3 qP3 qM3 qO3 qF3 qR3 qS3 fa fb
 rcases parse_joins pa pb with ⟨fit,hj⟩|⟨nfit,p,hp,hj⟩
 rotate_left
 ·rw [decide_eq_false fun h=>nfit (hfb.2 h)] at C
  rw [hj] at J4
  obtain ⟨r1,r2,r3⟩:=J4.res
  simp only at r2 r3
  subst r2 r3
  refine RunsS.callN (C) [] ?_ sH ?CNa5
  case CNa5=>rfl
  intro _ _
  conv=>whnf
  (try refine gS ?_);conv=>whnf
  repeat ((first|(guard_target=_∧_;(first|refine oL ?_|refine oR ?_))|(guard_target=Exists _;refine oM ?_));(try intro _);conv=>whnf)
  try refine RunsS.retU ?_
  exact UnwS.ret tab Tryz.func9 rfl (EndX.mk (((N1.trans N2).trans N3).trans N4) (()) (fun _ _=>trivial) [] sH rfl rfl (okRet rfl (congrArg (fun b=>SV.v (Value.bool b)) (decide_eq_true hp))))
 have fit:=hfb.1 fit
 rw [decide_eq_true fit] at C
 rw [hj,←bare_add] at J4
 obtain ⟨r1,r2,r3⟩:=J4.res
 simp only at r2 r3
 subst r2 r3
 refine RunsS.callN (C) [] ?_ sH ?CNa6
 case CNa6=>rfl
 intro _ _
 conv=>whnf
 (try refine gS ?_);conv=>whnf
 have U2:=T2.up (((Now.step N2.gsub N3).trans (Now.step N3.gsub N4)).trans ⟨N4.gsub,fun _ _=>rfl⟩)
 have U3:=T3.up ((Now.step N3.gsub N4).trans ⟨N4.gsub,fun _ _=>rfl⟩)
 have U4:=T4.up ⟨N4.gsub,fun _ _=>rfl⟩
 refine RunsS.subR (nx':=3) (l':=[(5,.ptr 0 0),(8,.ptr 1 0),(11,.ptr 2 0),(12,intA 0),(13,intA 0)]) (H':=[(0,.cells 32 [.v (.slice pU2 s1.units.length qU2),.v (.slice pI2 s1.items.length qI2),.v (.slice pP2 s1.plants.length qP2),.v (.slice pM2 s1.machines.length qM2),.v (.slice pO2 s1.options.length qO2),.v (.slice pF2 s1.forbids.length qF2),.v (.slice pR2 s1.recipes.length qR2),.v (.slice pS2 s1.swaps.length qS2)]),(1,.cells 32 [.v (.slice pU3 s2.units.length qU3),.v (.slice pI3 s2.items.length qI3),.v (.slice pP3 s2.plants.length qP3),.v (.slice pM3 s2.machines.length qM3),.v (.slice pO3 s2.options.length qO3),.v (.slice pF3 s2.forbids.length qF3),.v (.slice pR3 s2.recipes.length qR3),.v (.slice pS3 s2.swaps.length qS3)]),(2,.cells 32 [.v (.slice pU4 s3.units.length qU4),.v (.slice pI4 s3.items.length qI4),.v (.slice pP4 s3.plants.length qP4),.v (.slice pM4 s3.machines.length qM4),.v (.slice pO4 s3.options.length qO4),.v (.slice pF4 s3.forbids.length qF4),.v (.slice pR4 s3.recipes.length qR4),.v (.slice pS4 s3.swaps.length qS4)])]) [] ?_ sH sH
 refine RunsS.nameCell (fun _ x=>x) 0 0 (by exact U2.U) ?_
 conv=>whnf
 (try refine gS ?_);conv=>whnf
 refine RunsS.nameCell (fun _ x=>x) 0 1 (by exact U2.I) ?_
 conv=>whnf
 (try refine gS ?_);conv=>whnf
 refine RunsS.nameCell (fun _ x=>x) 0 2 (by exact U2.P) ?_
 conv=>whnf
 (try refine gS ?_);conv=>whnf
 refine RunsS.nameCell (fun _ x=>x) 0 3 (by exact U2.M) ?_
 conv=>whnf
 (try refine gS ?_);conv=>whnf
 refine RunsS.nameCell (fun _ x=>x) 0 4 (by exact U2.O) ?_
 conv=>whnf
 (try refine gS ?_);conv=>whnf
 refine RunsS.nameCell (fun _ x=>x) 0 5 (by exact U2.F) ?_
 conv=>whnf
 (try refine gS ?_);conv=>whnf
 refine RunsS.nameCell (fun _ x=>x) 0 6 (by exact U2.R) ?_
 conv=>whnf
 (try refine gS ?_);conv=>whnf
 refine RunsS.nameCell (fun _ x=>x) 0 7 (by exact U2.S) ?_
 conv=>whnf
 (try refine gS ?_);conv=>whnf
 refine RunsS.nameCell (fun _ x=>x) 1 0 (by exact U3.U) ?_
 conv=>whnf
 (try refine gS ?_);conv=>whnf
 refine RunsS.nameCell (fun _ x=>x) 1 1 (by exact U3.I) ?_
 conv=>whnf
 (try refine gS ?_);conv=>whnf
 refine RunsS.nameCell (fun _ x=>x) 1 2 (by exact U3.P) ?_
 conv=>whnf
 (try refine gS ?_);conv=>whnf
 refine RunsS.nameCell (fun _ x=>x) 1 3 (by exact U3.M) ?_
 conv=>whnf
 (try refine gS ?_);conv=>whnf
 refine RunsS.nameCell (fun _ x=>x) 1 4 (by exact U3.O) ?_
 conv=>whnf
 (try refine gS ?_);conv=>whnf
 refine RunsS.nameCell (fun _ x=>x) 1 5 (by exact U3.F) ?_
 conv=>whnf
 (try refine gS ?_);conv=>whnf
 refine RunsS.nameCell (fun _ x=>x) 1 6 (by exact U3.R) ?_
 conv=>whnf
 (try refine gS ?_);conv=>whnf
 refine RunsS.nameCell (fun _ x=>x) 1 7 (by exact U3.S) ?_
 conv=>whnf
 (try refine gS ?_);conv=>whnf
 obtain ⟨f1,f2,f3,f4,f5,f6,f7,f8⟩:=(fit_iff s1).1 fa
 obtain ⟨g1,g2,g3,g4,g5,g6,g7,g8⟩:=(fit_iff s2).1 fb
 refine RunsS.held tab (.fl 1 (.fl 2 (.fl 4 (.fl 5 (.e1 0 [2,5] (.e1 3 [5] (.e1 6 [] (.fl 7 (.e1 8 [] .done))))))))) (by kernel_rfl) ?_;conv=>whnf
 (try refine gR ?_);conv=>whnf
 repeat ((first|(guard_target=_∧_;(first|refine oL ?_|refine oR ?_|refine oB ?_))|(guard_target=Exists _;refine oM ?_));(try intro _);conv=>whnf)
 conv=>whnf
 refine And.intro (appOb2 (by rw [rowsU_len];show 0+s1.units.length≤1000000;omega)) ?_;conv=>whnf
 conv=>whnf
 repeat ((first|(guard_target=_∧_;(first|refine oL ?_|refine oR ?_|refine oB ?_))|(guard_target=Exists _;refine oM ?_));(try intro _);conv=>whnf)
 conv=>whnf
 refine And.intro (appOb2 (by rw [List.length_append,rowsU_len,rowsU_len];show 0+s1.units.length+s2.units.length≤1000000;omega)) ?_;conv=>whnf
 conv=>whnf
 repeat ((first|(guard_target=_∧_;(first|refine oL ?_|refine oR ?_|refine oB ?_))|(guard_target=Exists _;refine oM ?_));(try intro _);conv=>whnf)
 (try refine gS ?_);conv=>whnf
 refine RunsS.rowsEq (rows':=rws Un.row (s1.units++s2.units)) 21 (by unfold rws;rw [List.map_append];try rfl) ?_;conv=>whnf
 refine RunsS.subR (nx':=20) (l':=[(5,.ptr 0 0),(8,.ptr 1 0),(11,.ptr 2 0),(12,intA 0),(13,intA 0)]) (H':=[(0,.cells 32 [.buf 19,.buf 4,.buf 5,.buf 6,.buf 7,.buf 8,.buf 9,.buf 10]),(1,.cells 32 [.buf 11,.buf 12,.buf 13,.buf 14,.buf 15,.buf 16,.buf 17,.buf 18]),(2,.cells 32 [.v (.slice pU4 s3.units.length qU4),.v (.slice pI4 s3.items.length qI4),.v (.slice pP4 s3.plants.length qP4),.v (.slice pM4 s3.machines.length qM4),.v (.slice pO4 s3.options.length qO4),.v (.slice pF4 s3.forbids.length qF4),.v (.slice pR4 s3.recipes.length qR4),.v (.slice pS4 s3.swaps.length qS4)]),(19,.own 81 8 (rws Un.row (s1.units++s2.units))),(3,.ro 8 (rowsU s1.units)),(4,.ro 6 (rws It.row s1.items)),(5,.ro 1 (rws (fun s=>[Value.string s]) s1.plants)),(6,.ro 4 (rws Mc.row s1.machines)),(7,.ro 2 (rws OpV.row s1.options)),(8,.ro 1 (rws FbV.row s1.forbids)),(9,.ro 17 (rws RcV.row s1.recipes)),(10,.ro 4 (rws Sw.row s1.swaps)),(11,.ro 8 (rowsU s2.units)),(12,.ro 6 (rws It.row s2.items)),(13,.ro 1 (rws (fun s=>[Value.string s]) s2.plants)),(14,.ro 4 (rws Mc.row s2.machines)),(15,.ro 2 (rws OpV.row s2.options)),(16,.ro 1 (rws FbV.row s2.forbids)),(17,.ro 17 (rws RcV.row s2.recipes)),(18,.ro 4 (rws Sw.row s2.swaps))]) [(19,21)] ?_ sH sH
 (try refine gS ?_);conv=>whnf
 refine RunsS.held tab (.fl 1 (.fl 2 (.fl 4 (.fl 5 (.e1 0 [2,5] (.e1 3 [5] (.e1 6 [] (.fl 7 (.e1 8 [] .done))))))))) (by kernel_rfl) ?_;conv=>whnf
 (try refine gR ?_);conv=>whnf
 repeat ((first|(guard_target=_∧_;(first|refine oL ?_|refine oR ?_|refine oB ?_))|(guard_target=Exists _;refine oM ?_));(try intro _);conv=>whnf)
 conv=>whnf
 refine And.intro (appOb2 (by rw [rws_len];show 0+s1.items.length≤1000000;omega)) ?_;conv=>whnf
 conv=>whnf
 repeat ((first|(guard_target=_∧_;(first|refine oL ?_|refine oR ?_|refine oB ?_))|(guard_target=Exists _;refine oM ?_));(try intro _);conv=>whnf)
 conv=>whnf
 refine And.intro (appOb2 (by rw [List.length_append,rws_len,rws_len];show 0+s1.items.length+s2.items.length≤1000000;omega)) ?_;conv=>whnf
 conv=>whnf
 repeat ((first|(guard_target=_∧_;(first|refine oL ?_|refine oR ?_|refine oB ?_))|(guard_target=Exists _;refine oM ?_));(try intro _);conv=>whnf)
 (try refine gS ?_);conv=>whnf
 refine RunsS.rowsEq (rows':=rws It.row (s1.items++s2.items)) 22 (by unfold rws;rw [List.map_append];try rfl) ?_;conv=>whnf
 refine RunsS.subR (nx':=21) (l':=[(5,.ptr 0 0),(8,.ptr 1 0),(11,.ptr 2 0),(12,intA 0),(13,intA 0)]) (H':=[(0,.cells 32 [.buf 19,.buf 20,.buf 5,.buf 6,.buf 7,.buf 8,.buf 9,.buf 10]),(1,.cells 32 [.buf 11,.buf 12,.buf 13,.buf 14,.buf 15,.buf 16,.buf 17,.buf 18]),(2,.cells 32 [.v (.slice pU4 s3.units.length qU4),.v (.slice pI4 s3.items.length qI4),.v (.slice pP4 s3.plants.length qP4),.v (.slice pM4 s3.machines.length qM4),.v (.slice pO4 s3.options.length qO4),.v (.slice pF4 s3.forbids.length qF4),.v (.slice pR4 s3.recipes.length qR4),.v (.slice pS4 s3.swaps.length qS4)]),(19,.own 81 8 (rws Un.row (s1.units++s2.units))),(20,.own 83 6 (rws It.row (s1.items++s2.items))),(3,.ro 8 (rowsU s1.units)),(4,.ro 6 (rws It.row s1.items)),(5,.ro 1 (rws (fun s=>[Value.string s]) s1.plants)),(6,.ro 4 (rws Mc.row s1.machines)),(7,.ro 2 (rws OpV.row s1.options)),(8,.ro 1 (rws FbV.row s1.forbids)),(9,.ro 17 (rws RcV.row s1.recipes)),(10,.ro 4 (rws Sw.row s1.swaps)),(11,.ro 8 (rowsU s2.units)),(12,.ro 6 (rws It.row s2.items)),(13,.ro 1 (rws (fun s=>[Value.string s]) s2.plants)),(14,.ro 4 (rws Mc.row s2.machines)),(15,.ro 2 (rws OpV.row s2.options)),(16,.ro 1 (rws FbV.row s2.forbids)),(17,.ro 17 (rws RcV.row s2.recipes)),(18,.ro 4 (rws Sw.row s2.swaps))]) [(20,22)] ?_ sH sH
 (try refine gS ?_);conv=>whnf
 refine RunsS.held tab (.fl 1 (.fl 2 (.fl 4 (.fl 5 (.e1 0 [2,5] (.e1 3 [5] (.e1 6 [] (.fl 7 (.e1 8 [] .done))))))))) (by kernel_rfl) ?_;conv=>whnf
 (try refine gR ?_);conv=>whnf
 repeat ((first|(guard_target=_∧_;(first|refine oL ?_|refine oR ?_|refine oB ?_))|(guard_target=Exists _;refine oM ?_));(try intro _);conv=>whnf)
 conv=>whnf
 refine And.intro (appOb2 (by rw [rws_len];show 0+s1.plants.length≤1000000;omega)) ?_;conv=>whnf
 conv=>whnf
 repeat ((first|(guard_target=_∧_;(first|refine oL ?_|refine oR ?_|refine oB ?_))|(guard_target=Exists _;refine oM ?_));(try intro _);conv=>whnf)
 conv=>whnf
 refine And.intro (appOb2 (by rw [List.length_append,rws_len,rws_len];show 0+s1.plants.length+s2.plants.length≤1000000;omega)) ?_;conv=>whnf
 conv=>whnf
 repeat ((first|(guard_target=_∧_;(first|refine oL ?_|refine oR ?_|refine oB ?_))|(guard_target=Exists _;refine oM ?_));(try intro _);conv=>whnf)
 (try refine gS ?_);conv=>whnf
 refine RunsS.rowsEq (rows':=rws (fun s=>[Value.string s]) (s1.plants++s2.plants)) 23 (by unfold rws;rw [List.map_append];try rfl) ?_
 conv=>whnf
 refine RunsS.subR (nx':=22) (l':=[(5,.ptr 0 0),(8,.ptr 1 0),(11,.ptr 2 0),(12,intA 0),(13,intA 0)]) (H':=[(0,.cells 32 [.buf 19,.buf 20,.buf 21,.buf 6,.buf 7,.buf 8,.buf 9,.buf 10]),(1,.cells 32 [.buf 11,.buf 12,.buf 13,.buf 14,.buf 15,.buf 16,.buf 17,.buf 18]),(2,.cells 32 [.v (.slice pU4 s3.units.length qU4),.v (.slice pI4 s3.items.length qI4),.v (.slice pP4 s3.plants.length qP4),.v (.slice pM4 s3.machines.length qM4),.v (.slice pO4 s3.options.length qO4),.v (.slice pF4 s3.forbids.length qF4),.v (.slice pR4 s3.recipes.length qR4),.v (.slice pS4 s3.swaps.length qS4)]),(19,.own 81 8 (rws Un.row (s1.units++s2.units))),(20,.own 83 6 (rws It.row (s1.items++s2.items))),(21,.own 9 1 (rws (fun s=>[Value.string s]) (s1.plants++s2.plants))),(3,.ro 8 (rowsU s1.units)),(4,.ro 6 (rws It.row s1.items)),(5,.ro 1 (rws (fun s=>[Value.string s]) s1.plants)),(6,.ro 4 (rws Mc.row s1.machines)),(7,.ro 2 (rws OpV.row s1.options)),(8,.ro 1 (rws FbV.row s1.forbids)),(9,.ro 17 (rws RcV.row s1.recipes)),(10,.ro 4 (rws Sw.row s1.swaps)),(11,.ro 8 (rowsU s2.units)),(12,.ro 6 (rws It.row s2.items)),(13,.ro 1 (rws (fun s=>[Value.string s]) s2.plants)),(14,.ro 4 (rws Mc.row s2.machines)),(15,.ro 2 (rws OpV.row s2.options)),(16,.ro 1 (rws FbV.row s2.forbids)),(17,.ro 17 (rws RcV.row s2.recipes)),(18,.ro 4 (rws Sw.row s2.swaps))]) [(21,23)] ?_ sH sH
 (try refine gS ?_);conv=>whnf
 refine RunsS.held tab (.fl 1 (.fl 2 (.fl 4 (.fl 5 (.e1 0 [2,5] (.e1 3 [5] (.e1 6 [] (.fl 7 (.e1 8 [] .done))))))))) (by kernel_rfl) ?_;conv=>whnf
 (try refine gR ?_);conv=>whnf
 repeat ((first|(guard_target=_∧_;(first|refine oL ?_|refine oR ?_|refine oB ?_))|(guard_target=Exists _;refine oM ?_));(try intro _);conv=>whnf)
 conv=>whnf
 refine And.intro (appOb2 (by rw [rws_len];show 0+s1.machines.length≤1000000;omega)) ?_;conv=>whnf
 conv=>whnf
 repeat ((first|(guard_target=_∧_;(first|refine oL ?_|refine oR ?_|refine oB ?_))|(guard_target=Exists _;refine oM ?_));(try intro _);conv=>whnf)
 conv=>whnf
 refine And.intro (appOb2 (by rw [List.length_append,rws_len,rws_len];show 0+s1.machines.length+s2.machines.length≤1000000;omega)) ?_;conv=>whnf
 conv=>whnf
 repeat ((first|(guard_target=_∧_;(first|refine oL ?_|refine oR ?_|refine oB ?_))|(guard_target=Exists _;refine oM ?_));(try intro _);conv=>whnf)
 (try refine gS ?_);conv=>whnf
 refine RunsS.rowsEq (rows':=rws Mc.row (s1.machines++s2.machines)) 24 (by unfold rws;rw [List.map_append];try rfl) ?_;conv=>whnf
 refine RunsS.subR (nx':=23) (l':=[(5,.ptr 0 0),(8,.ptr 1 0),(11,.ptr 2 0),(12,intA 0),(13,intA 0)]) (H':=[(0,.cells 32 [.buf 19,.buf 20,.buf 21,.buf 22,.buf 7,.buf 8,.buf 9,.buf 10]),(1,.cells 32 [.buf 11,.buf 12,.buf 13,.buf 14,.buf 15,.buf 16,.buf 17,.buf 18]),(2,.cells 32 [.v (.slice pU4 s3.units.length qU4),.v (.slice pI4 s3.items.length qI4),.v (.slice pP4 s3.plants.length qP4),.v (.slice pM4 s3.machines.length qM4),.v (.slice pO4 s3.options.length qO4),.v (.slice pF4 s3.forbids.length qF4),.v (.slice pR4 s3.recipes.length qR4),.v (.slice pS4 s3.swaps.length qS4)]),(19,.own 81 8 (rws Un.row (s1.units++s2.units))),(20,.own 83 6 (rws It.row (s1.items++s2.items))),(21,.own 9 1 (rws (fun s=>[Value.string s]) (s1.plants++s2.plants))),(22,.own 85 4 (rws Mc.row (s1.machines++s2.machines))),(3,.ro 8 (rowsU s1.units)),(4,.ro 6 (rws It.row s1.items)),(5,.ro 1 (rws (fun s=>[Value.string s]) s1.plants)),(6,.ro 4 (rws Mc.row s1.machines)),(7,.ro 2 (rws OpV.row s1.options)),(8,.ro 1 (rws FbV.row s1.forbids)),(9,.ro 17 (rws RcV.row s1.recipes)),(10,.ro 4 (rws Sw.row s1.swaps)),(11,.ro 8 (rowsU s2.units)),(12,.ro 6 (rws It.row s2.items)),(13,.ro 1 (rws (fun s=>[Value.string s]) s2.plants)),(14,.ro 4 (rws Mc.row s2.machines)),(15,.ro 2 (rws OpV.row s2.options)),(16,.ro 1 (rws FbV.row s2.forbids)),(17,.ro 17 (rws RcV.row s2.recipes)),(18,.ro 4 (rws Sw.row s2.swaps))]) [(22,24)] ?_ sH sH
 (try refine gS ?_);conv=>whnf
 refine RunsS.held tab (.fl 1 (.fl 2 (.fl 4 (.fl 5 (.e1 0 [2,5] (.e1 3 [5] (.e1 6 [] (.fl 7 (.e1 8 [] .done))))))))) (by kernel_rfl) ?_;conv=>whnf
 (try refine gR ?_);conv=>whnf
 repeat ((first|(guard_target=_∧_;(first|refine oL ?_|refine oR ?_|refine oB ?_))|(guard_target=Exists _;refine oM ?_));(try intro _);conv=>whnf)
 conv=>whnf
 refine And.intro (appOb2 (by rw [rws_len];show 0+s1.options.length≤1000000;omega)) ?_;conv=>whnf
 conv=>whnf
 repeat ((first|(guard_target=_∧_;(first|refine oL ?_|refine oR ?_|refine oB ?_))|(guard_target=Exists _;refine oM ?_));(try intro _);conv=>whnf)
 conv=>whnf
 refine And.intro (appOb2 (by rw [List.length_append,rws_len,rws_len];show 0+s1.options.length+s2.options.length≤1000000;omega)) ?_;conv=>whnf
 conv=>whnf
 repeat ((first|(guard_target=_∧_;(first|refine oL ?_|refine oR ?_|refine oB ?_))|(guard_target=Exists _;refine oM ?_));(try intro _);conv=>whnf)
 (try refine gS ?_);conv=>whnf
 refine RunsS.rowsEq (rows':=rws OpV.row (s1.options++s2.options)) 25 (by unfold rws;rw [List.map_append];try rfl) ?_;conv=>whnf
 refine RunsS.subR (nx':=24) (l':=[(5,.ptr 0 0),(8,.ptr 1 0),(11,.ptr 2 0),(12,intA 0),(13,intA 0)]) (H':=[(0,.cells 32 [.buf 19,.buf 20,.buf 21,.buf 22,.buf 23,.buf 8,.buf 9,.buf 10]),(1,.cells 32 [.buf 11,.buf 12,.buf 13,.buf 14,.buf 15,.buf 16,.buf 17,.buf 18]),(2,.cells 32 [.v (.slice pU4 s3.units.length qU4),.v (.slice pI4 s3.items.length qI4),.v (.slice pP4 s3.plants.length qP4),.v (.slice pM4 s3.machines.length qM4),.v (.slice pO4 s3.options.length qO4),.v (.slice pF4 s3.forbids.length qF4),.v (.slice pR4 s3.recipes.length qR4),.v (.slice pS4 s3.swaps.length qS4)]),(19,.own 81 8 (rws Un.row (s1.units++s2.units))),(20,.own 83 6 (rws It.row (s1.items++s2.items))),(21,.own 9 1 (rws (fun s=>[Value.string s]) (s1.plants++s2.plants))),(22,.own 85 4 (rws Mc.row (s1.machines++s2.machines))),(23,.own 50 2 (rws OpV.row (s1.options++s2.options))),(3,.ro 8 (rowsU s1.units)),(4,.ro 6 (rws It.row s1.items)),(5,.ro 1 (rws (fun s=>[Value.string s]) s1.plants)),(6,.ro 4 (rws Mc.row s1.machines)),(7,.ro 2 (rws OpV.row s1.options)),(8,.ro 1 (rws FbV.row s1.forbids)),(9,.ro 17 (rws RcV.row s1.recipes)),(10,.ro 4 (rws Sw.row s1.swaps)),(11,.ro 8 (rowsU s2.units)),(12,.ro 6 (rws It.row s2.items)),(13,.ro 1 (rws (fun s=>[Value.string s]) s2.plants)),(14,.ro 4 (rws Mc.row s2.machines)),(15,.ro 2 (rws OpV.row s2.options)),(16,.ro 1 (rws FbV.row s2.forbids)),(17,.ro 17 (rws RcV.row s2.recipes)),(18,.ro 4 (rws Sw.row s2.swaps))]) [(23,25)] ?_ sH sH
 (try refine gS ?_);conv=>whnf
 refine RunsS.held tab (.fl 1 (.fl 2 (.fl 4 (.fl 5 (.e1 0 [2,5] (.e1 3 [5] (.e1 6 [] (.fl 7 (.e1 8 [] .done))))))))) (by kernel_rfl) ?_;conv=>whnf
 (try refine gR ?_);conv=>whnf
 repeat ((first|(guard_target=_∧_;(first|refine oL ?_|refine oR ?_|refine oB ?_))|(guard_target=Exists _;refine oM ?_));(try intro _);conv=>whnf)
 conv=>whnf
 refine And.intro (appOb2 (by rw [rws_len];show 0+s1.forbids.length≤1000000;omega)) ?_;conv=>whnf
 conv=>whnf
 repeat ((first|(guard_target=_∧_;(first|refine oL ?_|refine oR ?_|refine oB ?_))|(guard_target=Exists _;refine oM ?_));(try intro _);conv=>whnf)
 conv=>whnf
 refine And.intro (appOb2 (by rw [List.length_append,rws_len,rws_len];show 0+s1.forbids.length+s2.forbids.length≤1000000;omega)) ?_;conv=>whnf
 conv=>whnf
 repeat ((first|(guard_target=_∧_;(first|refine oL ?_|refine oR ?_|refine oB ?_))|(guard_target=Exists _;refine oM ?_));(try intro _);conv=>whnf)
 (try refine gS ?_);conv=>whnf
 refine RunsS.rowsEq (rows':=rws FbV.row (s1.forbids++s2.forbids)) 26 (by unfold rws;rw [List.map_append];try rfl) ?_;conv=>whnf
 refine RunsS.subR (nx':=25) (l':=[(5,.ptr 0 0),(8,.ptr 1 0),(11,.ptr 2 0),(12,intA 0),(13,intA 0)]) (H':=[(0,.cells 32 [.buf 19,.buf 20,.buf 21,.buf 22,.buf 23,.buf 24,.buf 9,.buf 10]),(1,.cells 32 [.buf 11,.buf 12,.buf 13,.buf 14,.buf 15,.buf 16,.buf 17,.buf 18]),(2,.cells 32 [.v (.slice pU4 s3.units.length qU4),.v (.slice pI4 s3.items.length qI4),.v (.slice pP4 s3.plants.length qP4),.v (.slice pM4 s3.machines.length qM4),.v (.slice pO4 s3.options.length qO4),.v (.slice pF4 s3.forbids.length qF4),.v (.slice pR4 s3.recipes.length qR4),.v (.slice pS4 s3.swaps.length qS4)]),(19,.own 81 8 (rws Un.row (s1.units++s2.units))),(20,.own 83 6 (rws It.row (s1.items++s2.items))),(21,.own 9 1 (rws (fun s=>[Value.string s]) (s1.plants++s2.plants))),(22,.own 85 4 (rws Mc.row (s1.machines++s2.machines))),(23,.own 50 2 (rws OpV.row (s1.options++s2.options))),(24,.own 53 1 (rws FbV.row (s1.forbids++s2.forbids))),(3,.ro 8 (rowsU s1.units)),(4,.ro 6 (rws It.row s1.items)),(5,.ro 1 (rws (fun s=>[Value.string s]) s1.plants)),(6,.ro 4 (rws Mc.row s1.machines)),(7,.ro 2 (rws OpV.row s1.options)),(8,.ro 1 (rws FbV.row s1.forbids)),(9,.ro 17 (rws RcV.row s1.recipes)),(10,.ro 4 (rws Sw.row s1.swaps)),(11,.ro 8 (rowsU s2.units)),(12,.ro 6 (rws It.row s2.items)),(13,.ro 1 (rws (fun s=>[Value.string s]) s2.plants)),(14,.ro 4 (rws Mc.row s2.machines)),(15,.ro 2 (rws OpV.row s2.options)),(16,.ro 1 (rws FbV.row s2.forbids)),(17,.ro 17 (rws RcV.row s2.recipes)),(18,.ro 4 (rws Sw.row s2.swaps))]) [(24,26)] ?_ sH sH
 (try refine gS ?_);conv=>whnf
 refine RunsS.held tab (.fl 1 (.fl 2 (.fl 4 (.fl 5 (.e1 0 [2,5] (.e1 3 [5] (.e1 6 [] (.fl 7 (.e1 8 [] .done))))))))) (by kernel_rfl) ?_;conv=>whnf
 (try refine gR ?_);conv=>whnf
 repeat ((first|(guard_target=_∧_;(first|refine oL ?_|refine oR ?_|refine oB ?_))|(guard_target=Exists _;refine oM ?_));(try intro _);conv=>whnf)
 conv=>whnf
 refine And.intro (appOb2 (by rw [rws_len];show 0+s1.recipes.length≤1000000;omega)) ?_;conv=>whnf
 conv=>whnf
 repeat ((first|(guard_target=_∧_;(first|refine oL ?_|refine oR ?_|refine oB ?_))|(guard_target=Exists _;refine oM ?_));(try intro _);conv=>whnf)
 conv=>whnf
 refine And.intro (appOb2 (by rw [List.length_append,rws_len,rws_len];show 0+s1.recipes.length+s2.recipes.length≤1000000;omega)) ?_;conv=>whnf
 conv=>whnf
 repeat ((first|(guard_target=_∧_;(first|refine oL ?_|refine oR ?_|refine oB ?_))|(guard_target=Exists _;refine oM ?_));(try intro _);conv=>whnf)
 (try refine gS ?_);conv=>whnf
 refine RunsS.rowsEq (rows':=rws RcV.row (s1.recipes++s2.recipes)) 27 (by unfold rws;rw [List.map_append];try rfl) ?_;conv=>whnf
 refine RunsS.subR (nx':=26) (l':=[(5,.ptr 0 0),(8,.ptr 1 0),(11,.ptr 2 0),(12,intA 0),(13,intA 0)]) (H':=[(0,.cells 32 [.buf 19,.buf 20,.buf 21,.buf 22,.buf 23,.buf 24,.buf 25,.buf 10]),(1,.cells 32 [.buf 11,.buf 12,.buf 13,.buf 14,.buf 15,.buf 16,.buf 17,.buf 18]),(2,.cells 32 [.v (.slice pU4 s3.units.length qU4),.v (.slice pI4 s3.items.length qI4),.v (.slice pP4 s3.plants.length qP4),.v (.slice pM4 s3.machines.length qM4),.v (.slice pO4 s3.options.length qO4),.v (.slice pF4 s3.forbids.length qF4),.v (.slice pR4 s3.recipes.length qR4),.v (.slice pS4 s3.swaps.length qS4)]),(19,.own 81 8 (rws Un.row (s1.units++s2.units))),(20,.own 83 6 (rws It.row (s1.items++s2.items))),(21,.own 9 1 (rws (fun s=>[Value.string s]) (s1.plants++s2.plants))),(22,.own 85 4 (rws Mc.row (s1.machines++s2.machines))),(23,.own 50 2 (rws OpV.row (s1.options++s2.options))),(24,.own 53 1 (rws FbV.row (s1.forbids++s2.forbids))),(25,.own 61 17 (rws RcV.row (s1.recipes++s2.recipes))),(3,.ro 8 (rowsU s1.units)),(4,.ro 6 (rws It.row s1.items)),(5,.ro 1 (rws (fun s=>[Value.string s]) s1.plants)),(6,.ro 4 (rws Mc.row s1.machines)),(7,.ro 2 (rws OpV.row s1.options)),(8,.ro 1 (rws FbV.row s1.forbids)),(9,.ro 17 (rws RcV.row s1.recipes)),(10,.ro 4 (rws Sw.row s1.swaps)),(11,.ro 8 (rowsU s2.units)),(12,.ro 6 (rws It.row s2.items)),(13,.ro 1 (rws (fun s=>[Value.string s]) s2.plants)),(14,.ro 4 (rws Mc.row s2.machines)),(15,.ro 2 (rws OpV.row s2.options)),(16,.ro 1 (rws FbV.row s2.forbids)),(17,.ro 17 (rws RcV.row s2.recipes)),(18,.ro 4 (rws Sw.row s2.swaps))]) [(25,27)] ?_ sH sH
 (try refine gS ?_);conv=>whnf
 refine RunsS.held tab (.fl 1 (.fl 2 (.fl 4 (.fl 5 (.e1 0 [2,5] (.e1 3 [5] (.e1 6 [] (.fl 7 (.e1 8 [] .done))))))))) (by kernel_rfl) ?_;conv=>whnf
 (try refine gR ?_);conv=>whnf
 repeat ((first|(guard_target=_∧_;(first|refine oL ?_|refine oR ?_|refine oB ?_))|(guard_target=Exists _;refine oM ?_));(try intro _);conv=>whnf)
 conv=>whnf
 refine And.intro (appOb2 (by rw [rws_len];show 0+s1.swaps.length≤1000000;omega)) ?_;conv=>whnf
 conv=>whnf
 repeat ((first|(guard_target=_∧_;(first|refine oL ?_|refine oR ?_|refine oB ?_))|(guard_target=Exists _;refine oM ?_));(try intro _);conv=>whnf)
 conv=>whnf
 refine And.intro (appOb2 (by rw [List.length_append,rws_len,rws_len];show 0+s1.swaps.length+s2.swaps.length≤1000000;omega)) ?_;conv=>whnf
 conv=>whnf
 repeat ((first|(guard_target=_∧_;(first|refine oL ?_|refine oR ?_|refine oB ?_))|(guard_target=Exists _;refine oM ?_));(try intro _);conv=>whnf)
 (try refine gS ?_);conv=>whnf
 repeat ((first|(guard_target=_∧_;(first|refine oL ?_|refine oR ?_))|(guard_target=Exists _;refine oM ?_));(try intro _);conv=>whnf)
 refine RunsS.rowsEq (rows':=rws Sw.row (s1.swaps++s2.swaps)) 28 (by unfold rws;rw [List.map_append];try rfl) ?_;conv=>whnf
 refine RunsS.concY (n:=(s1.units++s2.units).length) (N4.gsub) 19 ?_ (hlen:=rws_len _ _)
 intro F5 b5 c5 G5 h5 N5 R5
 conv=>whnf
 refine RunsS.concY (n:=(s1.items++s2.items).length) (N5.gsub) 20 ?_ (hlen:=rws_len _ _)
 intro F6 b6 c6 G6 h6 N6 R6
 conv=>whnf
 refine RunsS.concY (n:=(s1.plants++s2.plants).length) (N6.gsub) 21 ?_ (hlen:=rws_len _ _)
 intro F7 b7 c7 G7 h7 N7 R7
 conv=>whnf
 refine RunsS.concY (n:=(s1.machines++s2.machines).length) (N7.gsub) 22 ?_ (hlen:=rws_len _ _)
 intro F8 b8 c8 G8 h8 N8 R8
 conv=>whnf
 refine RunsS.concY (n:=(s1.options++s2.options).length) (N8.gsub) 23 ?_ (hlen:=rws_len _ _)
 intro F9 b9 c9 G9 h9 N9 R9
 conv=>whnf
 refine RunsS.concY (n:=(s1.forbids++s2.forbids).length) (N9.gsub) 24 ?_ (hlen:=rws_len _ _)
 intro F10 b10 c10 G10 h10 N10 R10
 conv=>whnf
 refine RunsS.concY (n:=(s1.recipes++s2.recipes).length) (N10.gsub) 25 ?_ (hlen:=rws_len _ _)
 intro F11 b11 c11 G11 h11 N11 R11
 conv=>whnf
 refine RunsS.concY (n:=(s1.swaps++s2.swaps).length) (N11.gsub) 28 ?_ (hlen:=rws_len _ _)
 intro F12 b12 c12 G12 h12 N12 R12
 conv=>whnf
 have W2:=T2.below.up (((((((((((Now.step N2.gsub N3).trans (Now.step N3.gsub N4)).trans (Now.step N4.gsub N5)).trans (Now.step N5.gsub N6)).trans (Now.step N6.gsub N7)).trans (Now.step N7.gsub N8)).trans (Now.step N8.gsub N9)).trans (Now.step N9.gsub N10)).trans (Now.step N10.gsub N11)).trans (Now.step N11.gsub N12)).trans ⟨N12.gsub,fun _ _=>rfl⟩)
 have W3:=T3.below.up ((((((((((Now.step N3.gsub N4).trans (Now.step N4.gsub N5)).trans (Now.step N5.gsub N6)).trans (Now.step N6.gsub N7)).trans (Now.step N7.gsub N8)).trans (Now.step N8.gsub N9)).trans (Now.step N9.gsub N10)).trans (Now.step N10.gsub N11)).trans (Now.step N11.gsub N12)).trans ⟨N12.gsub,fun _ _=>rfl⟩)
 have W4:=T4.up (((((((((Now.step N4.gsub N5).trans (Now.step N5.gsub N6)).trans (Now.step N6.gsub N7)).trans (Now.step N7.gsub N8)).trans (Now.step N8.gsub N9)).trans (Now.step N9.gsub N10)).trans (Now.step N10.gsub N11)).trans (Now.step N11.gsub N12)).trans ⟨N12.gsub,fun _ _=>rfl⟩)
 have WA:TopF F12 h12 (.slice b5 (s1.units++s2.units).length c5) (.slice b6 (s1.items++s2.items).length c6) (.slice b7 (s1.plants++s2.plants).length c7) (.slice b8 (s1.machines++s2.machines).length c8) (.slice b9 (s1.options++s2.options).length c9) (.slice b10 (s1.forbids++s2.forbids).length c10) (.slice b11 (s1.recipes++s2.recipes).length c11) (.slice b12 (s1.swaps++s2.swaps).length c12) (addS s1 s2):=⟨(R5.up ((((((((Now.step N5.gsub N6).trans (Now.step N6.gsub N7)).trans (Now.step N7.gsub N8)).trans (Now.step N8.gsub N9)).trans (Now.step N9.gsub N10)).trans (Now.step N10.gsub N11)).trans (Now.step N11.gsub N12)).trans ⟨N12.gsub,fun _ _=>rfl⟩)),(R6.up (((((((Now.step N6.gsub N7).trans (Now.step N7.gsub N8)).trans (Now.step N8.gsub N9)).trans (Now.step N9.gsub N10)).trans (Now.step N10.gsub N11)).trans (Now.step N11.gsub N12)).trans ⟨N12.gsub,fun _ _=>rfl⟩)),(R7.up ((((((Now.step N7.gsub N8).trans (Now.step N8.gsub N9)).trans (Now.step N9.gsub N10)).trans (Now.step N10.gsub N11)).trans (Now.step N11.gsub N12)).trans ⟨N12.gsub,fun _ _=>rfl⟩)),(R8.up (((((Now.step N8.gsub N9).trans (Now.step N9.gsub N10)).trans (Now.step N10.gsub N11)).trans (Now.step N11.gsub N12)).trans ⟨N12.gsub,fun _ _=>rfl⟩)),(R9.up ((((Now.step N9.gsub N10).trans (Now.step N10.gsub N11)).trans (Now.step N11.gsub N12)).trans ⟨N12.gsub,fun _ _=>rfl⟩)),(R10.up (((Now.step N10.gsub N11).trans (Now.step N11.gsub N12)).trans ⟨N12.gsub,fun _ _=>rfl⟩)),(R11.up ((Now.step N11.gsub N12).trans ⟨N12.gsub,fun _ _=>rfl⟩)),(R12.up ⟨N12.gsub,fun _ _=>rfl⟩),fun o ho=>(List.mem_append.1 ho).elim (W2.o o) (W3.o o),fun o ho=>(List.mem_append.1 ho).elim (W2.f o) (W3.f o),fun o ho=>(List.mem_append.1 ho).elim (W2.r o) (W3.r o)⟩
 refine RunsS.subR (nx':=29) (l':=[(141,.v (.bool true)),(142,.agg [.v (.slice pU4 s3.units.length qU4),.v (.slice pI4 s3.items.length qI4),.v (.slice pP4 s3.plants.length qP4),.v (.slice pM4 s3.machines.length qM4),.v (.slice pO4 s3.options.length qO4),.v (.slice pF4 s3.forbids.length qF4),.v (.slice pR4 s3.recipes.length qR4),.v (.slice pS4 s3.swaps.length qS4)]),(143,.agg [.v (.slice b5 (s1.units++s2.units).length c5),.v (.slice b6 (s1.items++s2.items).length c6),.v (.slice b7 (s1.plants++s2.plants).length c7),.v (.slice b8 (s1.machines++s2.machines).length c8),.v (.slice b9 (s1.options++s2.options).length c9),.v (.slice b10 (s1.forbids++s2.forbids).length c10),.v (.slice b11 (s1.recipes++s2.recipes).length c11),.v (.slice b12 (s1.swaps++s2.swaps).length c12)])]) (H':=[]) [] ?_ sH sH
 refine RunsS.callT (Two2T.tok _ _ _ _ _ _ _ _ _ _ _ _ _ _ _ _ _ _) (⟨W4,WA⟩) (sSameY_fn r1) [] sH ?CNa7 ?_
 case CNa7=>rfl
 intro _ _
 conv=>whnf
 (try refine gS ?_);conv=>whnf
 try refine RunsS.retU ?_
 exact UnwS.ret tab Tryz.func9 rfl (eX ((((((((((((N1.trans N2).trans N3).trans N4).trans N5).trans N6).trans N7).trans N8).trans N9).trans N10).trans N11).trans N12)) (()) (fun _ _=>trivial))
end Go.Proofs.YtgbeechjghajcaaGreatDoor

namespace Go.SrcM
open Go Go.Fw Go.RatM
theorem snoc_map {α β:Type} {f:β→List Value} {g:α→β} {l:List α} {k:Nat} (hk:k<l.length):rws f ((l.take k).map g)++[f (g l[k])]=rws f ((l.take (k+1)).map g):=by
 rw [take_snoc hk,List.map_append]
 show _=(_++[g l[k]]).map f
 rw [List.map_append];rfl
theorem rof_at {F:Nat→Prop} {h:Array Obj} {a:Option Addr} {n c sz:Nat} {rows:List (List Value)} (H:RoF F h (.slice a n c) sz rows) {k:Nat} {row:List Value} (hk:rows[k]? = some row):∃g o,a=some ⟨g,o,none⟩∧row.length=sz∧OldCs F h g (o+k*sz) row:=by
 obtain ⟨h1,h2,a',c',e,h3⟩:=H
 injection e with e1 e2 e3
 subst e1
 have hlt:=(List.getElem?_eq_some_iff.1 hk).1
 rcases h3 with h3|⟨g,o,h3,h4,h5⟩
 ·rw [h3] at hlt;cases hlt
 refine ⟨g,o,h3,(h1 row (List.mem_of_getElem? hk)).1,fun j v hj=>⟨h4,?_⟩⟩
 have hlen:row.length=sz:=(h1 row (List.mem_of_getElem? hk)).1
 have hj2:j<row.length:=(List.getElem?_eq_some_iff.1 hj).1
 have hf:rows.flatten[k*sz+j]? = some v:=by
  have e:rows=rows.take k++row::rows.drop (k+1):=by
   have:rows.drop k=row::rows.drop (k+1):=by rw [List.drop_eq_getElem_cons hlt];rw [(List.getElem?_eq_some_iff.1 hk).2]
   rw [←this,List.take_append_drop]
  have hl:(rows.take k).flatten.length=k*sz:=by rw [flat_len (sz:=sz) (fun r h=>h1 r (List.mem_of_mem_take h)),List.length_take];congr 1;omega
  rw [e,List.flatten_append,List.getElem?_append_right (by omega),hl,Nat.add_sub_cancel_left,List.flatten_cons,List.getElem?_append_left (by omega)]
  exact hj
 have:=h5 (k*sz+j) v hf
 rw [Nat.add_assoc]
 exact this
theorem mid_ok {α:Type} {m:List α} {p:α→Prop} {y:α} (h:∀a∈m,p a) (hy:p y):∀a∈m++[y],p a:=fun a ha=>by
 rcases List.mem_append.1 ha with ha|ha
 ·exact h a ha
 rw [List.mem_singleton.1 ha];exact hy
theorem rws_snoc {α:Type} {f:α→List Value} (m:List α) (y:α):rws f m++[f y]=rws f (m++[y]):=by
 show _=(m++[y]).map f
 rw [List.map_append];rfl
abbrev rcRow (r:RcV):SV:=.agg [.v (.string r.item),.v (.string r.plant),.v (.int .i64 r.fr),.v (.int .i64 r.to),.v (r.hc.v r.cs.length),.v (r.hi.v r.inn.length),.v (r.ho.v r.out.length),.v (.int .i64 r.rwN),.v (.int .i64 r.rwD),.v (.int .i64 r.yN),.v (.int .i64 r.yD),.v (.int .i64 r.tN),.v (.int .i64 r.tD),.v (.int .i64 r.lead),.v (r.hr.v r.runs.length),.v (.int .i64 r.inum),.v (.int .i64 r.pnum)]
structure BcJ (r y:RcV) (G:Nat→Prop) (h:Array Obj):Prop where
 t:y.bare=r.un.bare
 ok:y.ok G h
end Go.SrcM
namespace Go.Proofs.YtgbeechjghajcaaGreatDoor
open Go Go.Fw Go.NatM Go.RatM Go.SrcM
set_option maxRecDepth 100000
set_option maxHeartbeats 99999999
theorem rbareC_fn (v:Value) (l:List Cd) (hb:l.length≤1000000):FnX Tryz.prog 46 0 [.v v] [] (fun G h=>RoF G h v 4 (rws Cd.row l))
  (fun (x:Hd) G h=>RoF G h (x.v (l.map Cd.un).length) 4 (rws Cd.row (l.map Cd.un))) (fun x=>.ret (.v (x.v (l.map Cd.un).length)) 0 []):=by
 have hl:=rws_len Cd.row l
 refine FnX.of Tryz.func46 (by kernel_rfl) rfl Tryz.ntmps46 rfl fun E0 F G h N hP w0 cs=>?_
 conv=>whnf
 refine gS ?_;conv=>whnf
 have hT:=RoF.up ⟨N.gsub,fun _ _=>rfl⟩ hP
 refine RunsS.nameAt (fun _ x=>x) 0 (by exact hT) ?_
 conv=>whnf
 (try refine gS ?_);conv=>whnf
 refine RunsS.subR [] (RunsS.loop (fun (k:Nat)=>[(4,.v (.int .i64 k)),(3,.buf 0),(0,.buf 1)]) (fun (k:Nat)=>[(1,.ro 4 (rws Cd.row l)),(0,.own 52 4 (rws Cd.row ((l.take k).map Cd.un)))]) 2 (fun (k:Nat)=>k≤l.length) (fun (k:Nat)=>l.length - k) ?round1 (0) ?J01) sH sH
 case J01=>first|omega|trivial
 rintro k hJ back
 conv=>whnf
 refine gS ?_;conv=>whnf
 refine ⟨fun hk=>?_,fun hk=>?_⟩<;>conv=>whnf
 ·have hk:k<l.length:=by omega
  have el:(rws Cd.row ((l.take k).map Cd.un)).length=k:=by rw [rws_len,List.length_map,List.length_take];omega
  conv=>whnf
  refine RunsS.held tab (.fl 0 (.fl 1 (.fl 2 (.fl 3 (.fl 4 (.fl 5 (.fl 6 (.fl 7 (.fl 8 (.fl 9 (.fl 10 (.fl 11 (.e1 12 [] (.e1 13 [] (.fl 14 .done))))))))))))))) (by kernel_rfl) ?_;conv=>whnf
  (try refine gR ?_);conv=>whnf
  repeat ((first|refine oM ?_|refine oL ?_|refine oR ?_|refine oB ?_);(try intro _);conv=>whnf)
  conv=>whnf
  refine ⟨_,rws_get hk,?_⟩;conv=>whnf
  try (refine oN ?_;conv=>whnf)
  conv=>whnf
  refine ⟨_,rws_get hk,?_⟩;conv=>whnf
  conv=>whnf
  repeat ((first|refine oM ?_|refine oL ?_|refine oR ?_|refine oB ?_);(try intro _);conv=>whnf)
  conv=>whnf
  refine And.intro (appOb2 (show (rws Cd.row ((l.take k).map Cd.un)).length+1≤1000000 by omega)) ?_
  conv=>whnf
  repeat ((first|refine oM ?_|refine oL ?_|refine oR ?_|refine oB ?_);(try intro _);conv=>whnf)
  (try refine gS ?_);conv=>whnf
  repeat ((first|refine oM ?_|refine oL ?_|refine oR ?_);(try intro _);conv=>whnf)
  refine RunsS.rowsEq 3 (snoc_map (g:=Cd.un) hk) ?_;conv=>whnf
  refine RunsS.subR [(0,3)] (back (k+1) (by (try dsimp only);first|omega|trivial) (by (try dsimp only);omega)) sH sH
 conv=>whnf
 have hk:k=l.length:=by omega
 clear back
 refine RunsS.rowsEq 0 (show rws Cd.row ((l.take k).map Cd.un)=rws Cd.row (l.map Cd.un) by rw [hk,List.take_length]) ?_
 conv=>whnf
 refine RunsS.conc (n:=(l.map Cd.un).length) (N.gsub) 0 ?_ (hlen:=(rws_len _ _))
 intro a1 c1 G1 h1 N1 R1
 conv=>whnf
 (try refine gS ?_);conv=>whnf
 try refine RunsS.retU ?_
 exact UnwS.ret tab Tryz.func46 rfl (eX (N.trans N1) (⟨a1,c1⟩) (fun h U=>RoF.up U R1))
theorem rbareA_fn (v:Value) (l:List Am) (hb:l.length≤1000000):FnX Tryz.prog 110 0 [.v v] [] (fun G h=>RoF G h v 7 (rws Am.row l))
  (fun (x:Hd) G h=>RoF G h (x.v (l.map Am.un0).length) 7 (rws Am.row (l.map Am.un0))) (fun x=>.ret (.v (x.v (l.map Am.un0).length)) 0 []):=by
 have hl:=rws_len Am.row l
 refine FnX.of Tryz.func110 (by kernel_rfl) rfl Tryz.ntmps110 rfl fun E0 F G h N hP w0 cs=>?_
 conv=>whnf
 refine gS ?_;conv=>whnf
 have hT:=RoF.up ⟨N.gsub,fun _ _=>rfl⟩ hP
 refine RunsS.nameAt (fun _ x=>x) 0 (by exact hT) ?_
 conv=>whnf
 (try refine gS ?_);conv=>whnf
 refine RunsS.subR [] (RunsS.loop (fun (k:Nat)=>[(4,.v (.int .i64 k)),(3,.buf 0),(0,.buf 1)]) (fun (k:Nat)=>[(1,.ro 7 (rws Am.row l)),(0,.own 55 7 (rws Am.row ((l.take k).map Am.un0)))]) 2 (fun (k:Nat)=>k≤l.length) (fun (k:Nat)=>l.length - k) ?round3 (0) ?J03) sH sH
 case J03=>first|omega|trivial
 rintro k hJ back
 conv=>whnf
 refine gS ?_;conv=>whnf
 refine ⟨fun hk=>?_,fun hk=>?_⟩<;>conv=>whnf
 ·have hk:k<l.length:=by omega
  have el:(rws Am.row ((l.take k).map Am.un0)).length=k:=by rw [rws_len,List.length_map,List.length_take];omega
  conv=>whnf
  repeat ((first|refine oM ?_|refine oL ?_|refine oR ?_);(try intro _);conv=>whnf)
  refine ⟨_,rws_get hk,?_⟩;conv=>whnf
  try (refine oN ?_;conv=>whnf)
  refine And.intro (appOb (show (rws Am.row ((l.take k).map Am.un0)).length≤1000000 by omega)) ?_
  conv=>whnf
  repeat ((first|refine oM ?_|refine oL ?_|refine oR ?_);(try intro _);conv=>whnf)
  refine RunsS.rowsEq 4 (snoc_map (g:=Am.un0) hk) ?_;conv=>whnf
  refine RunsS.subR [(0,4)] (back (k+1) (by (try dsimp only);first|omega|trivial) (by (try dsimp only);omega)) sH sH
 conv=>whnf
 have hk:k=l.length:=by omega
 clear back
 refine RunsS.rowsEq 0 (show rws Am.row ((l.take k).map Am.un0)=rws Am.row (l.map Am.un0) by rw [hk,List.take_length]) ?_
 conv=>whnf
 refine RunsS.conc (n:=(l.map Am.un0).length) (N.gsub) 0 ?_ (hlen:=(rws_len _ _))
 intro a1 c1 G1 h1 N1 R1
 conv=>whnf
 (try refine gS ?_);conv=>whnf
 try refine RunsS.retU ?_
 exact UnwS.ret tab Tryz.func110 rfl (eX (N.trans N1) (⟨a1,c1⟩) (fun h U=>RoF.up U R1))
theorem rbareR_fn (r:RcV) (bc:r.cs.length≤1000000) (bi:r.inn.length≤1000000) (bo:r.out.length≤1000000) (bn:r.runs.length≤1000000):FnX Tryz.prog 47 0 [rcRow r] [] (fun G h=>r.ok G h) (BcJ r) (fun y=>.ret (rcRow y) 0 []):=by
 refine FnX.of Tryz.func47 (by kernel_rfl) rfl Tryz.ntmps47 rfl fun E0 F G h N hP w0 cs=>?_
 conv=>whnf
 (try refine gS ?_);conv=>whnf
 refine RunsS.callX (N.gsub) (rbareC_fn _ r.cs bc) (fun h U=>RoF.up U hP.c) [] sH ?CNa5 ?_
 case CNa5=>rfl
 rintro x1 G1 h1 N1 J1
 have U1:=Now.step N.gsub N1
 conv=>whnf
 (try refine gS ?_);conv=>whnf
 refine RunsS.callX (N1.gsub) (rbareA_fn _ r.inn bi) (fun h U=>RoF.up (U1.trans U) hP.i) [] sH ?CNa6 ?_
 case CNa6=>rfl
 rintro x2 G2 h2 N2 J2
 have U2:=Now.step N1.gsub N2
 conv=>whnf
 (try refine gS ?_);conv=>whnf
 refine RunsS.callX (N2.gsub) (rbareA_fn _ r.out bo) (fun h U=>RoF.up (U1.trans (U2.trans U)) hP.o) [] sH ?CNa7 ?_
 case CNa7=>rfl
 rintro x3 G3 h3 N3 J3
 have U3:=Now.step N2.gsub N3
 conv=>whnf
 (try refine gS ?_);conv=>whnf
 refine RunsS.nameCell (fun _ x=>x) 0 14 (by exact RoF.up ((U1.trans (U2.trans U3)).trans ⟨N3.gsub,fun _ _=>rfl⟩) hP.rn) ?_
 conv=>whnf
 (try refine gS ?_);conv=>whnf
 have lrn:=rws_len Rn.row r.runs
 refine RunsS.subR [] (RunsS.loop (fun (j:Nat)=>[(1,.ptr 0 0),(2,.ptr 1 0),(3,.buf 2),(4,.v (.int .i64 j))]) (fun (j:Nat)=>[(0,.cells 61 [.v (.string r.item),.v (.string r.plant),.v (.int .i64 r.fr),.v (.int .i64 r.to),.v (x1.v (r.cs.map Cd.un).length),.v (x2.v (r.inn.map Am.un0).length),.v (x3.v (r.out.map Am.un0).length),.v (.int .i64 r.rwN),.v (.int .i64 r.rwD),.v (.int .i64 r.yN),.v (.int .i64 r.yD),.v (.int .i64 r.tN),.v (.int .i64 r.tD),.v (.int .i64 r.lead),.buf 3,.v (.int .i64 0),.v (.int .i64 0)]),(1,.cells 61 [.v (.string ByteArray.empty),.v (.string ByteArray.empty),.v (.int .i64 0),.v (.int .i64 0),.v (.slice none 0 0),.v (.slice none 0 0),.v (.slice none 0 0),.v (.int .i64 0),.v (.int .i64 0),.v (.int .i64 0),.v (.int .i64 0),.v (.int .i64 0),.v (.int .i64 0),.v (.int .i64 0),.v (.slice none 0 0),.v (.int .i64 0),.v (.int .i64 0)]),(3,.ro 3 (rws Rn.row r.runs)),(2,.own 58 3 (rws Rn.row ((r.runs.take j).map Rn.un)))]) 4 (fun (j:Nat)=>j≤r.runs.length) (fun (j:Nat)=>r.runs.length - j) ?round8 (0) ?J08) sH sH
 case J08=>first|omega|trivial
 rintro j hJ back
 try dsimp only at hJ back
 conv=>whnf
 try dsimp only
 refine gS ?_;conv=>whnf
 refine ⟨fun hj=>?_,fun hj=>?_⟩<;>conv=>whnf
 ·have hj:j<r.runs.length:=by omega
  have el2:(rws Rn.row ((r.runs.take j).map Rn.un)).length=j:=by rw [rws_len,List.length_map,List.length_take];omega
  conv=>whnf
  refine RunsS.held tab (.fl 0 (.fl 1 (.fl 2 (.fl 3 (.fl 4 (.fl 5 (.fl 6 (.fl 7 (.fl 8 (.fl 9 (.fl 10 (.fl 11 (.fl 12 (.fl 13 (.e1 14 [] (.e1 15 [] (.fl 16 .done))))))))))))))))) (by kernel_rfl) ?_;conv=>whnf
  (try refine gR ?_);conv=>whnf
  repeat ((first|refine oM ?_|refine oL ?_|refine oR ?_|refine oB ?_);(try intro _);conv=>whnf)
  conv=>whnf
  refine ⟨_,rws_get hj,?_⟩;conv=>whnf
  try (refine oN ?_;conv=>whnf)
  conv=>whnf
  refine ⟨_,rws_get hj,?_⟩;conv=>whnf
  conv=>whnf
  repeat ((first|refine oM ?_|refine oL ?_|refine oR ?_|refine oB ?_);(try intro _);conv=>whnf)
  conv=>whnf
  refine And.intro (appOb2 (show (rws Rn.row ((r.runs.take j).map Rn.un)).length+1≤1000000 by omega)) ?_
  conv=>whnf
  repeat ((first|refine oM ?_|refine oL ?_|refine oR ?_|refine oB ?_);(try intro _);conv=>whnf)
  (try refine gS ?_);conv=>whnf
  repeat ((first|refine oM ?_|refine oL ?_|refine oR ?_);(try intro _);conv=>whnf)
  refine RunsS.rowsEq 5 (snoc_map (f:=Rn.row) (g:=Rn.un) hj) ?_;conv=>whnf
  refine RunsS.subR [(2,5)] (back (j+1) (by (try dsimp only);first|omega|trivial) (by (try dsimp only);omega)) sH sH
 have hj:j=r.runs.length:=by omega
 clear back
 conv=>whnf
 refine RunsS.rowsEq 2 (show rws Rn.row ((r.runs.take j).map Rn.un)=rws Rn.row (r.runs.map Rn.un) by rw [hj,List.take_length]) ?_
 conv=>whnf
 refine RunsS.conc (n:=(r.runs.map Rn.un).length) (N3.gsub) 2 ?_ (hlen:=(rws_len _ _))
 intro b4 d4 G4 h4 N4 R4
 conv=>whnf
 (try refine gS ?_);conv=>whnf
 have U4:=Now.step N3.gsub N4
 try refine RunsS.retU ?_
 exact UnwS.ret tab Tryz.func47 rfl (eX (((N1.trans N2).trans N3).trans N4) ({r.un with hc:=x1,hi:=x2,ho:=x3,hr:=⟨b4,d4⟩}) (fun h U=>⟨rfl,⟨RoF.up (U2.trans (U3.trans (U4.trans U))) J1,RoF.up (U3.trans (U4.trans U)) J2,RoF.up (U4.trans U) J3,RoF.up U R4⟩⟩))
end Go.Proofs.YtgbeechjghajcaaGreatDoor

namespace Go.Proofs.YtgbeechjghajcaaGreatDoor
open Go Go.Fw Go.NatM Go.RatM Go.SrcM
set_option maxRecDepth 100000
set_option maxHeartbeats 99999999
structure UnV where
 t:SrcV
 U:Value
 I:Value
 P:Value
 M:Value
 O:Value
 F:Value
 R:Value
 S:Value
abbrev unOut (x:UnV):OutS:=.ret (srcA x.U x.I x.P x.M x.O x.F x.R x.S) 0 []
structure UnJ (s:SrcV) (x:UnV) (G:Nat→Prop) (h:Array Obj):Prop where
 t:x.t.bare=s.un.bare
 top:TopF G h x.U x.I x.P x.M x.O x.F x.R x.S x.t
theorem un_end {s:SrcV} {m mf:List FbV} {n mr:List RcV} {G7 G8 G9:Nat→Prop} {h7 h8 h9:Array Obj} {v1 v2 v3 v4 v5 v6 v7 v8 w1 w2 w3 w4 w5 w6:Value}
  (hmf:mf=m) (hmr:mr=n) (ea:m.map FbV.bare=(s.forbids.map FbV.un).map FbV.bare) (er:n.map RcV.bare=(s.recipes.map RcV.un).map RcV.bare)
  (U:Up G8 h8 G9 h9) (P8:Up G7 h7 G9 h9) (R6:RoF G8 h8 w6 4 (rws Sw.row (s.swaps.map Sw.un))) (R5:RoF G7 h7 w5 17 (rws RcV.row mr)) (R4:RoF G9 h9 w4 1 (rws FbV.row mf)) (R3:RoF G9 h9 w3 4 (rws Mc.row (s.machines.map Mc.un))) (R2:RoF G9 h9 w2 6 (rws It.row (s.items.map It.un0))) (R1:RoF G9 h9 w1 8 (rowsU (s.units.map unU)))
  (ho:∀a∈m,a.ok G9 h9) (ho2:∀a∈n,a.ok G9 h9) (hP:TopF G9 h9 v1 v2 v3 v4 v5 v6 v7 v8 s):
  UnJ s ⟨⟨s.units.map unU,s.items.map It.un0,s.plants,s.machines.map Mc.un,s.options,mf,mr,s.swaps.map Sw.un⟩,w1,w2,v3,w3,v5,w4,w5,w6⟩ G9 h9:=by
 subst hmf
 subst hmr
 refine ⟨?_,⟨R1,R2,hP.P,R3,hP.O,R4,RoF.up P8 R5,RoF.up U R6,⟨hP.below.o,ho,ho2⟩⟩⟩
 show SrcV.mk _ _ _ _ (s.options.map OpV.bare) (mf.map FbV.bare) (mr.map RcV.bare) _=SrcV.mk _ _ _ _ ((s.options.map OpV.un).map OpV.bare) ((s.forbids.map FbV.un).map FbV.bare) ((s.recipes.map RcV.un).map RcV.bare) _
 rw [ea,er,show (s.options.map OpV.un).map OpV.bare=s.options.map OpV.bare by rw [List.map_map];rfl];try rfl
section
variable {vU vI vP vM vO vF vR vS:Value}
theorem rUn_fn (s:SrcV) (hL:Lens s):FnX Tryz.prog 18 0 [srcA vU vI vP vM vO vF vR vS] [] (fun G h=>TopF G h vU vI vP vM vO vF vR vS s) (UnJ s) unOut:=by
 refine FnX.of Tryz.func18 (by kernel_rfl) rfl Tryz.ntmps18 rfl fun E0 F G h N hP w0 cs=>?_
 obtain ⟨aU,cU,rfl⟩:=RoF.sli hP.U (rowsU_len s.units)
 obtain ⟨aI,cI,rfl⟩:=RoF.sli hP.I (rws_len It.row s.items)
 obtain ⟨aP,cP,rfl⟩:=RoF.sli hP.P (rwsB_len s.plants)
 obtain ⟨aM,cM,rfl⟩:=RoF.sli hP.M (rws_len Mc.row s.machines)
 obtain ⟨aO,cO,rfl⟩:=RoF.sli hP.O (rws_len OpV.row s.options)
 obtain ⟨aF,cF,rfl⟩:=RoF.sli hP.F (rws_len FbV.row s.forbids)
 obtain ⟨aR,cR,rfl⟩:=RoF.sli hP.R (rws_len RcV.row s.recipes)
 obtain ⟨aS,cS,rfl⟩:=RoF.sli hP.S (rws_len Sw.row s.swaps)
 have hlU:=hL.U
 have hlI:=hL.I
 have hlM:=hL.M
 have hlF:=hL.F
 have hlR:=hL.R
 have hlS:=hL.S
 conv=>whnf
 (try refine gS ?_);conv=>whnf
 refine RunsS.subR (nx':=3) (l':=[(1,.ptr 0 0),(2,.ptr 1 0),(3,.ptr 2 0),(4,.v (.int .i64 0))]) (H':=[(0,.cells 32 [.v (.slice aU s.units.length cU),.v (.slice aI s.items.length cI),.v (.slice aP s.plants.length cP),.v (.slice aM s.machines.length cM),.v (.slice aO s.options.length cO),.v (.slice aF s.forbids.length cF),.v (.slice aR s.recipes.length cR),.v (.slice aS s.swaps.length cS)]),(1,.cells 32 [.v (.slice none 0 0),.v (.slice none 0 0),.v (.slice none 0 0),.v (.slice none 0 0),.v (.slice none 0 0),.v (.slice none 0 0),.v (.slice none 0 0),.v (.slice none 0 0)]),(2,.cells 32 [.v (.slice none 0 0),.v (.slice none 0 0),.v (.slice aP s.plants.length cP),.v (.slice none 0 0),.v (.slice aO s.options.length cO),.v (.slice none 0 0),.v (.slice none 0 0),.v (.slice none 0 0)])]) [] ?_ sH sH
 refine RunsS.nilOwn (l':=[(1,.ptr 0 0),(2,.ptr 1 0),(3,.ptr 2 0),(4,.v (.int .i64 0))]) (H':=[(0,.cells 32 [.v (.slice aU s.units.length cU),.v (.slice aI s.items.length cI),.v (.slice aP s.plants.length cP),.v (.slice aM s.machines.length cM),.v (.slice aO s.options.length cO),.v (.slice aF s.forbids.length cF),.v (.slice aR s.recipes.length cR),.v (.slice aS s.swaps.length cS)]),(1,.cells 32 [.v (.slice none 0 0),.v (.slice none 0 0),.v (.slice none 0 0),.v (.slice none 0 0),.v (.slice none 0 0),.v (.slice none 0 0),.v (.slice none 0 0),.v (.slice none 0 0)]),(2,.cells 32 [.buf 3,.v (.slice none 0 0),.v (.slice aP s.plants.length cP),.v (.slice none 0 0),.v (.slice aO s.options.length cO),.v (.slice none 0 0),.v (.slice none 0 0),.v (.slice none 0 0)])]) 81 8 ?_ (by rfl) (by rfl) (by rfl)
 refine RunsS.subR [] (RunsS.loop (fun (k:Nat)=>[(1,.ptr 0 0),(2,.ptr 1 0),(3,.ptr 2 0),(4,.v (.int .i64 k))]) (fun (k:Nat)=>[(0,.cells 32 [.v (.slice aU s.units.length cU),.v (.slice aI s.items.length cI),.v (.slice aP s.plants.length cP),.v (.slice aM s.machines.length cM),.v (.slice aO s.options.length cO),.v (.slice aF s.forbids.length cF),.v (.slice aR s.recipes.length cR),.v (.slice aS s.swaps.length cS)]),(1,.cells 32 [.v (.slice none 0 0),.v (.slice none 0 0),.v (.slice none 0 0),.v (.slice none 0 0),.v (.slice none 0 0),.v (.slice none 0 0),.v (.slice none 0 0),.v (.slice none 0 0)]),(2,.cells 32 [.buf 3,.v (.slice none 0 0),.v (.slice aP s.plants.length cP),.v (.slice none 0 0),.v (.slice aO s.options.length cO),.v (.slice none 0 0),.v (.slice none 0 0),.v (.slice none 0 0)]),(3,.own 81 8 (rowsU ((s.units.take k).map unU)))]) 4 (fun (k:Nat)=>k≤s.units.length) (fun (k:Nat)=>s.units.length - k) ?round1 (0) ?J01) sH sH
 case J01=>first|omega|trivial
 rintro k hJ back
 conv=>whnf
 refine gS ?_;conv=>whnf
 refine ⟨fun hk=>?_,fun hk=>?_⟩<;>conv=>whnf
 ·have hk:k<s.units.length:=by omega
  have W:Up G h _ h:=Up.trans (Up.refl G h) ⟨N.gsub,fun _ _=>rfl⟩
  obtain ⟨g,o,rfl,hrl,hrow⟩:=rof_at (RoF.up W hP.U) (rowsU_get hk)
  have el:(rowsU ((s.units.take k).map unU)).length=k:=by rw [rowsU_len,List.length_map,List.length_take];omega
  conv=>whnf
  repeat ((first|(guard_target=_∧_;(fail_if_success refine oF ?_ ?_);(first|refine oL ?_|refine oR ?_))|(guard_target=Exists _;refine oM ?_));(try intro _);conv=>whnf)
  refine ⟨_,⟨hrl,hrow⟩,?_⟩;conv=>whnf
  conv=>whnf
  refine And.intro (appOb (show (rowsU ((s.units.take k).map unU)).length≤1000000 by omega)) ?_
  conv=>whnf
  repeat ((first|(guard_target=_∧_;(fail_if_success refine oF ?_ ?_);(first|refine oL ?_|refine oR ?_))|(guard_target=Exists _;refine oM ?_));(try intro _);conv=>whnf)
  refine RunsS.rowsEq 6 (snoc_map (f:=Un.row) (g:=unU) hk) ?_;conv=>whnf
  refine RunsS.subR [(3,6)] (back (k+1) (by (try dsimp only);first|omega|trivial) (by (try dsimp only);omega)) sH sH
 have hk:k=s.units.length:=by omega
 clear back
 refine RunsS.rowsEq 3 (show rowsU ((s.units.take k).map unU)=rowsU (s.units.map unU) by rw [hk,List.take_length]) ?_
 conv=>whnf
 refine RunsS.concY (n:=(s.units.map unU).length) (N.gsub) 3 ?_ (hlen:=(rowsU_len _))
 intro _ a1 c1 G1 h1 N1 R1
 conv=>whnf
 (try refine gS ?_);conv=>whnf
 have U1:=Now.step N.gsub N1
 have V1:=Up.trans (Up.refl G h) U1
 have T1:=N1
 clear hk hJ
 refine RunsS.subR (nx':=3) (l':=[(1,.ptr 0 0),(2,.ptr 1 0),(3,.ptr 2 0),(6,.v (.int .i64 0))]) (H':=[(0,.cells 32 [.v (.slice aU s.units.length cU),.v (.slice aI s.items.length cI),.v (.slice aP s.plants.length cP),.v (.slice aM s.machines.length cM),.v (.slice aO s.options.length cO),.v (.slice aF s.forbids.length cF),.v (.slice aR s.recipes.length cR),.v (.slice aS s.swaps.length cS)]),(1,.cells 32 [.v (.slice none 0 0),.v (.slice none 0 0),.v (.slice none 0 0),.v (.slice none 0 0),.v (.slice none 0 0),.v (.slice none 0 0),.v (.slice none 0 0),.v (.slice none 0 0)]),(2,.cells 32 [.v (.slice a1 (s.units.map unU).length c1),.v (.slice none 0 0),.v (.slice aP s.plants.length cP),.v (.slice none 0 0),.v (.slice aO s.options.length cO),.v (.slice none 0 0),.v (.slice none 0 0),.v (.slice none 0 0)])]) [] ?_ sH sH
 refine RunsS.nilOwn (l':=[(1,.ptr 0 0),(2,.ptr 1 0),(3,.ptr 2 0),(6,.v (.int .i64 0))]) (H':=[(0,.cells 32 [.v (.slice aU s.units.length cU),.v (.slice aI s.items.length cI),.v (.slice aP s.plants.length cP),.v (.slice aM s.machines.length cM),.v (.slice aO s.options.length cO),.v (.slice aF s.forbids.length cF),.v (.slice aR s.recipes.length cR),.v (.slice aS s.swaps.length cS)]),(1,.cells 32 [.v (.slice none 0 0),.v (.slice none 0 0),.v (.slice none 0 0),.v (.slice none 0 0),.v (.slice none 0 0),.v (.slice none 0 0),.v (.slice none 0 0),.v (.slice none 0 0)]),(2,.cells 32 [.v (.slice a1 (s.units.map unU).length c1),.buf 3,.v (.slice aP s.plants.length cP),.v (.slice none 0 0),.v (.slice aO s.options.length cO),.v (.slice none 0 0),.v (.slice none 0 0),.v (.slice none 0 0)])]) 83 6 ?_ (by rfl) (by rfl) (by rfl)
 refine RunsS.subR [] (RunsS.loop (fun (k:Nat)=>[(1,.ptr 0 0),(2,.ptr 1 0),(3,.ptr 2 0),(6,.v (.int .i64 k))]) (fun (k:Nat)=>[(0,.cells 32 [.v (.slice aU s.units.length cU),.v (.slice aI s.items.length cI),.v (.slice aP s.plants.length cP),.v (.slice aM s.machines.length cM),.v (.slice aO s.options.length cO),.v (.slice aF s.forbids.length cF),.v (.slice aR s.recipes.length cR),.v (.slice aS s.swaps.length cS)]),(1,.cells 32 [.v (.slice none 0 0),.v (.slice none 0 0),.v (.slice none 0 0),.v (.slice none 0 0),.v (.slice none 0 0),.v (.slice none 0 0),.v (.slice none 0 0),.v (.slice none 0 0)]),(2,.cells 32 [.v (.slice a1 (s.units.map unU).length c1),.buf 3,.v (.slice aP s.plants.length cP),.v (.slice none 0 0),.v (.slice aO s.options.length cO),.v (.slice none 0 0),.v (.slice none 0 0),.v (.slice none 0 0)]),(3,.own 83 6 (rws It.row ((s.items.take k).map It.un0)))]) 4 (fun (k:Nat)=>k≤s.items.length) (fun (k:Nat)=>s.items.length - k) ?round3 (0) ?J03) sH sH
 case J03=>first|omega|trivial
 rintro k hJ back
 conv=>whnf
 refine gS ?_;conv=>whnf
 refine ⟨fun hk=>?_,fun hk=>?_⟩<;>conv=>whnf
 ·have hk:k<s.items.length:=by omega
  have W:Up G h _ h1:=Up.trans V1 ⟨N1.gsub,fun _ _=>rfl⟩
  obtain ⟨g,o,rfl,hrl,hrow⟩:=rof_at (RoF.up W hP.I) (rws_get hk)
  have el:(rws It.row ((s.items.take k).map It.un0)).length=k:=by rw [rws_len,List.length_map,List.length_take];omega
  conv=>whnf
  repeat ((first|(guard_target=_∧_;(fail_if_success refine oF ?_ ?_);(first|refine oL ?_|refine oR ?_))|(guard_target=Exists _;refine oM ?_));(try intro _);conv=>whnf)
  refine ⟨_,⟨hrl,hrow⟩,?_⟩;conv=>whnf
  conv=>whnf
  refine And.intro (appOb (show (rws It.row ((s.items.take k).map It.un0)).length≤1000000 by omega)) ?_
  conv=>whnf
  repeat ((first|(guard_target=_∧_;(fail_if_success refine oF ?_ ?_);(first|refine oL ?_|refine oR ?_))|(guard_target=Exists _;refine oM ?_));(try intro _);conv=>whnf)
  refine RunsS.rowsEq 6 (snoc_map (f:=It.row) (g:=It.un0) hk) ?_;conv=>whnf
  refine RunsS.subR [(3,6)] (back (k+1) (by (try dsimp only);first|omega|trivial) (by (try dsimp only);omega)) sH sH
 have hk:k=s.items.length:=by omega
 clear back
 refine RunsS.rowsEq 3 (show rws It.row ((s.items.take k).map It.un0)=rws It.row (s.items.map It.un0) by rw [hk,List.take_length]) ?_
 conv=>whnf
 refine RunsS.concY (n:=(s.items.map It.un0).length) (N1.gsub) 3 ?_ (hlen:=(rws_len _ _))
 intro _ a2 c2 G2 h2 N2 R2
 conv=>whnf
 (try refine gS ?_);conv=>whnf
 have U2:=Now.step N1.gsub N2
 have V2:=Up.trans V1 U2
 have T2:=T1.trans N2
 clear hk hJ
 refine RunsS.subR (nx':=3) (l':=[(1,.ptr 0 0),(2,.ptr 1 0),(3,.ptr 2 0),(8,.v (.int .i64 0))]) (H':=[(0,.cells 32 [.v (.slice aU s.units.length cU),.v (.slice aI s.items.length cI),.v (.slice aP s.plants.length cP),.v (.slice aM s.machines.length cM),.v (.slice aO s.options.length cO),.v (.slice aF s.forbids.length cF),.v (.slice aR s.recipes.length cR),.v (.slice aS s.swaps.length cS)]),(1,.cells 32 [.v (.slice none 0 0),.v (.slice none 0 0),.v (.slice none 0 0),.v (.slice none 0 0),.v (.slice none 0 0),.v (.slice none 0 0),.v (.slice none 0 0),.v (.slice none 0 0)]),(2,.cells 32 [.v (.slice a1 (s.units.map unU).length c1),.v (.slice a2 (s.items.map It.un0).length c2),.v (.slice aP s.plants.length cP),.v (.slice none 0 0),.v (.slice aO s.options.length cO),.v (.slice none 0 0),.v (.slice none 0 0),.v (.slice none 0 0)])]) [] ?_ sH sH
 refine RunsS.nilOwn (l':=[(1,.ptr 0 0),(2,.ptr 1 0),(3,.ptr 2 0),(8,.v (.int .i64 0))]) (H':=[(0,.cells 32 [.v (.slice aU s.units.length cU),.v (.slice aI s.items.length cI),.v (.slice aP s.plants.length cP),.v (.slice aM s.machines.length cM),.v (.slice aO s.options.length cO),.v (.slice aF s.forbids.length cF),.v (.slice aR s.recipes.length cR),.v (.slice aS s.swaps.length cS)]),(1,.cells 32 [.v (.slice none 0 0),.v (.slice none 0 0),.v (.slice none 0 0),.v (.slice none 0 0),.v (.slice none 0 0),.v (.slice none 0 0),.v (.slice none 0 0),.v (.slice none 0 0)]),(2,.cells 32 [.v (.slice a1 (s.units.map unU).length c1),.v (.slice a2 (s.items.map It.un0).length c2),.v (.slice aP s.plants.length cP),.buf 3,.v (.slice aO s.options.length cO),.v (.slice none 0 0),.v (.slice none 0 0),.v (.slice none 0 0)])]) 85 4 ?_ (by rfl) (by rfl) (by rfl)
 refine RunsS.subR [] (RunsS.loop (fun (k:Nat)=>[(1,.ptr 0 0),(2,.ptr 1 0),(3,.ptr 2 0),(8,.v (.int .i64 k))]) (fun (k:Nat)=>[(0,.cells 32 [.v (.slice aU s.units.length cU),.v (.slice aI s.items.length cI),.v (.slice aP s.plants.length cP),.v (.slice aM s.machines.length cM),.v (.slice aO s.options.length cO),.v (.slice aF s.forbids.length cF),.v (.slice aR s.recipes.length cR),.v (.slice aS s.swaps.length cS)]),(1,.cells 32 [.v (.slice none 0 0),.v (.slice none 0 0),.v (.slice none 0 0),.v (.slice none 0 0),.v (.slice none 0 0),.v (.slice none 0 0),.v (.slice none 0 0),.v (.slice none 0 0)]),(2,.cells 32 [.v (.slice a1 (s.units.map unU).length c1),.v (.slice a2 (s.items.map It.un0).length c2),.v (.slice aP s.plants.length cP),.buf 3,.v (.slice aO s.options.length cO),.v (.slice none 0 0),.v (.slice none 0 0),.v (.slice none 0 0)]),(3,.own 85 4 (rws Mc.row ((s.machines.take k).map Mc.un)))]) 4 (fun (k:Nat)=>k≤s.machines.length) (fun (k:Nat)=>s.machines.length - k) ?round5 (0) ?J05) sH sH
 case J05=>first|omega|trivial
 rintro k hJ back
 conv=>whnf
 refine gS ?_;conv=>whnf
 refine ⟨fun hk=>?_,fun hk=>?_⟩<;>conv=>whnf
 ·have hk:k<s.machines.length:=by omega
  have W:Up G h _ h2:=Up.trans V2 ⟨N2.gsub,fun _ _=>rfl⟩
  obtain ⟨g,o,rfl,hrl,hrow⟩:=rof_at (RoF.up W hP.M) (rws_get hk)
  have el:(rws Mc.row ((s.machines.take k).map Mc.un)).length=k:=by rw [rws_len,List.length_map,List.length_take];omega
  conv=>whnf
  repeat ((first|(guard_target=_∧_;(fail_if_success refine oF ?_ ?_);(first|refine oL ?_|refine oR ?_))|(guard_target=Exists _;refine oM ?_));(try intro _);conv=>whnf)
  refine ⟨_,⟨hrl,hrow⟩,?_⟩;conv=>whnf
  conv=>whnf
  refine And.intro (appOb (show (rws Mc.row ((s.machines.take k).map Mc.un)).length≤1000000 by omega)) ?_
  conv=>whnf
  repeat ((first|(guard_target=_∧_;(fail_if_success refine oF ?_ ?_);(first|refine oL ?_|refine oR ?_))|(guard_target=Exists _;refine oM ?_));(try intro _);conv=>whnf)
  refine RunsS.rowsEq 6 (snoc_map (f:=Mc.row) (g:=Mc.un) hk) ?_;conv=>whnf
  refine RunsS.subR [(3,6)] (back (k+1) (by (try dsimp only);first|omega|trivial) (by (try dsimp only);omega)) sH sH
 have hk:k=s.machines.length:=by omega
 clear back
 refine RunsS.rowsEq 3 (show rws Mc.row ((s.machines.take k).map Mc.un)=rws Mc.row (s.machines.map Mc.un) by rw [hk,List.take_length]) ?_
 conv=>whnf
 refine RunsS.concY (n:=(s.machines.map Mc.un).length) (N2.gsub) 3 ?_ (hlen:=(rws_len _ _))
 intro _ a3 c3 G3 h3 N3 R3
 conv=>whnf
 (try refine gS ?_);conv=>whnf
 have U3:=Now.step N2.gsub N3
 have V3:=Up.trans V2 U3
 have T3:=T2.trans N3
 clear hk hJ
 refine RunsS.subR (nx':=3) (l':=[(1,.ptr 0 0),(2,.ptr 1 0),(3,.ptr 2 0),(10,.v (.int .i64 0))]) (H':=[(0,.cells 32 [.v (.slice aU s.units.length cU),.v (.slice aI s.items.length cI),.v (.slice aP s.plants.length cP),.v (.slice aM s.machines.length cM),.v (.slice aO s.options.length cO),.v (.slice aF s.forbids.length cF),.v (.slice aR s.recipes.length cR),.v (.slice aS s.swaps.length cS)]),(1,.cells 32 [.v (.slice none 0 0),.v (.slice none 0 0),.v (.slice none 0 0),.v (.slice none 0 0),.v (.slice none 0 0),.v (.slice none 0 0),.v (.slice none 0 0),.v (.slice none 0 0)]),(2,.cells 32 [.v (.slice a1 (s.units.map unU).length c1),.v (.slice a2 (s.items.map It.un0).length c2),.v (.slice aP s.plants.length cP),.v (.slice a3 (s.machines.map Mc.un).length c3),.v (.slice aO s.options.length cO),.v (.slice none 0 0),.v (.slice none 0 0),.v (.slice none 0 0)])]) [] ?_ sH sH
 refine RunsS.nilOwn (l':=[(1,.ptr 0 0),(2,.ptr 1 0),(3,.ptr 2 0),(10,.v (.int .i64 0))]) (H':=[(0,.cells 32 [.v (.slice aU s.units.length cU),.v (.slice aI s.items.length cI),.v (.slice aP s.plants.length cP),.v (.slice aM s.machines.length cM),.v (.slice aO s.options.length cO),.v (.slice aF s.forbids.length cF),.v (.slice aR s.recipes.length cR),.v (.slice aS s.swaps.length cS)]),(1,.cells 32 [.v (.slice none 0 0),.v (.slice none 0 0),.v (.slice none 0 0),.v (.slice none 0 0),.v (.slice none 0 0),.v (.slice none 0 0),.v (.slice none 0 0),.v (.slice none 0 0)]),(2,.cells 32 [.v (.slice a1 (s.units.map unU).length c1),.v (.slice a2 (s.items.map It.un0).length c2),.v (.slice aP s.plants.length cP),.v (.slice a3 (s.machines.map Mc.un).length c3),.v (.slice aO s.options.length cO),.buf 3,.v (.slice none 0 0),.v (.slice none 0 0)])]) 53 1 ?_ (by rfl) (by rfl) (by rfl)
 refine RunsS.subR [] (RunsS.loopB (fun (⟨k,m,F',G',h'⟩:Nat×List FbV×(Nat→Prop)×(Nat→Prop)×Array Obj)=>(F',h')) (fun (⟨k,m,F',G',h'⟩:Nat×List FbV×(Nat→Prop)×(Nat→Prop)×Array Obj)=>[(1,.ptr 0 0),(2,.ptr 1 0),(3,.ptr 2 0),(10,.v (.int .i64 k))]) (fun (⟨k,m,F',G',h'⟩:Nat×List FbV×(Nat→Prop)×(Nat→Prop)×Array Obj)=>[(0,.cells 32 [.v (.slice aU s.units.length cU),.v (.slice aI s.items.length cI),.v (.slice aP s.plants.length cP),.v (.slice aM s.machines.length cM),.v (.slice aO s.options.length cO),.v (.slice aF s.forbids.length cF),.v (.slice aR s.recipes.length cR),.v (.slice aS s.swaps.length cS)]),(1,.cells 32 [.v (.slice none 0 0),.v (.slice none 0 0),.v (.slice none 0 0),.v (.slice none 0 0),.v (.slice none 0 0),.v (.slice none 0 0),.v (.slice none 0 0),.v (.slice none 0 0)]),(2,.cells 32 [.v (.slice a1 (s.units.map unU).length c1),.v (.slice a2 (s.items.map It.un0).length c2),.v (.slice aP s.plants.length cP),.v (.slice a3 (s.machines.map Mc.un).length c3),.v (.slice aO s.options.length cO),.buf 3,.v (.slice none 0 0),.v (.slice none 0 0)]),(3,.own 53 1 (rws FbV.row m))]) 4 (fun (⟨k,m,F',G',h'⟩:Nat×List FbV×(Nat→Prop)×(Nat→Prop)×Array Obj)=>Now F G h F' G' h'∧Up G3 h3 G' h'∧k≤s.forbids.length∧m.length=k∧m.map FbV.bare=((s.forbids.take k).map FbV.un).map FbV.bare ∧ ∀a∈m,a.ok G' h') (fun (⟨k,m,F',G',h'⟩:Nat×List FbV×(Nat→Prop)×(Nat→Prop)×Array Obj)=>s.forbids.length - k) ?round7 (⟨0,[],_,G3,h3⟩) ?J07) sH sH
 case J07=>exact (⟨N.trans T3,Up.refl _ _,Nat.zero_le _,rfl,rfl,fun _ h=>absurd h List.not_mem_nil⟩)
 rintro ⟨k,m,F',G',h'⟩ hJ back
 try dsimp only at hJ back
 conv=>whnf
 try dsimp only
 refine gS ?_;conv=>whnf
 refine ⟨fun hk=>?_,fun hk=>?_⟩<;>conv=>whnf
 ·obtain ⟨N4,U4,_,em,ea,ho⟩:=hJ
  have hk:k<s.forbids.length:=by omega
  have V4:=V3.trans U4
  have W4:Up G h _ h':=V4.trans ⟨N4.gsub,fun _ _=>rfl⟩
  obtain ⟨g,o,rfl,hrl,hrow⟩:=rof_at (RoF.up W4 hP.F) (rws_get hk)
  have el:(rws FbV.row m).length=k:=by rw [rws_len];exact em
  conv=>whnf
  refine RunsS.held tab (.fl 0 (.fl 1 (.fl 2 (.fl 3 (.fl 4 (.fl 5 (.fl 6 (.e1 7 [1] (.e1 8 [1] (.e1 9 [] (.fl 10 (.e1 11 [] .done)))))))))))) (by kernel_rfl) ?_;conv=>whnf
  (try refine gR ?_);conv=>whnf
  repeat ((first|(guard_target=_∧_;(fail_if_success refine oF ?_ ?_);(first|refine oL ?_|refine oR ?_|refine oB ?_))|(guard_target=Exists _;refine oM ?_));(try intro _);conv=>whnf)
  conv=>whnf
  have hrow1:=hrow 0 _ rfl
  rw [Nat.mul_one] at hrow1
  refine ⟨_,hrow1,?_⟩;conv=>whnf
  conv=>whnf
  refine EffR.callY (N4.gsub) (rbareC_fn _ s.forbids[k].cs (hL.f _ (List.getElem_mem hk))) (fun h U=>RoF.up (V4.trans U) (hP.below.f _ (List.getElem_mem hk))) [] sH ?CNa8 ?_
  case CNa8=>rfl
  rintro _ x G5 h5 N5 J5
  conv=>whnf
  try refine oB ?_
  (try refine gR ?_);conv=>whnf
  repeat ((first|(guard_target=_∧_;(fail_if_success refine oF ?_ ?_);(first|refine oL ?_|refine oR ?_|refine oB ?_))|(guard_target=Exists _;refine oM ?_));(try intro _);conv=>whnf)
  conv=>whnf
  have U5:=Now.step N4.gsub N5
  have er:rws FbV.row m++[FbV.row ⟨x,s.forbids[k].cs.map Cd.un⟩]=rws FbV.row (m++[⟨x,s.forbids[k].cs.map Cd.un⟩]):=rws_snoc m _
  have ea':(m++[(⟨x,s.forbids[k].cs.map Cd.un⟩:FbV)]).map FbV.bare=((s.forbids.take (k+1)).map FbV.un).map FbV.bare:=by
   rw [List.map_append,ea,take_snoc hk,List.map_append,List.map_append];rfl
  have em':(m++[(⟨x,s.forbids[k].cs.map Cd.un⟩:FbV)]).length=k+1:=by rw [List.length_append,em];rfl
  have ho':∀a∈m++[(⟨x,s.forbids[k].cs.map Cd.un⟩:FbV)],a.ok G5 h5:=mid_ok (fun a ha=>(ho a ha).up U5) J5
  refine And.intro (appOb2 (show (rws FbV.row m).length+1≤1000000 by omega)) ?_
  conv=>whnf
  repeat ((first|(guard_target=_∧_;(fail_if_success refine oF ?_ ?_);(first|refine oL ?_|refine oR ?_|refine oB ?_))|(guard_target=Exists _;refine oM ?_));(try intro _);conv=>whnf)
  (try refine gS ?_);conv=>whnf
  repeat ((first|(guard_target=_∧_;(fail_if_success refine oF ?_ ?_);(first|refine oL ?_|refine oR ?_))|(guard_target=Exists _;refine oM ?_));(try intro _);conv=>whnf)
  refine RunsS.rowsEq 5 er ?_;conv=>whnf
  refine RunsS.subR [(3,5)] (back (⟨k+1,m++[⟨x,s.forbids[k].cs.map Cd.un⟩],_,G5,h5⟩) (by exact (⟨N4.trans N5,U4.trans U5,hk,em',ea',ho'⟩)) (by (try dsimp only);omega)) sH sH
 obtain ⟨N4,U4,_,em,ea,ho⟩:=hJ
 have hk:k=s.forbids.length:=by omega
 rw [hk,List.take_length] at ea
 clear back
 obtain ⟨mf,hmf⟩:∃mf,mf=m:=⟨_,rfl⟩
 refine RunsS.rowsEq 3 (show rws FbV.row m=rws FbV.row mf by rw [hmf]) ?_
 conv=>whnf
 have V4:=V3.trans U4
 refine RunsS.concY (n:=mf.length) (N4.gsub) 3 ?_ (hlen:=(rws_len _ _))
 intro _ a4 c4 G5 h5 N5 R4
 conv=>whnf
 (try refine gS ?_);conv=>whnf
 have U5:=Now.step N4.gsub N5
 have V5:=V4.trans U5
 have T5:=N4.trans N5
 clear hk
 refine RunsS.subR (nx':=3) (l':=[(1,.ptr 0 0),(2,.ptr 1 0),(3,.ptr 2 0),(11,.v (.int .i64 0))]) (H':=[(0,.cells 32 [.v (.slice aU s.units.length cU),.v (.slice aI s.items.length cI),.v (.slice aP s.plants.length cP),.v (.slice aM s.machines.length cM),.v (.slice aO s.options.length cO),.v (.slice aF s.forbids.length cF),.v (.slice aR s.recipes.length cR),.v (.slice aS s.swaps.length cS)]),(1,.cells 32 [.v (.slice none 0 0),.v (.slice none 0 0),.v (.slice none 0 0),.v (.slice none 0 0),.v (.slice none 0 0),.v (.slice none 0 0),.v (.slice none 0 0),.v (.slice none 0 0)]),(2,.cells 32 [.v (.slice a1 (s.units.map unU).length c1),.v (.slice a2 (s.items.map It.un0).length c2),.v (.slice aP s.plants.length cP),.v (.slice a3 (s.machines.map Mc.un).length c3),.v (.slice aO s.options.length cO),.v (.slice a4 mf.length c4),.v (.slice none 0 0),.v (.slice none 0 0)])]) [] ?_ sH sH
 refine RunsS.nilOwn (l':=[(1,.ptr 0 0),(2,.ptr 1 0),(3,.ptr 2 0),(11,.v (.int .i64 0))]) (H':=[(0,.cells 32 [.v (.slice aU s.units.length cU),.v (.slice aI s.items.length cI),.v (.slice aP s.plants.length cP),.v (.slice aM s.machines.length cM),.v (.slice aO s.options.length cO),.v (.slice aF s.forbids.length cF),.v (.slice aR s.recipes.length cR),.v (.slice aS s.swaps.length cS)]),(1,.cells 32 [.v (.slice none 0 0),.v (.slice none 0 0),.v (.slice none 0 0),.v (.slice none 0 0),.v (.slice none 0 0),.v (.slice none 0 0),.v (.slice none 0 0),.v (.slice none 0 0)]),(2,.cells 32 [.v (.slice a1 (s.units.map unU).length c1),.v (.slice a2 (s.items.map It.un0).length c2),.v (.slice aP s.plants.length cP),.v (.slice a3 (s.machines.map Mc.un).length c3),.v (.slice aO s.options.length cO),.v (.slice a4 mf.length c4),.buf 3,.v (.slice none 0 0)])]) 61 17 ?_ (by rfl) (by rfl) (by rfl)
 refine RunsS.subR [] (RunsS.loopB (fun (⟨k,m,F',G',h'⟩:Nat×List RcV×(Nat→Prop)×(Nat→Prop)×Array Obj)=>(F',h')) (fun (⟨k,m,F',G',h'⟩:Nat×List RcV×(Nat→Prop)×(Nat→Prop)×Array Obj)=>[(1,.ptr 0 0),(2,.ptr 1 0),(3,.ptr 2 0),(11,.v (.int .i64 k))]) (fun (⟨k,m,F',G',h'⟩:Nat×List RcV×(Nat→Prop)×(Nat→Prop)×Array Obj)=>[(0,.cells 32 [.v (.slice aU s.units.length cU),.v (.slice aI s.items.length cI),.v (.slice aP s.plants.length cP),.v (.slice aM s.machines.length cM),.v (.slice aO s.options.length cO),.v (.slice aF s.forbids.length cF),.v (.slice aR s.recipes.length cR),.v (.slice aS s.swaps.length cS)]),(1,.cells 32 [.v (.slice none 0 0),.v (.slice none 0 0),.v (.slice none 0 0),.v (.slice none 0 0),.v (.slice none 0 0),.v (.slice none 0 0),.v (.slice none 0 0),.v (.slice none 0 0)]),(2,.cells 32 [.v (.slice a1 (s.units.map unU).length c1),.v (.slice a2 (s.items.map It.un0).length c2),.v (.slice aP s.plants.length cP),.v (.slice a3 (s.machines.map Mc.un).length c3),.v (.slice aO s.options.length cO),.v (.slice a4 mf.length c4),.buf 3,.v (.slice none 0 0)]),(3,.own 61 17 (rws RcV.row m))]) 4 (fun (⟨k,m,F',G',h'⟩:Nat×List RcV×(Nat→Prop)×(Nat→Prop)×Array Obj)=>Now F G h F' G' h'∧Up G5 h5 G' h'∧k≤s.recipes.length∧m.length=k∧m.map RcV.bare=((s.recipes.take k).map RcV.un).map RcV.bare ∧ ∀a∈m,a.ok G' h') (fun (⟨k,m,F',G',h'⟩:Nat×List RcV×(Nat→Prop)×(Nat→Prop)×Array Obj)=>s.recipes.length - k) ?round10 (⟨0,[],_,G5,h5⟩) ?J010) sH sH
 case J010=>exact (⟨T5,Up.refl _ _,Nat.zero_le _,rfl,rfl,fun _ h=>absurd h List.not_mem_nil⟩)
 rintro ⟨k,m,F',G',h'⟩ hJ back
 try dsimp only at hJ back
 conv=>whnf
 try dsimp only
 refine gS ?_;conv=>whnf
 refine ⟨fun hk=>?_,fun hk=>?_⟩<;>conv=>whnf
 ·obtain ⟨N6,U6,_,em,ea2,ho3⟩:=hJ
  have hk:k<s.recipes.length:=by omega
  have V6:=V5.trans U6
  have W6:Up G h _ h':=V6.trans ⟨N6.gsub,fun _ _=>rfl⟩
  obtain ⟨g,o,rfl,hrl,hrow⟩:=rof_at (RoF.up W6 hP.R) (rws_get hk)
  obtain ⟨bc,bi,bo,bn⟩:=hL.r _ (List.getElem_mem hk)
  have hbr:=hP.below.r _ (List.getElem_mem hk)
  have el:(rws RcV.row m).length=k:=by rw [rws_len];exact em
  conv=>whnf
  refine RunsS.held tab (.fl 0 (.fl 1 (.fl 2 (.fl 3 (.fl 4 (.fl 5 (.fl 6 (.e1 7 [1] (.e1 8 [1] (.e1 9 [] (.fl 10 (.e1 11 [] .done)))))))))))) (by kernel_rfl) ?_;conv=>whnf
  (try refine gR ?_);conv=>whnf
  repeat ((first|(guard_target=_∧_;(fail_if_success refine oF ?_ ?_);(first|refine oL ?_|refine oR ?_|refine oB ?_))|(guard_target=Exists _;refine oM ?_));(try intro _);conv=>whnf)
  conv=>whnf
  refine ⟨_,⟨hrl,hrow⟩,?_⟩;conv=>whnf
  conv=>whnf
  refine EffR.callY (N6.gsub) (rbareR_fn s.recipes[k] bc bi bo bn) (fun h U=>hbr.up (V6.trans U)) [] sH ?CNa11 ?_
  case CNa11=>rfl
  rintro _ x Ga ha Na Ja
  conv=>whnf
  try refine oB ?_
  (try refine gR ?_);conv=>whnf
  repeat ((first|(guard_target=_∧_;(fail_if_success refine oF ?_ ?_);(first|refine oL ?_|refine oR ?_|refine oB ?_))|(guard_target=Exists _;refine oM ?_));(try intro _);conv=>whnf)
  conv=>whnf
  have Ub:=Now.step N6.gsub Na
  have er:rws RcV.row m++[RcV.row x]=rws RcV.row (m++[x]):=rws_snoc m _
  have ea':(m++[x]).map RcV.bare=((s.recipes.take (k+1)).map RcV.un).map RcV.bare:=by
   rw [List.map_append,ea2,take_snoc hk,List.map_append,List.map_append]
   show _++[x.bare]=_
   rw [Ja.t];rfl
  have em':(m++[x]).length=k+1:=by rw [List.length_append,em];rfl
  have ho':∀a∈m++[x],a.ok Ga ha:=mid_ok (p:=fun a:RcV=>a.ok Ga ha) (fun a ha=>(ho3 a ha).up Ub) Ja.ok
  refine And.intro (appOb2 (show (rws RcV.row m).length+1≤1000000 by omega)) ?_
  conv=>whnf
  repeat ((first|(guard_target=_∧_;(fail_if_success refine oF ?_ ?_);(first|refine oL ?_|refine oR ?_|refine oB ?_))|(guard_target=Exists _;refine oM ?_));(try intro _);conv=>whnf)
  (try refine gS ?_);conv=>whnf
  repeat ((first|(guard_target=_∧_;(fail_if_success refine oF ?_ ?_);(first|refine oL ?_|refine oR ?_))|(guard_target=Exists _;refine oM ?_));(try intro _);conv=>whnf)
  refine RunsS.rowsEq 5 er ?_;conv=>whnf
  refine RunsS.subR [(3,5)] (back (⟨k+1,m++[x],_,Ga,ha⟩) (by exact (⟨N6.trans Na,U6.trans Ub,hk,em',ea',ho'⟩)) (by (try dsimp only);omega)) sH sH
 obtain ⟨N6,U6,_,em,er,ho2⟩:=hJ
 have hk:k=s.recipes.length:=by omega
 rw [hk,List.take_length] at er
 clear back
 obtain ⟨mr,hmr⟩:∃mr,mr=m:=⟨_,rfl⟩
 refine RunsS.rowsEq 3 (show rws RcV.row m=rws RcV.row mr by rw [hmr]) ?_
 conv=>whnf
 have V6:=V5.trans U6
 refine RunsS.concY (n:=mr.length) (N6.gsub) 3 ?_ (hlen:=(rws_len _ _))
 intro _ a5 c5 G7 h7 N7 R5
 conv=>whnf
 (try refine gS ?_);conv=>whnf
 have U7:=Now.step N6.gsub N7
 have V7:=V6.trans U7
 have T7:=N6.trans N7
 have W7:Up G h _ h7:=V7.trans ⟨N7.gsub,fun _ _=>rfl⟩
 clear hk
 refine RunsS.subR (nx':=3) (l':=[(1,.ptr 0 0),(2,.ptr 1 0),(3,.ptr 2 0),(12,.v (.int .i64 0))]) (H':=[(0,.cells 32 [.v (.slice aU s.units.length cU),.v (.slice aI s.items.length cI),.v (.slice aP s.plants.length cP),.v (.slice aM s.machines.length cM),.v (.slice aO s.options.length cO),.v (.slice aF s.forbids.length cF),.v (.slice aR s.recipes.length cR),.v (.slice aS s.swaps.length cS)]),(1,.cells 32 [.v (.slice none 0 0),.v (.slice none 0 0),.v (.slice none 0 0),.v (.slice none 0 0),.v (.slice none 0 0),.v (.slice none 0 0),.v (.slice none 0 0),.v (.slice none 0 0)]),(2,.cells 32 [.v (.slice a1 (s.units.map unU).length c1),.v (.slice a2 (s.items.map It.un0).length c2),.v (.slice aP s.plants.length cP),.v (.slice a3 (s.machines.map Mc.un).length c3),.v (.slice aO s.options.length cO),.v (.slice a4 mf.length c4),.v (.slice a5 mr.length c5),.v (.slice none 0 0)])]) [] ?_ sH sH
 refine RunsS.nilOwn (l':=[(1,.ptr 0 0),(2,.ptr 1 0),(3,.ptr 2 0),(12,.v (.int .i64 0))]) (H':=[(0,.cells 32 [.v (.slice aU s.units.length cU),.v (.slice aI s.items.length cI),.v (.slice aP s.plants.length cP),.v (.slice aM s.machines.length cM),.v (.slice aO s.options.length cO),.v (.slice aF s.forbids.length cF),.v (.slice aR s.recipes.length cR),.v (.slice aS s.swaps.length cS)]),(1,.cells 32 [.v (.slice none 0 0),.v (.slice none 0 0),.v (.slice none 0 0),.v (.slice none 0 0),.v (.slice none 0 0),.v (.slice none 0 0),.v (.slice none 0 0),.v (.slice none 0 0)]),(2,.cells 32 [.v (.slice a1 (s.units.map unU).length c1),.v (.slice a2 (s.items.map It.un0).length c2),.v (.slice aP s.plants.length cP),.v (.slice a3 (s.machines.map Mc.un).length c3),.v (.slice aO s.options.length cO),.v (.slice a4 mf.length c4),.v (.slice a5 mr.length c5),.buf 3])]) 89 4 ?_ (by rfl) (by rfl) (by rfl)
 refine RunsS.nameCell (fun _ x=>x) 0 7 (by exact RoF.up W7 hP.S) ?_
 conv=>whnf
 (try refine gS ?_);conv=>whnf
 have lS:=rws_len Sw.row s.swaps
 refine RunsS.subR [] (RunsS.loop (fun (k:Nat)=>[(1,.ptr 0 0),(2,.ptr 1 0),(3,.ptr 2 0),(12,.v (.int .i64 k))]) (fun (k:Nat)=>[(0,.cells 32 [.v (.slice aU s.units.length cU),.v (.slice aI s.items.length cI),.v (.slice aP s.plants.length cP),.v (.slice aM s.machines.length cM),.v (.slice aO s.options.length cO),.v (.slice aF s.forbids.length cF),.v (.slice aR s.recipes.length cR),.buf 4]),(1,.cells 32 [.v (.slice none 0 0),.v (.slice none 0 0),.v (.slice none 0 0),.v (.slice none 0 0),.v (.slice none 0 0),.v (.slice none 0 0),.v (.slice none 0 0),.v (.slice none 0 0)]),(2,.cells 32 [.v (.slice a1 (s.units.map unU).length c1),.v (.slice a2 (s.items.map It.un0).length c2),.v (.slice aP s.plants.length cP),.v (.slice a3 (s.machines.map Mc.un).length c3),.v (.slice aO s.options.length cO),.v (.slice a4 mf.length c4),.v (.slice a5 mr.length c5),.buf 3]),(4,.ro 4 (rws Sw.row s.swaps)),(3,.own 89 4 (rws Sw.row ((s.swaps.take k).map Sw.un)))]) 5 (fun (k:Nat)=>k≤s.swaps.length) (fun (k:Nat)=>s.swaps.length - k) ?round13 (0) ?J013) sH sH
 case J013=>first|omega|trivial
 rintro k hJ back
 conv=>whnf
 refine gS ?_;conv=>whnf
 refine ⟨fun hk=>?_,fun hk=>?_⟩<;>conv=>whnf
 ·have hk:k<s.swaps.length:=by omega
  have el:(rws Sw.row ((s.swaps.take k).map Sw.un)).length=k:=by rw [rws_len,List.length_map,List.length_take];omega
  conv=>whnf
  refine RunsS.held tab (.fl 0 (.fl 1 (.fl 2 (.fl 3 (.fl 4 (.fl 5 (.fl 6 (.fl 7 (.fl 8 (.fl 9 (.fl 10 (.fl 11 (.fl 12 (.fl 13 (.fl 14 (.e1 15 [1] (.e1 16 [] (.fl 17 (.e1 18 [] .done))))))))))))))))))) (by kernel_rfl) ?_;conv=>whnf
  (try refine gR ?_);conv=>whnf
  repeat ((first|(guard_target=_∧_;(fail_if_success refine oF ?_ ?_);(first|refine oL ?_|refine oR ?_|refine oB ?_))|(guard_target=Exists _;refine oM ?_));(try intro _);conv=>whnf)
  conv=>whnf
  refine ⟨_,rws_get hk,?_⟩;conv=>whnf
  try (refine And.intro (by first|omega|exact Nat.le_of_ble_eq_true rfl) ?_;(try intro _);conv=>whnf)
  conv=>whnf
  refine ⟨_,rws_get hk,?_⟩;conv=>whnf
  conv=>whnf
  repeat ((first|(guard_target=_∧_;(fail_if_success refine oF ?_ ?_);(first|refine oL ?_|refine oR ?_|refine oB ?_))|(guard_target=Exists _;refine oM ?_));(try intro _);conv=>whnf)
  conv=>whnf
  refine And.intro (appOb2 (show (rws Sw.row ((s.swaps.take k).map Sw.un)).length+1≤1000000 by omega)) ?_
  conv=>whnf
  repeat ((first|(guard_target=_∧_;(fail_if_success refine oF ?_ ?_);(first|refine oL ?_|refine oR ?_|refine oB ?_))|(guard_target=Exists _;refine oM ?_));(try intro _);conv=>whnf)
  (try refine gS ?_);conv=>whnf
  repeat ((first|(guard_target=_∧_;(fail_if_success refine oF ?_ ?_);(first|refine oL ?_|refine oR ?_))|(guard_target=Exists _;refine oM ?_));(try intro _);conv=>whnf)
  refine RunsS.rowsEq 6 (snoc_map (f:=Sw.row) (g:=Sw.un) hk) ?_;conv=>whnf
  refine RunsS.subR [(3,6)] (back (k+1) (by (try dsimp only);first|omega|trivial) (by (try dsimp only);omega)) sH sH
 have hk:k=s.swaps.length:=by omega
 clear back
 conv=>whnf
 refine RunsS.rowsEq 3 (show rws Sw.row ((s.swaps.take k).map Sw.un)=rws Sw.row (s.swaps.map Sw.un) by rw [hk,List.take_length]) ?_
 conv=>whnf
 refine RunsS.concY (n:=(s.swaps.map Sw.un).length) (N7.gsub) 3 ?_ (hlen:=(rws_len _ _))
 intro _ a6 c6 G8 h8 N8 R6
 conv=>whnf
 (try refine gS ?_);conv=>whnf
 have U8:=Now.step N7.gsub N8
 try refine RunsS.retU ?_
 exact UnwS.ret tab Tryz.func18 rfl (eX (T7.trans N8) (⟨⟨s.units.map unU,s.items.map It.un0,s.plants,s.machines.map Mc.un,s.options,mf,mr,s.swaps.map Sw.un⟩,_,_,_,_,_,_,_,_⟩) (fun h U=>un_end hmf hmr ea er U (U8.trans U) R6 R5 (RoF.up (U6.trans (U7.trans (U8.trans U))) R4) (RoF.up (U4.trans (U5.trans (U6.trans (U7.trans (U8.trans U))))) R3) (RoF.up (U3.trans (U4.trans (U5.trans (U6.trans (U7.trans (U8.trans U)))))) R2) (RoF.up (U2.trans (U3.trans (U4.trans (U5.trans (U6.trans (U7.trans (U8.trans U))))))) R1) (fun a ha=>(ho a ha).up (U5.trans (U6.trans (U7.trans (U8.trans U))))) (fun a ha=>(ho2 a ha).up (U7.trans (U8.trans U))) (hP.up (V7.trans (U8.trans U)))))
end
end Go.Proofs.YtgbeechjghajcaaGreatDoor

namespace Go.SynM
open Go Go.Fw Go.RatM Go.SrcM
theorem sum_le {α:Type} {f:α→Nat} {m:Nat}:∀(l:List α),(∀x∈l,f x≤m)→(l.map f).sum≤l.length*m
 | [],_=>Nat.zero_le _
 |x::l,h=>by
  rw [List.map_cons,List.sum_cons,List.length_cons,Nat.succ_mul]
  have:=sum_le l fun y hy=>h y (List.mem_cons_of_mem _ hy)
  have:=h x (List.mem_cons_self ..)
  omega
theorem sum_to {α:Type} {f:α→Nat} {m n:Nat} {l:List α} (h:∀x∈l,f x≤m) (hn:l.length≤n):(l.map f).sum≤n*m:=Nat.le_trans (sum_le l h) (Nat.mul_le_mul_right m hn)
theorem good_ttl {N:ByteArray→Prop} {s:SrcV} (h:s.good N):ttl s≤14486:=by
 have a1:=sum_to (f:=fun _:Un=>8) (m:=8) (fun _ _=>Nat.le_refl _) h.lU
 have a2:=sum_to (f:=fun _:It=>12) (m:=12) (fun _ _=>Nat.le_refl _) h.lI
 have a3:=sum_to (f:=fun _:ByteArray=>3) (m:=3) (fun _ _=>Nat.le_refl _) h.lP
 have a4:=sum_to (f:=fun _:Mc=>7) (m:=7) (fun _ _=>Nat.le_refl _) h.lM
 have a5:=sum_to (f:=lenO) (m:=13) (fun o ho=>by have:=(h.O o ho).2.1.2;unfold lenO;omega) h.lO
 have a6:=sum_to (f:=lenF) (m:=26) (fun o ho=>by have:=(h.F o ho).1.2;unfold lenF;omega) h.lF
 have a7:=sum_to (f:=lenR) (m:=204) (fun o ho=>by
  have q:=h.R o ho
  have:=q.cl;have:=q.il;have:=q.ol;have:=q.rl
  unfold lenR;omega) h.lR
 have a8:=sum_to (f:=fun _:Sw=>5) (m:=5) (fun _ _=>Nat.le_refl _) h.lS
 unfold ttl
 omega
theorem good_lens {N:ByteArray→Prop} {s:SrcV} (h:s.good N):Lens s:=
 ⟨Nat.le_trans h.lU (by decide),Nat.le_trans h.lI (by decide),Nat.le_trans h.lP (by decide),Nat.le_trans h.lM (by decide),Nat.le_trans h.lO (by decide),Nat.le_trans h.lF (by decide),Nat.le_trans h.lR (by decide),Nat.le_trans h.lS (by decide),
  fun o ho=>Nat.le_trans (h.O o ho).2.1.2 (by decide),fun o ho=>Nat.le_trans (h.F o ho).1.2 (by decide),fun r hr=>⟨Nat.le_trans (h.R r hr).cl (by decide),Nat.le_trans (h.R r hr).il (by decide),Nat.le_trans (h.R r hr).ol (by decide),Nat.le_trans (h.R r hr).rl (by decide)⟩⟩
theorem bare_un (s:SrcV):s.bare.un=s.un:=by
 unfold SrcV.bare SrcV.un
 simp only [List.map_map];rfl
theorem un_bare (s:SrcV):s.un.bare=s.un:=by
 unfold SrcV.bare SrcV.un
 simp only [List.map_map];rfl
theorem un_self {s x:SrcV} (h:s.bare=x) (hx:x.un=x):s.un.bare=s.bare:=by rw [un_bare,←bare_un,h,hx]
end Go.SynM
namespace Go.Proofs.YtgbeechjghajcaaGreatDoor
open Go Go.Fw Go.NatM Go.RatM Go.SrcM Go.SynM
set_option maxRecDepth 100000
set_option maxHeartbeats 99999999
theorem synAgain_fn (src:ByteArray):FnX Tryz.prog 6 0 [.v (.string src)] [] (fun G h=>PowT G h) (fun (_:Unit) _ _=>True) (fun _=>.ret (.v (.bool true)) 0 []):=by
 refine FnX.of Tryz.func6 (by kernel_rfl) rfl Tryz.ntmps6 rfl fun E0 F G h N hP w0 cs=>?_
 conv=>whnf
 refine gS ?_;conv=>whnf
 refine RunsS.callY (N.gsub) (sane_syn_fn) (fun h U=>hP.up U) [] sH ?CNa1 ?_
 case CNa1=>rfl
 rintro _ _ G1 h1 N1 J1
 conv=>whnf
 (try refine gS ?_);conv=>whnf
 refine ⟨fun z1=>?_,fun z1=>?_⟩<;>conv=>whnf
 ·try refine gS ?_
  conv=>whnf
  try refine RunsS.retU ?_
  exact UnwS.ret tab Tryz.func6 rfl (eX (N1) (()) (fun _ _=>trivial))
 (try refine gS ?_);conv=>whnf
 have hl:src.size≤65536:=by omega
 refine RunsS.callY (N1.gsub) (parse_fn src hl) (fun _ _=>trivial) [] sH ?CNa2 ?_
 case CNa2=>rfl
 rintro _ ⟨s1,a1,e1,y1,y2,y3,y4,y5,y6,y7,y8⟩ G2 h2 N2 J2
 have T2:TopF G2 h2 y1 y2 y3 y4 y5 y6 y7 y8 s1:=J2.top
 obtain ⟨pU2,qU2,pI2,qI2,pP2,qP2,pM2,qM2,pO2,qO2,pF2,qF2,pR2,qR2,pS2,qS2,rfl,rfl,rfl,rfl,rfl,rfl,rfl,rfl⟩:=topShapes T2
 conv=>whnf
 refine RunsS.subR (nx':=0) (l':=[(18,.tup [.agg [.v (.slice pU2 s1.units.length qU2),.v (.slice pI2 s1.items.length qI2),.v (.slice pP2 s1.plants.length qP2),.v (.slice pM2 s1.machines.length qM2),.v (.slice pO2 s1.options.length qO2),.v (.slice pF2 s1.forbids.length qF2),.v (.slice pR2 s1.recipes.length qR2),.v (.slice pS2 s1.swaps.length qS2)],intA a1,intA e1])]) (H':=[]) [] ?_ sH sH
 (try refine gS ?_);conv=>whnf
 refine ⟨fun he=>?_,fun he=>?_⟩<;>conv=>whnf
 rotate_left
 ·have hs:s1=noSrc:=by
   cases hp:parseP src with
   |inl x=>rw [hp] at J2;exact absurd J2.res.2.2 he
   |inr q=>rw [hp] at J2;exact J2.res.1
  (try refine gS ?_);conv=>whnf
  refine RunsS.callT (Two2T.tok _ _ _ _ _ _ _ _ _ _ _ _ _ _ _ _ _ _) (⟨T2.up ⟨N2.gsub,fun _ _=>rfl⟩,TopF.none _ _⟩) (sSameY_fn (b:=noSrc) (show s1.bare=noSrc.bare by rw [hs])) [] sH ?CNa3 ?_
  case CNa3=>rfl
  intro _ _
  conv=>whnf
  (try refine gS ?_);conv=>whnf
  try refine RunsS.retU ?_
  exact UnwS.ret tab Tryz.func6 rfl (eX (N1.trans N2) (()) (fun _ _=>trivial))
 cases hp:parseP src with
 |inr q=>
  rw [hp] at J2
  exact absurd (J2.res.2.2.symm.trans (by omega)) (parse_err hp)
 |inl x=>
  rw [hp] at J2
  obtain ⟨q1,q2,q3⟩:=J2.res
  simp only at q1 q2 q3
  subst q2 q3
  obtain ⟨g1,g2⟩:=parse_good hp
  have hg:s1.good NmP:=good_bare.1 (by rw [q1];exact g1)
  have hu:=un_self q1 g2
  have ht:=good_ttl hg
  refine RunsS.subR (nx':=1) (l':=[(3,.ptr 0 0),(4,intA 0),(28,.agg [.v (.slice pU2 s1.units.length qU2),.v (.slice pI2 s1.items.length qI2),.v (.slice pP2 s1.plants.length qP2),.v (.slice pM2 s1.machines.length qM2),.v (.slice pO2 s1.options.length qO2),.v (.slice pF2 s1.forbids.length qF2),.v (.slice pR2 s1.recipes.length qR2),.v (.slice pS2 s1.swaps.length qS2)])]) (H':=[(0,.cells 32 [.v (.slice pU2 s1.units.length qU2),.v (.slice pI2 s1.items.length qI2),.v (.slice pP2 s1.plants.length qP2),.v (.slice pM2 s1.machines.length qM2),.v (.slice pO2 s1.options.length qO2),.v (.slice pF2 s1.forbids.length qF2),.v (.slice pR2 s1.recipes.length qR2),.v (.slice pS2 s1.swaps.length qS2)])]) [] ?_ sH sH
  have hP2:=(hP.up ((Now.step N.gsub N1).trans (Now.step N1.gsub N2))).up ⟨N2.gsub,fun _ _=>rfl⟩
  have C:=print_fn (vU:=.slice pU2 s1.units.length qU2) (vI:=.slice pI2 s1.items.length qI2) (vP:=.slice pP2 s1.plants.length qP2) (vM:=.slice pM2 s1.machines.length qM2) (vO:=.slice pO2 s1.options.length qO2) (vF:=.slice pF2 s1.forbids.length qF2) (vR:=.slice pR2 s1.recipes.length qR2) (vS:=.slice pS2 s1.swaps.length qS2) s1 (by omega)
  rw [print_ok hg] at C
  refine RunsS.callT (TopW.tok _ _ _ _ _ _ _ _ _) (⟨T2.up ⟨N2.gsub,fun _ _=>rfl⟩,hP2⟩) (C) [] sH ?CNa4 ?_
  case CNa4=>rfl
  intro _ _
  conv=>whnf
  (try refine gS ?_);conv=>whnf
  refine RunsS.subR (nx':=1) (l':=[(3,.ptr 0 0),(4,intA 0),(6,.v (.string (joinB (srcT s1)))),(7,intA 0)]) (H':=[(0,.cells 32 [.v (.slice pU2 s1.units.length qU2),.v (.slice pI2 s1.items.length qI2),.v (.slice pP2 s1.plants.length qP2),.v (.slice pM2 s1.machines.length qM2),.v (.slice pO2 s1.options.length qO2),.v (.slice pF2 s1.forbids.length qF2),.v (.slice pR2 s1.recipes.length qR2),.v (.slice pS2 s1.swaps.length qS2)])]) [] ?_ sH sH
  refine RunsS.held tab (.fl 0 (.fl 1 (.fl 2 (.fl 3 (.fl 4 (.fl 5 (.fl 6 (.fl 7 (.fl 8 (.e1 9 [7] (.e1 10 [] (.fl 11 (.fl 12 .done))))))))))))) (by kernel_rfl) ?_;conv=>whnf
  (try refine gR ?_);conv=>whnf
  repeat ((first|(guard_target=_∧_;(first|refine oL ?_|refine oR ?_|refine oB ?_))|(guard_target=Exists _;refine oM ?_));(try intro _);conv=>whnf)
  conv=>whnf
  refine EffR.callY (N2.gsub) (rUn_fn (vU:=.slice pU2 s1.units.length qU2) (vI:=.slice pI2 s1.items.length qI2) (vP:=.slice pP2 s1.plants.length qP2) (vM:=.slice pM2 s1.machines.length qM2) (vO:=.slice pO2 s1.options.length qO2) (vF:=.slice pF2 s1.forbids.length qF2) (vR:=.slice pR2 s1.recipes.length qR2) (vS:=.slice pS2 s1.swaps.length qS2) s1 (good_lens hg)) (fun h U=>T2.up U) [] sH ?CNa5 ?_
  case CNa5=>rfl
  rintro _ ⟨t3,u1,u2,u3,u4,u5,u6,u7,u8⟩ G3 h3 N3 J3
  conv=>whnf
  try refine oB ?_
  (try refine gR ?_);conv=>whnf
  conv=>whnf
  have r3:s1.bare=t3.bare:=(J3.t.trans hu).symm
  refine EffR.callT (Two2T.tok _ _ _ _ _ _ _ _ _ _ _ _ _ _ _ _ _ _) (⟨T2.up ((Now.step N2.gsub N3).trans ⟨N3.gsub,fun _ _=>rfl⟩),J3.top.up ⟨N3.gsub,fun _ _=>rfl⟩⟩) (sSameY_fn r3) [] ?_ sH ?CNa6
  case CNa6=>rfl
  intro _ _
  conv=>whnf
  try refine oB ?_
  (try refine gR ?_);conv=>whnf
  (try refine gS ?_);conv=>whnf
  refine RunsS.subR (nx':=1) (l':=[(3,.ptr 0 0),(6,.v (.string (joinB (srcT s1)))),(46,.v (.string (joinB (srcT s1))))]) (H':=[(0,.cells 32 [.v (.slice pU2 s1.units.length qU2),.v (.slice pI2 s1.items.length qI2),.v (.slice pP2 s1.plants.length qP2),.v (.slice pM2 s1.machines.length qM2),.v (.slice pO2 s1.options.length qO2),.v (.slice pF2 s1.forbids.length qF2),.v (.slice pR2 s1.recipes.length qR2),.v (.slice pS2 s1.swaps.length qS2)])]) [] ?_ sH sH
  by_cases hz:(joinB (srcT s1)).size≤65536
  ·refine RunsS.callY (N3.gsub) (parse_fn (joinB (srcT s1)) hz) (fun _ _=>trivial) [] sH ?CNa7 ?_
   case CNa7=>rfl
   rintro _ ⟨s4,a4,e4,y1,y2,y3,y4,y5,y6,y7,y8⟩ G4 h4 N4 J4
   have T4:TopF G4 h4 y1 y2 y3 y4 y5 y6 y7 y8 s4:=J4.top
   obtain ⟨pU4,qU4,pI4,qI4,pP4,qP4,pM4,qM4,pO4,qO4,pF4,qF4,pR4,qR4,pS4,qS4,rfl,rfl,rfl,rfl,rfl,rfl,rfl,rfl⟩:=topShapes T4
   rw [parse_text hg] at J4
   obtain ⟨k1,k2,k3⟩:=J4.res
   simp only at k1 k2 k3
   subst k2 k3
   conv=>whnf
   refine RunsS.subR (nx':=1) (l':=[(3,.ptr 0 0),(6,.v (.string (joinB (srcT s1)))),(47,.tup [.agg [.v (.slice pU4 s4.units.length qU4),.v (.slice pI4 s4.items.length qI4),.v (.slice pP4 s4.plants.length qP4),.v (.slice pM4 s4.machines.length qM4),.v (.slice pO4 s4.options.length qO4),.v (.slice pF4 s4.forbids.length qF4),.v (.slice pR4 s4.recipes.length qR4),.v (.slice pS4 s4.swaps.length qS4)],intA 0,intA 0])]) (H':=[(0,.cells 32 [.v (.slice pU2 s1.units.length qU2),.v (.slice pI2 s1.items.length qI2),.v (.slice pP2 s1.plants.length qP2),.v (.slice pM2 s1.machines.length qM2),.v (.slice pO2 s1.options.length qO2),.v (.slice pF2 s1.forbids.length qF2),.v (.slice pR2 s1.recipes.length qR2),.v (.slice pS2 s1.swaps.length qS2)])]) [] ?_ sH sH
   (try refine gS ?_);conv=>whnf
   repeat ((first|(guard_target=_∧_;(first|refine oL ?_|refine oR ?_))|(guard_target=Exists _;refine oM ?_));(try intro _);conv=>whnf)
   refine RunsS.callT (Two2T.tok _ _ _ _ _ _ _ _ _ _ _ _ _ _ _ _ _ _) (⟨T4.up ⟨N4.gsub,fun _ _=>rfl⟩,T2.up (((Now.step N2.gsub N3).trans (Now.step N3.gsub N4)).trans ⟨N4.gsub,fun _ _=>rfl⟩)⟩) (sSameY_fn (k1.trans ((un_bare s1).symm.trans hu))) [] sH ?CNa8 ?_
   case CNa8=>rfl
   intro _ _
   conv=>whnf
   (try refine gS ?_);conv=>whnf
   try refine RunsS.retU ?_
   exact UnwS.ret tab Tryz.func6 rfl (eX (((N1.trans N2).trans N3).trans N4) (()) (fun _ _=>trivial))
  refine RunsS.callY (N3.gsub) (parseBig_fn (joinB (srcT s1)) (by omega)) (fun _ _=>trivial) [] sH ?CNa9 ?_
  case CNa9=>rfl
  rintro _ ⟨s4,a4,e4,y1,y2,y3,y4,y5,y6,y7,y8⟩ G4 h4 N4 J4
  have T4:TopF G4 h4 y1 y2 y3 y4 y5 y6 y7 y8 s4:=J4.top
  obtain ⟨pU4,qU4,pI4,qI4,pP4,qP4,pM4,qM4,pO4,qO4,pF4,qF4,pR4,qR4,pS4,qS4,rfl,rfl,rfl,rfl,rfl,rfl,rfl,rfl⟩:=topShapes T4
  obtain ⟨k1,k2,k3⟩:=J4.res
  simp only at k1 k2 k3
  subst k2 k3
  conv=>whnf
  refine RunsS.subR (nx':=1) (l':=[(3,.ptr 0 0),(6,.v (.string (joinB (srcT s1)))),(47,.tup [.agg [.v (.slice pU4 s4.units.length qU4),.v (.slice pI4 s4.items.length qI4),.v (.slice pP4 s4.plants.length qP4),.v (.slice pM4 s4.machines.length qM4),.v (.slice pO4 s4.options.length qO4),.v (.slice pF4 s4.forbids.length qF4),.v (.slice pR4 s4.recipes.length qR4),.v (.slice pS4 s4.swaps.length qS4)],intA 0,intA 2])]) (H':=[(0,.cells 32 [.v (.slice pU2 s1.units.length qU2),.v (.slice pI2 s1.items.length qI2),.v (.slice pP2 s1.plants.length qP2),.v (.slice pM2 s1.machines.length qM2),.v (.slice pO2 s1.options.length qO2),.v (.slice pF2 s1.forbids.length qF2),.v (.slice pR2 s1.recipes.length qR2),.v (.slice pS2 s1.swaps.length qS2)])]) [] ?_ sH sH
  (try refine gS ?_);conv=>whnf
  repeat ((first|(guard_target=_∧_;(first|refine oL ?_|refine oR ?_))|(guard_target=Exists _;refine oM ?_));(try intro _);conv=>whnf)
  try refine RunsS.retU ?_
  exact UnwS.ret tab Tryz.func6 rfl (eX (((N1.trans N2).trans N3).trans N4) (()) (fun _ _=>trivial))
end Go.Proofs.YtgbeechjghajcaaGreatDoor

namespace Go.SynM
open Go Go.Fw Go.RatM Go.SrcM
theorem sum_mul {α:Type} {f g:α→Nat} {m:Nat} (h:∀x,f x≤m*g x):∀l:List α,(l.map f).sum≤m*(l.map g).sum
 | []=>Nat.zero_le _
 |x::l=>by
  rw [List.map_cons,List.sum_cons,List.map_cons,List.sum_cons,Nat.mul_add]
  have:=sum_mul h l
  have:=h x
  omega
theorem few_ttl (s:SrcV):ttl s≤30*fewN s:=by
 have b1:=sum_le (f:=fun _:Un=>8) s.units fun _ _=>Nat.le_refl _
 have b2:=sum_le (f:=fun _:It=>12) s.items fun _ _=>Nat.le_refl _
 have b3:=sum_le (f:=fun _:ByteArray=>3) s.plants fun _ _=>Nat.le_refl _
 have b4:=sum_le (f:=fun _:Mc=>7) s.machines fun _ _=>Nat.le_refl _
 have b5:=sum_mul (f:=lenO) (g:=fwO) (m:=30) (fun o=>by unfold lenO;simp only [fwO];omega) s.options
 have b6:=sum_mul (f:=lenF) (g:=fwF) (m:=30) (fun o=>by unfold lenF;simp only [fwF];omega) s.forbids
 have b7:=sum_mul (f:=lenR) (g:=fwR) (m:=30) (fun o=>by unfold lenR;simp only [fwR];omega) s.recipes
 have b8:=sum_le (f:=fun _:Sw=>5) s.swaps fun _ _=>Nat.le_refl _
 unfold ttl fewN
 omega
end Go.SynM
namespace Go.Proofs.YtgbeechjghajcaaGreatDoor
open Go Go.Fw Go.NatM Go.RatM Go.SrcM Go.SynM
set_option maxRecDepth 100000
set_option maxHeartbeats 99999999
section
variable {vU vI vP vM vO vF vR vS:Value}
theorem synBack_fn (s:SrcV) (hB:SrcM.fewN s≤4000000000000000000):FnX Tryz.prog 5 0 [srcA vU vI vP vM vO vF vR vS] [] (TopW vU vI vP vM vO vF vR vS s) (fun (_:Unit) _ _=>True) (fun _=>.ret (.v (.bool true)) 0 []):=by
 refine FnX.of Tryz.func5 (by kernel_rfl) rfl Tryz.ntmps5 rfl fun E0 F G h N hP w0 cs=>?_
 conv=>whnf
 refine gS ?_;conv=>whnf
 repeat ((first|(guard_target=_∧_;(first|refine oL ?_|refine oR ?_))|(guard_target=Exists _;refine oM ?_));(try intro _);conv=>whnf)
 refine RunsS.callY (N.gsub) (sane_syn_fn) (fun h U=>hP.2.up U) [] sH ?CNa1 ?_
 case CNa1=>rfl
 rintro _ _ G1 h1 N1 J1
 conv=>whnf
 (try refine gS ?_);conv=>whnf
 repeat ((first|(guard_target=_∧_;(first|refine oL ?_|refine oR ?_))|(guard_target=Exists _;refine oM ?_));(try intro _);conv=>whnf)
 have V1:=Now.step N.gsub N1
 refine RunsS.callT (TopF.tok _ _ _ _ _ _ _ _ _) (hP.1.up (V1.trans ⟨N1.gsub,fun _ _=>rfl⟩)) (sFew_fn s hB) [] sH ?CNa2 ?_
 case CNa2=>rfl
 rintro _ _
 by_cases hf:SrcM.fewN s≤160
 rotate_left
 ·rw [decide_eq_false hf]
  conv=>whnf
  (try refine gS ?_);conv=>whnf
  repeat ((first|(guard_target=_∧_;(first|refine oL ?_|refine oR ?_))|(guard_target=Exists _;refine oM ?_));(try intro _);conv=>whnf)
  try refine RunsS.retU ?_
  try refine RunsS.finU ?_
  exact UnwS.ret tab Tryz.func5 rfl (eX (N1) (()) (fun _ _=>trivial))
 rw [decide_eq_true hf]
 conv=>whnf
 (try refine gS ?_);conv=>whnf
 repeat ((first|(guard_target=_∧_;(first|refine oL ?_|refine oR ?_))|(guard_target=Exists _;refine oM ?_));(try intro _);conv=>whnf)
 have hL:=fewN_lens hf (by decide)
 have hT:=few_ttl s
 have C:=print_fn (vU:=vU) (vI:=vI) (vP:=vP) (vM:=vM) (vO:=vO) (vF:=vF) (vR:=vR) (vS:=vS) s (by omega)
 have hW:=hP.1.up (V1.trans ⟨N1.gsub,fun _ _=>rfl⟩)
 by_cases hg:s.good NmP
 rotate_left
 ·rw [print_no hg] at C
  refine RunsS.callT (TopW.tok _ _ _ _ _ _ _ _ _) (⟨hW,hP.2.up (V1.trans ⟨N1.gsub,fun _ _=>rfl⟩)⟩) (C) [] sH ?CNa3 ?_
  case CNa3=>rfl
  intro _ _
  conv=>whnf
  (try refine gS ?_);conv=>whnf
  repeat ((first|(guard_target=_∧_;(first|refine oL ?_|refine oR ?_))|(guard_target=Exists _;refine oM ?_));(try intro _);conv=>whnf)
  try refine RunsS.retU ?_
  try refine RunsS.finU ?_
  exact UnwS.ret tab Tryz.func5 rfl (EndX.mk (N1) (()) (fun _ _=>trivial) [] sH rfl rfl (okRet rfl (congrArg (fun b=>SV.v (Value.bool b)) (decide_eq_true rfl))))
 rw [print_ok hg] at C
 refine RunsS.callT (TopW.tok _ _ _ _ _ _ _ _ _) (⟨hW,hP.2.up (V1.trans ⟨N1.gsub,fun _ _=>rfl⟩)⟩) (C) [] sH ?CNa4 ?_
 case CNa4=>rfl
 intro _ _
 conv=>whnf
 (try refine gS ?_);conv=>whnf
 repeat ((first|(guard_target=_∧_;(first|refine oL ?_|refine oR ?_))|(guard_target=Exists _;refine oM ?_));(try intro _);conv=>whnf)
 refine ⟨fun hz=>?_,fun hz=>?_⟩<;>conv=>whnf
 ·try refine gS ?_
  conv=>whnf
  repeat ((first|(guard_target=_∧_;(first|refine oL ?_|refine oR ?_))|(guard_target=Exists _;refine oM ?_));(try intro _);conv=>whnf)
  try refine RunsS.retU ?_
  try refine RunsS.finU ?_
  exact UnwS.ret tab Tryz.func5 rfl (eX (N1) (()) (fun _ _=>trivial))
 refine RunsS.subR (nx':=1) (l':=[(1,.ptr 0 0),(3,.v (.string (joinB (srcT s)))),(34,.v (.string (joinB (srcT s))))]) (H':=[(0,.cells 32 [.v vU,.v vI,.v vP,.v vM,.v vO,.v vF,.v vR,.v vS])]) [] ?_ sH sH
 have hz2:(joinB (srcT s)).size≤65536:=by simp only at hz;omega
 refine RunsS.callY (N1.gsub) (parse_fn (joinB (srcT s)) hz2) (fun _ _=>trivial) [] sH ?CNa5 ?_
 case CNa5=>rfl
 rintro _ ⟨s4,a4,e4,y1,y2,y3,y4,y5,y6,y7,y8⟩ G4 h4 N4 J4
 have T4:TopF G4 h4 y1 y2 y3 y4 y5 y6 y7 y8 s4:=J4.top
 obtain ⟨pU4,qU4,pI4,qI4,pP4,qP4,pM4,qM4,pO4,qO4,pF4,qF4,pR4,qR4,pS4,qS4,rfl,rfl,rfl,rfl,rfl,rfl,rfl,rfl⟩:=topShapes T4
 rw [parse_text hg] at J4
 obtain ⟨k1,k2,k3⟩:=J4.res
 simp only at k1 k2 k3
 subst k2 k3
 conv=>whnf
 refine RunsS.subR (nx':=1) (l':=[(1,.ptr 0 0),(3,.v (.string (joinB (srcT s)))),(35,.tup [.agg [.v (.slice pU4 s4.units.length qU4),.v (.slice pI4 s4.items.length qI4),.v (.slice pP4 s4.plants.length qP4),.v (.slice pM4 s4.machines.length qM4),.v (.slice pO4 s4.options.length qO4),.v (.slice pF4 s4.forbids.length qF4),.v (.slice pR4 s4.recipes.length qR4),.v (.slice pS4 s4.swaps.length qS4)],intA 0,intA 0])]) (H':=[(0,.cells 32 [.v vU,.v vI,.v vP,.v vM,.v vO,.v vF,.v vR,.v vS])]) [] ?_ sH sH
 have k4:s4.bare=s.un.bare:=k1.trans (un_bare s).symm
 have g4:s4.good NmP:=(good_same k4).2 hg
 have t4:=srcT_same k4
 have tt4:=good_ttl g4
 (try refine gS ?_);conv=>whnf
 repeat ((first|(guard_target=_∧_;(first|refine oL ?_|refine oR ?_))|(guard_target=Exists _;refine oM ?_));(try intro _);conv=>whnf)
 refine RunsS.subR (nx':=2) (l':=[(1,.ptr 0 0),(3,.v (.string (joinB (srcT s)))),(5,.ptr 1 0),(6,intA 0),(7,intA 0),(40,.agg [.v (.slice pU4 s4.units.length qU4),.v (.slice pI4 s4.items.length qI4),.v (.slice pP4 s4.plants.length qP4),.v (.slice pM4 s4.machines.length qM4),.v (.slice pO4 s4.options.length qO4),.v (.slice pF4 s4.forbids.length qF4),.v (.slice pR4 s4.recipes.length qR4),.v (.slice pS4 s4.swaps.length qS4)])]) (H':=[(0,.cells 32 [.v vU,.v vI,.v vP,.v vM,.v vO,.v vF,.v vR,.v vS]),(1,.cells 32 [.v (.slice pU4 s4.units.length qU4),.v (.slice pI4 s4.items.length qI4),.v (.slice pP4 s4.plants.length qP4),.v (.slice pM4 s4.machines.length qM4),.v (.slice pO4 s4.options.length qO4),.v (.slice pF4 s4.forbids.length qF4),.v (.slice pR4 s4.recipes.length qR4),.v (.slice pS4 s4.swaps.length qS4)])]) [] ?_ sH sH
 have V4:=V1.trans (Now.step N1.gsub N4)
 have C4:=print_fn (vU:=.slice pU4 s4.units.length qU4) (vI:=.slice pI4 s4.items.length qI4) (vP:=.slice pP4 s4.plants.length qP4) (vM:=.slice pM4 s4.machines.length qM4) (vO:=.slice pO4 s4.options.length qO4) (vF:=.slice pF4 s4.forbids.length qF4) (vR:=.slice pR4 s4.recipes.length qR4) (vS:=.slice pS4 s4.swaps.length qS4) s4 (by omega)
 rw [print_ok g4,t4] at C4
 refine RunsS.callT (TopW.tok _ _ _ _ _ _ _ _ _) (⟨T4.up ⟨N4.gsub,fun _ _=>rfl⟩,hP.2.up (V4.trans ⟨N4.gsub,fun _ _=>rfl⟩)⟩) (C4) [] sH ?CNa6 ?_
 case CNa6=>rfl
 intro _ _
 conv=>whnf
 (try refine gS ?_);conv=>whnf
 repeat ((first|(guard_target=_∧_;(first|refine oL ?_|refine oR ?_))|(guard_target=Exists _;refine oM ?_));(try intro _);conv=>whnf)
 refine RunsS.subR (nx':=2) (l':=[(1,.ptr 0 0),(3,.v (.string (joinB (srcT s)))),(5,.ptr 1 0),(6,intA 0),(7,intA 0),(8,.v (.string (joinB (srcT s)))),(9,intA 0)]) (H':=[(0,.cells 32 [.v vU,.v vI,.v vP,.v vM,.v vO,.v vF,.v vR,.v vS]),(1,.cells 32 [.v (.slice pU4 s4.units.length qU4),.v (.slice pI4 s4.items.length qI4),.v (.slice pP4 s4.plants.length qP4),.v (.slice pM4 s4.machines.length qM4),.v (.slice pO4 s4.options.length qO4),.v (.slice pF4 s4.forbids.length qF4),.v (.slice pR4 s4.recipes.length qR4),.v (.slice pS4 s4.swaps.length qS4)])]) [] ?_ sH sH
 refine RunsS.held tab (.fl 0 (.fl 1 (.fl 2 (.fl 3 (.fl 4 (.fl 5 (.fl 6 (.fl 7 (.fl 8 (.e1 9 [7] (.e1 10 [] (.fl 11 (.fl 12 (.fl 13 (.fl 14 (.fl 15 (.fl 16 (.fl 17 (.fl 18 (.fl 19 (.fl 20 (.fl 21 .done)))))))))))))))))))))) (by kernel_rfl) ?_;conv=>whnf
 (try refine gR ?_);conv=>whnf
 repeat ((first|(guard_target=_∧_;(first|refine oL ?_|refine oR ?_|refine oB ?_))|(guard_target=Exists _;refine oM ?_));(try intro _);conv=>whnf)
 (try refine gS ?_);conv=>whnf
 repeat ((first|(guard_target=_∧_;(first|refine oL ?_|refine oR ?_))|(guard_target=Exists _;refine oM ?_));(try intro _);conv=>whnf)
 refine EffR.callY (N4.gsub) (rUn_fn (vU:=vU) (vI:=vI) (vP:=vP) (vM:=vM) (vO:=vO) (vF:=vF) (vR:=vR) (vS:=vS) s hL) (fun h U=>hP.1.up (V4.trans U)) [] sH ?CNa7 ?_
 case CNa7=>rfl
 rintro _ ⟨t5,u1,u2,u3,u4,u5,u6,u7,u8⟩ G5 h5 N5 J5
 conv=>whnf
 try refine oB ?_
 (try refine gR ?_);conv=>whnf
 repeat ((first|(guard_target=_∧_;(first|refine oL ?_|refine oR ?_|refine oB ?_))|(guard_target=Exists _;refine oM ?_));(try intro _);conv=>whnf)
 (try refine gS ?_);conv=>whnf
 repeat ((first|(guard_target=_∧_;(first|refine oL ?_|refine oR ?_))|(guard_target=Exists _;refine oM ?_));(try intro _);conv=>whnf)
 refine EffR.callT (Two2T.tok _ _ _ _ _ _ _ _ _ _ _ _ _ _ _ _ _ _) (⟨T4.up ((Now.step N4.gsub N5).trans ⟨N5.gsub,fun _ _=>rfl⟩),J5.top.up ⟨N5.gsub,fun _ _=>rfl⟩⟩) (sSameY_fn (k4.trans J5.t.symm)) [] ?_ sH ?CNa8
 case CNa8=>rfl
 intro _ _
 conv=>whnf
 try refine oB ?_
 (try refine gR ?_);conv=>whnf
 repeat ((first|(guard_target=_∧_;(first|refine oL ?_|refine oR ?_|refine oB ?_))|(guard_target=Exists _;refine oM ?_));(try intro _);conv=>whnf)
 (try refine gS ?_);conv=>whnf
 repeat ((first|(guard_target=_∧_;(first|refine oL ?_|refine oR ?_))|(guard_target=Exists _;refine oM ?_));(try intro _);conv=>whnf)
 try refine RunsS.retU ?_
 try refine RunsS.finU ?_
 exact UnwS.ret tab Tryz.func5 rfl (EndX.mk ((N1.trans N4).trans N5) (()) (fun _ _=>trivial) [] sH rfl rfl (okRet rfl (congrArg (fun b=>SV.v (Value.bool b)) (decide_eq_true rfl))))
end
end Go.Proofs.YtgbeechjghajcaaGreatDoor

namespace Go.Proofs.YtgbeechjghajcaaGreatDoor
open Go Go.Fw Go.NatM Go.RatM Go.SrcM
set_option maxRecDepth 100000
theorem lawG {f:FuncId} {args:List SV} {Pre:(Nat→Prop)→Array Obj→Prop} (C:FnX Tryz.prog f 0 args [] Pre (fun (_:Unit) _ _=>True) (fun _=>.ret (.v (.bool true)) 0 [])) {h:Array Obj} (hp:Pre (fun k=>k<h.size) h) {vs:Array Value} (e:(SV.gs (fun _=>undef) args).toArray=vs):
  FnV Tryz.prog f vs h fun r h'=>r=.bool true∧Keeps h.size h h':=by
 subst e
 refine Fn.mono (C.call (fun _=>undef) (fun k=>k<h.size) (fun k=>k<h.size) h (fun _ x=>x) (fun _ x=>x) hp Sat.nil) fun e h' hx=>?_
 obtain ⟨x,E',F',G',N,_,_,_,he⟩:=hx
 exact ⟨.bool true,he,rfl,N.kp.keeps⟩
theorem powT_of {h:Array Obj} (hT:PowH h):PowT (fun k=>k<h.size) h:=⟨hT,hT.lt⟩
end Go.Proofs.YtgbeechjghajcaaGreatDoor
