/- BalanceHolds: for every input the law returns true, and each argument reads behind the call as it read before; the listed tables hold, when the call b -/
import Derived.Test.YthjedpdedjhndaaGreatDoorJoinH
set_option linter.unusedVariables false
set_option linter.unusedSimpArgs false
namespace Go.Proofs.YthjedpdedjhndaaGreatDoor
open Go Go.Fw Go.NatM Go.RatM Go.SrcM
set_option maxRecDepth 100000
set_option maxHeartbeats 99999999
abbrev agR (a:Rt):SV:=.agg [.v (.bool a.neg),.v (.string a.n),.v (.string a.d)]
theorem shareB_fn (n d:Int) (hn: -9223372036854775808≤n∧n≤9223372036854775807) (hd: -9223372036854775808≤d∧d≤9223372036854775807) (b:Bool):
  FnT Tryz.prog rW 38 1 [.v (.int .i64 n),.v (.int .i64 d),.ptr 0 0] [zI 0 b] (fun _:Unit=>True) (fun _=>.ret (agR (eU n d).1) 1 [zI 0 (b&&decide ((eU n d).2=0))]):=by
 obtain ⟨x,hx⟩:∃x,x=eU n d:=⟨_,rfl⟩
 rw [←hx]
 refine FnT.of Tryz.func38 (by kernel_rfl) rfl Tryz.ntmps38 rfl fun E0 F h hT w0 cs=>?_
 conv=>whnf
 refine gS ?_;conv=>whnf
 refine aA.callV (fun Ez Hz Az Sz K=>iC n d hn hd (dE.keep _ _ _ hT K).1) ?_
 conv=>whnf
 rw [←hx]
 refine sqs ?_
 obtain ⟨m,e⟩:=x
 cases b
 ·try refine aA.retU ?_
  exact aB.ret tab Tryz.func38 rfl (eN () trivial)
 by_cases he:e=0
 ·subst he
  conv=>whnf
  try refine aA.retU ?_
  exact aB.ret tab Tryz.func38 rfl (eN () trivial)
 conv=>whnf
 try refine aA.retU ?_
 exact aB.ret tab Tryz.func38 rfl (eN () trivial)
theorem calcB_fn (f:FuncId) (x:Rt×Int) (a b:Rt) (Cf:∀ {h},gN h→FnV Tryz.prog f #[a.v,b.v] h fun r h'=>r=rev x∧aH h.size h h') (c:Bool):
  FnT Tryz.prog rW 37 1 [.fn (.func f) [] [],agR a,agR b,.ptr 0 0] [zI 0 c] (fun _:Unit=>True) (fun _=>.ret (agR x.1) 1 [zI 0 (c&&decide (x.2=0))]):=by
 obtain ⟨m,e⟩:=x
 refine FnT.of Tryz.func37 (by kernel_rfl) rfl Tryz.ntmps37 rfl fun E0 F h hT w0 cs=>?_
 conv=>whnf
 refine gS ?_;conv=>whnf
 refine aA.callV (fun Ez Hz Az Sz K=>Cf (dE.keep _ _ _ hT K).1) ?_
 conv=>whnf
 refine sqs ?_
 cases c
 ·try refine aA.retU ?_
  exact aB.ret tab Tryz.func37 rfl (eN () trivial)
 by_cases he:e=0
 ·subst he
  conv=>whnf
  try refine aA.retU ?_
  exact aB.ret tab Tryz.func37 rfl (eN () trivial)
 conv=>whnf
 try refine aA.retU ?_
 exact aB.ret tab Tryz.func37 rfl (eN () trivial)
theorem calcV_fn (f:FuncId) (x:Rt×Int) (a b:Rt) (Cf:∀ {h},gN h→FnV Tryz.prog f #[a.v,b.v] h fun r h'=>r=rev x∧aH h.size h h') (c:Bool):
  FnT Tryz.prog rW 37 1 [.v (.func (.func f) #[] #[]),agR a,agR b,.ptr 0 0] [zI 0 c] (fun _:Unit=>True) (fun _=>.ret (agR x.1) 1 [zI 0 (c&&decide (x.2=0))]):=
 ⟨fun E F h a1 a2 a3=>by simpa only [SV.gs,SV.g] using (calcB_fn f x a b Cf c).call E F h a1 a2 a3⟩
def withO (p:Bool×Bool):eR:=.ret (.tup [.v (.bool p.1),.v (.bool p.2)]) 0 []
theorem within_fn (r:RcV) (hr:r.wf) (I O:Rt):FnT Tryz.prog rW 17 0 [agR I,agR O,.agg (toV r.row)] [] (fun _:Unit=>True) (fun _=>withO (qM r I O)):=by
 obtain ⟨_,_,_,_,n1,n2,n3,n4,_⟩:=hr.n
 obtain ⟨y,hy⟩:∃y,y=eU r.yN r.yD:=⟨_,rfl⟩
 obtain ⟨t,ht⟩:∃t,t=eU r.tN r.tD:=⟨_,rfl⟩
 obtain ⟨p,hp⟩:∃p,p=qM r I O:=⟨_,rfl⟩
 rw [←hp]
 unfold qM at hp
 rw [←hy,←ht] at hp
 refine FnT.of Tryz.func17 (by kernel_rfl) rfl Tryz.ntmps17 rfl fun E0 F h hT w0 cs=>?_
 conv=>whnf
 refine gS ?_;conv=>whnf
 obtain ⟨a,ha⟩:∃a,a=subR y.1 t.1:=⟨_,rfl⟩
 obtain ⟨l,hl⟩:∃l,l=fI a.1 I:=⟨_,rfl⟩
 obtain ⟨b,hb⟩:∃b,b=xC y.1 t.1:=⟨_,rfl⟩
 obtain ⟨m,hm⟩:∃m,m=fI b.1 I:=⟨_,rfl⟩
 dsimp only at hp
 rw [←ha,←hl,←hb,←hm] at hp
 have sy:=fun k=>shareB_fn r.yN r.yD n1 n2 k
 have st:=fun k=>shareB_fn r.tN r.tD n3 n4 k
 have sa:=fun k=>calcV_fn 40 a y.1 t.1 (fun hT=>ha▸aDV y.1 t.1 hT) k
 have sl:=fun k=>calcV_fn 39 l a.1 I (fun hT=>hl▸nT a.1 I hT) k
 have sb:=fun k=>calcV_fn 20 b y.1 t.1 (fun hT=>hb▸nU y.1 t.1 hT) k
 have sm:=fun k=>calcV_fn 39 m b.1 I (fun hT=>hm▸nT b.1 I hT) k
 simp only [←hy] at sy
 simp only [←ht] at st
 refine aA.join (fun (_:Unit)=>[(11,.ptr 5 0),(10,.ptr 4 0),(9,.fn (.func 38) [] [.ptr 3 0]),(8,.fn (.func 37) [] [.ptr 3 0]),(7,.ptr 3 0),(6,.v (.bool false)),(4,.ptr 1 0),(3,.ptr 0 0)]) (fun (_:Unit)=>[rtB 5 t.1,rtB 4 y.1,zI 3 ((true&&decide (y.2=0))&&decide (t.2=0)),rtB 1 O,rtB 0 I]) 6 (fun (_:Unit)=>True) ?_ (fun meet=>?_)
 rotate_left
 ·refine aA.held tab (.fl 0 (.fl 1 (.fl 2 (.fl 3 (.fl 4 (.fl 6 (.fl 7 (.fl 8 (.fl 9 (.fl 10 (.e3 5 [8,10] (.e3 11 [] (.e2 12 [2,4,8,10] (.e1 13 [2,4,8,10] (.e1 14 [] (.e1 15 [] .done))) 13 [2,4,8,10] (.e1 12 [2,4,8,10] (.e1 14 [] (.e1 15 [] .done)))) 12 [2,4,8,10] (.e2 11 [] (.e1 13 [2,4,8,10] (.e1 14 [] (.e1 15 [] .done))) 13 [2,4,8,10] (.e1 11 [] (.e1 14 [] (.e1 15 [] .done)))) 13 [2,4,8,10] (.e2 11 [] (.e1 12 [2,4,8,10] (.e1 14 [] (.e1 15 [] .done))) 12 [2,4,8,10] (.e1 11 [] (.e1 14 [] (.e1 15 [] .done))))) 12 [2,4,8,10] (.e2 5 [8,10] (.e2 11 [] (.e1 13 [2,4,8,10] (.e1 14 [] (.e1 15 [] .done))) 13 [2,4,8,10] (.e1 11 [] (.e1 14 [] (.e1 15 [] .done)))) 13 [2,4,8,10] (.e1 5 [8,10] (.e1 11 [] (.e1 14 [] (.e1 15 [] .done))))) 13 [2,4,8,10] (.e2 5 [8,10] (.e2 11 [] (.e1 12 [2,4,8,10] (.e1 14 [] (.e1 15 [] .done))) 12 [2,4,8,10] (.e1 11 [] (.e1 14 [] (.e1 15 [] .done)))) 12 [2,4,8,10] (.e1 5 [8,10] (.e1 11 [] (.e1 14 [] (.e1 15 [] .done)))))))))))))))) (by kernel_rfl) ?_
  conv=>whnf
  refine sqr ?_
  repeat' first
   |(guard_target=_∧_
     refine And.intro ?_ ?_
     all_goals conv=>whnf
     all_goals repeat ((first|(guard_target=_∧_;(first|refine oL ?_|refine oR ?_|refine oB ?_))|(guard_target=Exists _;refine oM ?_));(try intro _);conv=>whnf))
   |(refine aK.callT (dE) (hT) (sy _) [3] ?_ sH ?_
     rotate_left
     ·rfl
     intro _ _
     conv=>whnf
     try refine oB ?_
     refine sqr ?_
     repeat ((first|(guard_target=_∧_;(first|refine oL ?_|refine oR ?_))|(guard_target=Exists _;refine oM ?_));(try intro _);conv=>whnf))
   |(refine aK.callT (dE) (hT) (st _) [3] ?_ sH ?_
     rotate_left
     ·rfl
     intro _ _
     conv=>whnf
     try refine oB ?_
     refine fA ?_
     refine sqs ?_
     repeat ((first|(guard_target=_∧_;(first|refine oL ?_|refine oR ?_))|(guard_target=Exists _;refine oM ?_));(try intro _);conv=>whnf))
   |(refine aA.subR [] (meet (()) ?_) ?_ ?_
     ·first|trivial|omega|((try dsimp only);omega)
     ·repeat (first|exact trivial|refine ⟨by rfl,?_⟩)
     repeat (first|exact trivial|refine ⟨by rfl,?_⟩))
   |(refine aA.subR [(4,5),(5,4)] (meet (()) ?_) ?_ ?_
     ·first|trivial|omega|((try dsimp only);omega)
     ·repeat (first|exact trivial|refine ⟨by rfl,?_⟩)
     repeat (first|exact trivial|refine ⟨by rfl,?_⟩))
 intro _ _
 refine sqs ?_
 refine aA.join (fun (_:Unit)=>[(12,.ptr 6 0),(11,.ptr 5 0),(10,.ptr 4 0),(9,.fn (.func 38) [] [.ptr 3 0]),(8,.fn (.func 37) [] [.ptr 3 0]),(7,.ptr 3 0),(6,.v (.bool false)),(4,.ptr 1 0),(3,.ptr 0 0)]) (fun (_:Unit)=>[rtB 6 l.1,rtB 5 t.1,rtB 4 y.1,zI 3 ((((true&&decide (y.2=0))&&decide (t.2=0))&&decide (a.2=0))&&decide (l.2=0)),rtB 1 O,rtB 0 I]) 7 (fun (_:Unit)=>True) ?_ (fun meet=>?_)
 rotate_left
 ·refine aA.held tab (.fl 0 (.fl 1 (.fl 2 (.fl 3 (.fl 5 (.e2 4 [5] (.e2 6 [] (.e1 7 [2,3,5] (.e1 8 [] .done)) 7 [2,3,5] (.e1 6 [] (.e1 8 [] .done))) 7 [2,3,5] (.e1 4 [5] (.e1 6 [] (.e1 8 [] .done))))))))) (by kernel_rfl) ?_
  conv=>whnf
  refine sqr ?_
  repeat' first
   |(guard_target=_∧_
     refine And.intro ?_ ?_
     all_goals conv=>whnf
     all_goals repeat ((first|(guard_target=_∧_;(first|refine oL ?_|refine oR ?_|refine oB ?_))|(guard_target=Exists _;refine oM ?_));(try intro _);conv=>whnf))
   |(refine aK.callT (dE) (hT) (sa _) [3] ?_ sH ?_
     rotate_left
     ·rfl
     intro _ _
     conv=>whnf
     try refine oB ?_
     refine sqr ?_
     repeat ((first|(guard_target=_∧_;(first|refine oL ?_|refine oR ?_))|(guard_target=Exists _;refine oM ?_));(try intro _);conv=>whnf))
   |(refine aK.callT (dE) (hT) (sl _) [3] ?_ sH ?_
     rotate_left
     ·rfl
     intro _ _
     conv=>whnf
     try refine oB ?_
     refine fA ?_
     refine sqs ?_
     repeat ((first|(guard_target=_∧_;(first|refine oL ?_|refine oR ?_))|(guard_target=Exists _;refine oM ?_));(try intro _);conv=>whnf))
   |(refine aA.subR [] (meet (()) ?_) ?_ ?_
     ·first|trivial|omega|((try dsimp only);omega)
     ·repeat (first|exact trivial|refine ⟨by rfl,?_⟩)
     repeat (first|exact trivial|refine ⟨by rfl,?_⟩))
 intro _ _
 refine sqs ?_
 refine aA.join (fun (_:Unit)=>[(13,.ptr 7 0),(12,.ptr 6 0),(9,.fn (.func 38) [] [.ptr 3 0]),(8,.fn (.func 37) [] [.ptr 3 0]),(7,.ptr 3 0),(6,.v (.bool false)),(4,.ptr 1 0),(3,.ptr 0 0)]) (fun (_:Unit)=>[rtB 7 m.1,rtB 6 l.1,zI 3 ((((((true&&decide (y.2=0))&&decide (t.2=0))&&decide (a.2=0))&&decide (l.2=0))&&decide (b.2=0))&&decide (m.2=0)),rtB 1 O,rtB 0 I]) 8 (fun (_:Unit)=>True) ?_ (fun meet=>?_)
 rotate_left
 ·refine aA.held tab (.fl 0 (.fl 1 (.fl 2 (.fl 3 (.fl 5 (.e2 4 [5] (.e2 6 [] (.e1 7 [2,3,5] (.e1 8 [] .done)) 7 [2,3,5] (.e1 6 [] (.e1 8 [] .done))) 7 [2,3,5] (.e1 4 [5] (.e1 6 [] (.e1 8 [] .done))))))))) (by kernel_rfl) ?_
  conv=>whnf
  refine sqr ?_
  repeat' first
   |(guard_target=_∧_
     refine And.intro ?_ ?_
     all_goals conv=>whnf
     all_goals repeat ((first|(guard_target=_∧_;(first|refine oL ?_|refine oR ?_|refine oB ?_))|(guard_target=Exists _;refine oM ?_));(try intro _);conv=>whnf))
   |(refine aK.callT (dE) (hT) (sb _) [3] ?_ sH ?_
     rotate_left
     ·rfl
     intro _ _
     conv=>whnf
     try refine oB ?_
     refine sqr ?_
     repeat ((first|(guard_target=_∧_;(first|refine oL ?_|refine oR ?_))|(guard_target=Exists _;refine oM ?_));(try intro _);conv=>whnf))
   |(refine aK.callT (dE) (hT) (sm _) [3] ?_ sH ?_
     rotate_left
     ·rfl
     intro _ _
     conv=>whnf
     try refine oB ?_
     refine fA ?_
     refine sqs ?_
     repeat ((first|(guard_target=_∧_;(first|refine oL ?_|refine oR ?_))|(guard_target=Exists _;refine oM ?_));(try intro _);conv=>whnf))
   |(refine aA.subR [] (meet (()) ?_) ?_ ?_
     ·first|trivial|omega|((try dsimp only);omega)
     ·repeat (first|exact trivial|refine ⟨by rfl,?_⟩)
     repeat (first|exact trivial|refine ⟨by rfl,?_⟩))
 intro _ _
 clear sy st sa sl sb sm
 by_cases hk:y.2=0∧t.2=0∧a.2=0∧l.2=0∧b.2=0∧m.2=0
 ·rw [if_pos hk] at hp
  obtain ⟨k1,k2,k3,k4,k5,k6⟩:=hk
  have e:(((((((true&&decide (y.2=0))&&decide (t.2=0))&&decide (a.2=0))&&decide (l.2=0))&&decide (b.2=0))&&decide (m.2=0)))=true:=by simp [k1,k2,k3,k4,k5,k6]
  rw [e]
  refine sqs ?_
  obtain ⟨c1,f1⟩:∃c,lE l.1 O=c:=⟨_,rfl⟩
  obtain ⟨c2,f2⟩:∃c,lE O m.1=c:=⟨_,rfl⟩
  rw [f1,f2] at hp
  refine aA.callV (fun Ez Hz Az Sz K=>pR l.1 O (dE.keep _ _ _ hT K).1) ?_
  conv=>whnf
  rw [f1]
  refine sqs ?_
  refine aA.callV (fun Ez Hz Az Sz K=>pR O m.1 (dE.keep _ _ _ hT K).1) ?_
  conv=>whnf
  rw [f2]
  refine sqs ?_
  by_cases q1:c1.1≤0
  ·by_cases q2:c1.2=0
   ·have hq:p=(decide (c2.1≤0),decide (c2.2=0)):=by rw [hp];simp [q1,q2]
    subst hq
    refine dB ?_
    try refine aA.retU ?_
    exact aB.ret tab Tryz.func17 rfl (eN () trivial)
   have hq:p=(decide (c2.1≤0),false):=by rw [hp];simp [q1,q2]
   subst hq
   refine dB ?_
   try refine aA.retU ?_
   exact aB.ret tab Tryz.func17 rfl (eN () trivial)
  by_cases q2:c1.2=0
  ·have hq:p=(false,decide (c2.2=0)):=by rw [hp];simp [q1,q2]
   subst hq
   refine dB ?_
   try refine aA.retU ?_
   exact aB.ret tab Tryz.func17 rfl (eN () trivial)
  have hq:p=(false,false):=by rw [hp];simp [q1,q2]
  subst hq
  refine dB ?_
  try refine aA.retU ?_
  exact aB.ret tab Tryz.func17 rfl (eN () trivial)
 rw [if_neg hk] at hp
 have e:(((((((true&&decide (y.2=0))&&decide (t.2=0))&&decide (a.2=0))&&decide (l.2=0))&&decide (b.2=0))&&decide (m.2=0)))=false:=Bool.eq_false_iff.2 fun h=>hk (by simpa [and_assoc] using h)
 rw [e]
 subst hp
 refine sqs ?_
 try refine aA.retU ?_
 exact aB.ret tab Tryz.func17 rfl (eN () trivial)

structure HidX (X:Prop):Prop where h:X
theorem viaX {X p:Prop} (h:HidX X→p) (x:X):p:=h ⟨x⟩
theorem balHolds_fn {h:Array Obj} (s:aG) {vU vI vP vM vO vF vR vS:Value} (hs:Top h vU vI vP vM vO vF vR vS s) (hw:s.wf) (hT:gN h):FnV Tryz.prog 5 #[xY vU vI vP vM vO vF vR vS] h fun r h'=>r=.bool true∧aH h.size h h':=by
 have lU:=aZ s.units
 have lI:=aE It.row s.items
 have lP:=cK s.plants
 have lM:=aE Mc.row s.machines
 have lO:=aE OpV.row s.options
 have lF:=aE FbV.row s.forbids
 have lR:=aE RcV.row s.recipes
 have lS:=aE Sw.row s.swaps
 have mR:=hs.R.len
 refine Fn.ofG (mJ [vU,vI,vP,vM,vO,vF,vR,vS]) 8 [.agg [.buf 0,.buf 1,.buf 2,.buf 3,.buf 4,.buf 5,.buf 6,.buf 7]] [(0,.ro (8) (aL s.units)),(1,.ro (6) (rws It.row s.items)),(2,.ro (1) (bV s.plants)),(3,.ro (4) (rws Mc.row s.machines)),(4,.ro (2) (rws OpV.row s.options)),(5,.ro (1) (rws FbV.row s.forbids)),(6,.ro (17) (rws RcV.row s.recipes)),(7,.ro (4) (rws Sw.row s.swaps))] (fun k=>k<_) Tryz.func5 (by kernel_rfl) rfl Tryz.ntmps5 rfl (fun _ hk=>hk) (Sat.ros (vs:=[vU,vI,vP,vM,vO,vF,vR,vS]) (l:=[(8,aL s.units),(6,rws It.row s.items),(1,bV s.plants),(4,rws Mc.row s.machines),(2,rws OpV.row s.options),(1,rws FbV.row s.forbids),(17,rws RcV.row s.recipes),(4,rws Sw.row s.swaps)]) ⟨hs.U,hs.I,hs.P,hs.M,hs.O,hs.F,hs.R,hs.S,trivial⟩) fun w0 cs=>?_
 conv=>whnf
 refine gS ?_;conv=>whnf
 refine aA.callV (fun Ez Hz Az Sz K=>aDY (hT.keeps ⟨K.size,K.same⟩)) ?_
 conv=>whnf
 refine sqs ?_
 by_cases hf:aHK s
 rotate_left
 ·refine aA.callV (fun Ez Hz Az Sz K=>pP s ⟨Sz.ro (b:=0) rfl,Sz.ro (b:=1) rfl,Sz.ro (b:=2) rfl,Sz.ro (b:=3) rfl,Sz.ro (b:=4) rfl,Sz.ro (b:=5) rfl,Sz.ro (b:=6) rfl,Sz.ro (b:=7) rfl,hs.below.up (Up.kp K)⟩) ?_
  conv=>whnf
  rw [decide_eq_false hf]
  try dsimp only
  refine sqs ?_
  refine aA.retU (aB.ret tab Tryz.func5 rfl fun _ _ _ _ K=>⟨_,rfl,rfl,K.keeps⟩)
 refine aA.callV (fun Ez Hz Az Sz K=>pP s ⟨Sz.ro (b:=0) rfl,Sz.ro (b:=1) rfl,Sz.ro (b:=2) rfl,Sz.ro (b:=3) rfl,Sz.ro (b:=4) rfl,Sz.ro (b:=5) rfl,Sz.ro (b:=6) rfl,Sz.ro (b:=7) rfl,hs.below.up (Up.kp K)⟩) ?_
 conv=>whnf
 rw [decide_eq_true hf]
 try dsimp only
 refine sqs ?_
 by_cases h0:(wrT s).2=0
 rotate_left
 ·obtain ⟨e1,e2⟩:=wrT_e h0
  have e3:fV s=(wrT s).2:=by unfold fV;rw [if_neg h0]
  obtain ⟨e,he⟩:∃e,e=(wrT s).2:=⟨_,rfl⟩
  rw [←he] at e1 e2 e3 h0
  refine aA.callV (fun Ez Hz Az Sz K=>fO s ⟨Sz.ro (b:=0) rfl,Sz.ro (b:=1) rfl,Sz.ro (b:=2) rfl,Sz.ro (b:=3) rfl,Sz.ro (b:=4) rfl,Sz.ro (b:=5) rfl,Sz.ro (b:=6) rfl,Sz.ro (b:=7) rfl,hs.below.up (Up.kp K)⟩ hw (hT.keeps ⟨K.size,K.same⟩)) ?_
  conv=>whnf
  rw [e3]
  refine sqs ?_
  refine aA.callV (fun Ez Hz Az Sz K=>lY s ⟨Sz.ro (b:=0) rfl,Sz.ro (b:=1) rfl,Sz.ro (b:=2) rfl,Sz.ro (b:=3) rfl,Sz.ro (b:=4) rfl,Sz.ro (b:=5) rfl,Sz.ro (b:=6) rfl,Sz.ro (b:=7) rfl,hs.below.up (Up.kp K)⟩ hw (hT.keeps ⟨K.size,K.same⟩)) ?_
  conv=>whnf
  rw [e1]
  refine bZ ?_
  conv=>whnf
  refine aA.retU (aB.ret tab Tryz.func5 rfl fun _ _ _ _ K=>⟨_,rfl,rfl,K.keeps⟩)
 obtain ⟨n,hn,b,e1,hall⟩:=wr_upto h0
 apply viaX
 ·intro key
  by_cases hl:n<s.recipes.length
  ·have e3:fV s=140:=by unfold fV;rw [if_pos h0,e1,if_pos (by simpa using hl)]
   rw [if_pos hl,decide_eq_true hl] at e1
   refine aA.callV (fun Ez Hz Az Sz K=>fO s ⟨Sz.ro (b:=0) rfl,Sz.ro (b:=1) rfl,Sz.ro (b:=2) rfl,Sz.ro (b:=3) rfl,Sz.ro (b:=4) rfl,Sz.ro (b:=5) rfl,Sz.ro (b:=6) rfl,Sz.ro (b:=7) rfl,hs.below.up (Up.kp K)⟩ hw (hT.keeps ⟨K.size,K.same⟩)) ?_
   conv=>whnf
   rw [e3]
   refine sqs ?_
   refine aA.callV (fun Ez Hz Az Sz K=>lY s ⟨Sz.ro (b:=0) rfl,Sz.ro (b:=1) rfl,Sz.ro (b:=2) rfl,Sz.ro (b:=3) rfl,Sz.ro (b:=4) rfl,Sz.ro (b:=5) rfl,Sz.ro (b:=6) rfl,Sz.ro (b:=7) rfl,hs.below.up (Up.kp K)⟩ hw (hT.keeps ⟨K.size,K.same⟩)) ?_
   conv=>whnf
   rw [e1]
   refine bZ ?_
   conv=>whnf
   refine And.intro (fun hp=>absurd hp ((show ¬((n:Int)<0) by omega))) (fun _=>?_)
   conv=>whnf
   refine And.intro (fun hp=>absurd hp ((show ¬((n:Int)≥(rws RcV.row s.recipes).length) by omega))) (fun _=>?_)
   conv=>whnf
   refine aA.subR (nx':=10) (l':=[(8,.v (.int .i64 0)),(4,.v (.int .i64 n)),(2,.v (.bool false)),(1,.ptr 8 0)]) (H':=[dQ 8,(0,.ro 8 (aL s.units)),(1,.ro 6 (rws It.row s.items)),(2,.ro 1 (bV s.plants)),(3,.ro 4 (rws Mc.row s.machines)),(4,.ro 2 (rws OpV.row s.options)),(5,.ro 1 (rws FbV.row s.forbids)),(6,.ro 17 (rws RcV.row s.recipes)),(7,.ro 4 (rws Sw.row s.swaps))]) [] ?_ sH sH
   exact key.h
  have e3:fV s=0:=by unfold fV;rw [if_pos h0,e1,if_neg (by simpa using hl)]
  rw [if_neg hl,decide_eq_false hl] at e1
  refine aA.callV (fun Ez Hz Az Sz K=>fO s ⟨Sz.ro (b:=0) rfl,Sz.ro (b:=1) rfl,Sz.ro (b:=2) rfl,Sz.ro (b:=3) rfl,Sz.ro (b:=4) rfl,Sz.ro (b:=5) rfl,Sz.ro (b:=6) rfl,Sz.ro (b:=7) rfl,hs.below.up (Up.kp K)⟩ hw (hT.keeps ⟨K.size,K.same⟩)) ?_
  conv=>whnf
  rw [e3]
  refine sqs ?_
  refine aA.callV (fun Ez Hz Az Sz K=>lY s ⟨Sz.ro (b:=0) rfl,Sz.ro (b:=1) rfl,Sz.ro (b:=2) rfl,Sz.ro (b:=3) rfl,Sz.ro (b:=4) rfl,Sz.ro (b:=5) rfl,Sz.ro (b:=6) rfl,Sz.ro (b:=7) rfl,hs.below.up (Up.kp K)⟩ hw (hT.keeps ⟨K.size,K.same⟩)) ?_
  conv=>whnf
  rw [e1]
  refine bZ ?_
  conv=>whnf
  rw [show (rws RcV.row s.recipes).length=n by omega]
  refine aA.subR (nx':=10) (l':=[(8,.v (.int .i64 0)),(4,.v (.int .i64 n)),(2,.v (.bool false)),(1,.ptr 8 0)]) (H':=[dQ 8,(0,.ro 8 (aL s.units)),(1,.ro 6 (rws It.row s.items)),(2,.ro 1 (bV s.plants)),(3,.ro 4 (rws Mc.row s.machines)),(4,.ro 2 (rws OpV.row s.options)),(5,.ro 1 (rws FbV.row s.forbids)),(6,.ro 17 (rws RcV.row s.recipes)),(7,.ro 4 (rws Sw.row s.swaps))]) [] ?_ sH sH
  exact key.h
 refine aA.subR [] (aA.loop (fun (i:Nat)=>[(8,.v (.int .i64 i)),(4,.v (.int .i64 n)),(2,.v (.bool false)),(1,.ptr 8 0)]) (fun (i:Nat)=>[dQ 8,(0,.ro 8 (aL s.units)),(1,.ro 6 (rws It.row s.items)),(2,.ro 1 (bV s.plants)),(3,.ro 4 (rws Mc.row s.machines)),(4,.ro 2 (rws OpV.row s.options)),(5,.ro 1 (rws FbV.row s.forbids)),(6,.ro 17 (rws RcV.row s.recipes)),(7,.ro 4 (rws Sw.row s.swaps))]) 10 (fun (i:Nat)=>i≤s.recipes.length) (fun (i:Nat)=>s.recipes.length - i) ?round1 (0) ?J01) sH sH
 case J01=>first|omega|trivial
 rintro i hJ back
 conv=>whnf
 refine gS ?_;conv=>whnf
 by_cases hc:i≤n∧i<s.recipes.length
 rotate_left
 ·by_cases h1:i≤n
  ·have h2:¬i<s.recipes.length:=fun x=>hc ⟨h1,x⟩
   refine dB ?_
   refine aA.retU (aB.ret tab Tryz.func5 rfl fun _ _ _ _ K=>⟨_,rfl,rfl,K.keeps⟩)
  refine dB ?_
  refine aA.retU (aB.ret tab Tryz.func5 rfl fun _ _ _ _ K=>⟨_,rfl,rfl,K.keeps⟩)
 obtain ⟨h1,h2⟩:=hc
 obtain ⟨I,O,o1,o2⟩:=hall i h2 h1
 obtain ⟨⟨p1,p2⟩,hp⟩:∃p,p=qM s.recipes[i] (aN I) (aN O):=⟨_,rfl⟩
 rw [←hp] at o2
 refine dB ?_
 refine aA.callV (fun Ez Hz Az Sz K=>sS s ⟨Sz.ro (b:=0) rfl,Sz.ro (b:=1) rfl,Sz.ro (b:=2) rfl,Sz.ro (b:=3) rfl,Sz.ro (b:=4) rfl,Sz.ro (b:=5) rfl,Sz.ro (b:=6) rfl,Sz.ro (b:=7) rfl,hs.below.up (Up.kp K)⟩ hw i (hT.keeps ⟨K.size,K.same⟩)) ?_
 conv=>whnf
 rw [o1]
 try dsimp only
 refine bZ ?_
 refine aA.join (fun (_:Unit)=>[(13,.v (.bool p2)),(12,.v (.bool p1)),(8,.v (.int .i64 i)),(4,.v (.int .i64 n)),(2,.v (.bool false)),(1,.ptr 8 0)]) (fun (_:Unit)=>[dQ 8,(0,.ro 8 (aL s.units)),(1,.ro 6 (rws It.row s.items)),(2,.ro 1 (bV s.plants)),(3,.ro 4 (rws Mc.row s.machines)),(4,.ro 2 (rws OpV.row s.options)),(5,.ro 1 (rws FbV.row s.forbids)),(6,.ro 17 (rws RcV.row s.recipes)),(7,.ro 4 (rws Sw.row s.swaps))]) 12 (fun (_:Unit)=>True) ?_ (fun meet=>?_)
 rotate_left
 ·refine aA.held tab (.fl 0 (.fl 1 (.fl 2 (.fl 3 (.fl 4 (.fl 5 (.fl 6 (.e1 7 [] (.fl 8 (.fl 9 (.fl 10 (.fl 11 (.fl 12 .done))))))))))))) (by kernel_rfl) ?_
  conv=>whnf
  refine fA ?_
  conv=>whnf
  refine ⟨_,bA h2,?_⟩;conv=>whnf
  try (refine And.intro (by first|omega|exact Nat.le_of_ble_eq_true rfl) ?_;(try intro _);conv=>whnf)
  conv=>whnf
  repeat' first
   |(guard_target=_∧_
     refine And.intro ?_ ?_
     all_goals conv=>whnf
     all_goals repeat ((first|(guard_target=_∧_;(first|refine oL ?_|refine oR ?_|refine oB ?_))|(guard_target=Exists _;refine oM ?_));(try intro _);conv=>whnf))
   |(refine aK.callT (dE) (hT.t) (hp▸within_fn s.recipes[i] (hw.R _ (List.getElem_mem h2)) (aN I) (aN O)) [] ?_ sH ?_
     rotate_left
     ·rfl
     intro _ _
     conv=>whnf
     try refine oB ?_
     refine sqr ?_
     refine sqs ?_
     repeat ((first|(guard_target=_∧_;(first|refine oL ?_|refine oR ?_))|(guard_target=Exists _;refine oM ?_));(try intro _);conv=>whnf))
   |(refine aA.subR [] (meet (()) ?_) ?_ ?_
     ·first|trivial|omega|((try dsimp only);omega)
     ·repeat (first|exact trivial|refine ⟨by rfl,?_⟩)
     repeat (first|exact trivial|refine ⟨by rfl,?_⟩))
 intro _ _
 cases p2 with
 |false=>
  refine bZ ?_
  conv=>whnf
  refine aA.subR [] (back (i+1) (by (try dsimp only);first|omega|trivial) (by (try dsimp only);omega)) sH sH
 |true=>
  obtain rfl:=o2 rfl
  by_cases h3:i<n
  ·rw [decide_eq_true h3]
   refine sqs ?_
   rw [show decide ((i:Int)<(n:Int))=true from decide_eq_true (by omega)]
   refine dB ?_
   refine aA.subR [] (back (i+1) (by (try dsimp only);first|omega|trivial) (by (try dsimp only);omega)) sH sH
  rw [decide_eq_false h3]
  refine sqs ?_
  rw [show decide ((i:Int)<(n:Int))=false from decide_eq_false (by omega)]
  refine dB ?_
  refine aA.subR [] (back (i+1) (by (try dsimp only);first|omega|trivial) (by (try dsimp only);omega)) sH sH
end Go.Proofs.YthjedpdedjhndaaGreatDoor

namespace Go.Proofs.YthjedpdedjhndaaGreatDoor.balanceHolds
open Go Go.Fw Go.ChangeShapes Go.ChangeMaps Go.WideShapes Go.ChangeAt Go.RowKit
set_option maxRecDepth 100000
theorem int_wf {n:Int} (h:(Lit.int .i64 n).wf=true): -9223372036854775808≤n∧n≤9223372036854775807:=by
 have h1:IntKind.i64.min≤n∧n≤9223372036854775807:=by simpa [Lit.wf] using h
 have e:IntKind.i64.min = -9223372036854775808:=rfl
 omega
theorem contract (H:Type) (enc:TypeId×Value→H) (W:World) (base:Nat) (args:Array Value) (ds gs:List (DataW H)) (before:List MemPlace)
  (hval:∀(j:Nat) t v,Tryz.f5.params[j]? = some t→args[j]? = some v→Value.okWide Tryz.prog W .any base t v)
  (hW:DataW.Whole enc Tryz.prog Tryz.f5.params.toList Rows.balanceHoldsSpec.vars false W args.toList ds gs before) (hL:laidMetH Tryz.prog Rows.balanceHoldsRow.laid W):
  Calls Tryz.prog 5 args W fun e W'=>∃v,e=.returned v∧Rows.balanceHoldsSpec.post enc Tryz.prog Tryz.f5 false true false false W args v W':=by
 have hW':=hW
 obtain ⟨p,q,hA0,hV,rfl,hfz,hnd⟩:=hW
 have hA:DataW.TrodAll enc Tryz.prog W 0 (fun _=>true) true Tryz.f5.params.toList args.toList ds p:=hA0
 rw [Tryz.params5] at hA hval
 obtain ⟨v0,vs0,d0,ds0,p0,q0,hargs,rfl,rfl,h0,r0⟩:=trodAll_cons hA
 obtain ⟨rfl,rfl,rfl⟩:=trodAll_nil r0
 obtain rfl:args = #[v0]:=by cases args;simp_all
 obtain ⟨rfl,rfl⟩:=trodVars_none hV
 obtain ⟨z0U,z0I,z0P,z0M,z0O,z0F,z0R,z0S,s0,rfl,T0,X0⟩:=aAF (hval 0 31 v0 rfl rfl) h0
 clear hA0
 simp only [List.append_nil] at hW'
 have walk:=FnV.below (W:=W) (R:=fun r=>r=.bool true) (balHolds_fn s0 T0 X0 (aTJ hL))
 refine walk.mono fun e W' ⟨v,he,hv,hg⟩=>?_
 subst he hv
 exact ⟨_,rfl,wN aEC (by kernel_rfl) Tryz.underlying4 rfl hW' rfl (fun _ _=>⟨rfl,rfl,rfl⟩) hg⟩
theorem laid_met (os:Os):laidMet Tryz.prog Rows.balanceHoldsRow.laid ((fP os).forCall (fun _ _=>0) ⟨#[],#[.agg #[.slice none 0 0,.slice none 0 0,.slice none 0 0,.slice none 0 0,.slice none 0 0,.slice none 0 0,.slice none 0 0,.slice none 0 0]],[]⟩).memory:=
 laidMet_of_run' 8 (by kernel_rfl) (by kernel_rfl)
theorem reads (os:Os) {H:Type} (enc:TypeId×Value→H):∃places,DataW.whole enc Tryz.prog ((fP os).forCall (fun _ _=>0) ⟨#[],#[.agg #[.slice none 0 0,.slice none 0 0,.slice none 0 0,.slice none 0 0,.slice none 0 0,.slice none 0 0,.slice none 0 0,.slice none 0 0]],[]⟩).memory Tryz.f5.params.toList Rows.balanceHoldsSpec.vars false (#[.agg #[.slice none 0 0,.slice none 0 0,.slice none 0 0,.slice none 0 0,.slice none 0 0,.slice none 0 0,.slice none 0 0,.slice none 0 0]]:Array Value).toList 8=some ([.agg [.nil,.nil,.nil,.nil,.nil,.nil,.nil,.nil]],[],places):=
 ⟨[],by kernel_rfl⟩
theorem lifted (os:Os) (started:os.Started) (H:Type) (enc:TypeId×Value→H) (F:Stop.Interp):
  ReturnsInHanded {} Tryz.checked os 5 .any ((OpenSpec.ofChange Rows.balanceHoldsSpec).preRow enc Tryz.prog Tryz.f5 Rows.balanceHoldsRow.domain false Rows.balanceHoldsRow.laid) (((OpenSpec.ofChange Rows.balanceHoldsSpec).at F).post enc Tryz.prog Tryz.f5 false true false false):=by
 obtain ⟨places,hx⟩:=reads os enc
 refine returnsInHanded_of_row (C:=Tryz.checked) (s:=OpenSpec.ofChange Rows.balanceHoldsSpec) own started (by kernel_rfl) Tryz.func5
  (witness_row_at (enc:=enc) (C:=Tryz.checked) false (fP os) #[.agg #[.slice none 0 0,.slice none 0 0,.slice none 0 0,.slice none 0 0,.slice none 0 0,.slice none 0 0,.slice none 0 0,.slice none 0 0]] rfl (by kernel_rfl) (by kernel_rfl) (by kernel_rfl)
   (OpenSpec.preRow_of_cond 8 hx (by kernel_rfl) (fun k hk=>by cases hk) (by kernel_rfl) (laid_met os))) ?_
 intro W base args ds gs before hval hW _ _ hS hL _ _
 exact contract H enc W base args ds gs before hval hW hL
set_option maxHeartbeats 99999999
theorem andB {a b:Bool} (h:a=true) (g:b=true):(a&&b)=true:=by rw [h,g];rfl
theorem closed:joinedFacts Tryz.pinned.checked.prog 5 Tryz.f5 (OpenSpec.ofChange Rows.balanceHoldsSpec).bare Rows.balanceHoldsRow=true:=by
 unfold joinedFacts
 repeat' with_reducible refine andB ?_ ?_
 all_goals as_aux_lemma=>kernel_rfl
theorem said:Rows.BalanceHoldsSaid:=
 OpenClaim.holds_of_cond 5 Tryz.f5 rfl rfl rfl rfl rfl rfl rfl ⟨rfl,rfl,rfl,rfl,rfl⟩ rfl rfl rfl rfl rfl (by kernel_rfl) Tryz.func5 closed
  (of_decide_eq_true (by kernel_rfl)) (by unfold Func.isWrapper;first|(rw [if_pos (by decide +kernel)];kernel_rfl)|(rw [if_neg (by decide +kernel)];exact ⟨rfl,rfl⟩))
  (fun os started H enc _ F=>by rw [OpenClaim.pre_eq_preRow];exact lifted os started H enc F)
theorem plain (f:FuncId) (fn:Func) (hf:Tryz.pinned.checked.prog.funcNamed "backflush/backflushlaw14.BalanceHolds" = some f) (hfn:Tryz.pinned.checked.prog.funcs[f]? = some fn):
  true=Tryz.pinned.checked.prog.looks [] ∧ ∀(j:Nat) t,fn.params[j]? = some t→Tryz.pinned.checked.prog.wantsStandIn t=false:=by
 obtain rfl:f=5:=Option.some.inj ((show Tryz.prog.funcNamed "backflush/backflushlaw14.BalanceHolds" = some 5 by kernel_rfl).symm.trans hf) |>.symm
 obtain rfl:fn=Tryz.f5:=(Option.some.inj (Tryz.func5.symm.trans hfn)).symm
 refine ⟨by kernel_rfl,fun j t ht=>?_⟩
 rw [Tryz.params5] at ht
 have hm:=Array.mem_of_getElem? ht
 simp only [List.mem_toArray,List.mem_cons,List.not_mem_nil,or_false] at hm
 rcases hm with rfl
 exact (show Tryz.prog.wantsStandIn 31=false by kernel_rfl)
theorem card:Rows.BalanceHoldsCardSaid:=
 Claim7.holds_tied_plain_at .later [] _ _ _ _ said (fun _ h=>by cases h) (by kernel_rfl) (fun _ h=>by cases h) balanceHolds_row_tie rfl ⟨rfl,rfl⟩ (by kernel_rfl) rfl plain (by kernel_rfl)
end Go.Proofs.YthjedpdedjhndaaGreatDoor.balanceHolds
