/- Texts of this seat, joined: Package balance: examine. Package balance: Of. Package balance: Wrong, Check. Package names: where lists lie does not matt -/
import Derived.Test.YthjedpdedjhndaaGreatDoorJoinF
set_option linter.unusedVariables false
set_option linter.unusedSimpArgs false
namespace Go.Proofs.YthjedpdedjhndaaGreatDoor
open Go Go.Fw Go.NatM Go.RatM Go.SrcM
set_option maxRecDepth 100000
set_option maxHeartbeats 99999999
theorem aGN {s:aG} (hw:s.wf) {l:List Am} (hl:∀x∈l,x.wf) (hb:l.length≤1000000) (a:Option Addr) (c:Nat) {M:Rt} (h:fY s l=(M,0)):FnT Tryz.prog (fun F h=>RoF F h (.slice a l.length c) 7 (rws Am.row l)∧aEW s F h) 56 9 [.v (.slice a l.length c),.ptr 8 0] [dQ 8,(0,.ro 8 (aL s.units)),(1,.ro 6 (rws It.row s.items)),(2,.ro 1 (bV s.plants)),(3,.ro 4 (rws Mc.row s.machines)),(4,.ro 2 (rws OpV.row s.options)),(5,.ro 1 (rws FbV.row s.forbids)),(6,.ro 17 (rws RcV.row s.recipes)),(7,.ro 4 (rws Sw.row s.swaps))] (fun _:Unit=>True) (fun _=>.ret (.agg [.v (.bool M.neg),.v (.string M.n),.v (.string M.d)]) 9 [dQ 8]):=by
 have:=aTP s hw l hl hb a c
 rw [h] at this
 exact this
theorem aLW {s:aG} (hw:s.wf) {l:List Am} (hl:∀x∈l,x.wf) (hb:l.length≤1000000) (a:Option Addr) (c:Nat) {e:Int} (h:(fY s l).2=e) (he:e≠0):FnT Tryz.prog (fun F h=>RoF F h (.slice a l.length c) 7 (rws Am.row l)∧aEW s F h) 56 9 [.v (.slice a l.length c),.ptr 8 0] [dQ 8,(0,.ro 8 (aL s.units)),(1,.ro 6 (rws It.row s.items)),(2,.ro 1 (bV s.plants)),(3,.ro 4 (rws Mc.row s.machines)),(4,.ro 2 (rws OpV.row s.options)),(5,.ro 1 (rws FbV.row s.forbids)),(6,.ro 17 (rws RcV.row s.recipes)),(7,.ro 4 (rws Sw.row s.swaps))] (fun _:Unit=>True) (fun _=>.pan (aBV e) 9 [dQ 8]):=by
 subst h
 have:=aTP s hw l hl hb a c
 rw [show aUT (fY s l)=.pan (aBV (fY s l).2) 9 [dQ 8] from if_neg he] at this
 exact this
theorem zY (s:aG) (l:List Am) (v:Value):TOk (fun F h=>RoF F h v 7 (rws Am.row l)∧aEW s F h):=⟨fun _ _ _ hs H=>⟨H.1.up ⟨hs,fun _ _=>rfl⟩,(aIW s).mono _ _ _ hs H.2⟩,fun _ _ _ H K=>⟨H.1.up ⟨fun _ x=>x,K.same⟩,(aIW s).keep _ _ _ H.2 K⟩⟩
def exO (x:(Rt×Bool)×Int):eR:=if x.2=0 then .ret (.agg [.v (.bool x.1.1.neg),.v (.string x.1.1.n),.v (.string x.1.1.d),.v (.bool x.1.2)]) 9 [dQ 8] else .pan (aBV x.2) 9 [dQ 8]
theorem aJB {x:(Rt×Bool)×Int} {e:Int} (h:x=(zx,e)) (he:e≠0):exO x=.pan (aBV e) 9 [dQ 8]:=by rw [h];exact if_neg he
abbrev devC (b:Nat) (x:Rt) (w:Bool):Nat×Fw.Blk:=(b,.cells 75 [.v (.bool x.neg),.v (.string x.n),.v (.string x.d),.v (.bool w)])
theorem aUL (s:aG) (hw:s.wf) (r:RcV) (hr:r.wf) (hb:r.inn.length≤1000000∧r.out.length≤1000000) {Y T:Rt} (hY:eU r.yN r.yD=(Y,0)) (hTo:eU r.tN r.tD=(T,0)):
  FnT Tryz.prog (fun F h=>r.ok F h∧aEW s F h) 64 9 [.agg (toV r.row),fnM 8] [dQ 8,(0,.ro 8 (aL s.units)),(1,.ro 6 (rws It.row s.items)),(2,.ro 1 (bV s.plants)),(3,.ro 4 (rws Mc.row s.machines)),(4,.ro 2 (rws OpV.row s.options)),(5,.ro 1 (rws FbV.row s.forbids)),(6,.ro 17 (rws RcV.row s.recipes)),(7,.ro 4 (rws Sw.row s.swaps))] (fun _:Unit=>True) (fun _=>exO (exR s r)):=by
 obtain ⟨y,hy⟩:∃y,y=exR s r:=⟨_,rfl⟩
 rw [←hy]
 unfold exR at hy
 refine FnT.of Tryz.func64 (by kernel_rfl) rfl Tryz.ntmps64 rfl fun E0 F h hT w0 cs=>?_
 conv=>whnf
 refine gS ?_;conv=>whnf
 by_cases e1:(fY s r.inn).2=0
 rotate_left
 ·rw [show ofR s r=((zr,zr),(fY s r.inn).2) from gX e1,gX (x:=((zr,zr),(fY s r.inn).2)) e1] at hy
  rw [aJB hy e1]
  refine aA.held tab (.fl 0 (.fl 1 (.fl 2 (.fl 4 (.fl 5 (.fl 6 (.e3 3 [6] (.e3 7 [] (.e2 8 [2,6] (.e1 9 [2,6] (.e1 10 [] (.e1 11 [] .done))) 9 [2,6] (.e1 8 [2,6] (.e1 10 [] (.e1 11 [] .done)))) 8 [2,6] (.e2 7 [] (.e1 9 [2,6] (.e1 10 [] (.e1 11 [] .done))) 9 [2,6] (.e1 7 [] (.e1 10 [] (.e1 11 [] .done)))) 9 [2,6] (.e2 7 [] (.e1 8 [2,6] (.e1 10 [] (.e1 11 [] .done))) 8 [2,6] (.e1 7 [] (.e1 10 [] (.e1 11 [] .done))))) 8 [2,6] (.e2 3 [6] (.e2 7 [] (.e1 9 [2,6] (.e1 10 [] (.e1 11 [] .done))) 9 [2,6] (.e1 7 [] (.e1 10 [] (.e1 11 [] .done)))) 9 [2,6] (.e1 3 [6] (.e1 7 [] (.e1 10 [] (.e1 11 [] .done))))) 9 [2,6] (.e2 3 [6] (.e2 7 [] (.e1 8 [2,6] (.e1 10 [] (.e1 11 [] .done))) 8 [2,6] (.e1 7 [] (.e1 10 [] (.e1 11 [] .done)))) 8 [2,6] (.e1 3 [6] (.e1 7 [] (.e1 10 [] (.e1 11 [] .done)))))))))))) (by kernel_rfl) ?_;conv=>whnf
  refine sqr ?_
  repeat' first
   |(guard_target=_∧_
     refine And.intro ?_ ?_
     all_goals conv=>whnf
     all_goals repeat ((first|(guard_target=_∧_;(first|refine oL ?_|refine oR ?_|refine oB ?_))|(guard_target=Exists _;refine oM ?_));(try intro _);conv=>whnf))
   |(refine aK.callT (zY s _ _) (⟨hT.1.i,hT.2⟩) (aLW hw hr.i hb.1 _ _ rfl e1) [0,1,2,3,4,5,6,7,8] ?_ sH ?_
     rotate_left
     ·rfl
     intro _ _
     conv=>whnf
     exact aB.pan Tryz.func64 (aT.mk (()) (trivial) [] sH rfl rfl (aQ rfl)))
 obtain ⟨I,hI⟩:∃M,fY s r.inn=(M,0):=⟨_,Prod.ext rfl e1⟩
 by_cases e2:(fY s r.out).2=0
 rotate_left
 ·rw [show ofR s r=((zr,zr),(fY s r.out).2) from (iO e1).trans (gX e2),gX (x:=((zr,zr),(fY s r.out).2)) e2] at hy
  rw [aJB hy e2]
  refine aA.held tab (.fl 0 (.fl 1 (.fl 2 (.fl 4 (.fl 5 (.fl 6 (.e3 3 [6] (.e3 7 [] (.e2 8 [2,6] (.e1 9 [2,6] (.e1 10 [] (.e1 11 [] .done))) 9 [2,6] (.e1 8 [2,6] (.e1 10 [] (.e1 11 [] .done)))) 8 [2,6] (.e2 7 [] (.e1 9 [2,6] (.e1 10 [] (.e1 11 [] .done))) 9 [2,6] (.e1 7 [] (.e1 10 [] (.e1 11 [] .done)))) 9 [2,6] (.e2 7 [] (.e1 8 [2,6] (.e1 10 [] (.e1 11 [] .done))) 8 [2,6] (.e1 7 [] (.e1 10 [] (.e1 11 [] .done))))) 8 [2,6] (.e2 3 [6] (.e2 7 [] (.e1 9 [2,6] (.e1 10 [] (.e1 11 [] .done))) 9 [2,6] (.e1 7 [] (.e1 10 [] (.e1 11 [] .done)))) 9 [2,6] (.e1 3 [6] (.e1 7 [] (.e1 10 [] (.e1 11 [] .done))))) 9 [2,6] (.e2 3 [6] (.e2 7 [] (.e1 8 [2,6] (.e1 10 [] (.e1 11 [] .done))) 8 [2,6] (.e1 7 [] (.e1 10 [] (.e1 11 [] .done)))) 8 [2,6] (.e1 3 [6] (.e1 7 [] (.e1 10 [] (.e1 11 [] .done)))))))))))) (by kernel_rfl) ?_;conv=>whnf
  refine sqr ?_
  repeat' first
   |(guard_target=_∧_
     refine And.intro ?_ ?_
     all_goals conv=>whnf
     all_goals repeat ((first|(guard_target=_∧_;(first|refine oL ?_|refine oR ?_|refine oB ?_))|(guard_target=Exists _;refine oM ?_));(try intro _);conv=>whnf))
   |(refine aK.callT (zY s _ _) (⟨hT.1.i,hT.2⟩) (aGN hw hr.i hb.1 _ _ hI) [0,1,2,3,4,5,6,7,8] ?_ sH ?_
     rotate_left
     ·rfl
     intro _ _
     conv=>whnf
     try refine oB ?_
     refine sqr ?_
     repeat ((first|(guard_target=_∧_;(first|refine oL ?_|refine oR ?_))|(guard_target=Exists _;refine oM ?_));(try intro _);conv=>whnf))
   |(refine aK.callT (zY s _ _) (⟨hT.1.o,hT.2⟩) (aLW hw hr.o hb.2 _ _ rfl e2) [0,1,2,3,4,5,6,7,8] ?_ sH ?_
     rotate_left
     ·rfl
     intro _ _
     conv=>whnf
     exact aB.pan Tryz.func64 (aT.mk (()) (trivial) [] sH rfl rfl (aQ rfl)))
 obtain ⟨O,hO⟩:∃M,fY s r.out=(M,0):=⟨_,Prod.ext rfl e2⟩
 rw [show ofR s r=((I,O),0) by unfold ofR;rw [hI,hO];rfl,iO (x:=((I,O),0)) rfl] at hy
 refine aA.join (fun (_:Unit)=>[(6,.ptr 12 0),(5,.ptr 11 0),(4,.ptr 10 0),(2,.ptr 9 0)]) (fun (_:Unit)=>[rtB 11 I,rtB 12 O,devC 10 ⟨false,⟨#[]⟩,⟨#[]⟩⟩ false,(9,.cells 49 (toV r.row)),dQ 8,(0,.ro 8 (aL s.units)),(1,.ro 6 (rws It.row s.items)),(2,.ro 1 (bV s.plants)),(3,.ro 4 (rws Mc.row s.machines)),(4,.ro 2 (rws OpV.row s.options)),(5,.ro 1 (rws FbV.row s.forbids)),(6,.ro 17 (rws RcV.row s.recipes)),(7,.ro 4 (rws Sw.row s.swaps))]) 13 (fun (_:Unit)=>True) ?_ (fun meet=>?_)
 rotate_left
 ·refine aA.held tab (.fl 0 (.fl 1 (.fl 2 (.fl 4 (.fl 5 (.fl 6 (.e3 3 [6] (.e3 7 [] (.e2 8 [2,6] (.e1 9 [2,6] (.e1 10 [] (.e1 11 [] .done))) 9 [2,6] (.e1 8 [2,6] (.e1 10 [] (.e1 11 [] .done)))) 8 [2,6] (.e2 7 [] (.e1 9 [2,6] (.e1 10 [] (.e1 11 [] .done))) 9 [2,6] (.e1 7 [] (.e1 10 [] (.e1 11 [] .done)))) 9 [2,6] (.e2 7 [] (.e1 8 [2,6] (.e1 10 [] (.e1 11 [] .done))) 8 [2,6] (.e1 7 [] (.e1 10 [] (.e1 11 [] .done))))) 8 [2,6] (.e2 3 [6] (.e2 7 [] (.e1 9 [2,6] (.e1 10 [] (.e1 11 [] .done))) 9 [2,6] (.e1 7 [] (.e1 10 [] (.e1 11 [] .done)))) 9 [2,6] (.e1 3 [6] (.e1 7 [] (.e1 10 [] (.e1 11 [] .done))))) 9 [2,6] (.e2 3 [6] (.e2 7 [] (.e1 8 [2,6] (.e1 10 [] (.e1 11 [] .done))) 8 [2,6] (.e1 7 [] (.e1 10 [] (.e1 11 [] .done)))) 8 [2,6] (.e1 3 [6] (.e1 7 [] (.e1 10 [] (.e1 11 [] .done)))))))))))) (by kernel_rfl) ?_
  conv=>whnf
  refine sqr ?_
  repeat' first
   |(guard_target=_∧_
     refine And.intro ?_ ?_
     all_goals conv=>whnf
     all_goals repeat ((first|(guard_target=_∧_;(first|refine oL ?_|refine oR ?_|refine oB ?_))|(guard_target=Exists _;refine oM ?_));(try intro _);conv=>whnf))
   |(refine aK.callT (zY s _ _) (⟨hT.1.i,hT.2⟩) (aGN hw hr.i hb.1 _ _ hI) [0,1,2,3,4,5,6,7,8] ?_ sH ?_
     rotate_left
     ·rfl
     intro _ _
     conv=>whnf
     try refine oB ?_
     refine sqr ?_
     repeat ((first|(guard_target=_∧_;(first|refine oL ?_|refine oR ?_))|(guard_target=Exists _;refine oM ?_));(try intro _);conv=>whnf))
   |(refine aK.callT (zY s _ _) (⟨hT.1.o,hT.2⟩) (aGN hw hr.o hb.2 _ _ hO) [0,1,2,3,4,5,6,7,8] ?_ sH ?_
     rotate_left
     ·rfl
     intro _ _
     conv=>whnf
     try refine oB ?_
     refine fA ?_
     refine sqs ?_
     repeat ((first|(guard_target=_∧_;(first|refine oL ?_|refine oR ?_))|(guard_target=Exists _;refine oM ?_));(try intro _);conv=>whnf))
   |(refine aA.subR [] (meet (()) ?_) ?_ ?_
     ·first|trivial|omega|((try dsimp only);omega)
     ·repeat (first|exact trivial|refine ⟨by rfl,?_⟩)
     repeat (first|exact trivial|refine ⟨by rfl,?_⟩))
   |(refine aA.subR [(11,12),(12,11)] (meet (()) ?_) ?_ ?_
     ·first|trivial|omega|((try dsimp only);omega)
     ·repeat (first|exact trivial|refine ⟨by rfl,?_⟩)
     repeat (first|exact trivial|refine ⟨by rfl,?_⟩))
 intro _ _
 refine sqs ?_
 obtain ⟨_,_,_,_,n1,n2,n3,n4,_⟩:=hr.n
 unfold exT at hy
 have t1:qD r.yN r.yD I=fI Y I:=by unfold qD;rw [hY];rfl
 have t2:qD r.tN r.tD I=fI T I:=by unfold qD;rw [hTo];rfl
 simp only [t1,t2] at hy
 by_cases e3:(fI Y I).2=0
 rotate_left
 ·rw [gX e3] at hy
  rw [aJB hy e3]
  refine aA.held tab (.fl 0 (.fl 1 (.fl 2 (.fl 3 (.fl 8 (.e2 4 [8] (.fl 5 (.fl 6 (.e2 7 [8] (.e2 9 [] (.fl 10 (.fl 11 (.e2 12 [] (.e1 13 [1,3,8] (.e1 14 [] .done)) 13 [1,3,8] (.e1 12 [] (.e1 14 [] .done))))) 13 [1,3,8] (.e1 9 [] (.fl 10 (.fl 11 (.e1 12 [] (.e1 14 [] .done)))))) 13 [1,3,8] (.e1 7 [8] (.e1 9 [] (.fl 10 (.fl 11 (.e1 12 [] (.e1 14 [] .done))))))))) 13 [1,3,8] (.e1 4 [8] (.fl 5 (.fl 6 (.e1 7 [8] (.e1 9 [] (.fl 10 (.fl 11 (.e1 12 [] (.e1 14 [] .done))))))))))))))) (by kernel_rfl) ?_;conv=>whnf
  refine sqr ?_
  repeat' first
   |(guard_target=_∧_
     refine And.intro ?_ ?_
     all_goals conv=>whnf
     all_goals repeat ((first|(guard_target=_∧_;(first|refine oL ?_|refine oR ?_|refine oB ?_))|(guard_target=Exists _;refine oM ?_));(try intro _);conv=>whnf))
   |(refine aK.callV (fun Ez Hz Az Sz K=>iC r.yN r.yD n1 n2 (dE.keep _ _ _ hT.2.2 K).1) (by (conv=>whnf);(repeat (guard_target=_∧_;refine And.intro (by (conv=>whnf);first|rfl|exact trivial) ?_;conv=>whnf));exact trivial) ?_
     conv=>whnf
     rw [hY]
     try dsimp only
     refine sqr ?_
     repeat ((first|(guard_target=_∧_;(first|refine oL ?_|refine oR ?_))|(guard_target=Exists _;refine oM ?_));(try intro _);conv=>whnf))
   |(refine aK.callS (fun Ez Hz Az Sz K=>iJ Y 0) (by (conv=>whnf);(repeat (guard_target=_∧_;refine And.intro (by (conv=>whnf);first|rfl|exact trivial) ?_;conv=>whnf));exact trivial) ?_
     conv=>whnf
     refine sqr ?_
     repeat ((first|(guard_target=_∧_;(first|refine oL ?_|refine oR ?_))|(guard_target=Exists _;refine oM ?_));(try intro _);conv=>whnf))
   |(refine aK.callV (fun Ez Hz Az Sz K=>nT Y I (dE.keep _ _ _ hT.2.2 K).1) (by (conv=>whnf);(repeat (guard_target=_∧_;refine And.intro (by (conv=>whnf);first|rfl|exact trivial) ?_;conv=>whnf));exact trivial) ?_
     conv=>whnf
     refine sqr ?_
     repeat ((first|(guard_target=_∧_;(first|refine oL ?_|refine oR ?_))|(guard_target=Exists _;refine oM ?_));(try intro _);conv=>whnf))
   |(refine aK.callF (fun Ez Hz Az Sz K=>qL (fI Y I).1 e3) (by (conv=>whnf);(repeat (guard_target=_∧_;refine And.intro (by (conv=>whnf);first|rfl|exact trivial) ?_;conv=>whnf));exact trivial) ?_
     exact aB.pan Tryz.func64 (aT.mk (()) (trivial) [] sH rfl rfl (aQ rfl)))
 obtain ⟨W,hW⟩:∃M,fI Y I=(M,0):=⟨_,Prod.ext rfl e3⟩
 rw [hW,iO (x:=(W,0)) rfl] at hy
 refine aA.join (fun (_:Unit)=>[(7,.ptr 13 0),(6,.ptr 12 0),(5,.ptr 11 0),(4,.ptr 10 0),(2,.ptr 9 0)]) (fun (_:Unit)=>[rtB 11 I,rtB 12 O,rtB 13 W,devC 10 ⟨false,⟨#[]⟩,⟨#[]⟩⟩ false,(9,.cells 49 (toV r.row)),dQ 8,(0,.ro 8 (aL s.units)),(1,.ro 6 (rws It.row s.items)),(2,.ro 1 (bV s.plants)),(3,.ro 4 (rws Mc.row s.machines)),(4,.ro 2 (rws OpV.row s.options)),(5,.ro 1 (rws FbV.row s.forbids)),(6,.ro 17 (rws RcV.row s.recipes)),(7,.ro 4 (rws Sw.row s.swaps))]) 14 (fun (_:Unit)=>True) ?_ (fun meet=>?_)
 rotate_left
 ·refine aA.held tab (.fl 0 (.fl 1 (.fl 2 (.fl 3 (.fl 8 (.e2 4 [8] (.fl 5 (.fl 6 (.e2 7 [8] (.e2 9 [] (.fl 10 (.fl 11 (.e2 12 [] (.e1 13 [1,3,8] (.e1 14 [] .done)) 13 [1,3,8] (.e1 12 [] (.e1 14 [] .done))))) 13 [1,3,8] (.e1 9 [] (.fl 10 (.fl 11 (.e1 12 [] (.e1 14 [] .done)))))) 13 [1,3,8] (.e1 7 [8] (.e1 9 [] (.fl 10 (.fl 11 (.e1 12 [] (.e1 14 [] .done))))))))) 13 [1,3,8] (.e1 4 [8] (.fl 5 (.fl 6 (.e1 7 [8] (.e1 9 [] (.fl 10 (.fl 11 (.e1 12 [] (.e1 14 [] .done))))))))))))))) (by kernel_rfl) ?_
  conv=>whnf
  refine sqr ?_
  repeat' first
   |(guard_target=_∧_
     refine And.intro ?_ ?_
     all_goals conv=>whnf
     all_goals repeat ((first|(guard_target=_∧_;(first|refine oL ?_|refine oR ?_|refine oB ?_))|(guard_target=Exists _;refine oM ?_));(try intro _);conv=>whnf))
   |(refine aK.callV (fun Ez Hz Az Sz K=>iC r.yN r.yD n1 n2 (dE.keep _ _ _ hT.2.2 K).1) (by (conv=>whnf);(repeat (guard_target=_∧_;refine And.intro (by (conv=>whnf);first|rfl|exact trivial) ?_;conv=>whnf));exact trivial) ?_
     conv=>whnf
     rw [hY]
     try dsimp only
     refine sqr ?_
     repeat ((first|(guard_target=_∧_;(first|refine oL ?_|refine oR ?_))|(guard_target=Exists _;refine oM ?_));(try intro _);conv=>whnf))
   |(refine aK.callS (fun Ez Hz Az Sz K=>iJ Y 0) (by (conv=>whnf);(repeat (guard_target=_∧_;refine And.intro (by (conv=>whnf);first|rfl|exact trivial) ?_;conv=>whnf));exact trivial) ?_
     conv=>whnf
     refine sqr ?_
     repeat ((first|(guard_target=_∧_;(first|refine oL ?_|refine oR ?_))|(guard_target=Exists _;refine oM ?_));(try intro _);conv=>whnf))
   |(refine aK.callV (fun Ez Hz Az Sz K=>nT Y I (dE.keep _ _ _ hT.2.2 K).1) (by (conv=>whnf);(repeat (guard_target=_∧_;refine And.intro (by (conv=>whnf);first|rfl|exact trivial) ?_;conv=>whnf));exact trivial) ?_
     conv=>whnf
     rw [hW]
     try dsimp only
     refine sqr ?_
     repeat ((first|(guard_target=_∧_;(first|refine oL ?_|refine oR ?_))|(guard_target=Exists _;refine oM ?_));(try intro _);conv=>whnf))
   |(refine aK.callS (fun Ez Hz Az Sz K=>iJ W 0) (by (conv=>whnf);(repeat (guard_target=_∧_;refine And.intro (by (conv=>whnf);first|rfl|exact trivial) ?_;conv=>whnf));exact trivial) ?_
     conv=>whnf
     refine fA ?_
     refine sqs ?_
     repeat ((first|(guard_target=_∧_;(first|refine oL ?_|refine oR ?_))|(guard_target=Exists _;refine oM ?_));(try intro _);conv=>whnf))
   |(refine aA.subR [] (meet (()) ?_) ?_ ?_
     ·first|trivial|omega|((try dsimp only);omega)
     ·repeat (first|exact trivial|refine ⟨by rfl,?_⟩)
     repeat (first|exact trivial|refine ⟨by rfl,?_⟩))
 intro _ _
 refine sqs ?_
 by_cases e4:(subR O W).2=0
 rotate_left
 ·rw [gX e4] at hy
  rw [aJB hy e4]
  refine aA.callV (fun Ez Hz Az Sz K=>aDV O W (dE.keep _ _ _ hT.2.2 K).1) ?_
  conv=>whnf
  refine sqs ?_
  refine aA.callF (fun Ez Hz Az Sz K=>qL (subR O W).1 e4) ?_
  exact aB.pan Tryz.func64 (aT.mk (()) (trivial) [] sH rfl rfl (aQ rfl))
 obtain ⟨D,hD⟩:∃M,subR O W=(M,0):=⟨_,Prod.ext rfl e4⟩
 rw [hD,iO (x:=(D,0)) rfl] at hy
 refine aA.callV (fun Ez Hz Az Sz K=>aDV O W (dE.keep _ _ _ hT.2.2 K).1) ?_
 conv=>whnf
 rw [hD]
 refine sqs ?_
 refine aA.callS (fun Ez Hz Az Sz K=>iJ D 0) ?_
 conv=>whnf
 refine sqs ?_
 by_cases e5:(fI T I).2=0
 rotate_left
 ·rw [gX e5] at hy
  rw [aJB hy e5]
  refine aA.held tab (.fl 0 (.fl 1 (.fl 2 (.fl 3 (.fl 8 (.e2 4 [8] (.fl 5 (.fl 6 (.e2 7 [8] (.e2 9 [] (.fl 10 (.fl 11 (.e2 12 [] (.e1 13 [1,3,8] (.e1 14 [] .done)) 13 [1,3,8] (.e1 12 [] (.e1 14 [] .done))))) 13 [1,3,8] (.e1 9 [] (.fl 10 (.fl 11 (.e1 12 [] (.e1 14 [] .done)))))) 13 [1,3,8] (.e1 7 [8] (.e1 9 [] (.fl 10 (.fl 11 (.e1 12 [] (.e1 14 [] .done))))))))) 13 [1,3,8] (.e1 4 [8] (.fl 5 (.fl 6 (.e1 7 [8] (.e1 9 [] (.fl 10 (.fl 11 (.e1 12 [] (.e1 14 [] .done))))))))))))))) (by kernel_rfl) ?_;conv=>whnf
  refine sqr ?_
  repeat' first
   |(guard_target=_∧_
     refine And.intro ?_ ?_
     all_goals conv=>whnf
     all_goals repeat ((first|(guard_target=_∧_;(first|refine oL ?_|refine oR ?_|refine oB ?_))|(guard_target=Exists _;refine oM ?_));(try intro _);conv=>whnf))
   |(refine aK.callV (fun Ez Hz Az Sz K=>iC r.tN r.tD n3 n4 (dE.keep _ _ _ hT.2.2 K).1) (by (conv=>whnf);(repeat (guard_target=_∧_;refine And.intro (by (conv=>whnf);first|rfl|exact trivial) ?_;conv=>whnf));exact trivial) ?_
     conv=>whnf
     rw [hTo]
     try dsimp only
     refine sqr ?_
     repeat ((first|(guard_target=_∧_;(first|refine oL ?_|refine oR ?_))|(guard_target=Exists _;refine oM ?_));(try intro _);conv=>whnf))
   |(refine aK.callS (fun Ez Hz Az Sz K=>iJ T 0) (by (conv=>whnf);(repeat (guard_target=_∧_;refine And.intro (by (conv=>whnf);first|rfl|exact trivial) ?_;conv=>whnf));exact trivial) ?_
     conv=>whnf
     refine sqr ?_
     repeat ((first|(guard_target=_∧_;(first|refine oL ?_|refine oR ?_))|(guard_target=Exists _;refine oM ?_));(try intro _);conv=>whnf))
   |(refine aK.callV (fun Ez Hz Az Sz K=>nT T I (dE.keep _ _ _ hT.2.2 K).1) (by (conv=>whnf);(repeat (guard_target=_∧_;refine And.intro (by (conv=>whnf);first|rfl|exact trivial) ?_;conv=>whnf));exact trivial) ?_
     conv=>whnf
     refine sqr ?_
     repeat ((first|(guard_target=_∧_;(first|refine oL ?_|refine oR ?_))|(guard_target=Exists _;refine oM ?_));(try intro _);conv=>whnf))
   |(refine aK.callF (fun Ez Hz Az Sz K=>qL (fI T I).1 e5) (by (conv=>whnf);(repeat (guard_target=_∧_;refine And.intro (by (conv=>whnf);first|rfl|exact trivial) ?_;conv=>whnf));exact trivial) ?_
     exact aB.pan Tryz.func64 (aT.mk (()) (trivial) [] sH rfl rfl (aQ rfl)))
 obtain ⟨Z,hZ⟩:∃M,fI T I=(M,0):=⟨_,Prod.ext rfl e5⟩
 rw [hZ,iO (x:=(Z,0)) rfl] at hy
 refine aA.join (fun (_:Unit)=>[(8,.ptr 14 0),(4,.ptr 10 0),(2,.ptr 9 0)]) (fun (_:Unit)=>[rtB 14 Z,devC 10 D false,(9,.cells 49 (toV r.row)),dQ 8,(0,.ro 8 (aL s.units)),(1,.ro 6 (rws It.row s.items)),(2,.ro 1 (bV s.plants)),(3,.ro 4 (rws Mc.row s.machines)),(4,.ro 2 (rws OpV.row s.options)),(5,.ro 1 (rws FbV.row s.forbids)),(6,.ro 17 (rws RcV.row s.recipes)),(7,.ro 4 (rws Sw.row s.swaps))]) 15 (fun (_:Unit)=>True) ?_ (fun meet=>?_)
 rotate_left
 ·refine aA.held tab (.fl 0 (.fl 1 (.fl 2 (.fl 3 (.fl 8 (.e2 4 [8] (.fl 5 (.fl 6 (.e2 7 [8] (.e2 9 [] (.fl 10 (.fl 11 (.e2 12 [] (.e1 13 [1,3,8] (.e1 14 [] .done)) 13 [1,3,8] (.e1 12 [] (.e1 14 [] .done))))) 13 [1,3,8] (.e1 9 [] (.fl 10 (.fl 11 (.e1 12 [] (.e1 14 [] .done)))))) 13 [1,3,8] (.e1 7 [8] (.e1 9 [] (.fl 10 (.fl 11 (.e1 12 [] (.e1 14 [] .done))))))))) 13 [1,3,8] (.e1 4 [8] (.fl 5 (.fl 6 (.e1 7 [8] (.e1 9 [] (.fl 10 (.fl 11 (.e1 12 [] (.e1 14 [] .done))))))))))))))) (by kernel_rfl) ?_
  conv=>whnf
  refine sqr ?_
  repeat' first
   |(guard_target=_∧_
     refine And.intro ?_ ?_
     all_goals conv=>whnf
     all_goals repeat ((first|(guard_target=_∧_;(first|refine oL ?_|refine oR ?_|refine oB ?_))|(guard_target=Exists _;refine oM ?_));(try intro _);conv=>whnf))
   |(refine aK.callV (fun Ez Hz Az Sz K=>iC r.tN r.tD n3 n4 (dE.keep _ _ _ hT.2.2 K).1) (by (conv=>whnf);(repeat (guard_target=_∧_;refine And.intro (by (conv=>whnf);first|rfl|exact trivial) ?_;conv=>whnf));exact trivial) ?_
     conv=>whnf
     rw [hTo]
     try dsimp only
     refine sqr ?_
     repeat ((first|(guard_target=_∧_;(first|refine oL ?_|refine oR ?_))|(guard_target=Exists _;refine oM ?_));(try intro _);conv=>whnf))
   |(refine aK.callS (fun Ez Hz Az Sz K=>iJ T 0) (by (conv=>whnf);(repeat (guard_target=_∧_;refine And.intro (by (conv=>whnf);first|rfl|exact trivial) ?_;conv=>whnf));exact trivial) ?_
     conv=>whnf
     refine sqr ?_
     repeat ((first|(guard_target=_∧_;(first|refine oL ?_|refine oR ?_))|(guard_target=Exists _;refine oM ?_));(try intro _);conv=>whnf))
   |(refine aK.callV (fun Ez Hz Az Sz K=>nT T I (dE.keep _ _ _ hT.2.2 K).1) (by (conv=>whnf);(repeat (guard_target=_∧_;refine And.intro (by (conv=>whnf);first|rfl|exact trivial) ?_;conv=>whnf));exact trivial) ?_
     conv=>whnf
     rw [hZ]
     try dsimp only
     refine sqr ?_
     repeat ((first|(guard_target=_∧_;(first|refine oL ?_|refine oR ?_))|(guard_target=Exists _;refine oM ?_));(try intro _);conv=>whnf))
   |(refine aK.callS (fun Ez Hz Az Sz K=>iJ Z 0) (by (conv=>whnf);(repeat (guard_target=_∧_;refine And.intro (by (conv=>whnf);first|rfl|exact trivial) ?_;conv=>whnf));exact trivial) ?_
     conv=>whnf
     refine fA ?_
     refine sqs ?_
     repeat ((first|(guard_target=_∧_;(first|refine oL ?_|refine oR ?_))|(guard_target=Exists _;refine oM ?_));(try intro _);conv=>whnf))
   |(refine aA.subR [] (meet (()) ?_) ?_ ?_
     ·first|trivial|omega|((try dsimp only);omega)
     ·repeat (first|exact trivial|refine ⟨by rfl,?_⟩)
     repeat (first|exact trivial|refine ⟨by rfl,?_⟩))
 intro _ _
 refine sqs ?_
 obtain ⟨q,rfl,oq,lq⟩:=sub_okR hD
 obtain ⟨z,rfl,oz,lz⟩:=mul_okR hZ
 have hN:=bAB oq lq
 refine aA.join (fun (_:Unit)=>[(9,.ptr 15 0),(8,.ptr 14 0),(4,.ptr 10 0),(2,.ptr 9 0)]) (fun (_:Unit)=>[rtB 15 (aN (kE q)),rtB 14 (aN z),devC 10 (aN q) false,(9,.cells 49 (toV r.row)),dQ 8,(0,.ro 8 (aL s.units)),(1,.ro 6 (rws It.row s.items)),(2,.ro 1 (bV s.plants)),(3,.ro 4 (rws Mc.row s.machines)),(4,.ro 2 (rws OpV.row s.options)),(5,.ro 1 (rws FbV.row s.forbids)),(6,.ro 17 (rws RcV.row s.recipes)),(7,.ro 4 (rws Sw.row s.swaps))]) 16 (fun (_:Unit)=>True) ?_ (fun meet=>?_)
 rotate_left
 ·refine aA.held tab (.fl 4 (.fl 5 (.e2 0 [5] (.fl 1 (.fl 2 (.e2 3 [5] (.e2 6 [] (.fl 7 (.fl 8 (.e2 9 [] (.e1 10 [5] (.e1 11 [] .done)) 10 [5] (.e1 9 [] (.e1 11 [] .done))))) 10 [5] (.e1 6 [] (.fl 7 (.fl 8 (.e1 9 [] (.e1 11 [] .done)))))) 10 [5] (.e1 3 [5] (.e1 6 [] (.fl 7 (.fl 8 (.e1 9 [] (.e1 11 [] .done))))))))) 10 [5] (.e1 0 [5] (.fl 1 (.fl 2 (.e1 3 [5] (.e1 6 [] (.fl 7 (.fl 8 (.e1 9 [] (.e1 11 [] .done)))))))))))) (by kernel_rfl) ?_
  conv=>whnf
  refine sqr ?_
  repeat' first
   |(guard_target=_∧_
     refine And.intro ?_ ?_
     all_goals conv=>whnf
     all_goals repeat ((first|(guard_target=_∧_;(first|refine oL ?_|refine oR ?_|refine oB ?_))|(guard_target=Exists _;refine oM ?_));(try intro _);conv=>whnf))
   |(refine aK.callV (fun Ez Hz Az Sz K=>iC 0 1 (by decide) (by decide) (dE.keep _ _ _ hT.2.2 K).1) (by (conv=>whnf);(repeat (guard_target=_∧_;refine And.intro (by (conv=>whnf);first|rfl|exact trivial) ?_;conv=>whnf));exact trivial) ?_
     conv=>whnf
     rw [aNI]
     refine sqr ?_
     repeat ((first|(guard_target=_∧_;(first|refine oL ?_|refine oR ?_))|(guard_target=Exists _;refine oM ?_));(try intro _);conv=>whnf))
   |(refine aK.callS (fun Ez Hz Az Sz K=>iJ aLK 0) (by (conv=>whnf);(repeat (guard_target=_∧_;refine And.intro (by (conv=>whnf);first|rfl|exact trivial) ?_;conv=>whnf));exact trivial) ?_
     conv=>whnf
     refine sqr ?_
     repeat ((first|(guard_target=_∧_;(first|refine oL ?_|refine oR ?_))|(guard_target=Exists _;refine oM ?_));(try intro _);conv=>whnf))
   |(refine aK.callV (fun Ez Hz Az Sz K=>aDV aLK (aN q) (dE.keep _ _ _ hT.2.2 K).1) (by (conv=>whnf);(repeat (guard_target=_∧_;refine And.intro (by (conv=>whnf);first|rfl|exact trivial) ?_;conv=>whnf));exact trivial) ?_
     conv=>whnf
     rw [hN]
     try dsimp only
     refine sqr ?_
     repeat ((first|(guard_target=_∧_;(first|refine oL ?_|refine oR ?_))|(guard_target=Exists _;refine oM ?_));(try intro _);conv=>whnf))
   |(refine aK.callS (fun Ez Hz Az Sz K=>iJ (aN (kE q)) 0) (by (conv=>whnf);(repeat (guard_target=_∧_;refine And.intro (by (conv=>whnf);first|rfl|exact trivial) ?_;conv=>whnf));exact trivial) ?_
     conv=>whnf
     refine fA ?_
     refine sqs ?_
     repeat ((first|(guard_target=_∧_;(first|refine oL ?_|refine oR ?_))|(guard_target=Exists _;refine oM ?_));(try intro _);conv=>whnf))
   |(refine aA.subR [] (meet (()) ?_) ?_ ?_
     ·first|trivial|omega|((try dsimp only);omega)
     ·repeat (first|exact trivial|refine ⟨by rfl,?_⟩)
     repeat (first|exact trivial|refine ⟨by rfl,?_⟩))
 intro _ _
 refine sqs ?_
 obtain ⟨c1,c2,c3⟩:=cmp_abs oq oz lq lz
 by_cases e6:(lE (absR (aN q)) (aN z)).2=0
 rotate_left
 ·rw [gX e6] at hy
  rw [aJB hy e6]
  refine aA.callF (fun Ez Hz Az Sz K=>rZ (c1▸oQ (aN q) (aN z) (dE.keep _ _ _ hT.2.2 K).1) (gr_n (c1.symm▸e6))) ?_
  exact aB.pan Tryz.func64 (aT.mk (()) (trivial) [] sH rfl rfl (aQ rfl))
 rw [iO e6] at hy
 have c3:=c3 e6
 by_cases g1:0<(lE (aN q) (aN z)).1
 ·refine aA.callS (fun Ez Hz Az Sz K=>rZ (oQ (aN q) (aN z) (dE.keep _ _ _ hT.2.2 K).1) (gr_y (c1.trans e6) (decide_eq_true g1))) ?_
  conv=>whnf
  refine sqs ?_
  rw [hy,decide_eq_true (c3.2 (.inl g1))]
  try refine aA.retU ?_
  exact aB.ret tab Tryz.func64 rfl (eN () trivial)
 refine aA.callS (fun Ez Hz Az Sz K=>rZ (oQ (aN q) (aN z) (dE.keep _ _ _ hT.2.2 K).1) (gr_y (c1.trans e6) (decide_eq_false g1))) ?_
 conv=>whnf
 refine sqs ?_
 by_cases g2:0<(lE (aN (kE q)) (aN z)).1
 ·refine aA.callS (fun Ez Hz Az Sz K=>rZ (oQ (aN (kE q)) (aN z) (dE.keep _ _ _ hT.2.2 K).1) (gr_y (c2.trans e6) (decide_eq_true g2))) ?_
  conv=>whnf
  refine sqs ?_
  rw [hy,decide_eq_true (c3.2 (.inr g2))]
  try refine aA.retU ?_
  exact aB.ret tab Tryz.func64 rfl (eN () trivial)
 refine aA.callS (fun Ez Hz Az Sz K=>rZ (oQ (aN (kE q)) (aN z) (dE.keep _ _ _ hT.2.2 K).1) (gr_y (c2.trans e6) (decide_eq_false g2))) ?_
 conv=>whnf
 refine sqs ?_
 rw [hy,decide_eq_false (fun h=>(c3.1 h).elim g1 g2)]
 try refine aA.retU ?_
 exact aB.ret tab Tryz.func64 rfl (eN () trivial)

def limBR (e:Int):List PanicEntry:=[{v:=.iface 104 (.agg #[.int .i64 e]),recovered:=true}]
abbrev aEK (e:Int) (g k:Nat) (l:List SV) (W W':SH):Prop:=mW Tryz.prog g k l W (.panicking (aBV e)) (fun _:Unit=>True) (fun _=>⟨.panicking (limBR e),k,W'⟩)
abbrev intC (b:Nat) (n:Int):Nat×Fw.Blk:=(b,.cells 3 [.v (.int .i64 n)])
abbrev zI (b:Nat) (n:Bool):Nat×Fw.Blk:=(b,.cells 4 [.v (.bool n)])
theorem bDN:RecN 29 3 [.ptr 0 0,.ptr 1 0,.ptr 2 0]∧RecN 34 4 [.ptr 0 0,.ptr 1 0,.ptr 2 0,.ptr 3 0]:=by
 refine ⟨mW.of Tryz.func29 (by kernel_rfl) rfl Tryz.ntmps29 rfl fun E0 F h w0 c0 cs=>?_,mW.of Tryz.func34 (by kernel_rfl) rfl Tryz.ntmps34 rfl fun E0 F h w0 c0 cs=>?_⟩
 all_goals
  refine sqs ?_
  refine aA.recoverN ?_
  refine sqs ?_
  refine aA.effV (fun E h=>pG Tryz.underlying20) ?_
  refine sqs ?_
  refine aA.finU (aB.retD tab (by first|exact Tryz.func29|exact Tryz.func34) rfl (zJ.mk () trivial [] trivial rfl rfl rfl))
theorem bDP (e:Int):aEK e 29 3 [.ptr 0 0,.ptr 1 0,.ptr 2 0] [zC 0,zC 1,eC 2 0] [zC 0,zC 1,eC 2 e]∧aEK e 34 4 [.ptr 0 0,.ptr 1 0,.ptr 2 0,.ptr 3 0] [intC 0 0,zC 1,zI 2 false,eC 3 0] [intC 0 0,zC 1,zI 2 false,eC 3 e]:=by
 refine ⟨mW.of Tryz.func29 (by kernel_rfl) rfl Tryz.ntmps29 rfl fun E0 F h w0 c0 cs=>?_,mW.of Tryz.func34 (by kernel_rfl) rfl Tryz.ntmps34 rfl fun E0 F h w0 c0 cs=>?_⟩
 all_goals
  refine sqs ?_
  refine aA.recoverP ?_
  refine sqs ?_
  refine aA.callV (fun Ez Hz Az Sz K=>aRU e) ?_
  conv=>whnf
  refine sqs ?_
  refine aA.finU (aB.retD tab (by first|exact Tryz.func29|exact Tryz.func34) rfl (zJ.mk () trivial [] sH rfl rfl rfl))
def ofV (x:(Rt×Rt)×Int):Value:=.tuple #[x.1.1.v,x.1.2.v,.int .i64 x.2]
theorem sS {h:Array Obj} (s:aG) {vU vI vP vM vO vF vR vS:Value} (hs:Top h vU vI vP vM vO vF vR vS s) (hw:s.wf) (k:Int) (hT:gN h):FnV Tryz.prog 11 #[xY vU vI vP vM vO vF vR vS,.int .i64 k] h fun r h'=>r=ofV (ofT s k)∧aH h.size h h':=by
 have lU:=aZ s.units
 have lI:=aE It.row s.items
 have lP:=cK s.plants
 have lM:=aE Mc.row s.machines
 have lO:=aE OpV.row s.options
 have lF:=aE FbV.row s.forbids
 have lR:=aE RcV.row s.recipes
 have lS:=aE Sw.row s.swaps
 have hB:aEW s (fun k=>k<h.size) h:=⟨hs.below,hT.t⟩
 obtain ⟨y,hy⟩:∃y,y=ofT s k:=⟨_,rfl⟩
 rw [←hy]
 unfold ofT at hy
 refine Fn.ofG (mJ [vU,vI,vP,vM,vO,vF,vR,vS]) 8 [.agg [.buf 0,.buf 1,.buf 2,.buf 3,.buf 4,.buf 5,.buf 6,.buf 7],.v (.int .i64 k)] [(0,.ro (8) (aL s.units)),(1,.ro (6) (rws It.row s.items)),(2,.ro (1) (bV s.plants)),(3,.ro (4) (rws Mc.row s.machines)),(4,.ro (2) (rws OpV.row s.options)),(5,.ro (1) (rws FbV.row s.forbids)),(6,.ro (17) (rws RcV.row s.recipes)),(7,.ro (4) (rws Sw.row s.swaps))] (fun k=>k<_) Tryz.func11 (by kernel_rfl) rfl Tryz.ntmps11 rfl (fun _ hk=>hk) (Sat.ros (vs:=[vU,vI,vP,vM,vO,vF,vR,vS]) (l:=[(8,aL s.units),(6,rws It.row s.items),(1,bV s.plants),(4,rws Mc.row s.machines),(2,rws OpV.row s.options),(1,rws FbV.row s.forbids),(17,rws RcV.row s.recipes),(4,rws Sw.row s.swaps)]) ⟨hs.U,hs.I,hs.P,hs.M,hs.O,hs.F,hs.R,hs.S,trivial⟩) fun w0 cs=>?_
 conv=>whnf
 refine gS ?_;conv=>whnf
 by_cases hc:bE s=0
 rotate_left
 ·rw [if_neg hc] at hy
  subst hy
  refine aA.callV (fun Ez Hz Az Sz K=>qI s ⟨Sz.ro (b:=0) rfl,Sz.ro (b:=1) rfl,Sz.ro (b:=2) rfl,Sz.ro (b:=3) rfl,Sz.ro (b:=4) rfl,Sz.ro (b:=5) rfl,Sz.ro (b:=6) rfl,Sz.ro (b:=7) rfl,hs.below.up (Up.kp K)⟩ hw (hT.keeps ⟨K.size,K.same⟩)) ?_
  conv=>whnf
  refine bZ ?_
  refine aA.retU (aB.ret tab Tryz.func11 rfl fun _ _ _ _ K=>⟨_,rfl,rfl,K.keeps⟩)
 rw [if_pos hc] at hy
 refine aA.callV (fun Ez Hz Az Sz K=>qI s ⟨Sz.ro (b:=0) rfl,Sz.ro (b:=1) rfl,Sz.ro (b:=2) rfl,Sz.ro (b:=3) rfl,Sz.ro (b:=4) rfl,Sz.ro (b:=5) rfl,Sz.ro (b:=6) rfl,Sz.ro (b:=7) rfl,hs.below.up (Up.kp K)⟩ hw (hT.keeps ⟨K.size,K.same⟩)) ?_
 conv=>whnf
 rw [hc]
 try dsimp only
 refine bZ ?_
 by_cases hk:idx k s.recipes.length
 rotate_left
 ·rw [at?_none hk] at hy
  subst hy
  refine ⟨fun h1=>?_,fun h1=>?_⟩<;>conv=>whnf
  ·conv=>whnf
   refine aA.retU (aB.ret tab Tryz.func11 rfl fun _ _ _ _ K=>⟨_,rfl,rfl,K.keeps⟩)
  refine dB ?_
  refine aA.retU (aB.ret tab Tryz.func11 rfl fun _ _ _ _ K=>⟨_,rfl,rfl,K.keeps⟩)
 obtain ⟨j,rfl,hj,e3⟩:=at?_idx hk
 rw [e3] at hy
 dsimp only at hy
 refine dB ?_
 refine aA.deferU ?_
 refine sqs ?_
 refine aA.callN (aFE s) [0,1,2,3,4,5,6,7] ?_ sH ?CNa1
 case CNa1=>rfl
 intro _ _
 conv=>whnf
 refine sqs ?_
 refine aA.subR (nx':=13) (l':=[(8,fnM 12),(6,.ptr 11 0),(5,.ptr 10 0),(4,.ptr 9 0),(2,.ptr 8 0),(1,.v (.int .i64 j))]) (H':=[dQ 12,eC 11 0,zC 10,zC 9,dQ 8,(0,.ro 8 (aL s.units)),(1,.ro 6 (rws It.row s.items)),(2,.ro 1 (bV s.plants)),(3,.ro 4 (rws Mc.row s.machines)),(4,.ro 2 (rws OpV.row s.options)),(5,.ro 1 (rws FbV.row s.forbids)),(6,.ro 17 (rws RcV.row s.recipes)),(7,.ro 4 (rws Sw.row s.swaps))]) [] ?_ sH sH
 have hm:=List.getElem_mem hj
 have hr:=hw.R _ hm
 have hok:=hB.1.r _ hm
 have hsm:=(fU.1 hc).2.1.2.1 _ hm
 have hi:s.recipes[j].inn.length≤1000000:=by omega
 have ho:s.recipes[j].out.length≤1000000:=by omega
 unfold ofR at hy
 refine aA.held tab (.fl 0 (.fl 1 (.fl 2 (.fl 3 (.fl 4 (.fl 5 (.fl 6 (.fl 8 (.fl 9 (.fl 10 (.fl 11 (.fl 12 (.fl 13 (.fl 14 (.e1 7 [10,14] (.e1 15 [] (.e1 16 [] (.e1 17 [] (.e1 18 [] .done))))))))))))))))))) (by kernel_rfl) ?_;conv=>whnf
 refine fA ?_
 conv=>whnf
 refine ⟨_,bA hj,?_⟩;conv=>whnf
 try (refine And.intro (by first|omega|exact Nat.le_of_ble_eq_true rfl) ?_;(try intro _);conv=>whnf)
 conv=>whnf
 refine ⟨_,bA hj,?_⟩;conv=>whnf
 by_cases e1:(fY s s.recipes[j].inn).2=0
 ·obtain ⟨I,hI⟩:∃M,fY s s.recipes[j].inn=(M,0):=⟨_,Prod.ext rfl e1⟩
  rw [hI,iO (x:=(I,0)) rfl] at hy
  refine aK.callT (zY s _ _) (⟨hok.i,hB⟩) (aGN hw hr.i hi _ _ hI) [0,1,2,3,4,5,6,7,12] ?_ sH ?_
  rotate_left
  ·rfl
  intro _ _
  conv=>whnf
  try refine oB ?_
  refine sqr ?_
  by_cases e2:(fY s s.recipes[j].out).2=0
  ·obtain ⟨O,hO⟩:∃M,fY s s.recipes[j].out=(M,0):=⟨_,Prod.ext rfl e2⟩
   rw [hO,iO (x:=(O,0)) rfl] at hy
   subst hy
   refine aK.callT (zY s _ _) (⟨hok.o,hB⟩) (aGN hw hr.o ho _ _ hO) [0,1,2,3,4,5,6,7,12] ?_ sH ?_
   rotate_left
   ·rfl
   intro _ _
   conv=>whnf
   try refine oB ?_
   refine fA ?_
   refine sqs ?_
   refine aA.retU ?_
   refine aB.deferN bDN.1 [9,10,11] ?_ trivial rfl (fun e=>by cases e)
   intro _ _
   conv=>whnf
   exact aB.ret tab Tryz.func11 rfl fun _ _ _ _ K=>⟨_,rfl,rfl,K.keeps⟩
  rw [gX e2] at hy
  subst hy
  refine aK.callT (zY s _ _) (⟨hok.o,hB⟩) (aLW hw hr.o ho _ _ rfl e2) [0,1,2,3,4,5,6,7,12] ?_ sH ?_
  rotate_left
  ·rfl
  intro _ _
  conv=>whnf
  refine aB.deferN (bDP _).1 [9,10,11] ?_ ⟨by rfl,by rfl,by rfl,trivial⟩ rfl (fun e=>by cases e)
  intro _ _
  conv=>whnf
  exact aB.ret tab Tryz.func11 rfl fun _ _ _ _ K=>⟨_,rfl,rfl,K.keeps⟩
 rw [gX e1] at hy
 subst hy
 refine aK.callT (zY s _ _) (⟨hok.i,hB⟩) (aLW hw hr.i hi _ _ rfl e1) [0,1,2,3,4,5,6,7,12] ?_ sH ?_
 rotate_left
 ·rfl
 intro _ _
 conv=>whnf
 refine aB.deferN (bDP _).1 [9,10,11] ?_ ⟨by rfl,by rfl,by rfl,trivial⟩ rfl (fun e=>by cases e)
 intro _ _
 conv=>whnf
 exact aB.ret tab Tryz.func11 rfl fun _ _ _ _ K=>⟨_,rfl,rfl,K.keeps⟩

theorem devs_fn (s:aG):FnS Tryz.prog 35 8 [.agg [.buf 0,.buf 1,.buf 2,.buf 3,.buf 4,.buf 5,.buf 6,.buf 7]] [(0,.ro 8 (aL s.units)),(1,.ro 6 (rws It.row s.items)),(2,.ro 1 (bV s.plants)),(3,.ro 4 (rws Mc.row s.machines)),(4,.ro 2 (rws OpV.row s.options)),(5,.ro 1 (rws FbV.row s.forbids)),(6,.ro 17 (rws RcV.row s.recipes)),(7,.ro 4 (rws Sw.row s.swaps))] (fun _:Unit=>True) (fun _=>.ret (.fn (.func 63) [] [.ptr 8 0]) 9 [dQ 8]):=by
 refine FnS.of Tryz.func35 (by kernel_rfl) rfl Tryz.ntmps35 rfl fun E0 F h w0 cs=>?_
 conv=>whnf
 refine gS ?_;conv=>whnf
 try refine aA.retU ?_
 exact aB.ret tab Tryz.func35 rfl (eN () trivial)
theorem exam_y {s:aG} (hw:s.wf) {r:RcV} (hr:r.wf) (hb:r.inn.length≤1000000∧r.out.length≤1000000) {Y T:Rt} (hY:eU r.yN r.yD=(Y,0)) (hTo:eU r.tN r.tD=(T,0)) {b:Rt} {w:Bool} (h:exR s r=((b,w),0)):
  FnT Tryz.prog (fun F h=>r.ok F h∧aEW s F h) 64 9 [.agg (toV r.row),fnM 8] [dQ 8,(0,.ro 8 (aL s.units)),(1,.ro 6 (rws It.row s.items)),(2,.ro 1 (bV s.plants)),(3,.ro 4 (rws Mc.row s.machines)),(4,.ro 2 (rws OpV.row s.options)),(5,.ro 1 (rws FbV.row s.forbids)),(6,.ro 17 (rws RcV.row s.recipes)),(7,.ro 4 (rws Sw.row s.swaps))] (fun _:Unit=>True) (fun _=>.ret (.agg [.v (.bool b.neg),.v (.string b.n),.v (.string b.d),.v (.bool w)]) 9 [dQ 8]):=by
 have:=aUL s hw r hr hb hY hTo
 rw [h] at this
 exact this
theorem exam_n {s:aG} (hw:s.wf) {r:RcV} (hr:r.wf) (hb:r.inn.length≤1000000∧r.out.length≤1000000) {Y T:Rt} (hY:eU r.yN r.yD=(Y,0)) (hTo:eU r.tN r.tD=(T,0)) {e:Int} (h:(exR s r).2=e) (he:e≠0):
  FnT Tryz.prog (fun F h=>r.ok F h∧aEW s F h) 64 9 [.agg (toV r.row),fnM 8] [dQ 8,(0,.ro 8 (aL s.units)),(1,.ro 6 (rws It.row s.items)),(2,.ro 1 (bV s.plants)),(3,.ro 4 (rws Mc.row s.machines)),(4,.ro 2 (rws OpV.row s.options)),(5,.ro 1 (rws FbV.row s.forbids)),(6,.ro 17 (rws RcV.row s.recipes)),(7,.ro 4 (rws Sw.row s.swaps))] (fun _:Unit=>True) (fun _=>.pan (aBV e) 9 [dQ 8]):=by
 subst h
 have:=aUL s hw r hr hb hY hTo
 rw [show exO (exR s r)=.pan (aBV (exR s r).2) 9 [dQ 8] from if_neg he] at this
 exact this
theorem aSN (s:aG) (r:RcV):TOk (fun F h=>r.ok F h∧aEW s F h):=⟨fun _ _ _ hs H=>⟨H.1.up ⟨hs,fun _ _=>rfl⟩,(aIW s).mono _ _ _ hs H.2⟩,fun _ _ _ H K=>⟨H.1.up ⟨fun _ x=>x,K.same⟩,(aIW s).keep _ _ _ H.2 K⟩⟩
def wrV (x:WR):Value:=.tuple #[.int .i64 x.1.1,x.1.2.1.v,.bool x.1.2.2,.int .i64 x.2]
theorem lY {h:Array Obj} (s:aG) {vU vI vP vM vO vF vR vS:Value} (hs:Top h vU vI vP vM vO vF vR vS s) (hw:s.wf) (hT:gN h):FnV Tryz.prog 13 #[xY vU vI vP vM vO vF vR vS] h fun r h'=>r=wrV (wrT s)∧aH h.size h h':=by
 have lU:=aZ s.units
 have lI:=aE It.row s.items
 have lP:=cK s.plants
 have lM:=aE Mc.row s.machines
 have lO:=aE OpV.row s.options
 have lF:=aE FbV.row s.forbids
 have lR:=aE RcV.row s.recipes
 have lS:=aE Sw.row s.swaps
 have mR:=hs.R.len
 have hB:aEW s (fun k=>k<h.size) h:=⟨hs.below,hT.t⟩
 obtain ⟨y,hy⟩:∃y,y=wrT s:=⟨_,rfl⟩
 rw [←hy]
 unfold wrT at hy
 refine Fn.ofG (mJ [vU,vI,vP,vM,vO,vF,vR,vS]) 8 [.agg [.buf 0,.buf 1,.buf 2,.buf 3,.buf 4,.buf 5,.buf 6,.buf 7]] [(0,.ro (8) (aL s.units)),(1,.ro (6) (rws It.row s.items)),(2,.ro (1) (bV s.plants)),(3,.ro (4) (rws Mc.row s.machines)),(4,.ro (2) (rws OpV.row s.options)),(5,.ro (1) (rws FbV.row s.forbids)),(6,.ro (17) (rws RcV.row s.recipes)),(7,.ro (4) (rws Sw.row s.swaps))] (fun k=>k<_) Tryz.func13 (by kernel_rfl) rfl Tryz.ntmps13 rfl (fun _ hk=>hk) (Sat.ros (vs:=[vU,vI,vP,vM,vO,vF,vR,vS]) (l:=[(8,aL s.units),(6,rws It.row s.items),(1,bV s.plants),(4,rws Mc.row s.machines),(2,rws OpV.row s.options),(1,rws FbV.row s.forbids),(17,rws RcV.row s.recipes),(4,rws Sw.row s.swaps)]) ⟨hs.U,hs.I,hs.P,hs.M,hs.O,hs.F,hs.R,hs.S,trivial⟩) fun w0 cs=>?_
 conv=>whnf
 refine gS ?_;conv=>whnf
 by_cases hc:bE s=0
 rotate_left
 ·rw [if_neg hc] at hy
  subst hy
  refine aA.callV (fun Ez Hz Az Sz K=>qI s ⟨Sz.ro (b:=0) rfl,Sz.ro (b:=1) rfl,Sz.ro (b:=2) rfl,Sz.ro (b:=3) rfl,Sz.ro (b:=4) rfl,Sz.ro (b:=5) rfl,Sz.ro (b:=6) rfl,Sz.ro (b:=7) rfl,hs.below.up (Up.kp K)⟩ hw (hT.keeps ⟨K.size,K.same⟩)) ?_
  conv=>whnf
  refine bZ ?_
  refine aA.retU (aB.ret tab Tryz.func13 rfl fun _ _ _ _ K=>⟨_,rfl,rfl,K.keeps⟩)
 rw [if_pos hc] at hy
 refine aA.callV (fun Ez Hz Az Sz K=>qI s ⟨Sz.ro (b:=0) rfl,Sz.ro (b:=1) rfl,Sz.ro (b:=2) rfl,Sz.ro (b:=3) rfl,Sz.ro (b:=4) rfl,Sz.ro (b:=5) rfl,Sz.ro (b:=6) rfl,Sz.ro (b:=7) rfl,hs.below.up (Up.kp K)⟩ hw (hT.keeps ⟨K.size,K.same⟩)) ?_
 conv=>whnf
 rw [hc]
 try dsimp only
 refine bZ ?_
 refine aA.deferU ?_
 refine sqs ?_
 refine aA.callN (devs_fn s) [0,1,2,3,4,5,6,7] ?_ sH ?CNa1
 case CNa1=>rfl
 intro _ _
 conv=>whnf
 refine sqs ?_
 refine aA.subR (nx':=14) (l':=[(17,.fn (.func 63) [] [.ptr 13 0]),(2,.ptr 9 0),(3,.ptr 10 0),(4,.ptr 11 0),(5,.ptr 12 0)]) (H':=[dQ 13,eC 12 0,zI 11 false,zC 10,intC 9 0,dQ 8,(0,.ro 8 (aL s.units)),(1,.ro 6 (rws It.row s.items)),(2,.ro 1 (bV s.plants)),(3,.ro 4 (rws Mc.row s.machines)),(4,.ro 2 (rws OpV.row s.options)),(5,.ro 1 (rws FbV.row s.forbids)),(6,.ro 17 (rws RcV.row s.recipes)),(7,.ro 4 (rws Sw.row s.swaps))]) [] ?_ sH sH
 refine aA.range Tryz.func63 (by kernel_rfl) rfl Tryz.ntmps63 fun E1 D yy r hrec hA1 w1 cs1=>?_
 refine sqs ?_
 refine aA.callN (aFE s) [0,1,2,3,4,5,6,7] ?_ sH ?CNa2
 case CNa2=>rfl
 intro _ _
 conv=>whnf
 refine sqs ?_
 refine aA.subR [] (aA.loop (fun (k:Nat)=>[(11,.v (.int .i64 k)),(10,.v (.int .i64 (rws RcV.row s.recipes).length)),(9,.buf 6),(3,fnM 16),(0,.v (.func (.yield yy) #[] #[]))]) (fun (k:Nat)=>[dQ 16,(15,.raw yy (.loop (lp r .ready none))),(14,.raw D (.deferred (some []))),dQ 13,eC 12 0,zI 11 false,zC 10,intC 9 0,dQ 8,(0,.ro 8 (aL s.units)),(1,.ro 6 (rws It.row s.items)),(2,.ro 1 (bV s.plants)),(3,.ro 4 (rws Mc.row s.machines)),(4,.ro 2 (rws OpV.row s.options)),(5,.ro 1 (rws FbV.row s.forbids)),(6,.ro 17 (rws RcV.row s.recipes)),(7,.ro 4 (rws Sw.row s.swaps))]) 17 (fun (k:Nat)=>k≤s.recipes.length∧wrF s (s.recipes.drop k) k=y) (fun (k:Nat)=>s.recipes.length - k) ?round3 (0) ?J03) sH sH
 case J03=>exact (⟨Nat.zero_le _,hy.symm⟩)
 rintro k hJ back
 try dsimp only at hJ back
 conv=>whnf
 try dsimp only
 refine gS ?_;conv=>whnf
 refine ⟨fun hk=>?_,fun hk=>?_⟩<;>conv=>whnf
 ·have hk:k<s.recipes.length:=by omega
  have hJ2:=hJ.2
  rw [List.drop_eq_getElem_cons hk] at hJ2
  unfold wrF at hJ2
  have hm:=List.getElem_mem hk
  have hrw:=hw.R _ hm
  have hok:=hB.1.r _ hm
  have hsm:=(fU.1 hc).2.1.2.1 _ hm
  have hb:s.recipes[k].inn.length≤1000000∧s.recipes[k].out.length≤1000000:=by omega
  have hrb:=mC hc hm
  obtain ⟨Y,hY,_⟩:=pO hrb.y
  obtain ⟨T,hTo,_⟩:=pO hrb.t
  refine dB ?_
  refine ⟨_,bA hk,?_⟩;conv=>whnf
  try (refine oN ?_;conv=>whnf)
  by_cases e:(exR s s.recipes[k]).2=0
  rotate_left
  ·rw [if_neg e] at hJ2
   refine aA.callT (aSN s _) (⟨hok,hB⟩) (exam_n hw hrw hb hY hTo rfl e) [0,1,2,3,4,5,6,7,16] sH ?CNa4 ?_
   case CNa4=>rfl
   intro _ _
   conv=>whnf
   refine aB.pan Tryz.func63 (qG.pan (nx':=20) hA1 ?_)
   refine aB.collected (dn:=14) ?_ (fun e=>by cases e)
   refine aB.deferN (bDP _).2 [9,10,11,12] ?_ ⟨by rfl,by rfl,by rfl,by rfl,trivial⟩ rfl (fun e=>by cases e)
   intro _ _
   conv=>whnf
   exact aB.ret tab Tryz.func13 rfl fun Ez Hz Az Sz K=>⟨_,rfl,by rw [←hJ2];rfl,K.keeps⟩
  rw [if_pos e] at hJ2
  obtain ⟨⟨b,w⟩,hx⟩:∃x,exR s s.recipes[k]=(x,0):=⟨_,Prod.ext rfl e⟩
  rw [hx] at hJ2
  refine aA.callT (aSN s _) (⟨hok,hB⟩) (exam_y hw hrw hb hY hTo hx) [0,1,2,3,4,5,6,7,16] sH ?CNa5 ?_
  case CNa5=>rfl
  intro _ _
  conv=>whnf
  refine sqs ?_
  refine aA.subR (nx':=18) (l':=[(20,.agg [.v (.bool b.neg),.v (.string b.n),.v (.string b.d),.v (.bool w)]),(17,.v (.int .i64 k)),(16,.v (.func (.yield yy) #[] #[])),(11,.v (.int .i64 k)),(10,.v (.int .i64 (rws RcV.row s.recipes).length)),(9,.buf 6),(3,fnM 16),(0,.v (.func (.yield yy) #[] #[]))]) (H':=[dQ 16,(15,.raw yy (.loop (lp r .ready none))),(14,.raw D (.deferred (some []))),dQ 13,eC 12 0,zI 11 false,zC 10,intC 9 0,dQ 8,(0,.ro 8 (aL s.units)),(1,.ro 6 (rws It.row s.items)),(2,.ro 1 (bV s.plants)),(3,.ro 4 (rws Mc.row s.machines)),(4,.ro 2 (rws OpV.row s.options)),(5,.ro 1 (rws FbV.row s.forbids)),(6,.ro 17 (rws RcV.row s.recipes)),(7,.ro 4 (rws Sw.row s.swaps))]) [] ?_ sH sH
  refine aA.yield hrec 15 fun E2 hA2 w2 fr2 cs2=>?_
  refine sqs ?_
  refine aA.beginRound 15 ?_
  refine sqs ?_
  cases w with
  |false=>
   conv=>whnf
   refine aA.endRound 15 hA2 ?_
   refine bZ ?_
   refine aA.subR [] (back (k+1) (by exact (⟨hk,hJ2⟩)) (by (try dsimp only);omega)) sH sH
  |true=>
   refine sqs ?_
   refine aA.held tab (.fl 0 (.fl 1 (.fl 2 (.e1 3 [2] (.e1 4 [] (.e1 5 [] (.e1 6 [] .done))))))) (by kernel_rfl) ?_;conv=>whnf
   refine fA ?_
   refine sqs ?_
   refine aA.roundRet 15 hA2 ?_
   refine sqs ?_
   refine aA.retU (aB.ret tab Tryz.func63 rfl (qG.ret (nx':=20) hA1 (yn:=15) ?_));conv=>whnf
   refine aA.retU ?_
   refine aB.collected (dn:=14) ?_ (fun e=>by cases e)
   refine aB.deferN bDN.2 [9,10,11,12] ?_ trivial rfl (fun e=>by cases e)
   intro _ _
   conv=>whnf
   exact aB.ret tab Tryz.func13 rfl fun Ez Hz Az Sz K=>⟨_,rfl,by rw [←hJ2];rfl,K.keeps⟩
 have hk:k=s.recipes.length:=by omega
 have hJ2:=hJ.2
 rw [hk,List.drop_length] at hJ2
 clear back hJ
 refine aA.finU (aB.ret tab Tryz.func63 rfl (qG.ret (nx':=20) hA1 (yn:=15) ?_));conv=>whnf
 refine sqs ?_
 refine aA.retU ?_
 refine aB.collected (dn:=14) ?_ (fun e=>by cases e)
 refine aB.deferN bDN.2 [9,10,11,12] ?_ trivial rfl (fun e=>by cases e)
 intro _ _
 conv=>whnf
 exact aB.ret tab Tryz.func13 rfl fun Ez Hz Az Sz K=>⟨_,rfl,by rw [←hJ2];rfl,K.keeps⟩
theorem fO {h:Array Obj} (s:aG) {vU vI vP vM vO vF vR vS:Value} (hs:Top h vU vI vP vM vO vF vR vS s) (hw:s.wf) (hT:gN h):FnV Tryz.prog 15 #[xY vU vI vP vM vO vF vR vS] h fun r h'=>r=.int .i64 (fV s)∧aH h.size h h':=by
 obtain ⟨y,hy⟩:∃y,y=fV s:=⟨_,rfl⟩
 rw [←hy]
 unfold fV at hy
 refine Fn.ofG (mJ [vU,vI,vP,vM,vO,vF,vR,vS]) 8 [.agg [.buf 0,.buf 1,.buf 2,.buf 3,.buf 4,.buf 5,.buf 6,.buf 7]] [(0,.ro (8) (aL s.units)),(1,.ro (6) (rws It.row s.items)),(2,.ro (1) (bV s.plants)),(3,.ro (4) (rws Mc.row s.machines)),(4,.ro (2) (rws OpV.row s.options)),(5,.ro (1) (rws FbV.row s.forbids)),(6,.ro (17) (rws RcV.row s.recipes)),(7,.ro (4) (rws Sw.row s.swaps))] (fun k=>k<_) Tryz.func15 (by kernel_rfl) rfl Tryz.ntmps15 rfl (fun _ hk=>hk) (Sat.ros (vs:=[vU,vI,vP,vM,vO,vF,vR,vS]) (l:=[(8,aL s.units),(6,rws It.row s.items),(1,bV s.plants),(4,rws Mc.row s.machines),(2,rws OpV.row s.options),(1,rws FbV.row s.forbids),(17,rws RcV.row s.recipes),(4,rws Sw.row s.swaps)]) ⟨hs.U,hs.I,hs.P,hs.M,hs.O,hs.F,hs.R,hs.S,trivial⟩) fun w0 cs=>?_
 conv=>whnf
 refine gS ?_;conv=>whnf
 obtain ⟨⟨⟨n,b,w⟩,e⟩,hx⟩:∃x,wrT s=x:=⟨_,rfl⟩
 rw [hx] at hy
 refine aA.callV (fun Ez Hz Az Sz K=>lY s ⟨Sz.ro (b:=0) rfl,Sz.ro (b:=1) rfl,Sz.ro (b:=2) rfl,Sz.ro (b:=3) rfl,Sz.ro (b:=4) rfl,Sz.ro (b:=5) rfl,Sz.ro (b:=6) rfl,Sz.ro (b:=7) rfl,hs.below.up (Up.kp K)⟩ hw (hT.keeps ⟨K.size,K.same⟩)) ?_
 conv=>whnf
 rw [hx]
 try dsimp only
 refine sqs ?_
 refine ⟨fun he=>?_,fun he=>?_⟩<;>conv=>whnf
 ·have he:e=0:=he
  rw [if_pos he] at hy
  cases w with
  |true=>
   conv=>whnf
   subst hy
   refine aA.retU (aB.ret tab Tryz.func15 rfl fun _ _ _ _ K=>⟨_,rfl,rfl,K.keeps⟩)
  |false=>
   conv=>whnf
   subst hy
   refine aA.retU (aB.ret tab Tryz.func15 rfl fun _ _ _ _ K=>⟨_,rfl,rfl,K.keeps⟩)
 conv=>whnf
 have he:¬e=0:=he
 rw [if_neg he] at hy
 subst hy
 refine aA.retU (aB.ret tab Tryz.func15 rfl fun _ _ _ _ K=>⟨_,rfl,rfl,K.keeps⟩)
end Go.Proofs.YthjedpdedjhndaaGreatDoor

namespace Go.SrcM
open Go Go.Fw Go.RatM
theorem aBD {α β:Type} {f:α→Option β} {f':α→Option β} {p:α→α} {q:β→β} (h:∀a,f' (p a)=(f a).map q):∀l:List α,cH f' (l.map p)=(cH f l).map (List.map q)
 | []=>rfl
 |a::l=>by
  simp only [List.map_cons,cH,h]
  cases ha:f a with
  |none=>rfl
  |some b=>
   simp only [Option.map_some,aBD h l]
   cases cH f l with
   |none=>rfl
   |some m=>rfl
section
variable (s:aG)
theorem aIM:s.bare.options.map OpV.name=s.options.map OpV.name:=by
 show (s.options.map OpV.bare).map OpV.name=_
 rw [List.map_map];rfl
theorem aPU (c:It):oI s.bare c=oI s c:=rfl
theorem aRG (c:Mc):pH s.bare c=pH s c:=rfl
theorem aFI (c:Am):lK s.bare c=lK s c:=rfl
theorem aRH (c:Rn):pQ s.bare c=pQ s c:=rfl
theorem aRF (c:Sw):nS s.bare c=nS s c:=rfl
theorem aEJ (c:Cd):jV s.bare c=jV s c:=by
 unfold jV
 rw [aIM]
 cases cZ (s.options.map OpV.name) c.opt with
 |none=>rfl
 |some o=>
  have e:s.bare.options[o]? = (s.options[o]?).map OpV.bare:=List.getElem?_map ..
  dsimp only
  rw [e]
  generalize s.options[o]? = z
  cases z with
  |none=>rfl
  |some q=>rfl
theorem aSA (f:FbV):pS s.bare f.bare=(pS s f).map FbV.bare:=by
 unfold pS
 rw [jB (aEJ s)]
 show (cH (jV s) f.cs).map _=_
 cases cH (jV s) f.cs with
 |none=>rfl
 |some m=>rfl
theorem aPV (r:RcV):nP s.bare r.bare=(nP s r).map RcV.bare:=by
 unfold nP
 rw [jB (aEJ s),jB (aFI s),jB (aFI s),jB (aRH s)]
 show (match cZ (s.items.map It.name) r.item with|some i=>_|none=>_)=_
 cases cZ (s.items.map It.name) r.item with
 |none=>rfl
 |some i=>
  show (match cZ s.plants r.plant with|some i=>_|none=>_)=_
  cases cZ s.plants r.plant with
  |none=>rfl
  |some p=>
   show (match cH (jV s) r.cs with|some i=>_|none=>_)=_
   cases cH (jV s) r.cs with
   |none=>rfl
   |some cs=>
    show (match cH (lK s) r.inn with|some i=>_|none=>_)=_
    cases cH (lK s) r.inn with
    |none=>rfl
    |some inn=>
     show (match cH (lK s) r.out with|some i=>_|none=>_)=_
     cases cH (lK s) r.out with
     |none=>rfl
     |some out=>
      show (match cH (pQ s) r.runs with|some i=>_|none=>_)=_
      cases cH (pQ s) r.runs with
      |none=>rfl
      |some runs=>rfl
theorem aXB:resS s.bare=(resS s).map aG.bare:=by
 unfold resS
 rw [jB (aPU s),jB (aRG s),jB (aRF s)]
 show (match cH (oI s) s.items with|some i=>_|none=>_)=_
 cases cH (oI s) s.items with
 |none=>rfl
 |some a=>
  show (match cH (pH s) s.machines with|some i=>_|none=>_)=_
  cases cH (pH s) s.machines with
  |none=>rfl
  |some b=>
   show (match cH (pS s.bare) (s.forbids.map FbV.bare) with|some i=>_|none=>_)=_
   rw [aBD (aSA s)]
   cases cH (pS s) s.forbids with
   |none=>rfl
   |some c=>
    show (match cH (nP s.bare) (s.recipes.map RcV.bare) with|some i=>_|none=>_)=_
    rw [aBD (aPV s)]
    cases cH (nP s) s.recipes with
    |none=>rfl
    |some d=>
     show (cH (nS s) s.swaps).map _=_
     cases cH (nS s) s.swaps with
     |none=>rfl
     |some e=>rfl
theorem aCL:nH s.bare↔nH s:=by
 unfold nH
 rw [aIM]
 have:(∀o∈s.bare.options,o.ch.Nodup) ↔ ∀o∈s.options,o.ch.Nodup:=by
  show (∀o∈s.options.map OpV.bare,o.ch.Nodup)↔_
  exact ⟨fun h o ho=>h o.bare (List.mem_map_of_mem (f:=OpV.bare) ho),fun h o ho=>by obtain ⟨q,hq,rfl⟩:=List.mem_map.1 ho;exact h q hq⟩
 rw [this]
 exact Iff.rfl
theorem aFN:eL s.bare=((eL s).1.bare,(eL s).2):=by
 unfold eL
 by_cases ht:nH s
 ·rw [if_pos ht,if_pos ((aCL s).2 ht)];rfl
 rw [if_neg ht,if_neg (fun h=>ht ((aCL s).1 h))]
 show (match dA s.units with | .inr e=>_ | .inl u=>_)=_
 cases dA s.units with
 |inr e=>rfl
 |inl u=>
  dsimp only
  rw [aXB]
  cases resS s with
  |none=>rfl
  |some t=>rfl
end
end Go.SrcM

namespace Go.SynM
open Go Go.Fw Go.RatM Go.SrcM
open Go.Proofs.YthjedpdedjhndaaGreatDoor (Tok)
def rcH (c:RcV) (x:Hd×Hd×Hd×Hd):RcV:={c with hc:=x.1,hi:=x.2.1,ho:=x.2.2.1,hr:=x.2.2.2}
theorem aIG {t:aG} {U:List Un} {I:List It} {P:List ByteArray} {c1 c2:RcV} (h:t.bare=⟨U,I,P,[],[],[],[c1,c2],[]⟩):∃a b,t=⟨U,I,P,[],[],[],[rcH c1 a,rcH c2 b],[]⟩:=by
 have h1:t.units=U:=congrArg aG.units h
 have h2:t.items=I:=congrArg aG.items h
 have h3:t.plants=P:=congrArg aG.plants h
 have h4:t.machines=[]:=congrArg aG.machines h
 have h5:t.options=[]:=List.map_eq_nil_iff.1 (show t.options.map OpV.bare=[] from congrArg aG.options h)
 have h6:t.forbids=[]:=List.map_eq_nil_iff.1 (show t.forbids.map FbV.bare=[] from congrArg aG.forbids h)
 have h7:t.recipes.map RcV.bare=[c1,c2]:=congrArg aG.recipes h
 have h8:t.swaps=[]:=congrArg aG.swaps h
 obtain ⟨u,i,p,m,o,f,r,x⟩:=t
 subst h1 h2 h3 h4 h5 h6 h8
 cases r with
 |nil=>cases h7
 |cons a l=>
  cases l with
  |nil=>exact absurd (congrArg List.length h7) (by simp)
  |cons b l=>
   cases l with
   |cons _ _=>exact absurd (congrArg List.length h7) (by simp)
   |nil=>
    have e1:a.bare=c1:=(List.cons.inj h7).1
    have e2:b.bare=c2:=(List.cons.inj (List.cons.inj h7).2).1
    subst e1 e2
    exact ⟨(a.hc,a.hi,a.ho,a.hr),(b.hc,b.hi,b.ho,b.hr),rfl⟩
def preB:ByteArray:=⟨#[117,110,105,116,32,103,59,32,117,110,105,116,32,107,103,32,61,32,49,48,48,48,47,49,32,103,59,32,105,116,101,109,32,97,32,105,110,32,107,103,32,109,97,115,115,32,49,47,49,59,32,105,116,101,109,32,98,32,105,110,32,103,32,109,97,115,115,32,49,47,49,48,48,48,59,32,112,108,97,110,116,32,112,59,32,109,97,107,101,32,97,32,97,116,32,112,32,102,114,111,109,32,48,32,116,111,32,53,32,123,32,111,117,116,32,49,47,49,32,107,103,32,97,59,32,114,101,119,111,114,107,32,49,47,50,59,32,121,105,101,108,100,32,48,47,49,32,119,105,116,104,105,110,32,49,47,49,59,32,108,101,97,100,32,48,59,32,125,32,109,97,107,101,32,97,32,97,116,32,112,32,102,114,111,109,32,53,32,116,111,32,57,32,123,32,105,110,32,52,47,49,32,107,103,32,98,59,32,105,110,32,98,97,99,107,32,54,48,48,48,47,49,32,103,32,98,59,32,111,117,116,32,56,47,49,32,107,103,32,97,59,32,111,117,116,32,49,47,49,32,107,103,32,98,59,32,114,101,119,111,114,107,32,49,47,50,59,32,121,105,101,108,100,32,49,47,49,32,119,105,116,104,105,110,32]⟩
def postB:ByteArray:=⟨#[47,49,48,59,32,108,101,97,100,32,48,59,32,125]⟩
def srcE (t:ByteArray):ByteArray:=(preB++t)++postB
end Go.SynM
namespace Go.Proofs.YthjedpdedjhndaaGreatDoor
open Go Go.Fw Go.NatM Go.RatM Go.SrcM Go.SynM
set_option maxRecDepth 100000
set_option maxHeartbeats 99999999
def NB (t:ByteArray):Prop:=cls (aY t 0)=2
instance (t:ByteArray):Decidable (NB t):=by unfold NB;infer_instance
def tlE (t:ByteArray):List (Nat×Tk):=match aHL (bs (srcE t)) 0 with
 | .inl l=>l
 | .inr _=>[]
def zE (t:ByteArray):aG:=match tQ noS (uD (tlE t)) with
 | .ok z _=>z
 | .bad _ _=>lL
theorem rW.upX {G G':Nat→Prop} {h h':Array Obj} (H:rW G h) (U:Up G h G' h'):rW G' h':=by
 refine ⟨fun j hj=>?_,U.sub _ H.2⟩
 have e:=U.same _ H.2
 have:=H.1 j hj
 unfold bL at this ⊢
 rw [e]
 exact this
theorem wQ {G:Nat→Prop} {h:Array Obj} {vU vI vP vM vO vF vR vS:Value} {s:aG} (H:pW G h vU vI vP vM vO vF vR vS s):∃aU cU aI cI aP cP aM cM aO cO aF cF aR cR aS cS,vU=.slice aU s.units.length cU∧vI=.slice aI s.items.length cI∧vP=.slice aP s.plants.length cP∧vM=.slice aM s.machines.length cM∧vO=.slice aO s.options.length cO∧vF=.slice aF s.forbids.length cF∧vR=.slice aR s.recipes.length cR∧vS=.slice aS s.swaps.length cS:=by
 obtain ⟨aU,cU,e1⟩:=RoF.sli H.U (aZ s.units)
 obtain ⟨aI,cI,e2⟩:=RoF.sli H.I (aE It.row s.items)
 obtain ⟨aP,cP,e3⟩:=RoF.sli H.P (cK s.plants)
 obtain ⟨aM,cM,e4⟩:=RoF.sli H.M (aE Mc.row s.machines)
 obtain ⟨aO,cO,e5⟩:=RoF.sli H.O (aE OpV.row s.options)
 obtain ⟨aF,cF,e6⟩:=RoF.sli H.F (aE FbV.row s.forbids)
 obtain ⟨aR,cR,e7⟩:=RoF.sli H.R (aE RcV.row s.recipes)
 obtain ⟨aS,cS,e8⟩:=RoF.sli H.S (aE Sw.row s.swaps)
 exact ⟨aU,cU,aI,cI,aP,cP,aM,cM,aO,cO,aF,cF,aR,cR,aS,cS,e1,e2,e3,e4,e5,e6,e7,e8⟩
theorem aWN {s:aG} (h:Lens s.bare):Lens s where
 U:=h.U
 I:=h.I
 P:=h.P
 M:=h.M
 O:=by have:=h.O;rwa [show s.bare.options.length=s.options.length from List.length_map _] at this
 F:=by have:=h.F;rwa [show s.bare.forbids.length=s.forbids.length from List.length_map _] at this
 R:=by have:=h.R;rwa [show s.bare.recipes.length=s.recipes.length from List.length_map _] at this
 S:=h.S
 o:=fun a ha=>h.o a.bare (List.mem_map_of_mem (f:=OpV.bare) ha)
 f:=fun a ha=>h.f a.bare (List.mem_map_of_mem (f:=FbV.bare) ha)
 r:=fun a ha=>h.r a.bare (List.mem_map_of_mem (f:=RcV.bare) ha)
def t0:ByteArray:=⟨#[48]⟩
def t1:ByteArray:=⟨#[49]⟩
def rE (t:ByteArray):aG:=(eL (zE t)).1
structure GdE (t:ByteArray):Prop where
 sz:t.size=1
 lx:aHL (bs (srcE t)) 0=.inl (tlE t)
 rs:tQ noS (uD (tlE t))=.ok (zE t) []
 kl:KL NB (uD (tlE t))
 hw:∀x∈uD (tlE t),x.text≠B gJ∧x.text≠B jS∧x.text≠B jR∧x.text≠B rA∧x.text≠B wIf∧(x.kind=1∨x.text.size≤1)
 ln:(uD (tlE t)).length≤65536
 lz:Lens (zE t)
 wf:∀u∈(zE t).units,i64 u.n∧i64 u.d
 rv:eL (zE t)=(rE t,0)
theorem gd0:GdE t0 where
 sz:=rfl
 lx:=by kernel_rfl
 rs:=by kernel_rfl
 kl:=⟨by decide +kernel⟩
 hw:=by decide +kernel
 ln:=by decide +kernel
 lz:=⟨by decide +kernel,by decide +kernel,by decide +kernel,by decide +kernel,by decide +kernel,by decide +kernel,by decide +kernel,by decide +kernel,by decide +kernel,by decide +kernel,by decide +kernel⟩
 wf:=by decide +kernel
 rv:=by kernel_rfl
theorem gd1:GdE t1 where
 sz:=rfl
 lx:=by kernel_rfl
 rs:=by kernel_rfl
 kl:=⟨by decide +kernel⟩
 hw:=by decide +kernel
 ln:=by decide +kernel
 lz:=⟨by decide +kernel,by decide +kernel,by decide +kernel,by decide +kernel,by decide +kernel,by decide +kernel,by decide +kernel,by decide +kernel,by decide +kernel,by decide +kernel,by decide +kernel⟩
 wf:=by decide +kernel
 rv:=by kernel_rfl
theorem vocB:aDJ NB:=⟨by decide,by decide⟩
def srO (y:PsX):eR:=.ret (.tup [srcA y.U y.I y.P y.M y.O y.F y.R y.S,.v (.bool true)]) 0 []
theorem aFR (t:ByteArray) (g:GdE t):FnX Tryz.prog 26 0 [.v (.string t)] [] (fun G h=>rW G h) (fun (y:PsX) G h=>pW G h y.U y.I y.P y.M y.O y.F y.R y.S y.s∧y.s.bare=rE t) srO:=by
 have ht:=g.sz
 have p1:preB.size=285:=by kernel_rfl
 have p2:postB.size=14:=by kernel_rfl
 refine FnX.of Tryz.func26 (by kernel_rfl) rfl Tryz.ntmps26 rfl fun E0 F G h N hP w0 cs=>?_
 conv=>whnf
 refine gS ?_;conv=>whnf
 refine And.intro (show preB.size+t.size≤9223372036854775807 by omega) ?_
 conv=>whnf
 refine And.intro (show (preB++t).size+postB.size≤9223372036854775807 by rw [ByteArray.size_append];omega) ?_
 refine sqs ?_
 refine aA.callY (N.gsub) (aVV (srcE t) (by unfold srcE;rw [ByteArray.size_append,ByteArray.size_append];omega) g.lx rfl g.ln g.kl vocB g.hw g.rs) (fun _ _=>trivial) [] sH ?CNa1 ?_
 case CNa1=>rfl
 rintro _ ⟨s1,a1,e1,u1,u2,u3,u4,u5,u6,u7,u8⟩ G1 h1 N1 J1
 have V1:=Now.step N.gsub N1
 obtain ⟨hz,rfl,rfl⟩:s1.bare=zE t∧a1=0∧e1=0:=J1.res
 have T1:pW G1 h1 u1 u2 u3 u4 u5 u6 u7 u8 s1:=J1.top
 obtain ⟨aU,cU,aI,cI,aP,cP,aM,cM,aO,cO,aF,cF,aR,cR,aS,cS,rfl,rfl,rfl,rfl,rfl,rfl,rfl,rfl⟩:=wQ T1
 conv=>whnf
 refine sqs ?_
 have w1:∀u∈s1.units,i64 u.n∧i64 u.d:=by rw [show s1.units=(zE t).units from (congrArg aG.units hz :)];exact g.wf
 refine aA.callY (N1.gsub) (aMQ s1 _ _ _ _ _ _ _ _ (aWN (by rw [hz];exact g.lz)) w1) (fun h U=>⟨T1.up U,hP.upX (V1.trans U)⟩) [] sH ?CNa2 ?_
 case CNa2=>rfl
 rintro _ ⟨t2,x2,y1,y2,y3,y4,y5,y6,y7,y8⟩ G2 h2 N2 J2
 have hr:=aFN s1
 rw [hz,g.rv] at hr
 obtain rfl:0=x2:=(Prod.mk.inj hr).2.trans J2.e
 have hb:t2.bare=rE t:=(J2.t.symm.trans (Prod.mk.inj hr).1.symm)
 have T2:pW G2 h2 y1 y2 y3 y4 y5 y6 y7 y8 t2:=J2.top
 obtain ⟨bU,dU,bI,dI,bP,dP,bM,dM,bO,dO,bF,dF,bR,dR,bS,dS,rfl,rfl,rfl,rfl,rfl,rfl,rfl,rfl⟩:=wQ T2
 conv=>whnf
 refine sqs ?_
 refine And.intro (fun _=>?_) (fun hn=>absurd (rfl) hn)
 conv=>whnf
 refine sqs ?_
 try refine aA.retU ?_
 exact aB.ret tab Tryz.func26 rfl (eX ((N.trans N1).trans N2) ((⟨t2,0,0,.slice bU t2.units.length dU,.slice bI t2.items.length dI,.slice bP t2.plants.length dP,.slice bM t2.machines.length dM,.slice bO t2.options.length dO,.slice bF t2.forbids.length dF,.slice bR t2.recipes.length dR,.slice bS t2.swaps.length dS⟩:PsX)) (fun h U=>⟨T2.up U,hb⟩))
end Go.Proofs.YthjedpdedjhndaaGreatDoor

namespace Go.Proofs.YthjedpdedjhndaaGreatDoor
open Go Go.Fw Go.NatM Go.RatM Go.SrcM Go.SynM
set_option maxRecDepth 100000
set_option maxHeartbeats 99999999
def dRc:RcV:=⟨⟨#[]⟩,⟨#[]⟩,0,0,⟨none,0⟩,[],⟨none,0⟩,[],⟨none,0⟩,[],0,0,0,0,0,0,0,⟨none,0⟩,[],0,0⟩
def rcE (t:ByteArray) (k:Nat):RcV:=(rE t).recipes.getD k dRc
abbrev HD:=Hd×Hd×Hd×Hd
def exE (t:ByteArray) (l:List RcV):aG:=⟨(rE t).units,(rE t).items,(rE t).plants,[],[],[],l,[]⟩
def exE2 (t:ByteArray) (a b:HD):aG:=exE t [rcH (rcE t 0) a,rcH (rcE t 1) b]
def exE1 (t:ByteArray) (b:HD):aG:=exE t [rcH (rcE t 1) b]
theorem shp0:rE t0=exE t0 [rcE t0 0,rcE t0 1]:=by kernel_rfl
theorem shp1:rE t1=exE t1 [rcE t1 0,rcE t1 1]:=by kernel_rfl
theorem exf1 (a b:HD):ofT (exE2 t0 a b) 1=((⟨false,⟨#[10]⟩,⟨#[1]⟩⟩,⟨false,⟨#[9]⟩,⟨#[1]⟩⟩),0):=by kernel_rfl
theorem exf2 (a b:HD):ofT (exE2 t0 a b) 0=((⟨false,⟨#[]⟩,⟨#[1]⟩⟩,⟨false,⟨#[1]⟩,⟨#[1]⟩⟩),0):=by kernel_rfl
theorem exf3 (a b:HD):ofT (exE2 t0 a b) 2=((zr,zr),1):=by kernel_rfl
theorem exf4 (a b:HD):wrT (exE2 t0 a b)=((0,⟨false,⟨#[1]⟩,⟨#[1]⟩⟩,true),0):=by kernel_rfl
theorem exf5:ofT lL 0=((zr,zr),1):=by kernel_rfl
theorem exf6 (b:HD):wrT (exE1 t0 b)=((0,⟨true,⟨#[1]⟩,⟨#[1]⟩⟩,true),0):=by kernel_rfl
theorem exf7 (b:HD):wrT (exE1 t1 b)=((0,zr,false),0):=by kernel_rfl
theorem exf8 (b:HD):fV (exE1 t0 b)=140:=by kernel_rfl
theorem exf9 (b:HD):fV (exE1 t1 b)=0:=by kernel_rfl
theorem exf10:fV lL=0:=by kernel_rfl
theorem aNM {h:Array Obj} (x:Rt) (n d:Int) (hn: -9223372036854775808≤n∧n≤9223372036854775807) (hd: -9223372036854775808≤d∧d≤9223372036854775807) (hx:eU n d=(x,0)) (hT:gN h):FnV Tryz.prog 27 #[x.v,.int .i64 n,.int .i64 d] h fun r h'=>r=.bool true∧aH h.size h h':=by
 refine Fn.ofS (args:=[.agg #[.bool x.neg,.string x.n,.string x.d],.int .i64 n,.int .i64 d]) Tryz.func27 (by kernel_rfl) rfl Tryz.ntmps27 rfl fun w0 cs=>?_
 conv=>whnf
 refine gS ?_;conv=>whnf
 refine aA.callV (fun Ez Hz Az Sz K=>iC n d hn hd (hT.keeps ⟨K.size,K.same⟩)) ?_
 conv=>whnf
 rw [hx]
 try dsimp only
 refine bZ ?_
 refine aA.retU (aB.ret tab Tryz.func27 rfl fun Ez Hz Az Sz K=>⟨_,rfl,?_,K.keeps⟩)
 exact congrArg Value.bool (decide_eq_true ⟨rfl,rfl,rfl⟩)
theorem zR {h:Array Obj} {vU vI vP vM vO vF vR vS:Value} {s:aG} (H:pW (fun k=>k<h.size) h vU vI vP vM vO vF vR vS s):Top h vU vI vP vM vO vF vR vS s:=⟨H.U,H.I,H.P,H.M,H.O,H.F,H.R,H.S,H.below⟩
theorem noTop {h:Array Obj}:Top h cD cD cD cD cD cD cD cD lL:=zR (pW.none _ _)
instance (a:Am):Decidable a.wf:=by unfold Am.wf;infer_instance
instance (a:It):Decidable a.wf:=by unfold It.wf;infer_instance
instance (a:Cd):Decidable a.wf:=by unfold Cd.wf;infer_instance
instance (a:Rn):Decidable a.wf:=by unfold Rn.wf;infer_instance
theorem aKC {c:RcV} (h:c.wf) (x:HD):(rcH c x).wf:=⟨h.c,h.i,h.o,h.rn,h.n⟩
theorem rcE_wf:(rcE t0 0).wf∧(rcE t0 1).wf∧(rcE t1 0).wf∧(rcE t1 1).wf:=⟨⟨by decide +kernel,by decide +kernel,by decide +kernel,by decide +kernel,by decide +kernel⟩,⟨by decide +kernel,by decide +kernel,by decide +kernel,by decide +kernel,by decide +kernel⟩,⟨by decide +kernel,by decide +kernel,by decide +kernel,by decide +kernel,by decide +kernel⟩,⟨by decide +kernel,by decide +kernel,by decide +kernel,by decide +kernel,by decide +kernel⟩⟩
theorem lG {α:Type} {p:α→Prop}:∀x∈([]:List α),p x:=fun x hx=>absurd hx List.not_mem_nil
theorem exE0_wf {l:List RcV} (h:∀r∈l,r.wf):(exE t0 l).wf:=⟨(by decide +kernel:∀u∈(rE t0).units,i64 u.n∧i64 u.d),(by decide +kernel:∀u∈(rE t0).items,u.wf),lG,lG,h,lG⟩
theorem exE1_wf {l:List RcV} (h:∀r∈l,r.wf):(exE t1 l).wf:=⟨(by decide +kernel:∀u∈(rE t1).units,i64 u.n∧i64 u.d),(by decide +kernel:∀u∈(rE t1).items,u.wf),lG,lG,h,lG⟩
theorem no_wf:lL.wf:=⟨lG,lG,lG,lG,lG,lG⟩
structure ExD (U:List Un) (I:List It) (P:List ByteArray) (r0 r1:RcV) (V:List Un) (J:List It) (Q:List ByteArray) (q0 q1:RcV):Prop where
 sh0:rE t0=⟨U,I,P,[],[],[],[r0,r1],[]⟩
 sh1:rE t1=⟨V,J,Q,[],[],[],[q0,q1],[]⟩
 f1:∀a b,ofT ⟨U,I,P,[],[],[],[rcH r0 a,rcH r1 b],[]⟩ 1=((⟨false,⟨#[10]⟩,⟨#[1]⟩⟩,⟨false,⟨#[9]⟩,⟨#[1]⟩⟩),0)
 f2:∀a b,ofT ⟨U,I,P,[],[],[],[rcH r0 a,rcH r1 b],[]⟩ 0=((⟨false,⟨#[]⟩,⟨#[1]⟩⟩,⟨false,⟨#[1]⟩,⟨#[1]⟩⟩),0)
 f3:∀a b,ofT ⟨U,I,P,[],[],[],[rcH r0 a,rcH r1 b],[]⟩ 2=((zr,zr),1)
 f4:∀a b,wrT ⟨U,I,P,[],[],[],[rcH r0 a,rcH r1 b],[]⟩=((0,⟨false,⟨#[1]⟩,⟨#[1]⟩⟩,true),0)
 f6:∀b,wrT ⟨U,I,P,[],[],[],[rcH r1 b],[]⟩=((0,⟨true,⟨#[1]⟩,⟨#[1]⟩⟩,true),0)
 f7:∀b,wrT ⟨V,J,Q,[],[],[],[rcH q1 b],[]⟩=((0,zr,false),0)
 f8:∀b,fV ⟨U,I,P,[],[],[],[rcH r1 b],[]⟩=140
 f9:∀b,fV ⟨V,J,Q,[],[],[],[rcH q1 b],[]⟩=0
 w1:∀l:List RcV,(∀r∈l,r.wf)→(aG.mk U I P [] [] [] l []).wf
 w2:∀l:List RcV,(∀r∈l,r.wf)→(aG.mk V J Q [] [] [] l []).wf
 w3:r0.wf∧r1.wf∧q0.wf∧q1.wf
theorem exD:∃U I P r0 r1 V J Q q0 q1,ExD U I P r0 r1 V J Q q0 q1:=⟨_,_,_,_,_,_,_,_,_,_,⟨shp0,shp1,exf1,exf2,exf3,exf4,exf6,exf7,exf8,exf9,fun _ h=>exE0_wf h,fun _ h=>exE1_wf h,rcE_wf⟩⟩

abbrev exC (b:Nat) (u i p m o f r x:Value):Nat×Fw.Blk:=(b,.cells 31 [.v u,.v i,.v p,.v m,.v o,.v f,.v r,.v x])
theorem aDP {h:Array Obj} {vU vI vP vM vO vF vR vS v:Value} {U:List Un} {I:List It} {P:List ByteArray} {x y:RcV} (H:Top h vU vI vP vM vO vF vR vS ⟨U,I,P,[],[],[],[x,y],[]⟩) (hv:Ro h v 17 (rws RcV.row [y])):Top h vU vI vP vM vO vF v vS ⟨U,I,P,[],[],[],[y],[]⟩:=
 ⟨H.U,H.I,H.P,H.M,H.O,H.F,hv,H.S,⟨lG,lG,fun r hr=>H.below.r r (List.mem_cons_of_mem _ hr)⟩⟩
theorem aVN:FnX Tryz.prog 9 0 [] [] (fun G h=>rW G h) (fun (_:Unit) _ _=>True) (fun _=>.ret (.v (.bool true)) 0 []):=by
 obtain ⟨U0,I0,P0,r0,r1,V0,J0,Q0,q0,q1,D⟩:=exD
 refine FnX.of Tryz.func9 (by kernel_rfl) rfl Tryz.ntmps9 rfl fun E0 F G h N hP w0 cs=>?_
 conv=>whnf
 refine gS ?_;conv=>whnf
 refine aA.callY (N.gsub) (aFR t0 gd0) (fun h U=>hP.upX U) [] sH ?CNa1 ?_
 case CNa1=>rfl
 rintro _ ⟨s1,z1,z2,u1,u2,u3,u4,u5,u6,u7,u8⟩ G1 h1 N1 ⟨T1,B1⟩
 have V1:=Now.step N.gsub N1
 have T1:pW G1 h1 u1 u2 u3 u4 u5 u6 u7 u8 s1:=T1
 have B1:s1.bare=rE t0:=B1
 obtain ⟨a,b,rfl⟩:=aIG (B1.trans D.sh0)
 clear B1
 obtain ⟨aU,cU,aI,cI,aP,cP,aM,cM,aO,cO,aF,cF,aR,cR,aS,cS,rfl,rfl,rfl,rfl,rfl,rfl,rfl,rfl⟩:=wQ T1
 dsimp only [srO] at T1 ⊢
 conv=>whnf
 refine sqs ?_
 refine aA.subR (nx':=1) (l':=[(2,.v (.bool true)),(1,.ptr 0 0)]) (H':=[exC 0 (.slice aU U0.length cU) (.slice aI I0.length cI) (.slice aP P0.length cP) (.slice aM 0 cM) (.slice aO 0 cO) (.slice aF 0 cF) (.slice aR 2 cR) (.slice aS 0 cS)]) [] ?_ sH sH
 refine sqs ?_
 refine aA.callY (N1.gsub) (aFR t1 gd1) (fun h U=>hP.upX (V1.trans U)) [] sH ?CNa2 ?_
 case CNa2=>rfl
 rintro _ ⟨s2,z3,z4,w1,w2,w3,w4,w5,w6,w7,w8⟩ G2 h2 N2 ⟨T2,B2⟩
 have V2:=V1.trans (Now.step N1.gsub N2)
 have T1:=T1.up (Now.step N1.gsub N2)
 have T2:pW G2 h2 w1 w2 w3 w4 w5 w6 w7 w8 s2:=T2
 have B2:s2.bare=rE t1:=B2
 obtain ⟨c,d,rfl⟩:=aIG (B2.trans D.sh1)
 clear B2
 obtain ⟨bU,dU,bI,dI,bP,dP,bM,dM,bO,dO,bF,dF,bR,dR,bS,dS,rfl,rfl,rfl,rfl,rfl,rfl,rfl,rfl⟩:=wQ T2
 have UK:=fun (Hz:Array Obj) (K:Kp _ h2 Hz)=>(N2.up K).trans (Up.below N2.gsub K)
 have TB:=fun (Hz:Array Obj) (K:Kp _ h2 Hz)=>(hP.upX (V2.trans (UK Hz K))).1
 dsimp only [srO] at T2 ⊢
 conv=>whnf
 refine aA.subR (nx':=1) (l':=[(34,.tup [srcA (.slice bU V0.length dU) (.slice bI J0.length dI) (.slice bP Q0.length dP) (.slice bM 0 dM) (.slice bO 0 dO) (.slice bF 0 dF) (.slice bR 2 dR) (.slice bS 0 dS),.v (.bool true)]),(2,.v (.bool true)),(1,.ptr 0 0)]) (H':=[exC 0 (.slice aU U0.length cU) (.slice aI I0.length cI) (.slice aP P0.length cP) (.slice aM 0 cM) (.slice aO 0 cO) (.slice aF 0 cF) (.slice aR 2 cR) (.slice aS 0 cS)]) [] ?_ sH sH
 refine bZ ?_
 have W1:=D.w1 [rcH r0 a,rcH r1 b] fun r hr=>by
  rcases List.mem_cons.1 hr with rfl|hr
  ·exact aKC D.w3.1 _
  rw [List.mem_singleton.1 hr];exact aKC D.w3.2.1 _
 have W2:=D.w1 [rcH r1 b] fun r hr=>by rw [List.mem_singleton.1 hr];exact aKC D.w3.2.1 _
 have W3:=D.w2 [rcH q1 d] fun r hr=>by rw [List.mem_singleton.1 hr];exact aKC D.w3.2.2.2 _
 refine aA.callV (fun Ez Hz Az Sz K=>sS _ (zR (T1.up (UK _ K))) W1 1 (TB _ K)) ?_
 conv=>whnf
 rw [D.f1]
 try dsimp only
 refine sqs ?_
 refine aA.callV (fun Ez Hz Az Sz K=>sS _ (zR (T1.up (UK _ K))) W1 0 (TB _ K)) ?_
 conv=>whnf
 rw [D.f2]
 try dsimp only
 refine sqs ?_
 refine aA.callV (fun Ez Hz Az Sz K=>sS _ (zR (T1.up (UK _ K))) W1 2 (TB _ K)) ?_
 conv=>whnf
 rw [D.f3]
 try dsimp only
 refine sqs ?_
 refine aA.callV (fun Ez Hz Az Sz K=>lY _ (zR (T1.up (UK _ K))) W1 (TB _ K)) ?_
 conv=>whnf
 rw [D.f4]
 try dsimp only
 refine sqs ?_
 refine aA.callV (fun Ez Hz Az Sz K=>sS lL noTop no_wf 0 (TB _ K)) ?_
 conv=>whnf
 rw [exf5]
 try dsimp only
 refine sqs ?_
 refine aA.subR (nx':=11) (l':=[(20,.v (.int .i64 1)),(17,.v (.int .i64 0)),(16,.v (.bool true)),(14,.v (.int .i64 0)),(15,.ptr 8 0),(13,.v (.int .i64 1)),(10,.v (.int .i64 0)),(8,.ptr 4 0),(7,.v (.int .i64 0)),(6,.ptr 3 0),(5,.ptr 2 0),(3,.ptr 1 0),(1,.ptr 0 0)]) (H':=[exC 1 (.slice bU V0.length dU) (.slice bI J0.length dI) (.slice bP Q0.length dP) (.slice bM 0 dM) (.slice bO 0 dO) (.slice bF 0 dF) (.slice bR 2 dR) (.slice bS 0 dS),exC 0 (.slice aU U0.length cU) (.slice aI I0.length cI) (.slice aP P0.length cP) (.slice aM 0 cM) (.slice aO 0 cO) (.slice aF 0 cF) (.slice aR 2 cR) (.slice aS 0 cS),rtB 2 ⟨false,⟨#[10]⟩,⟨#[1]⟩⟩,rtB 3 ⟨false,⟨#[9]⟩,⟨#[1]⟩⟩,rtB 4 ⟨false,⟨#[]⟩,⟨#[1]⟩⟩,rtB 8 ⟨false,⟨#[1]⟩,⟨#[1]⟩⟩]) [] ?_ sH sH
 refine aA.nameCell N2.gsub 0 6 (by exact T1.R) ?_;conv=>whnf
 refine aA.nameCell N2.gsub 1 6 (by exact T2.R) ?_;conv=>whnf
 refine sqs ?_
 refine aA.held tab (.fl 0 (.fl 1 (.fl 2 (.fl 3 (.fl 4 (.fl 5 (.fl 6 (.e1 7 [4] (.fl 8 (.e1 9 [] .done)))))))))) (by kernel_rfl) ?_;conv=>whnf
 refine sqr ?_
 refine And.intro (show (0:Int)≤1∧(1:Int)≤2 from by decide) ?_
 conv=>whnf
 refine And.intro (show (0:Int)≤1∧(1:Int)≤2 from by decide) ?_
 refine sqwB ?_
 refine sqs ?_
 refine aA.callV (fun Ez Hz Az Sz K=>lY _ (aDP (zR (T1.up (UK _ K))) (Sz.ro (b:=13) rfl)) W2 (TB _ K)) ?_
 conv=>whnf
 rw [D.f6]
 try dsimp only
 refine sqs ?_
 refine aA.callV (fun Ez Hz Az Sz K=>lY _ (aDP (zR (T2.up (UK _ K))) (Sz.ro (b:=14) rfl)) W3 (TB _ K)) ?_
 conv=>whnf
 rw [D.f7]
 try dsimp only
 refine bZ ?_
 refine aA.callV (fun Ez Hz Az Sz K=>aNM ⟨false,⟨#[10]⟩,⟨#[1]⟩⟩ 10 1 (by decide) (by decide) (by kernel_rfl) (TB _ K)) ?_
 conv=>whnf
 refine sqs ?_
 refine aA.callV (fun Ez Hz Az Sz K=>aNM ⟨false,⟨#[9]⟩,⟨#[1]⟩⟩ 9 1 (by decide) (by decide) (by kernel_rfl) (TB _ K)) ?_
 conv=>whnf
 refine sqs ?_
 refine aA.callV (fun Ez Hz Az Sz K=>aNM ⟨false,⟨#[]⟩,⟨#[1]⟩⟩ 0 1 (by decide) (by decide) (by kernel_rfl) (TB _ K)) ?_
 conv=>whnf
 refine bZ ?_
 refine aA.callV (fun Ez Hz Az Sz K=>aNM ⟨false,⟨#[1]⟩,⟨#[1]⟩⟩ 1 1 (by decide) (by decide) (by kernel_rfl) (TB _ K)) ?_
 conv=>whnf
 refine bZ ?_
 refine aA.callV (fun Ez Hz Az Sz K=>aNM ⟨true,⟨#[1]⟩,⟨#[1]⟩⟩ (-1) 1 (by decide) (by decide) (by kernel_rfl) (TB _ K)) ?_
 conv=>whnf
 refine sqs ?_
 refine aA.callV (fun Ez Hz Az Sz K=>fO _ (aDP (zR (T1.up (UK _ K))) (Sz.ro (b:=13) rfl)) W2 (TB _ K)) ?_
 conv=>whnf
 rw [D.f8]
 try dsimp only
 refine bZ ?_
 refine aA.callV (fun Ez Hz Az Sz K=>fO _ (aDP (zR (T2.up (UK _ K))) (Sz.ro (b:=14) rfl)) W3 (TB _ K)) ?_
 conv=>whnf
 rw [D.f9]
 refine bZ ?_
 refine aA.callV (fun Ez Hz Az Sz K=>fO lL noTop no_wf (TB _ K)) ?_
 conv=>whnf
 rw [exf10]
 refine sqs ?_
 try refine aA.retU ?_
 exact aB.ret tab Tryz.func9 rfl (eX (N1.trans N2) (()) (fun _ _=>trivial))
end Go.Proofs.YthjedpdedjhndaaGreatDoor

namespace Go.Proofs.YthjedpdedjhndaaGreatDoor
open Go Go.Fw Go.NatM Go.RatM Go.SrcM
set_option maxRecDepth 100000
set_option maxHeartbeats 99999999
theorem lawG {f:FuncId} {args:List SV} {Pre:(Nat→Prop)→Array Obj→Prop} (C:FnX Tryz.prog f 0 args [] Pre (fun (_:Unit) _ _=>True) (fun _=>.ret (.v (.bool true)) 0 [])) {h:Array Obj} (hp:Pre (fun k=>k<h.size) h) {vs:Array Value} (e:(SV.gs (fun _=>undef) args).toArray=vs):
  FnV Tryz.prog f vs h fun r h'=>r=.bool true∧aH h.size h h':=by
 subst e
 refine Fn.mono (C.call (fun _=>undef) (fun k=>k<h.size) (fun k=>k<h.size) h (fun _ x=>x) (fun _ x=>x) hp Sat.nil) fun e h' hx=>?_
 obtain ⟨x,E',F',G',N,_,_,_,he⟩:=hx
 exact ⟨.bool true,he,rfl,N.kp.keeps⟩
theorem aGU {n:Int} (h:(Lit.int .u8 n).wf=true):0≤n∧n<256:=by
 have h1:IntKind.u8.min≤n∧n≤IntKind.u8.max:=by simpa [Lit.wf] using h
 have e:IntKind.u8.min=0:=rfl
 have e2:IntKind.u8.max=255:=rfl
 omega
theorem aDY {h:Array Obj} (hT:gN h):FnV Tryz.prog 9 #[] h fun r h'=>r=.bool true∧aH h.size h h':=lawG aVN hT.t rfl
theorem pP {h:Array Obj} (s:aG) {vU vI vP vM vO vF vR vS:Value} (hs:Top h vU vI vP vM vO vF vR vS s):FnV Tryz.prog 10 #[xY vU vI vP vM vO vF vR vS] h fun r h'=>r=.bool (decide (aHK s))∧aH h.size h h':=by
 have lU:=aZ s.units
 have lI:=aE It.row s.items
 have lP:=cK s.plants
 have lM:=aE Mc.row s.machines
 have lO:=aE OpV.row s.options
 have lF:=aE FbV.row s.forbids
 have lR:=aE RcV.row s.recipes
 have lS:=aE Sw.row s.swaps
 have mR:=hs.R.len
 obtain ⟨r,hr⟩:∃r,r=decide (aHK s):=⟨_,rfl⟩
 rw [←hr]
 refine Fn.ofG (mJ [vU,vI,vP,vM,vO,vF,vR,vS]) 8 [.agg [.buf 0,.buf 1,.buf 2,.buf 3,.buf 4,.buf 5,.buf 6,.buf 7]] [(0,.ro (8) (aL s.units)),(1,.ro (6) (rws It.row s.items)),(2,.ro (1) (bV s.plants)),(3,.ro (4) (rws Mc.row s.machines)),(4,.ro (2) (rws OpV.row s.options)),(5,.ro (1) (rws FbV.row s.forbids)),(6,.ro (17) (rws RcV.row s.recipes)),(7,.ro (4) (rws Sw.row s.swaps))] (fun k=>k<_) Tryz.func10 (by kernel_rfl) rfl Tryz.ntmps10 rfl (fun _ hk=>hk) (Sat.ros (vs:=[vU,vI,vP,vM,vO,vF,vR,vS]) (l:=[(8,aL s.units),(6,rws It.row s.items),(1,bV s.plants),(4,rws Mc.row s.machines),(2,rws OpV.row s.options),(1,rws FbV.row s.forbids),(17,rws RcV.row s.recipes),(4,rws Sw.row s.swaps)]) ⟨hs.U,hs.I,hs.P,hs.M,hs.O,hs.F,hs.R,hs.S,trivial⟩) fun w0 cs=>?_
 conv=>whnf
 refine gS ?_;conv=>whnf
 by_cases hf:FewT s
 rotate_left
 ·refine aA.callV (fun Ez Hz Az Sz K=>aTB s ⟨Sz.ro (b:=0) rfl,Sz.ro (b:=1) rfl,Sz.ro (b:=2) rfl,Sz.ro (b:=3) rfl,Sz.ro (b:=4) rfl,Sz.ro (b:=5) rfl,Sz.ro (b:=6) rfl,Sz.ro (b:=7) rfl,hs.below.up (Up.kp K)⟩) ?_
  conv=>whnf
  rw [decide_eq_false hf]
  try dsimp only
  refine sqs ?_
  rw [decide_eq_false fun x:aHK s=>hf x.1] at hr
  subst hr
  refine aA.retU (aB.ret tab Tryz.func10 rfl fun _ _ _ _ K=>⟨_,rfl,rfl,K.keeps⟩)
 refine aA.callV (fun Ez Hz Az Sz K=>aTB s ⟨Sz.ro (b:=0) rfl,Sz.ro (b:=1) rfl,Sz.ro (b:=2) rfl,Sz.ro (b:=3) rfl,Sz.ro (b:=4) rfl,Sz.ro (b:=5) rfl,Sz.ro (b:=6) rfl,Sz.ro (b:=7) rfl,hs.below.up (Up.kp K)⟩) ?_
 conv=>whnf
 rw [decide_eq_true hf]
 try dsimp only
 refine sqs ?_
 have hr:r=decide (s.recipes.length≤12):=by rw [hr];unfold aHK;simp [hf]
 subst hr
 refine aA.retU (aB.ret tab Tryz.func10 rfl fun Ez Hz Az Sz K=>⟨_,rfl,?_,K.keeps⟩)
 exact congrArg Value.bool (decide_eq_decide.2 (by rw [aE];omega))
end Go.Proofs.YthjedpdedjhndaaGreatDoor

namespace Go.Fw
open Go
variable {P:Program}
set_option maxHeartbeats 8000000
section
variable {s:SCx P} {ds:List cY} {nx:Nat} {st:List SI} {l:SFr} {H:SH}
theorem aA.fix (hr:∀E1 h1,Ag s.n0 s.E0 E1→Sat E1 s.F H h1→aA {s with n0:=nx,E0:=E1} ds nx st l H):aA s ds nx st l H:=
 .mk fun E h hA S K=>(hr E h hA S).run E h (Ag.refl _ _) S K
theorem aA.slot (k:Nat) (x y:SV) (hxy:∀E,Ag s.n0 s.E0 E→y.g E=x.g E) (hr:aA s ds nx st ((k,y)::l) H) (hl:oS l k=some x:=by rfl):aA s ds nx st l H:=.mk fun E h hA S K=>by
 have:=hr.run E h hA S K
 refine aD.looks (l':=gF E ((k,y)::l)) (fun d u hd=>?_) this
 simp only [gF,look] at hd
 cases hb:Nat.beq k d with
 |true=>
  simp only [hb,Option.some.injEq] at hd
  have:=Nat.eq_of_beq_eq_true hb
  subst this
  rw [fD hl,←hd,hxy E hA]
 |false=>
  simp only [hb] at hd
  exact hd
theorem aA.asV (k b:Nat) {v:Value} (hv:s.E0 b=v) (hr:aA s ds nx st ((k,.v v)::l) H) (hl:oS l k=some (.buf b):=by rfl) (hb:Nat.blt b s.n0=true:=by rfl):aA s ds nx st l H:=
 aA.slot k (.buf b) (.v v) (fun E hA=>(((hA b (by simpa using hb)).trans hv).symm:v=E b)) hr hl
theorem aA.asB (k b:Nat) {v:Value} (hv:s.E0 b=v) (hr:aA s ds nx st ((k,.buf b)::l) H) (hl:oS l k=some (.v v):=by rfl) (hb:Nat.blt b s.n0=true:=by rfl):aA s ds nx st l H:=
 aA.slot k (.v v) (.buf b) (fun E hA=>(hA b (by simpa using hb)).trans hv) hr hl
theorem Sat.ownAt {E:Env} {F:Nat→Prop} {h:Array Obj} (S:Sat E F H h) (b:Nat) {e sz:Nat} {rows:List (List Value)} (hb:bX H b=some (.own e sz rows):=by rfl):∃a c,E b=.slice a rows.length c:=by
 obtain ⟨_,⟨_,ho⟩,_⟩:=S.ok _ (bW hb)
 rcases ho with ⟨h1,h2⟩|⟨g,cap,cur,h1,_⟩
 ·exact ⟨none,0,by rw [h2];exact h1⟩
 exact ⟨_,_,h1⟩
end
end Go.Fw

namespace Go.SrcM
open Go Go.Fw Go.NatM Go.RatM
/-! one recipe alone -/
theorem aJQ {s:aG} {r:RcV} (h:s.recipes=[r]) (hc:bE s=0):fV s=if (exR s r).2=0 then (if (exR s r).1.2=true then 140 else 0) else (exR s r).2:=by
 unfold fV wrT
 rw [if_pos hc,h]
 unfold wrF
 by_cases h1:(exR s r).2=0
 ·simp only [if_pos h1]
  by_cases h2:(exR s r).1.2=true
  ·simp only [if_pos h2,if_true]
  simp only [if_neg h2,wrF]
  simp
 simp only [if_neg h1]
theorem aKO {s:aG} {r:RcV} (h:s.recipes=[r]) (hc:bE s=0):ofT s 0=ofR s r:=by
 unfold ofT
 rw [if_pos hc,h]
 rfl
/-! twice as much -/
def Am.dbl (a:Am):Am:={a with n:=a.n*2}
def RcV.dbl (r:RcV) (hi ho:Hd):RcV:={r with inn:=r.inn.map Am.dbl,out:=r.out.map Am.dbl,hi:=hi,ho:=ho}
theorem mv_dbl (s:aG) (a:Am):mv s a.dbl=2*mv s a:=by
 unfold mv Am.dbl
 dsimp only
 rw [Rat.intCast_mul]
 have:((2:Int):Rat)=2:=rfl
 rw [this]
 grind
theorem aKX (s:aG):∀l:List Am,mvs s (l.map Am.dbl)=2*mvs s l
 | []=>by simp [mvs]
 |a::l=>by simp only [List.map_cons,mvs,mv_dbl,aKX s l,Rat.mul_add]
theorem aIA {s t:aG} (hu:t.units=s.units) (hi:t.items=s.items):∀(l:List Am) (m:List Rt),vL t l m=vL s l m:=by
 obtain ⟨u,i,p,m,o,f,q,w⟩:=t
 simp only at hu hi
 subst hu hi
 intro l
 induction l with
 |nil=>intro m;rfl
 |cons a l ih=>
  intro m
  unfold vL
  have e:nR {units:=s.units,items:=s.items,plants:=p,machines:=‹_›,options:=o,forbids:=f,recipes:=q,swaps:=w} a=nR s a:=rfl
  rw [e]
  simp only [ih]
theorem of_cong {s t:aG} (hu:t.units=s.units) (hi:t.items=s.items) (r:RcV):ofR t r=ofR s r:=by
 unfold ofR fY
 rw [aIA hu hi,aIA hu hi]
theorem aTT {s t:aG} (hu:t.units=s.units) (hi:t.items=s.items) (r:RcV):exR t r=exR s r:=by
 unfold exR
 rw [of_cong hu hi]
theorem aPJ {s t:aG} (hu:t.units=s.units) (hi:t.items=s.items):mvs t=mvs s:=by
 obtain ⟨u,i,p,m,o,f,q,w⟩:=t
 simp only at hu hi
 subst hu hi
 funext l
 induction l with
 |nil=>rfl
 |cons a l ih=>simp only [mvs,ih];rfl
theorem aDR {s:aG} {a:Am} (h:1≤a.n∧a.n≤524288):fX s a.dbl↔fX s a:=by
 unfold fX Am.dbl
 dsimp only
 have h1:bt (a.n*2) 1 1048576↔bt a.n 1 1048576:=by unfold bt;omega
 rw [h1]
section
variable {s:aG} {r:RcV} {hi ho:Hd} (hn:∀a,a∈r.inn∨a∈r.out→1≤a.n∧a.n≤524288)
include hn
theorem rec_dbl:mY s (r.dbl hi ho)↔mY s r:=by
 have h1:(∀a∈r.inn.map Am.dbl,fX s a) ↔ ∀a∈r.inn,fX s a:=by
  constructor
  ·intro H a ha;exact (aDR (hn a (.inl ha))).1 (H _ (List.mem_map_of_mem ha))
  intro H a ha;obtain ⟨b,hb,rfl⟩:=List.mem_map.1 ha;exact (aDR (hn b (.inl hb))).2 (H b hb)
 have h2:sE s (r.dbl hi ho)↔sE s r:=by
  unfold sE
  have e1:iT (r.dbl hi ho)↔iT r:=by
   unfold iT RcV.dbl
   dsimp only
   rw [List.getElem?_map]
   cases r.out[0]? <;> exact Iff.rfl
  have e2:(r.dbl hi ho).out.map Am.inn=r.out.map Am.inn:=by
   unfold RcV.dbl
   dsimp only
   rw [List.map_map]
   rfl
  have e3:(∀a∈(r.dbl hi ho).out,fX s a∧a.back=false) ↔ ∀a∈r.out,fX s a∧a.back=false:=by
   unfold RcV.dbl
   dsimp only
   constructor
   ·intro H a ha;have:=H _ (List.mem_map_of_mem ha);exact ⟨(aDR (hn a (.inr ha))).1 this.1,this.2⟩
   intro H a ha;obtain ⟨b,hb,rfl⟩:=List.mem_map.1 ha;exact ⟨(aDR (hn b (.inr hb))).2 (H b hb).1,(H b hb).2⟩
  rw [e1,e2,e3]
 unfold mY
 rw [h2]
 show (_∧_∧_∧_∧(∀a∈r.inn.map Am.dbl,fX s a)∧_)↔_
 rw [h1]
 exact Iff.rfl
end
def aG.wr (s:aG) (l:List RcV):aG:={s with recipes:=l}
theorem aXK (s:aG) {l m:List RcV} (hS:lW (s.wr l)↔lW (s.wr m)) (hr:(∀r∈l,mY s r) ↔ ∀r∈m,mY s r):bE (s.wr l)=bE (s.wr m):=
 aVP rfl hS ⟨fun H=>⟨H.I,H.M,H.O,H.F,fun r hx=>hr.1 (fun q hq=>H.R q hq) r hx,H.S⟩,fun H=>⟨H.I,H.M,H.O,H.F,fun r hx=>hr.2 (fun q hq=>H.R q hq) r hx,H.S⟩⟩
theorem bad_dbl {r q:RcV} (e1:q.yN=r.yN) (e2:q.yD=r.yD) (e3:q.tN=r.tN) (e4:q.tD=r.tD) {i o:Rat}:Bad q (2*i) (2*o)↔Bad r i o:=by
 unfold Bad devv
 rw [e1,e2,e3,e4]
 have h:∀c:Rat,c*(2*i)=2*(c*i):=fun c=>by grind
 rw [h,h]
 constructor<;>rintro (h|h)<;>first|exact .inl (by grind)|exact .inr (by grind)
section
variable {s:aG} {r:RcV} {hi ho:Hd} (hn:∀a,a∈r.inn∨a∈r.out→1≤a.n∧a.n≤524288)
include hn
theorem aCY:bE (s.wr [r.dbl hi ho])=bE (s.wr [r]):=by
 refine aXK s ?_ ?_
 ·have:(∀x ∈ [r.dbl hi ho],x.inn.length≤8∧x.out.length≤8) ↔ ∀x ∈ [r],x.inn.length≤8∧x.out.length≤8:=by
   simp only [List.mem_singleton,forall_eq]
   unfold RcV.dbl
   dsimp only
   rw [List.length_map,List.length_map]
  unfold lW aG.wr
  dsimp only
  rw [this]
  exact Iff.rfl
 simp only [List.mem_singleton,forall_eq]
 exact rec_dbl hn
theorem aZZ (h:¬(ofT (s.wr [r]) 0).2=0 ∨ ¬(ofT (s.wr [r.dbl hi ho]) 0).2=0):(ofT (s.wr [r]) 0).2=(ofT (s.wr [r.dbl hi ho]) 0).2∨(ofT (s.wr [r]) 0).2=2∨(ofT (s.wr [r.dbl hi ho]) 0).2=2:=by
 have e:=aCY (s:=s) (hi:=hi) (ho:=ho) hn
 by_cases hc:bE (s.wr [r])=0
 ·have hc2:=e.trans hc
  rw [aKO rfl hc,aKO rfl hc2] at h ⊢
  have b1:=mC hc (List.mem_singleton.2 rfl)
  have b2:=mC hc2 (List.mem_singleton.2 rfl)
  rcases of_q hc b1 with x|⟨I,O,x,_⟩
  ·exact .inr (.inl (by rw [x]))
  rcases of_q hc2 b2 with y|⟨_,_,y,_⟩
  ·exact .inr (.inr (by rw [y]))
  rw [x,y] at h
  exact absurd h (by simp)
 refine .inl ?_
 unfold ofT
 rw [if_neg hc,if_neg (fun x=>hc (e.symm.trans x)),e]
theorem aZV (h1:(ofT (s.wr [r]) 0).2=0) (h2:(ofT (s.wr [r.dbl hi ho]) 0).2=0):∃A B X Y,ofT (s.wr [r]) 0=((aN A,aN B),0)∧ofT (s.wr [r.dbl hi ho]) 0=((aN X,aN Y),0) ∧
  (xC (aN A) (aN A)=(zr,2)∨xC (aN A) (aN A)=(aN X,0))∧(xC (aN B) (aN B)=(zr,2)∨xC (aN B) (aN B)=(aN Y,0)) ∧
  (fV (s.wr [r])≠2→fV (s.wr [r.dbl hi ho])≠2→fV (s.wr [r])=fV (s.wr [r.dbl hi ho])):=by
 have e:=aCY (s:=s) (hi:=hi) (ho:=ho) hn
 have hc:bE (s.wr [r])=0:=Decidable.byContradiction fun hc=>by unfold ofT at h1;rw [if_neg hc] at h1;exact hc h1
 have hc2:=e.trans hc
 rw [aKO rfl hc] at h1 ⊢
 rw [aKO rfl hc2] at h2 ⊢
 have b1:=mC hc (List.mem_singleton.2 rfl)
 have b2:=mC hc2 (List.mem_singleton.2 rfl)
 have m1:mvs (s.wr [r.dbl hi ho]) (r.dbl hi ho).inn=2*mvs (s.wr [r]) r.inn:=
  (congrFun (aPJ (s:=s.wr [r]) (t:=s.wr [r.dbl hi ho]) rfl rfl) _).trans (aKX _ _)
 have m2:mvs (s.wr [r.dbl hi ho]) (r.dbl hi ho).out=2*mvs (s.wr [r]) r.out:=
  (congrFun (aPJ (s:=s.wr [r]) (t:=s.wr [r.dbl hi ho]) rfl rfl) _).trans (aKX _ _)
 rcases of_q hc b1 with x|⟨A,B,x,_,_,x3,x4⟩
 ·rw [x] at h1;cases h1
 rcases of_q hc2 b2 with y|⟨X,Y,y,_,_,y3,y4⟩
 ·rw [y] at h2;cases h2
 rw [m1] at y3
 rw [m2] at y4
 refine ⟨A,B,X,Y,x,y,?_,?_,fun k1 k2=>?_⟩
 ·rcases aEP x3 x3 with z|⟨c,z,hz⟩
  ·exact .inl z
  rw [z,Is.inj hz (v:=mvs (s.wr [r]) r.inn+mvs (s.wr [r]) r.inn) (b:=X) ⟨y3.ok,y3.le,by rw [y3.val];grind⟩]
  exact .inr rfl
 ·rcases aEP x4 x4 with z|⟨c,z,hz⟩
  ·exact .inl z
  rw [z,Is.inj hz (v:=mvs (s.wr [r]) r.out+mvs (s.wr [r]) r.out) (b:=Y) ⟨y4.ok,y4.le,by rw [y4.val];grind⟩]
  exact .inr rfl
 rw [aJQ rfl hc] at k1 ⊢
 rw [aJQ rfl hc2] at k2 ⊢
 have z1:(exR (s.wr [r]) r).2=0:=(ex_er hc b1).elim id fun z=>absurd (by rw [z];rfl) k1
 have z2:(exR (s.wr [r.dbl hi ho]) (r.dbl hi ho)).2=0:=(ex_er hc2 b2).elim id fun z=>absurd (by rw [z];rfl) k2
 obtain ⟨_,_,_,_,_,w1⟩:=tH hc b1 z1
 obtain ⟨_,_,_,_,_,w2⟩:=tH hc2 b2 z2
 rw [m1,m2] at w2
 have w2:=w2.trans (bad_dbl (q:=r.dbl hi ho) (r:=r) rfl rfl rfl rfl)
 rw [←w1] at w2
 rw [if_pos z1,if_pos z2]
 by_cases hb:(exR (s.wr [r]) r).1.2=true
 ·rw [if_pos hb,if_pos (w2.2 hb)]
 rw [if_neg hb,if_neg (fun x=>hb (w2.1 x))]
end
section
variable {α:Type} {f:α→List Value} {g:α→α} {l:List α}
def mixed (g:α→α) (l:List α) (k:Nat):List α:=(l.take k).map g++l.drop k
theorem aHS {k:Nat} (hk:k≤l.length):(rws f (mixed g l k)).length=l.length:=by
 unfold mixed
 rw [aE,List.length_append,List.length_map,List.length_take,List.length_drop];omega
theorem kX {k:Nat} (hk:k<l.length):(rws f (mixed g l k))[k]? = some (f l[k]):=by
 unfold mixed
 rw [rws,List.map_append,List.getElem?_append_right (by simp;omega)]
 simp [hk,Nat.min_eq_left (Nat.le_of_lt hk)]
theorem aGV {k:Nat} (hk:k<l.length) {r:List Value} (hr:r=f (g l[k])):(rws f (mixed g l k)).set k r=rws f (mixed g l (k+1)):=by
 have e:l.drop k=l[k]::l.drop (k+1):=(List.getElem_cons_drop ..).symm
 have e2:l.take (k+1)=l.take k++[l[k]]:=by rw [List.take_add_one,List.getElem?_eq_getElem hk];rfl
 unfold mixed rws
 rw [e,e2]
 simp only [List.map_append,List.map_cons,List.map_nil]
 rw [List.set_append_right _ _ (by simp;omega)]
 simp [Nat.min_eq_left (Nat.le_of_lt hk),hr]
theorem aHY:mixed g l l.length=l.map g:=by
 unfold mixed
 rw [List.take_length,List.drop_length,List.append_nil]
end
theorem aIS {α:Type} {l:List α} {m:Nat} (hm:m<l.length) {p:α→Prop} (h:∀a∈l.take m,p a) (h1:p l[m]):∀a∈l.take (m+1),p a:=by
 intro a ha
 rw [List.take_add_one,List.getElem?_eq_getElem hm] at ha
 rcases List.mem_append.1 ha with ha|ha
 ·exact h a ha
 obtain rfl:a=l[m]:=by simpa using ha
 exact h1
end Go.SrcM
