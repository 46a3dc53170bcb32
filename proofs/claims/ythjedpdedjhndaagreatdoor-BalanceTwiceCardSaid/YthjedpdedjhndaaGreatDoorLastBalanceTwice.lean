/- BalanceTwice: for every input the law returns true, and each argument reads behind the call as it read before; the listed tables hold, when the call b -/
import Derived.Test.YthjedpdedjhndaaGreatDoorJoinH
set_option linter.unusedVariables false
set_option linter.unusedSimpArgs false
namespace Go.Proofs.YthjedpdedjhndaaGreatDoor
open Go Go.Fw Go.NatM Go.RatM Go.SrcM
set_option maxRecDepth 100000
set_option maxHeartbeats 99999999
abbrev ownAmB (b:Nat) (l:List Am):Nat×Fw.Blk:=(b,.own 55 7 (rws Am.row l))
theorem balTwice_fn {h:Array Obj} (s:aG) {vU vI vP vM vO vF vR vS:Value} (hs:Top h vU vI vP vM vO vF vR vS s) (hw:s.wf) (i:Int) (hi:0≤i∧i<256) (hT:gN h):FnV Tryz.prog 8 #[xY vU vI vP vM vO vF vR vS,.int .u8 i] h fun r h'=>r=.bool true∧aH h.size h h':=by
 have lU:=aZ s.units
 have lI:=aE It.row s.items
 have lP:=cK s.plants
 have lM:=aE Mc.row s.machines
 have lO:=aE OpV.row s.options
 have lF:=aE FbV.row s.forbids
 have lR:=aE RcV.row s.recipes
 have lS:=aE Sw.row s.swaps
 refine Fn.ofG (mJ [vU,vI,vP,vM,vO,vF,vR,vS]) 8 [.agg [.buf 0,.buf 1,.buf 2,.buf 3,.buf 4,.buf 5,.buf 6,.buf 7],.v (.int .u8 i)] [(0,.ro (8) (aL s.units)),(1,.ro (6) (rws It.row s.items)),(2,.ro (1) (bV s.plants)),(3,.ro (4) (rws Mc.row s.machines)),(4,.ro (2) (rws OpV.row s.options)),(5,.ro (1) (rws FbV.row s.forbids)),(6,.ro (17) (rws RcV.row s.recipes)),(7,.ro (4) (rws Sw.row s.swaps))] (fun k=>k<_) Tryz.func8 (by kernel_rfl) rfl Tryz.ntmps8 rfl (fun _ hk=>hk) (Sat.ros (vs:=[vU,vI,vP,vM,vO,vF,vR,vS]) (l:=[(8,aL s.units),(6,rws It.row s.items),(1,bV s.plants),(4,rws Mc.row s.machines),(2,rws OpV.row s.options),(1,rws FbV.row s.forbids),(17,rws RcV.row s.recipes),(4,rws Sw.row s.swaps)]) ⟨hs.U,hs.I,hs.P,hs.M,hs.O,hs.F,hs.R,hs.S,trivial⟩) fun w0 cs=>?_
 conv=>whnf
 refine aBF ?_
 refine aA.callV (fun Ez Hz Az Sz K=>aDY (hT.keeps ⟨K.size,K.same⟩)) ?_
 conv=>whnf
 refine bZ ?_
 by_cases hf:aHK s
 rotate_left
 ·refine aA.callV (fun Ez Hz Az Sz K=>pP s ⟨Sz.ro (b:=0) rfl,Sz.ro (b:=1) rfl,Sz.ro (b:=2) rfl,Sz.ro (b:=3) rfl,Sz.ro (b:=4) rfl,Sz.ro (b:=5) rfl,Sz.ro (b:=6) rfl,Sz.ro (b:=7) rfl,hs.below.up (Up.kp K)⟩) ?_
  conv=>whnf
  rw [decide_eq_false hf]
  try dsimp only
  refine bZ ?_
  refine aA.retU (aB.ret tab Tryz.func8 rfl fun _ _ _ _ K=>⟨_,rfl,rfl,K.keeps⟩)
 refine aA.callV (fun Ez Hz Az Sz K=>pP s ⟨Sz.ro (b:=0) rfl,Sz.ro (b:=1) rfl,Sz.ro (b:=2) rfl,Sz.ro (b:=3) rfl,Sz.ro (b:=4) rfl,Sz.ro (b:=5) rfl,Sz.ro (b:=6) rfl,Sz.ro (b:=7) rfl,hs.below.up (Up.kp K)⟩) ?_
 conv=>whnf
 rw [decide_eq_true hf]
 try dsimp only
 refine bZ ?_
 refine ⟨fun h0=>?_,fun h0=>?_⟩<;>conv=>whnf
 ·refine dB ?_
  refine aA.retU (aB.ret tab Tryz.func8 rfl fun _ _ _ _ K=>⟨_,rfl,rfl,K.keeps⟩)
 refine dB ?_
 obtain ⟨k,e,hk⟩:=emodB (i:=i) (n:=(rws RcV.row s.recipes).length) hi.1 (by omega)
 rw [aE] at hk
 refine dB ?_
 rw [e]
 have hm:=List.getElem_mem hk
 have hwr:=hw.R _ hm
 have hok:=hs.below.r _ hm
 have hfr:=hf.1.2.2.2.1 _ hm
 refine ⟨_,bA hk,?_⟩;conv=>whnf
 try (refine oN ?_;conv=>whnf)
 refine sqA ?_
 refine ⟨_,bA hk,?_⟩;conv=>whnf
 try (refine oN ?_;conv=>whnf)
 refine sqA ?_
 refine aA.nameCell (fun _ x=>x) 12 5 (by exact hok.i) ?_
 conv=>whnf
 refine bZ ?_
 refine aA.nameCell (fun _ x=>x) 12 6 (by exact hok.o) ?_
 conv=>whnf
 refine bZ ?_
 have li:=aE Am.row s.recipes[k].inn
 have lo:=aE Am.row s.recipes[k].out
 refine aA.join (fun (_:Unit)=>[(8,.ptr 12 0),(7,.ptr 11 0),(6,.ptr 9 0),(4,.v (.bool false)),(2,.ptr 8 0)]) (fun (_:Unit)=>[ownAmB 16 s.recipes[k].out,ownAmB 15 s.recipes[k].inn,(12,.cells 49 [.v (.string s.recipes[k].item),.v (.string s.recipes[k].plant),.v (.int .i64 s.recipes[k].fr),.v (.int .i64 s.recipes[k].to),.v (.slice s.recipes[k].hc.a s.recipes[k].cs.length s.recipes[k].hc.c),.buf 15,.buf 16,.v (.int .i64 s.recipes[k].rwN),.v (.int .i64 s.recipes[k].rwD),.v (.int .i64 s.recipes[k].yN),.v (.int .i64 s.recipes[k].yD),.v (.int .i64 s.recipes[k].tN),.v (.int .i64 s.recipes[k].tD),.v (.int .i64 s.recipes[k].lead),.v (.slice s.recipes[k].hr.a s.recipes[k].runs.length s.recipes[k].hr.c),.v (.int .i64 s.recipes[k].inum),.v (.int .i64 s.recipes[k].pnum)]),(11,.cells 31 [.buf 0,.buf 1,.buf 2,.buf 3,.buf 4,.buf 5,.buf 10,.buf 7]),(10,.own 49 17 (rws RcV.row [s.recipes[k]])),(9,.cells 31 [.buf 0,.buf 1,.buf 2,.buf 3,.buf 4,.buf 5,.buf 10,.buf 7]),dQ 8,(0,.ro 8 (aL s.units)),(1,.ro 6 (rws It.row s.items)),(2,.ro 1 (bV s.plants)),(3,.ro 4 (rws Mc.row s.machines)),(4,.ro 2 (rws OpV.row s.options)),(5,.ro 1 (rws FbV.row s.forbids)),(6,.ro 17 (rws RcV.row s.recipes)),(7,.ro 4 (rws Sw.row s.swaps))]) 17 (fun (_:Unit)=>True) ?_ (fun meet=>?_)
 rotate_left
 ·refine aA.held tab (.fl 1 (.fl 2 (.fl 5 (.fl 6 (.e2 0 [2,6] (.e2 3 [6] (.fl 8 (.e1 4 [2,6] (.e1 7 [] (.e1 9 [] (.fl 10 (.e1 11 [] .done)))))) 4 [2,6] (.e1 3 [6] (.fl 8 (.e1 7 [] (.e1 9 [] (.fl 10 (.e1 11 [] .done))))))) 4 [2,6] (.e1 0 [2,6] (.e1 3 [6] (.fl 8 (.e1 7 [] (.e1 9 [] (.fl 10 (.e1 11 [] .done)))))))))))) (by kernel_rfl) ?_
  conv=>whnf
  refine fA ?_
  refine bZ ?_
  repeat' first
   |(refine And.intro (fL (Nat.le_trans (Nat.le_of_eq (by rw [show (qR _ 0 []:List (List Value)).length=0 from rfl,Nat.zero_add])) (by omega))) ?_
     conv=>whnf
     refine fA ?_
     refine sqs ?_
     repeat ((first|(guard_target=_∧_;(first|refine oL ?_|refine oR ?_))|(guard_target=Exists _;refine oM ?_));(try intro _);conv=>whnf))
   |(guard_target=_∧_
     refine And.intro ?_ ?_
     all_goals conv=>whnf
     all_goals repeat ((first|(guard_target=_∧_;(first|refine oL ?_|refine oR ?_|refine oB ?_))|(guard_target=Exists _;refine oM ?_));(try intro _);conv=>whnf))
   |(refine aA.subR [(15,15),(16,16)] (meet (()) ?_) ?_ ?_
     ·first|trivial|omega|((try dsimp only);omega)
     ·repeat (first|exact trivial|refine ⟨by rfl,?_⟩)
     ·repeat (first|exact trivial|refine ⟨by rfl,?_⟩))
   |(refine aA.subR [(15,15),(16,17)] (meet (()) ?_) ?_ ?_
     ·first|trivial|omega|((try dsimp only);omega)
     ·repeat (first|exact trivial|refine ⟨by rfl,?_⟩)
     ·repeat (first|exact trivial|refine ⟨by rfl,?_⟩))
   |(refine aA.subR [(15,15),(16,18)] (meet (()) ?_) ?_ ?_
     ·first|trivial|omega|((try dsimp only);omega)
     ·repeat (first|exact trivial|refine ⟨by rfl,?_⟩)
     ·repeat (first|exact trivial|refine ⟨by rfl,?_⟩))
   |(refine aA.subR [(15,15),(16,19)] (meet (()) ?_) ?_ ?_
     ·first|trivial|omega|((try dsimp only);omega)
     ·repeat (first|exact trivial|refine ⟨by rfl,?_⟩)
     ·repeat (first|exact trivial|refine ⟨by rfl,?_⟩))
   |(refine aA.subR [(15,16),(16,15)] (meet (()) ?_) ?_ ?_
     ·first|trivial|omega|((try dsimp only);omega)
     ·repeat (first|exact trivial|refine ⟨by rfl,?_⟩)
     ·repeat (first|exact trivial|refine ⟨by rfl,?_⟩))
   |(refine aA.subR [(15,16),(16,17)] (meet (()) ?_) ?_ ?_
     ·first|trivial|omega|((try dsimp only);omega)
     ·repeat (first|exact trivial|refine ⟨by rfl,?_⟩)
     ·repeat (first|exact trivial|refine ⟨by rfl,?_⟩))
   |(refine aA.subR [(15,16),(16,18)] (meet (()) ?_) ?_ ?_
     ·first|trivial|omega|((try dsimp only);omega)
     ·repeat (first|exact trivial|refine ⟨by rfl,?_⟩)
     ·repeat (first|exact trivial|refine ⟨by rfl,?_⟩))
   |(refine aA.subR [(15,16),(16,19)] (meet (()) ?_) ?_ ?_
     ·first|trivial|omega|((try dsimp only);omega)
     ·repeat (first|exact trivial|refine ⟨by rfl,?_⟩)
     ·repeat (first|exact trivial|refine ⟨by rfl,?_⟩))
   |(refine aA.subR [(15,17),(16,15)] (meet (()) ?_) ?_ ?_
     ·first|trivial|omega|((try dsimp only);omega)
     ·repeat (first|exact trivial|refine ⟨by rfl,?_⟩)
     ·repeat (first|exact trivial|refine ⟨by rfl,?_⟩))
   |(refine aA.subR [(15,17),(16,16)] (meet (()) ?_) ?_ ?_
     ·first|trivial|omega|((try dsimp only);omega)
     ·repeat (first|exact trivial|refine ⟨by rfl,?_⟩)
     ·repeat (first|exact trivial|refine ⟨by rfl,?_⟩))
   |(refine aA.subR [(15,17),(16,18)] (meet (()) ?_) ?_ ?_
     ·first|trivial|omega|((try dsimp only);omega)
     ·repeat (first|exact trivial|refine ⟨by rfl,?_⟩)
     ·repeat (first|exact trivial|refine ⟨by rfl,?_⟩))
   |(refine aA.subR [(15,17),(16,19)] (meet (()) ?_) ?_ ?_
     ·first|trivial|omega|((try dsimp only);omega)
     ·repeat (first|exact trivial|refine ⟨by rfl,?_⟩)
     ·repeat (first|exact trivial|refine ⟨by rfl,?_⟩))
   |(refine aA.subR [(15,18),(16,15)] (meet (()) ?_) ?_ ?_
     ·first|trivial|omega|((try dsimp only);omega)
     ·repeat (first|exact trivial|refine ⟨by rfl,?_⟩)
     ·repeat (first|exact trivial|refine ⟨by rfl,?_⟩))
   |(refine aA.subR [(15,18),(16,16)] (meet (()) ?_) ?_ ?_
     ·first|trivial|omega|((try dsimp only);omega)
     ·repeat (first|exact trivial|refine ⟨by rfl,?_⟩)
     ·repeat (first|exact trivial|refine ⟨by rfl,?_⟩))
   |(refine aA.subR [(15,18),(16,17)] (meet (()) ?_) ?_ ?_
     ·first|trivial|omega|((try dsimp only);omega)
     ·repeat (first|exact trivial|refine ⟨by rfl,?_⟩)
     ·repeat (first|exact trivial|refine ⟨by rfl,?_⟩))
   |(refine aA.subR [(15,18),(16,19)] (meet (()) ?_) ?_ ?_
     ·first|trivial|omega|((try dsimp only);omega)
     ·repeat (first|exact trivial|refine ⟨by rfl,?_⟩)
     ·repeat (first|exact trivial|refine ⟨by rfl,?_⟩))
   |(refine aA.subR [(15,19),(16,15)] (meet (()) ?_) ?_ ?_
     ·first|trivial|omega|((try dsimp only);omega)
     ·repeat (first|exact trivial|refine ⟨by rfl,?_⟩)
     ·repeat (first|exact trivial|refine ⟨by rfl,?_⟩))
   |(refine aA.subR [(15,19),(16,16)] (meet (()) ?_) ?_ ?_
     ·first|trivial|omega|((try dsimp only);omega)
     ·repeat (first|exact trivial|refine ⟨by rfl,?_⟩)
     ·repeat (first|exact trivial|refine ⟨by rfl,?_⟩))
   |(refine aA.subR [(15,19),(16,17)] (meet (()) ?_) ?_ ?_
     ·first|trivial|omega|((try dsimp only);omega)
     ·repeat (first|exact trivial|refine ⟨by rfl,?_⟩)
     ·repeat (first|exact trivial|refine ⟨by rfl,?_⟩))
   |(refine aA.subR [(15,19),(16,18)] (meet (()) ?_) ?_ ?_
     ·first|trivial|omega|((try dsimp only);omega)
     ·repeat (first|exact trivial|refine ⟨by rfl,?_⟩)
     ·repeat (first|exact trivial|refine ⟨by rfl,?_⟩))
 intro _ _
 refine pM tab 9 _ _ _ _ ?_;conv=>whnf
 refine aA.fix fun E1 h1 hA1 S1=>?_
 obtain ⟨a1,c1,e1⟩:=S1.ownAt 15
 obtain ⟨a2,c2,e2⟩:=S1.ownAt 16
 rw [li] at e1
 rw [lo] at e2
 refine aA.asV 66 15 e1 ?_
 refine aA.asV 68 16 e2 ?_;conv=>whnf
 refine bZ ?_
 refine aA.subR [] (aA.loop (fun (j:Nat)=>[(71,.v (.int .i64 j)),(70,.v (.int .i64 2)),(69,.buf 17),(8,.ptr 12 0),(7,.ptr 11 0),(6,.ptr 9 0),(4,.v (.bool false)),(2,.ptr 8 0)]) (fun (j:Nat)=>[(17,.own 46 1 [[Value.slice a1 s.recipes[k].inn.length c1],[Value.slice a2 s.recipes[k].out.length c2]]),ownAmB 16 (if 1<j then s.recipes[k].out.map Am.dbl else s.recipes[k].out),ownAmB 15 (if 0<j then s.recipes[k].inn.map Am.dbl else s.recipes[k].inn),(12,.cells 49 [.v (.string s.recipes[k].item),.v (.string s.recipes[k].plant),.v (.int .i64 s.recipes[k].fr),.v (.int .i64 s.recipes[k].to),.v (.slice s.recipes[k].hc.a s.recipes[k].cs.length s.recipes[k].hc.c),.buf 15,.buf 16,.v (.int .i64 s.recipes[k].rwN),.v (.int .i64 s.recipes[k].rwD),.v (.int .i64 s.recipes[k].yN),.v (.int .i64 s.recipes[k].yD),.v (.int .i64 s.recipes[k].tN),.v (.int .i64 s.recipes[k].tD),.v (.int .i64 s.recipes[k].lead),.v (.slice s.recipes[k].hr.a s.recipes[k].runs.length s.recipes[k].hr.c),.v (.int .i64 s.recipes[k].inum),.v (.int .i64 s.recipes[k].pnum)]),(11,.cells 31 [.buf 0,.buf 1,.buf 2,.buf 3,.buf 4,.buf 5,.buf 10,.buf 7]),(10,.own 49 17 (rws RcV.row [s.recipes[k]])),(9,.cells 31 [.buf 0,.buf 1,.buf 2,.buf 3,.buf 4,.buf 5,.buf 10,.buf 7]),dQ 8,(0,.ro 8 (aL s.units)),(1,.ro 6 (rws It.row s.items)),(2,.ro 1 (bV s.plants)),(3,.ro 4 (rws Mc.row s.machines)),(4,.ro 2 (rws OpV.row s.options)),(5,.ro 1 (rws FbV.row s.forbids)),(6,.ro 17 (rws RcV.row s.recipes)),(7,.ro 4 (rws Sw.row s.swaps))]) 18 (fun (j:Nat)=>j≤2∧(0<j → ∀a∈s.recipes[k].inn,1≤a.n∧a.n≤524288)∧(1<j → ∀a∈s.recipes[k].out,1≤a.n∧a.n≤524288)) (fun (j:Nat)=>2 - j) ?round1 (0) ?J01) sH sH
 case J01=>exact (⟨by omega,fun h=>absurd h (by decide),fun h=>absurd h (by decide)⟩)
 rintro j hJ back
 try dsimp only at hJ back
 conv=>whnf
 try dsimp only
 refine aBF ?_
 obtain ⟨hj2,hq1,hq2⟩:=hJ
 refine ⟨fun hj=>?_,fun hj=>?_⟩<;>conv=>whnf
 ·rcases (show j=0∨j=1 by omega) with rfl|rfl
  ·refine dB ?_
   refine And.intro (show (0:Int)≤((0:Nat):Int)∧((0:Nat):Int)<(2:Int) by omega) ?_
   conv=>whnf
   refine bZ ?_
   refine ⟨_,rfl,?_⟩;conv=>whnf
   try (refine oN ?_;conv=>whnf)
   refine sqA ?_
   refine pM tab 3 _ _ _ _ ?_;conv=>whnf
   refine aA.asB 10 15 e1 ?_
   refine bZ ?_
   refine aA.subR [] (aA.loop (fun (m:Nat)=>[(77,.v (.int .i64 m)),(76,.v (.int .i64 s.recipes[k].inn.length)),(10,.buf 15),(71,.v (.int .i64 0)),(70,.v (.int .i64 2)),(69,.buf 17),(8,.ptr 12 0),(7,.ptr 11 0),(6,.ptr 9 0),(4,.v (.bool false)),(2,.ptr 8 0)]) (fun (m:Nat)=>[(17,.own 46 1 [[Value.slice a1 s.recipes[k].inn.length c1],[Value.slice a2 s.recipes[k].out.length c2]]),ownAmB 16 s.recipes[k].out,ownAmB 15 (mixed Am.dbl s.recipes[k].inn m),(12,.cells 49 [.v (.string s.recipes[k].item),.v (.string s.recipes[k].plant),.v (.int .i64 s.recipes[k].fr),.v (.int .i64 s.recipes[k].to),.v (.slice s.recipes[k].hc.a s.recipes[k].cs.length s.recipes[k].hc.c),.buf 15,.buf 16,.v (.int .i64 s.recipes[k].rwN),.v (.int .i64 s.recipes[k].rwD),.v (.int .i64 s.recipes[k].yN),.v (.int .i64 s.recipes[k].yD),.v (.int .i64 s.recipes[k].tN),.v (.int .i64 s.recipes[k].tD),.v (.int .i64 s.recipes[k].lead),.v (.slice s.recipes[k].hr.a s.recipes[k].runs.length s.recipes[k].hr.c),.v (.int .i64 s.recipes[k].inum),.v (.int .i64 s.recipes[k].pnum)]),(11,.cells 31 [.buf 0,.buf 1,.buf 2,.buf 3,.buf 4,.buf 5,.buf 10,.buf 7]),(10,.own 49 17 (rws RcV.row [s.recipes[k]])),(9,.cells 31 [.buf 0,.buf 1,.buf 2,.buf 3,.buf 4,.buf 5,.buf 10,.buf 7]),dQ 8,(0,.ro 8 (aL s.units)),(1,.ro 6 (rws It.row s.items)),(2,.ro 1 (bV s.plants)),(3,.ro 4 (rws Mc.row s.machines)),(4,.ro 2 (rws OpV.row s.options)),(5,.ro 1 (rws FbV.row s.forbids)),(6,.ro 17 (rws RcV.row s.recipes)),(7,.ro 4 (rws Sw.row s.swaps))]) 18 (fun (m:Nat)=>m≤s.recipes[k].inn.length ∧ ∀a∈s.recipes[k].inn.take m,1≤a.n∧a.n≤524288) (fun (m:Nat)=>s.recipes[k].inn.length - m) ?round2 (0) ?J02) sH sH
   case J02=>exact (⟨Nat.zero_le _,by simp⟩)
   rintro m hJ back
   try dsimp only at hJ back
   conv=>whnf
   try dsimp only
   refine aBF ?_
   obtain ⟨hml,hmq⟩:=hJ
   refine ⟨fun hm1=>?_,fun hm1=>?_⟩<;>conv=>whnf
   ·have hm1:m<s.recipes[k].inn.length:=by omega
    have ml:=aHS (f:=Am.row) (g:=Am.dbl) (Nat.le_of_lt hm1)
    have hwa:=hwr.i _ (List.getElem_mem hm1)
    refine dB ?_
    refine ⟨_,kX hm1,?_⟩;conv=>whnf
    try (refine oN ?_;conv=>whnf)
    refine sqA ?_
    refine ⟨fun hn1=>?_,fun hn1=>?_⟩<;>conv=>whnf
    ·refine dB ?_
     refine aA.retU (aB.ret tab Tryz.func8 rfl fun _ _ _ _ K=>⟨_,rfl,rfl,K.keeps⟩)
    refine dB ?_
    refine ⟨_,kX hm1,?_⟩;conv=>whnf
    try (refine oN ?_;conv=>whnf)
    refine sqA ?_
    refine ⟨fun hn2=>?_,fun hn2=>?_⟩<;>conv=>whnf
    ·refine dB ?_
     refine aA.retU (aB.ret tab Tryz.func8 rfl fun _ _ _ _ K=>⟨_,rfl,rfl,K.keeps⟩)
    refine dB ?_
    refine ⟨_,kX hm1,?_⟩;conv=>whnf
    try (refine oN ?_;conv=>whnf)
    refine sqA ?_
    refine ⟨_,kX hm1,?_⟩;conv=>whnf
    try (refine oN ?_;conv=>whnf)
    refine sqA ?_
    refine aA.rowsEq 15 (aGV hm1 rfl) ?_;conv=>whnf
    have hq:=aIS hm1 (p:=fun a:Am=>1≤a.n∧a.n≤524288) hmq ⟨by omega,by omega⟩
    refine aA.subR [] (back (m+1) (by exact (⟨hm1,hq⟩)) (by (try dsimp only);omega)) sH sH
   obtain rfl:m=s.recipes[k].inn.length:=by omega
   clear back
   rw [List.take_length] at hmq
   refine dB ?_
   refine aA.rowsEq 15 (show rws Am.row (mixed Am.dbl s.recipes[k].inn s.recipes[k].inn.length)=rws Am.row (s.recipes[k].inn.map Am.dbl) by rw [aHY]) ?_
   conv=>whnf
   refine aA.subR [] (back (1) (by exact (⟨by omega,fun _=>hmq,fun h=>absurd h (by decide)⟩)) (by (try dsimp only);omega)) sH sH
  refine dB ?_
  refine And.intro (show (0:Int)≤((1:Nat):Int)∧((1:Nat):Int)<(2:Int) by omega) ?_
  conv=>whnf
  refine bZ ?_
  refine ⟨_,rfl,?_⟩;conv=>whnf
  try (refine oN ?_;conv=>whnf)
  refine sqA ?_
  refine pM tab 3 _ _ _ _ ?_;conv=>whnf
  refine aA.asB 10 16 e2 ?_
  refine bZ ?_
  refine aA.subR [] (aA.loop (fun (m:Nat)=>[(77,.v (.int .i64 m)),(76,.v (.int .i64 s.recipes[k].out.length)),(10,.buf 16),(71,.v (.int .i64 1)),(70,.v (.int .i64 2)),(69,.buf 17),(8,.ptr 12 0),(7,.ptr 11 0),(6,.ptr 9 0),(4,.v (.bool false)),(2,.ptr 8 0)]) (fun (m:Nat)=>[(17,.own 46 1 [[Value.slice a1 s.recipes[k].inn.length c1],[Value.slice a2 s.recipes[k].out.length c2]]),ownAmB 16 (mixed Am.dbl s.recipes[k].out m),ownAmB 15 (s.recipes[k].inn.map Am.dbl),(12,.cells 49 [.v (.string s.recipes[k].item),.v (.string s.recipes[k].plant),.v (.int .i64 s.recipes[k].fr),.v (.int .i64 s.recipes[k].to),.v (.slice s.recipes[k].hc.a s.recipes[k].cs.length s.recipes[k].hc.c),.buf 15,.buf 16,.v (.int .i64 s.recipes[k].rwN),.v (.int .i64 s.recipes[k].rwD),.v (.int .i64 s.recipes[k].yN),.v (.int .i64 s.recipes[k].yD),.v (.int .i64 s.recipes[k].tN),.v (.int .i64 s.recipes[k].tD),.v (.int .i64 s.recipes[k].lead),.v (.slice s.recipes[k].hr.a s.recipes[k].runs.length s.recipes[k].hr.c),.v (.int .i64 s.recipes[k].inum),.v (.int .i64 s.recipes[k].pnum)]),(11,.cells 31 [.buf 0,.buf 1,.buf 2,.buf 3,.buf 4,.buf 5,.buf 10,.buf 7]),(10,.own 49 17 (rws RcV.row [s.recipes[k]])),(9,.cells 31 [.buf 0,.buf 1,.buf 2,.buf 3,.buf 4,.buf 5,.buf 10,.buf 7]),dQ 8,(0,.ro 8 (aL s.units)),(1,.ro 6 (rws It.row s.items)),(2,.ro 1 (bV s.plants)),(3,.ro 4 (rws Mc.row s.machines)),(4,.ro 2 (rws OpV.row s.options)),(5,.ro 1 (rws FbV.row s.forbids)),(6,.ro 17 (rws RcV.row s.recipes)),(7,.ro 4 (rws Sw.row s.swaps))]) 18 (fun (m:Nat)=>m≤s.recipes[k].out.length ∧ ∀a∈s.recipes[k].out.take m,1≤a.n∧a.n≤524288) (fun (m:Nat)=>s.recipes[k].out.length - m) ?round5 (0) ?J05) sH sH
  case J05=>exact (⟨Nat.zero_le _,by simp⟩)
  rintro m hJ back
  try dsimp only at hJ back
  conv=>whnf
  try dsimp only
  refine aBF ?_
  obtain ⟨hml,hmq⟩:=hJ
  refine ⟨fun hm1=>?_,fun hm1=>?_⟩<;>conv=>whnf
  ·have hm1:m<s.recipes[k].out.length:=by omega
   have ml:=aHS (f:=Am.row) (g:=Am.dbl) (Nat.le_of_lt hm1)
   have hwa:=hwr.o _ (List.getElem_mem hm1)
   refine dB ?_
   refine ⟨_,kX hm1,?_⟩;conv=>whnf
   try (refine oN ?_;conv=>whnf)
   refine sqA ?_
   refine ⟨fun hn1=>?_,fun hn1=>?_⟩<;>conv=>whnf
   ·refine dB ?_
    refine aA.retU (aB.ret tab Tryz.func8 rfl fun _ _ _ _ K=>⟨_,rfl,rfl,K.keeps⟩)
   refine dB ?_
   refine ⟨_,kX hm1,?_⟩;conv=>whnf
   try (refine oN ?_;conv=>whnf)
   refine sqA ?_
   refine ⟨fun hn2=>?_,fun hn2=>?_⟩<;>conv=>whnf
   ·refine dB ?_
    refine aA.retU (aB.ret tab Tryz.func8 rfl fun _ _ _ _ K=>⟨_,rfl,rfl,K.keeps⟩)
   refine dB ?_
   refine ⟨_,kX hm1,?_⟩;conv=>whnf
   try (refine oN ?_;conv=>whnf)
   refine sqA ?_
   refine ⟨_,kX hm1,?_⟩;conv=>whnf
   try (refine oN ?_;conv=>whnf)
   refine sqA ?_
   refine aA.rowsEq 16 (aGV hm1 rfl) ?_;conv=>whnf
   have hq:=aIS hm1 (p:=fun a:Am=>1≤a.n∧a.n≤524288) hmq ⟨by omega,by omega⟩
   refine aA.subR [] (back (m+1) (by exact (⟨hm1,hq⟩)) (by (try dsimp only);omega)) sH sH
  obtain rfl:m=s.recipes[k].out.length:=by omega
  clear back
  rw [List.take_length] at hmq
  refine dB ?_
  refine aA.rowsEq 16 (show rws Am.row (mixed Am.dbl s.recipes[k].out s.recipes[k].out.length)=rws Am.row (s.recipes[k].out.map Am.dbl) by rw [aHY]) ?_
  conv=>whnf
  refine aA.subR [] (back (2) (by exact (⟨by omega,fun _=>hq1 (by decide),fun _=>hmq⟩)) (by (try dsimp only);omega)) sH sH
 have hj2:j=2:=by omega
 subst hj2
 clear back
 have hn:∀a,a∈s.recipes[k].inn∨a∈s.recipes[k].out→1≤a.n∧a.n≤524288:=fun a ha=>ha.elim (hq1 (by decide) a) (hq2 (by decide) a)
 refine pM tab 3 _ _ _ _ ?_;conv=>whnf
 refine aA.slot 104 _ (.agg (toV (s.recipes[k].dbl ⟨a1,c1⟩ ⟨a2,c2⟩).row)) (fun E hA=>?_) ?_ rfl
 ·have y1:=(hA 15 (show (15:Nat)<17 by decide)).trans e1
  have y2:=(hA 16 (show (16:Nat)<17 by decide)).trans e2
  simp [SV.g,SV.gs,toV,RcV.row,RcV.dbl,y1,y2]
 conv=>whnf
 refine bZ ?_
 have w1:(s.wr [s.recipes[k]]).wf:=⟨hw.U,hw.I,hw.M,hw.F,fun x hx=>by rw [List.mem_singleton.1 hx];exact hwr,hw.S⟩
 have u1:(s.wr [s.recipes[k]]).sub (fun k=>k<h.size) h:=⟨hs.below.o,hs.below.f,fun x hx=>by rw [List.mem_singleton.1 hx];exact hok⟩
 refine aA.callV (fun Ez Hz Az Sz K=>sS (s.wr [s.recipes[k]]) ⟨Sz.ro (b:=0) rfl,Sz.ro (b:=1) rfl,Sz.ro (b:=2) rfl,Sz.ro (b:=3) rfl,Sz.ro (b:=4) rfl,Sz.ro (b:=5) rfl,Sz.ro (b:=10) rfl,Sz.ro (b:=7) rfl,aG.sub.up u1 (Up.kp K)⟩ w1 0 (hT.keeps ⟨K.size,K.same⟩)) ?_
 conv=>whnf
 refine bZ ?_
 obtain ⟨q,hq⟩:∃q,q=s.recipes[k].dbl ⟨a1,c1⟩ ⟨a2,c2⟩:=⟨_,rfl⟩
 have qw:q.wf:=by
  rw [hq]
  refine ⟨hwr.c,fun x hx=>?_,fun x hx=>?_,hwr.rn,hwr.n⟩
  ·obtain ⟨y,hy,rfl⟩:=List.mem_map.1 hx
   have:=hn y (.inl hy)
   exact ⟨⟨by unfold Am.dbl;dsimp only;omega,by unfold Am.dbl;dsimp only;omega⟩,(hwr.i y hy).2⟩
  obtain ⟨y,hy,rfl⟩:=List.mem_map.1 hx
  have:=hn y (.inr hy)
  exact ⟨⟨by unfold Am.dbl;dsimp only;omega,by unfold Am.dbl;dsimp only;omega⟩,(hwr.o y hy).2⟩
 have w2:(s.wr [q]).wf:=⟨hw.U,hw.I,hw.M,hw.F,fun x hx=>by rw [List.mem_singleton.1 hx];exact qw,hw.S⟩
 have below:∀(Ez:Env) (Hz:Array Obj),Kp (fun k=>k<h.size) h Hz→Ez 15=E1 15→Ez 16=E1 16→Ro Hz (Ez 15) 7 (rws Am.row (s.recipes[k].inn.map Am.dbl))→Ro Hz (Ez 16) 7 (rws Am.row (s.recipes[k].out.map Am.dbl))→(s.wr [q]).sub (fun k=>k<Hz.size) Hz:=by
  intro Ez Hz K z1 z2 r1 r2
  refine ⟨(hs.below.up (Up.kp K)).o,(hs.below.up (Up.kp K)).f,fun x hx=>?_⟩
  rw [List.mem_singleton.1 hx,hq]
  have ho:=hok.up (Up.kp K)
  rw [z1,e1] at r1
  rw [z2,e2] at r2
  refine ⟨ho.c,?_,?_,ho.rn⟩
  ·unfold RcV.dbl;dsimp only;rw [List.length_map];exact r1.rof
  unfold RcV.dbl;dsimp only;rw [List.length_map];exact r2.rof
 refine aA.rowsEq 18 (rows':=rws RcV.row [q]) (by rw [hq]) ?_;conv=>whnf
 refine aA.callV (fun Ez Hz Az Sz K=>sS (s.wr [q]) ⟨Sz.ro (b:=0) rfl,Sz.ro (b:=1) rfl,Sz.ro (b:=2) rfl,Sz.ro (b:=3) rfl,Sz.ro (b:=4) rfl,Sz.ro (b:=5) rfl,Sz.ro (b:=18) rfl,Sz.ro (b:=7) rfl,below _ _ K (Az 15 (show (15:Nat)<17 by decide)) (Az 16 (show (16:Nat)<17 by decide)) (Sz.ro (b:=15) rfl) (Sz.ro (b:=16) rfl)⟩ w2 0 (hT.keeps ⟨K.size,K.same⟩)) ?_
 conv=>whnf
 refine bZ ?_
 obtain ⟨⟨⟨A,B⟩,e5⟩,f1⟩:∃x,ofT (s.wr [s.recipes[k]]) 0=x:=⟨_,rfl⟩
 obtain ⟨⟨⟨X,Y⟩,e6⟩,f2⟩:∃x,ofT (s.wr [q]) 0=x:=⟨_,rfl⟩
 rw [f1,f2]
 refine aA.join (fun (_:Unit)=>[(19,.v (.int .i64 (fV (s.wr [q])))),(18,.v (.int .i64 (fV (s.wr [s.recipes[k]])))),(17,.v (.int .i64 e6)),(16,.ptr 22 0),(15,.ptr 21 0),(14,.v (.int .i64 e5)),(13,.ptr 20 0),(12,.ptr 19 0),(4,.v (.bool false))]) (fun (_:Unit)=>[rtB 22 Y,rtB 21 X,rtB 20 B,rtB 19 A,(0,.ro 8 (aL s.units)),(1,.ro 6 (rws It.row s.items)),(2,.ro 1 (bV s.plants)),(3,.ro 4 (rws Mc.row s.machines)),(4,.ro 2 (rws OpV.row s.options)),(5,.ro 1 (rws FbV.row s.forbids)),(6,.ro 17 (rws RcV.row s.recipes)),(7,.ro 4 (rws Sw.row s.swaps))]) 23 (fun (_:Unit)=>True) ?_ (fun meet=>?_)
 rotate_left
 ·refine aA.held tab (.fl 0 (.fl 2 (.e1 1 [2] (.e1 3 [] (.fl 4 (.fl 5 .done)))))) (by kernel_rfl) ?_
  conv=>whnf
  refine fA ?_
  refine bZ ?_
  repeat' first
   |(guard_target=_∧_
     refine And.intro ?_ ?_
     all_goals conv=>whnf
     all_goals repeat ((first|(guard_target=_∧_;(first|refine oL ?_|refine oR ?_|refine oB ?_))|(guard_target=Exists _;refine oM ?_));(try intro _);conv=>whnf))
   |(refine aK.callV (fun Ez Hz Az Sz K=>fO (s.wr [s.recipes[k]]) ⟨Sz.ro (b:=0) rfl,Sz.ro (b:=1) rfl,Sz.ro (b:=2) rfl,Sz.ro (b:=3) rfl,Sz.ro (b:=4) rfl,Sz.ro (b:=5) rfl,Sz.ro (b:=10) rfl,Sz.ro (b:=7) rfl,aG.sub.up u1 (Up.kp K)⟩ w1 (hT.keeps ⟨K.size,K.same⟩)) (by (conv=>whnf);(repeat (guard_target=_∧_;refine And.intro (by (conv=>whnf);first|rfl|exact trivial) ?_;conv=>whnf));exact trivial) ?_
     conv=>whnf
     refine fA ?_
     refine sqs ?_
     repeat ((first|(guard_target=_∧_;(first|refine oL ?_|refine oR ?_))|(guard_target=Exists _;refine oM ?_));(try intro _);conv=>whnf))
   |(refine aK.callV (fun Ez Hz Az Sz K=>fO (s.wr [q]) ⟨Sz.ro (b:=0) rfl,Sz.ro (b:=1) rfl,Sz.ro (b:=2) rfl,Sz.ro (b:=3) rfl,Sz.ro (b:=4) rfl,Sz.ro (b:=5) rfl,Sz.ro (b:=18) rfl,Sz.ro (b:=7) rfl,below _ _ K (Az 15 (show (15:Nat)<17 by decide)) (Az 16 (show (16:Nat)<17 by decide)) (Sz.ro (b:=15) rfl) (Sz.ro (b:=16) rfl)⟩ w2 (hT.keeps ⟨K.size,K.same⟩)) (by (conv=>whnf);(repeat (guard_target=_∧_;refine And.intro (by (conv=>whnf);first|rfl|exact trivial) ?_;conv=>whnf));exact trivial) ?_
     conv=>whnf
     refine fA ?_
     refine sqs ?_
     repeat ((first|(guard_target=_∧_;(first|refine oL ?_|refine oR ?_))|(guard_target=Exists _;refine oM ?_));(try intro _);conv=>whnf))
   |(refine aA.subR [] (meet (()) ?_) ?_ ?_
     ·first|trivial|omega|((try dsimp only);omega)
     ·repeat (first|exact trivial|refine ⟨by rfl,?_⟩)
     ·repeat (first|exact trivial|refine ⟨by rfl,?_⟩))
 intro _ _
 have er:=aZZ (s:=s) (hi:=⟨a1,c1⟩) (ho:=⟨a2,c2⟩) hn
 rw [←hq,f1,f2] at er
 have ok:=aZV (s:=s) (hi:=⟨a1,c1⟩) (ho:=⟨a2,c2⟩) hn
 rw [←hq,f1,f2] at ok
 dsimp only at er ok
 by_cases hz:e5=0∧e6=0
 rotate_left
 ·have er:=er (by omega)
  by_cases h5:e5=0
  ·have h6:¬e6=0:=fun x=>hz ⟨h5,x⟩
   obtain rfl:e6=2:=by omega
   subst h5
   refine bZ ?_
   refine dB ?_
   refine aA.retU (aB.ret tab Tryz.func8 rfl fun _ _ _ _ K=>⟨_,rfl,rfl,K.keeps⟩)
  by_cases h7:e5=e6
  ·subst h7
   refine bZ ?_
   refine dB ?_
   refine aA.retU (aB.ret tab Tryz.func8 rfl fun _ _ _ _ K=>⟨_,rfl,rfl,K.keeps⟩)
  by_cases h8:e5=2
  ·subst h8
   refine bZ ?_
   refine dB ?_
   refine aA.retU (aB.ret tab Tryz.func8 rfl fun _ _ _ _ K=>⟨_,rfl,rfl,K.keeps⟩)
  obtain rfl:e6=2:=by omega
  refine bZ ?_
  refine dB ?_
  refine aA.retU (aB.ret tab Tryz.func8 rfl fun _ _ _ _ K=>⟨_,rfl,rfl,K.keeps⟩)
 obtain ⟨rfl,rfl⟩:=hz
 obtain ⟨A',B',X',Y',g1,g2,g3,g4,g5⟩:=ok rfl rfl
 cases g1
 cases g2
 refine bZ ?_
 rcases g3 with g3|g3
 ·refine aA.callV (fun Ez Hz Az Sz K=>nU (aN A') (aN A') (hT.keeps ⟨K.size,K.same⟩)) ?_
  conv=>whnf
  rw [g3]
  try dsimp only
  refine bZ ?_
  refine aA.callV (fun Ez Hz Az Sz K=>nU (aN B') (aN B') (hT.keeps ⟨K.size,K.same⟩)) ?_
  conv=>whnf
  refine bZ ?_
  refine aA.retU (aB.ret tab Tryz.func8 rfl fun _ _ _ _ K=>⟨_,rfl,rfl,K.keeps⟩)
 refine aA.callV (fun Ez Hz Az Sz K=>nU (aN A') (aN A') (hT.keeps ⟨K.size,K.same⟩)) ?_
 conv=>whnf
 rw [g3]
 try dsimp only
 refine bZ ?_
 rcases g4 with g4|g4
 ·refine aA.callV (fun Ez Hz Az Sz K=>nU (aN B') (aN B') (hT.keeps ⟨K.size,K.same⟩)) ?_
  conv=>whnf
  rw [g4]
  try dsimp only
  refine bZ ?_
  refine aA.retU (aB.ret tab Tryz.func8 rfl fun _ _ _ _ K=>⟨_,rfl,rfl,K.keeps⟩)
 refine aA.callV (fun Ez Hz Az Sz K=>nU (aN B') (aN B') (hT.keeps ⟨K.size,K.same⟩)) ?_
 conv=>whnf
 rw [g4]
 try dsimp only
 refine bZ ?_
 by_cases k1:fV (s.wr [s.recipes[k]])=2
 ·refine dB ?_
  refine aA.retU (aB.ret tab Tryz.func8 rfl fun _ _ _ _ K=>⟨_,rfl,rfl,K.keeps⟩)
 by_cases k2:fV (s.wr [q])=2
 ·refine dB ?_
  refine aA.retU (aB.ret tab Tryz.func8 rfl fun _ _ _ _ K=>⟨_,rfl,rfl,K.keeps⟩)
 have k3:=g5 k1 k2
 rw [k3]
 refine dB ?_
 refine And.intro (fun _=>?_) (fun hn=>absurd (⟨rfl,rfl,rfl⟩) hn)
 refine dB ?_
 refine And.intro (fun _=>?_) (fun hn=>absurd (⟨rfl,rfl,rfl⟩) hn)
 refine dB ?_
 refine aA.retU (aB.ret tab Tryz.func8 rfl fun Ez Hz Az Sz K=>⟨_,rfl,?_,K.keeps⟩)
 exact congrArg Value.bool (decide_eq_true rfl)
end Go.Proofs.YthjedpdedjhndaaGreatDoor

namespace Go.Proofs.YthjedpdedjhndaaGreatDoor.balanceTwice
open Go Go.Fw Go.ChangeShapes Go.ChangeMaps Go.WideShapes Go.ChangeAt Go.RowKit
set_option maxRecDepth 100000
theorem int_wf {n:Int} (h:(Lit.int .i64 n).wf=true): -9223372036854775808≤n∧n≤9223372036854775807:=by
 have h1:IntKind.i64.min≤n∧n≤9223372036854775807:=by simpa [Lit.wf] using h
 have e:IntKind.i64.min = -9223372036854775808:=rfl
 omega
theorem contract (H:Type) (enc:TypeId×Value→H) (W:World) (base:Nat) (args:Array Value) (ds gs:List (DataW H)) (before:List MemPlace)
  (hval:∀(j:Nat) t v,Tryz.f8.params[j]? = some t→args[j]? = some v→Value.okWide Tryz.prog W .any base t v)
  (hW:DataW.Whole enc Tryz.prog Tryz.f8.params.toList Rows.balanceTwiceSpec.vars false W args.toList ds gs before) (hL:laidMetH Tryz.prog Rows.balanceTwiceRow.laid W):
  Calls Tryz.prog 8 args W fun e W'=>∃v,e=.returned v∧Rows.balanceTwiceSpec.post enc Tryz.prog Tryz.f8 false true false false W args v W':=by
 have hW':=hW
 obtain ⟨p,q,hA0,hV,rfl,hfz,hnd⟩:=hW
 have hA:DataW.TrodAll enc Tryz.prog W 0 (fun _=>true) true Tryz.f8.params.toList args.toList ds p:=hA0
 rw [Tryz.params8] at hA hval
 obtain ⟨v0,vs0,d0,ds0,p0,q0,hargs,rfl,rfl,h0,r0⟩:=trodAll_cons hA
 obtain ⟨v1,vs1,d1,ds1,p1,q1,rfl,rfl,rfl,h1,r1⟩:=trodAll_cons r0
 obtain ⟨rfl,rfl,rfl⟩:=trodAll_nil r1
 obtain rfl:args = #[v0,v1]:=by cases args;simp_all
 obtain ⟨rfl,rfl⟩:=trodVars_none hV
 obtain ⟨z0U,z0I,z0P,z0M,z0O,z0F,z0R,z0S,s0,rfl,T0,X0⟩:=aAF (hval 0 31 v0 rfl rfl) h0
 obtain ⟨x1,rfl,rfl,rfl,m1⟩:=open_int Tryz.underlying5 (hval 1 5 v1 rfl rfl) h1
 clear hA0
 simp only [List.append_nil] at hW'
 have walk:=FnV.below (W:=W) (R:=fun r=>r=.bool true) (balTwice_fn s0 T0 X0 x1 (aGU m1) (aTJ hL))
 refine walk.mono fun e W' ⟨v,he,hv,hg⟩=>?_
 subst he hv
 exact ⟨_,rfl,wN aEC (by kernel_rfl) Tryz.underlying4 rfl hW' rfl (fun _ _=>⟨rfl,rfl,rfl⟩) hg⟩
theorem laid_met (os:Os):laidMet Tryz.prog Rows.balanceTwiceRow.laid ((fP os).forCall (fun _ _=>0) ⟨#[],#[.agg #[.slice none 0 0,.slice none 0 0,.slice none 0 0,.slice none 0 0,.slice none 0 0,.slice none 0 0,.slice none 0 0,.slice none 0 0],.int .u8 0],[]⟩).memory:=
 laidMet_of_run' 8 (by kernel_rfl) (by kernel_rfl)
theorem reads (os:Os) {H:Type} (enc:TypeId×Value→H):∃places,DataW.whole enc Tryz.prog ((fP os).forCall (fun _ _=>0) ⟨#[],#[.agg #[.slice none 0 0,.slice none 0 0,.slice none 0 0,.slice none 0 0,.slice none 0 0,.slice none 0 0,.slice none 0 0,.slice none 0 0],.int .u8 0],[]⟩).memory Tryz.f8.params.toList Rows.balanceTwiceSpec.vars false (#[.agg #[.slice none 0 0,.slice none 0 0,.slice none 0 0,.slice none 0 0,.slice none 0 0,.slice none 0 0,.slice none 0 0,.slice none 0 0],.int .u8 0]:Array Value).toList 8=some ([.agg [.nil,.nil,.nil,.nil,.nil,.nil,.nil,.nil],.lit (.int .u8 0)],[],places):=
 ⟨[],by kernel_rfl⟩
theorem lifted (os:Os) (started:os.Started) (H:Type) (enc:TypeId×Value→H) (F:Stop.Interp):
  ReturnsInHanded {} Tryz.checked os 8 .any ((OpenSpec.ofChange Rows.balanceTwiceSpec).preRow enc Tryz.prog Tryz.f8 Rows.balanceTwiceRow.domain false Rows.balanceTwiceRow.laid) (((OpenSpec.ofChange Rows.balanceTwiceSpec).at F).post enc Tryz.prog Tryz.f8 false true false false):=by
 obtain ⟨places,hx⟩:=reads os enc
 refine returnsInHanded_of_row (C:=Tryz.checked) (s:=OpenSpec.ofChange Rows.balanceTwiceSpec) own started (by kernel_rfl) Tryz.func8
  (witness_row_at (enc:=enc) (C:=Tryz.checked) false (fP os) #[.agg #[.slice none 0 0,.slice none 0 0,.slice none 0 0,.slice none 0 0,.slice none 0 0,.slice none 0 0,.slice none 0 0,.slice none 0 0],.int .u8 0] rfl (by kernel_rfl) (by kernel_rfl) (by kernel_rfl)
   (OpenSpec.preRow_of_cond 8 hx (by kernel_rfl) (fun k hk=>by cases hk) (by kernel_rfl) (laid_met os))) ?_
 intro W base args ds gs before hval hW _ _ hS hL _ _
 exact contract H enc W base args ds gs before hval hW hL
set_option maxHeartbeats 99999999
theorem andB {a b:Bool} (h:a=true) (g:b=true):(a&&b)=true:=by rw [h,g];rfl
theorem closed:joinedFacts Tryz.pinned.checked.prog 8 Tryz.f8 (OpenSpec.ofChange Rows.balanceTwiceSpec).bare Rows.balanceTwiceRow=true:=by
 unfold joinedFacts
 repeat' with_reducible refine andB ?_ ?_
 all_goals as_aux_lemma=>kernel_rfl
theorem said:Rows.BalanceTwiceSaid:=
 OpenClaim.holds_of_cond 8 Tryz.f8 rfl rfl rfl rfl rfl rfl rfl ⟨rfl,rfl,rfl,rfl,rfl⟩ rfl rfl rfl rfl rfl (by kernel_rfl) Tryz.func8 closed
  (of_decide_eq_true (by kernel_rfl)) (by unfold Func.isWrapper;first|(rw [if_pos (by decide +kernel)];kernel_rfl)|(rw [if_neg (by decide +kernel)];exact ⟨rfl,rfl⟩))
  (fun os started H enc _ F=>by rw [OpenClaim.pre_eq_preRow];exact lifted os started H enc F)
theorem plain (f:FuncId) (fn:Func) (hf:Tryz.pinned.checked.prog.funcNamed "backflush/backflushlaw14.BalanceTwice" = some f) (hfn:Tryz.pinned.checked.prog.funcs[f]? = some fn):
  true=Tryz.pinned.checked.prog.looks [] ∧ ∀(j:Nat) t,fn.params[j]? = some t→Tryz.pinned.checked.prog.wantsStandIn t=false:=by
 obtain rfl:f=8:=Option.some.inj ((show Tryz.prog.funcNamed "backflush/backflushlaw14.BalanceTwice" = some 8 by kernel_rfl).symm.trans hf) |>.symm
 obtain rfl:fn=Tryz.f8:=(Option.some.inj (Tryz.func8.symm.trans hfn)).symm
 refine ⟨by kernel_rfl,fun j t ht=>?_⟩
 rw [Tryz.params8] at ht
 have hm:=Array.mem_of_getElem? ht
 simp only [List.mem_toArray,List.mem_cons,List.not_mem_nil,or_false] at hm
 rcases hm with rfl|rfl
 ·exact (show Tryz.prog.wantsStandIn 31=false by kernel_rfl)
 exact (show Tryz.prog.wantsStandIn 5=false by kernel_rfl)
theorem card:Rows.BalanceTwiceCardSaid:=
 Claim7.holds_tied_plain_at .later [] _ _ _ _ said (fun _ h=>by cases h) (by kernel_rfl) (fun _ h=>by cases h) balanceTwice_row_tie rfl ⟨rfl,rfl⟩ (by kernel_rfl) rfl plain (by kernel_rfl)
end Go.Proofs.YthjedpdedjhndaaGreatDoor.balanceTwice
