/- BalanceMasses: for every input the law returns true, and each argument reads behind the call as it read before; the listed tables hold, when the call  -/
import Derived.Test.YthjedpdedjhndaaGreatDoorJoinH
set_option linter.unusedVariables false
set_option linter.unusedSimpArgs false
namespace Go.Proofs.YthjedpdedjhndaaGreatDoor
open Go Go.Fw Go.NatM Go.RatM Go.SrcM
set_option maxRecDepth 100000
set_option maxHeartbeats 99999999
theorem balMasses_fn {h:Array Obj} (s:aG) {vU vI vP vM vO vF vR vS:Value} (hs:Top h vU vI vP vM vO vF vR vS s) (hw:s.wf) (i:Int) (hi:0≤i∧i<256) (hT:gN h):FnV Tryz.prog 6 #[xR vU vI vP vM vO vF vR vS,.int .u8 i] h fun r h'=>r=.bool true∧aH h.size h h':=by
 have lU:=bA s.units
 have lI:=aE It.row s.items
 have lP:=cL s.plants
 have lM:=aE Mc.row s.machines
 have lO:=aE OpV.row s.options
 have lF:=aE FbV.row s.forbids
 have lR:=aE RcV.row s.recipes
 have lS:=aE Sw.row s.swaps
 refine Fn.ofG (mK [vU,vI,vP,vM,vO,vF,vR,vS]) 8 [.agg [.buf 0,.buf 1,.buf 2,.buf 3,.buf 4,.buf 5,.buf 6,.buf 7],.v (.int .u8 i)] [(0,.ro (8) (aL s.units)),(1,.ro (6) (rws It.row s.items)),(2,.ro (1) (bV s.plants)),(3,.ro (4) (rws Mc.row s.machines)),(4,.ro (2) (rws OpV.row s.options)),(5,.ro (1) (rws FbV.row s.forbids)),(6,.ro (17) (rws RcV.row s.recipes)),(7,.ro (4) (rws Sw.row s.swaps))] (fun k=>k<_) Tryz.func6 (by kernel_rfl) rfl Tryz.ntmps6 rfl (fun _ hk=>hk) (Sat.ros (vs:=[vU,vI,vP,vM,vO,vF,vR,vS]) (l:=[(8,aL s.units),(6,rws It.row s.items),(1,bV s.plants),(4,rws Mc.row s.machines),(2,rws OpV.row s.options),(1,rws FbV.row s.forbids),(17,rws RcV.row s.recipes),(4,rws Sw.row s.swaps)]) ⟨hs.U,hs.I,hs.P,hs.M,hs.O,hs.F,hs.R,hs.S,trivial⟩) fun w0 cs=>?_
 conv=>whnf
 refine gS ?_;conv=>whnf
 refine aA.callV (fun Ez Hz Az Sz K=>aDO (hT.keeps ⟨K.size,K.same⟩)) ?_
 conv=>whnf
 refine sqs ?_
 by_cases hf:aHQ s
 rotate_left
 ·refine aA.callV (fun Ez Hz Az Sz K=>pT s ⟨Sz.ro (b:=0) rfl,Sz.ro (b:=1) rfl,Sz.ro (b:=2) rfl,Sz.ro (b:=3) rfl,Sz.ro (b:=4) rfl,Sz.ro (b:=5) rfl,Sz.ro (b:=6) rfl,Sz.ro (b:=7) rfl,hs.below.up (Up.kp K)⟩) ?_
  conv=>whnf
  rw [decide_eq_false hf]
  try dsimp only
  refine sqs ?_
  refine aA.retU (aB.ret tab Tryz.func6 rfl fun _ _ _ _ K=>⟨_,rfl,rfl,K.keeps⟩)
 refine aA.callV (fun Ez Hz Az Sz K=>pT s ⟨Sz.ro (b:=0) rfl,Sz.ro (b:=1) rfl,Sz.ro (b:=2) rfl,Sz.ro (b:=3) rfl,Sz.ro (b:=4) rfl,Sz.ro (b:=5) rfl,Sz.ro (b:=6) rfl,Sz.ro (b:=7) rfl,hs.below.up (Up.kp K)⟩) ?_
 conv=>whnf
 rw [decide_eq_true hf]
 try dsimp only
 refine sqs ?_
 refine ⟨fun h0=>?_,fun h0=>?_⟩<;>conv=>whnf
 ·conv=>whnf
  refine aA.retU (aB.ret tab Tryz.func6 rfl fun _ _ _ _ K=>⟨_,rfl,rfl,K.keeps⟩)
 refine dA ?_
 obtain ⟨k,e,hk⟩:=emodB (i:=i) (n:=(rws RcV.row s.recipes).length) hi.1 (by omega)
 rw [aE] at hk
 conv=>whnf
 rw [e]
 by_cases h2:(ofT s k).2=0
 rotate_left
 ·obtain ⟨z,hz⟩:∃z,ofT s k=((zr,zr),z):=⟨_,ofT_er h2⟩
  rw [hz] at h2
  refine aA.callV (fun Ez Hz Az Sz K=>sR s ⟨Sz.ro (b:=0) rfl,Sz.ro (b:=1) rfl,Sz.ro (b:=2) rfl,Sz.ro (b:=3) rfl,Sz.ro (b:=4) rfl,Sz.ro (b:=5) rfl,Sz.ro (b:=6) rfl,Sz.ro (b:=7) rfl,hs.below.up (Up.kp K)⟩ hw k (hT.keeps ⟨K.size,K.same⟩)) ?_
  conv=>whnf
  rw [hz]
  try dsimp only
  refine bZ ?_
  refine And.intro (fun _=>?_) (fun hn=>absurd (⟨rfl,rfl,rfl⟩) hn)
  conv=>whnf
  refine aA.retU (aB.ret tab Tryz.func6 rfl fun Ez Hz Az Sz K=>⟨_,rfl,?_,K.keeps⟩)
  exact congrArg Value.bool (decide_eq_true ⟨rfl,rfl,rfl⟩)
 obtain ⟨hc,I,O,hz,F⟩:=bBD hk h2
 refine aA.callV (fun Ez Hz Az Sz K=>sR s ⟨Sz.ro (b:=0) rfl,Sz.ro (b:=1) rfl,Sz.ro (b:=2) rfl,Sz.ro (b:=3) rfl,Sz.ro (b:=4) rfl,Sz.ro (b:=5) rfl,Sz.ro (b:=6) rfl,Sz.ro (b:=7) rfl,hs.below.up (Up.kp K)⟩ hw k (hT.keeps ⟨K.size,K.same⟩)) ?_
 conv=>whnf
 rw [hz]
 try dsimp only
 refine bZ ?_
 refine aA.subR (nx':=11) (l':=[(8,.v (.int .i64 0)),(7,.ptr 10 0),(6,.ptr 9 0),(5,.v (.int .i64 k)),(4,.v (.bool false)),(2,.ptr 8 0)]) (H':=[rtB 10 (aN O),rtB 9 (aN I),dT 8,(0,.ro 8 (aL s.units)),(1,.ro 6 (rws It.row s.items)),(2,.ro 1 (bV s.plants)),(3,.ro 4 (rws Mc.row s.machines)),(4,.ro 2 (rws OpV.row s.options)),(5,.ro 1 (rws FbV.row s.forbids)),(6,.ro 17 (rws RcV.row s.recipes)),(7,.ro 4 (rws Sw.row s.swaps))]) [] ?_ sH sH
 refine aA.held tab (.fl 0 (.fl 1 (.fl 2 (.fl 3 (.fl 4 (.fl 5 (.fl 6 (.fl 7 (.fl 8 (.fl 9 (.fl 10 (.fl 11 (.fl 14 (.e1 12 [] (.fl 13 .done))))))))))))))) (by kernel_rfl) ?_;conv=>whnf
 refine fA ?_
 conv=>whnf
 refine ⟨_,aZ hk,?_⟩;conv=>whnf
 try (refine And.intro (by first|omega|exact Nat.le_of_ble_eq_true rfl) ?_;(try intro _);conv=>whnf)
 conv=>whnf
 refine ⟨_,aZ hk,?_⟩;refine sqwB ?_
 refine sqs ?_
 have hm:=List.getElem_mem hk
 have hwr:=hw.R _ hm
 have hok:=hs.below.r _ hm
 refine aA.subR [] (aA.loop (fun (j:Nat)=>[(64,.v (.int .i64 j)),(63,.v (.int .i64 2)),(62,.buf 11),(7,.ptr 10 0),(6,.ptr 9 0),(4,.v (.bool false)),(2,.ptr 8 0)]) (fun (j:Nat)=>[(11,.own 46 1 [[Value.slice s.recipes[k].hi.a s.recipes[k].inn.length s.recipes[k].hi.c],[Value.slice s.recipes[k].ho.a s.recipes[k].out.length s.recipes[k].ho.c]]),rtB 10 (aN O),rtB 9 (aN I),dT 8,(0,.ro 8 (aL s.units)),(1,.ro 6 (rws It.row s.items)),(2,.ro 1 (bV s.plants)),(3,.ro 4 (rws Mc.row s.machines)),(4,.ro 2 (rws OpV.row s.options)),(5,.ro 1 (rws FbV.row s.forbids)),(6,.ro 17 (rws RcV.row s.recipes)),(7,.ro 4 (rws Sw.row s.swaps))]) 12 (fun (j:Nat)=>j≤2) (fun (j:Nat)=>2 - j) ?round1 (0) ?J01) sH sH
 case J01=>first|omega|trivial
 rintro j hJ back
 conv=>whnf
 refine gS ?_;conv=>whnf
 refine ⟨fun hj=>?_,fun hj=>?_⟩<;>conv=>whnf
 ·have hj:j<2:=by omega
  obtain ⟨l,a,c,X,x1,x2,x3,x4,x5,x6⟩:∃(l:List Am) (a:Option Addr) (c:Nat) (X:Q),[[Value.slice s.recipes[k].hi.a s.recipes[k].inn.length s.recipes[k].hi.c],[Value.slice s.recipes[k].ho.a s.recipes[k].out.length s.recipes[k].ho.c]][j]? = some [.slice a l.length c]∧RoF (fun k=>k<h.size) h (.slice a l.length c) 7 (rws Am.row l)∧(∀x∈l,x.wf ∧ ∃M,nP s x=(aN M,0)∧Is M (mv s x))∧Is X (mvs s l)∧(j=0→X=I)∧(j=1→X=O):=by
   rcases (show j=0∨j=1 by omega) with rfl|rfl
   ·exact ⟨_,_,_,I,rfl,hok.i,fun x hx=>⟨hwr.i x hx,aOU hk h2 (.inl hx)⟩,F.i,fun _=>rfl,fun h=>absurd h (by decide)⟩
   exact ⟨_,_,_,O,rfl,hok.o,fun x hx=>⟨hwr.o x hx,aOU hk h2 (.inr hx)⟩,F.o,fun h=>absurd h (by decide),fun _=>rfl⟩
  conv=>whnf
  refine And.intro (show (0:Int)≤(j:Int)∧(j:Int)<(2:Int) by omega) ?_
  conv=>whnf
  refine ⟨_,x1,?_⟩;conv=>whnf
  refine aA.nameAt (fun _ x=>x) 10 (by exact x2) ?_
  conv=>whnf
  refine sqs ?_
  have ll:=aE Am.row l
  have lm:=x2.len
  refine aA.callV (fun Ez Hz Az Sz K=>iA 0 1 (by decide) (by decide) (hT.keeps ⟨K.size,K.same⟩)) ?_
  conv=>whnf
  rw [aME]
  refine bZ ?_
  conv=>whnf
  refine aA.subR [] (aA.loop (fun (x:Nat×Int×Rt)=>[(13,.v (.int .i64 ((x.1:Int) - 1))),(12,.v (.int .i64 x.2.1)),(11,.ptr 13 0),(10,.buf 12),(9,.v (.int .i64 j)),(64,.v (.int .i64 j)),(63,.v (.int .i64 2)),(62,.buf 11),(7,.ptr 10 0),(6,.ptr 9 0),(4,.v (.bool false)),(2,.ptr 8 0)]) (fun (x:Nat×Int×Rt)=>[rtB 13 x.2.2,(12,.ro 7 (rws Am.row l)),(11,.own 46 1 [[Value.slice s.recipes[k].hi.a s.recipes[k].inn.length s.recipes[k].hi.c],[Value.slice s.recipes[k].ho.a s.recipes[k].out.length s.recipes[k].ho.c]]),rtB 10 (aN O),rtB 9 (aN I),dT 8,(0,.ro 8 (aL s.units)),(1,.ro 6 (rws It.row s.items)),(2,.ro 1 (bV s.plants)),(3,.ro 4 (rws Mc.row s.machines)),(4,.ro 2 (rws OpV.row s.options)),(5,.ro 1 (rws FbV.row s.forbids)),(6,.ro 17 (rws RcV.row s.recipes)),(7,.ro 4 (rws Sw.row s.swaps))]) 14 (fun (x:Nat×Int×Rt)=>x.1≤l.length∧(x.2.1=2∨x.2.1=0 ∧ ∃q,x.2.2=aN q∧Is q (mvs s (l.drop x.1)))) (fun (x:Nat×Int×Rt)=>x.1) ?round2 (((rws Am.row l).length,0,aJO)) ?J02) sH sH
  case J02=>exact (⟨Nat.le_of_eq ll,.inr ⟨rfl,zq,rfl,by rw [ll,List.drop_length];exact zq_is⟩⟩)
  rintro x hJ back
  conv=>whnf
  refine gS ?_;conv=>whnf
  obtain ⟨n,e,c⟩:=x
  dsimp only at back hJ ⊢
  obtain ⟨hn,hv⟩:=hJ
  refine ⟨fun hn0=>?_,fun hn0=>?_⟩<;>conv=>whnf
  ·obtain ⟨m,rfl⟩:∃m,n=m+1:=⟨n - 1,by omega⟩
   have hm1:m<l.length:=hn
   have em:(((m+1:Nat):Int) - 1)=(m:Int):=by omega
   obtain ⟨y1,M,y2,y3⟩:=x3 l[m] (List.getElem_mem hm1)
   rw [em]
   conv=>whnf
   refine aA.join (fun (_:Unit)=>[(15,.v (.int .i64 0)),(14,.ptr 14 0),(13,.v (.int .i64 m)),(12,.v (.int .i64 e)),(11,.ptr 13 0),(10,.buf 12),(9,.v (.int .i64 j)),(64,.v (.int .i64 j)),(63,.v (.int .i64 2)),(62,.buf 11),(7,.ptr 10 0),(6,.ptr 9 0),(4,.v (.bool false)),(2,.ptr 8 0)]) (fun (_:Unit)=>[rtB 14 (aN M),rtB 13 c,(12,.ro 7 (rws Am.row l)),(11,.own 46 1 [[Value.slice s.recipes[k].hi.a s.recipes[k].inn.length s.recipes[k].hi.c],[Value.slice s.recipes[k].ho.a s.recipes[k].out.length s.recipes[k].ho.c]]),rtB 10 (aN O),rtB 9 (aN I),dT 8,(0,.ro 8 (aL s.units)),(1,.ro 6 (rws It.row s.items)),(2,.ro 1 (bV s.plants)),(3,.ro 4 (rws Mc.row s.machines)),(4,.ro 2 (rws OpV.row s.options)),(5,.ro 1 (rws FbV.row s.forbids)),(6,.ro 17 (rws RcV.row s.recipes)),(7,.ro 4 (rws Sw.row s.swaps))]) 15 (fun (_:Unit)=>True) ?_ (fun meet=>?_)
   rotate_left
   ·refine aA.held tab (.fl 0 (.fl 1 (.fl 2 (.fl 3 (.fl 4 (.e2 5 [] (.fl 6 (.fl 7 (.fl 8 (.e1 9 [0,4] (.e1 10 [] (.fl 11 .done)))))) 9 [0,4] (.e1 5 [] (.fl 6 (.fl 7 (.fl 8 (.e1 10 [] (.fl 11 .done)))))))))))) (by kernel_rfl) ?_
    conv=>whnf
    refine fA ?_
    conv=>whnf
    refine ⟨_,aZ hm1,?_⟩;conv=>whnf
    try (refine And.intro (by first|omega|exact Nat.le_of_ble_eq_true rfl) ?_;(try intro _);conv=>whnf)
    conv=>whnf
    repeat' first
     |(guard_target=_∧_
       refine And.intro ?_ ?_
       all_goals conv=>whnf
       all_goals repeat ((first|(guard_target=_∧_;(first|refine oL ?_|refine oR ?_|refine oB ?_))|(guard_target=Exists _;refine oM ?_));(try intro _);conv=>whnf))
     |(refine aK.callV (fun Ez Hz Az Sz K=>aGS s ⟨Sz.ro (b:=0) rfl,Sz.ro (b:=1) rfl,Sz.ro (b:=2) rfl,Sz.ro (b:=3) rfl,Sz.ro (b:=4) rfl,Sz.ro (b:=5) rfl,Sz.ro (b:=6) rfl,Sz.ro (b:=7) rfl,hs.below.up (Up.kp K)⟩ hw l[m] y1 (hT.keeps ⟨K.size,K.same⟩)) (by (conv=>whnf);(repeat (guard_target=_∧_;refine And.intro (by (conv=>whnf);first|rfl|exact trivial) ?_;conv=>whnf));exact trivial) ?_
       conv=>whnf
       rw [y2]
       refine fA ?_
       refine sqs ?_
       repeat ((first|(guard_target=_∧_;(first|refine oL ?_|refine oR ?_))|(guard_target=Exists _;refine oM ?_));(try intro _);conv=>whnf))
     |(refine aA.subR [] (meet (()) ?_) ?_ ?_
       ·first|trivial|omega|((try dsimp only);omega)
       ·repeat (first|exact trivial|refine ⟨by rfl,?_⟩)
       repeat (first|exact trivial|refine ⟨by rfl,?_⟩))
   intro _ _
   rcases hv with rfl|⟨rfl,q,rfl,hq⟩
   ·try refine gS ?_
    refine dA ?_
    refine aA.retU (aB.ret tab Tryz.func6 rfl fun _ _ _ _ K=>⟨_,rfl,rfl,K.keeps⟩)
   refine bZ ?_
   have hres:=aGK hq y3
   rw [←bCC hm1] at hres
   rcases hres with er|⟨q2,e2,e3⟩
   ·refine aA.callV (fun Ez Hz Az Sz K=>nZ (aN q) (aN M) (hT.keeps ⟨K.size,K.same⟩)) ?_
    conv=>whnf
    rw [er]
    refine bZ ?_
    refine aA.subR [] (back ((m,2,zr)) (by exact (⟨by omega,.inl rfl⟩)) (by (try dsimp only);omega)) sH sH
   refine aA.callV (fun Ez Hz Az Sz K=>nZ (aN q) (aN M) (hT.keeps ⟨K.size,K.same⟩)) ?_
   conv=>whnf
   rw [e2]
   refine bZ ?_
   refine aA.subR [] (back ((m,0,aN q2)) (by exact (⟨by omega,.inr ⟨rfl,q2,rfl,e3⟩⟩)) (by (try dsimp only);omega)) sH sH
  obtain rfl:n=0:=by omega
  clear back
  rcases hv with rfl|⟨rfl,q,rfl,hq⟩
  ·refine dA ?_
   refine aA.retU (aB.ret tab Tryz.func6 rfl fun _ _ _ _ K=>⟨_,rfl,rfl,K.keeps⟩)
  rw [List.drop_zero] at hq
  obtain rfl:=x4.inj hq
  rcases (show j=0∨j=1 by omega) with rfl|rfl
  ·obtain rfl:=x5 rfl
   refine dA ?_
   refine And.intro (fun _=>?_) (fun hn=>absurd (⟨rfl,rfl,rfl⟩) hn)
   refine dA ?_
   refine aA.subR [] (back (1) (by (try dsimp only);first|omega|trivial) (by (try dsimp only);omega)) sH sH
  obtain rfl:=x6 rfl
  refine dA ?_
  refine And.intro (fun _=>?_) (fun hn=>absurd (⟨rfl,rfl,rfl⟩) hn)
  refine dA ?_
  refine aA.subR [] (back (2) (by (try dsimp only);first|omega|trivial) (by (try dsimp only);omega)) sH sH
 clear back
 conv=>whnf
 refine aA.retU (aB.ret tab Tryz.func6 rfl fun _ _ _ _ K=>⟨_,rfl,rfl,K.keeps⟩)
end Go.Proofs.YthjedpdedjhndaaGreatDoor

namespace Go.Proofs.YthjedpdedjhndaaGreatDoor.balanceMasses
open Go Go.Fw Go.ChangeShapes Go.ChangeMaps Go.WideShapes Go.ChangeAt Go.RowKit
set_option maxRecDepth 100000
theorem int_wf {n:Int} (h:(Lit.int .i64 n).wf=true): -9223372036854775808≤n∧n≤9223372036854775807:=by
 have h1:IntKind.i64.min≤n∧n≤9223372036854775807:=by simpa [Lit.wf] using h
 have e:IntKind.i64.min = -9223372036854775808:=rfl
 omega
theorem contract (H:Type) (enc:TypeId×Value→H) (W:World) (base:Nat) (args:Array Value) (ds gs:List (DataW H)) (before:List MemPlace)
  (hval:∀(j:Nat) t v,Tryz.f6.params[j]? = some t→args[j]? = some v→Value.okWide Tryz.prog W .any base t v)
  (hW:DataW.Whole enc Tryz.prog Tryz.f6.params.toList Rows.balanceMassesSpec.vars false W args.toList ds gs before) (hL:laidMetH Tryz.prog Rows.balanceMassesRow.laid W):
  Calls Tryz.prog 6 args W fun e W'=>∃v,e=.returned v∧Rows.balanceMassesSpec.post enc Tryz.prog Tryz.f6 false true false false W args v W':=by
 have hW':=hW
 obtain ⟨p,q,hA0,hV,rfl,hfz,hnd⟩:=hW
 have hA:DataW.TrodAll enc Tryz.prog W 0 (fun _=>true) true Tryz.f6.params.toList args.toList ds p:=hA0
 rw [Tryz.params6] at hA hval
 obtain ⟨v0,vs0,d0,ds0,p0,q0,hargs,rfl,rfl,h0,r0⟩:=trodAll_cons hA
 obtain ⟨v1,vs1,d1,ds1,p1,q1,rfl,rfl,rfl,h1,r1⟩:=trodAll_cons r0
 obtain ⟨rfl,rfl,rfl⟩:=trodAll_nil r1
 obtain rfl:args = #[v0,v1]:=by cases args;simp_all
 obtain ⟨rfl,rfl⟩:=trodVars_none hV
 obtain ⟨z0U,z0I,z0P,z0M,z0O,z0F,z0R,z0S,s0,rfl,T0,X0⟩:=zT (hval 0 31 v0 rfl rfl) h0
 obtain ⟨x1,rfl,rfl,rfl,m1⟩:=open_int Tryz.underlying5 (hval 1 5 v1 rfl rfl) h1
 clear hA0
 simp only [List.append_nil] at hW'
 have walk:=FnV.below (W:=W) (R:=fun r=>r=.bool true) (balMasses_fn s0 T0 X0 x1 (aFS m1) (aVA hL))
 refine walk.mono fun e W' ⟨v,he,hv,hg⟩=>?_
 subst he hv
 exact ⟨_,rfl,wQ aEF (by kernel_rfl) Tryz.underlying4 rfl hW' rfl (fun _ _=>⟨rfl,rfl,rfl⟩) hg⟩
theorem laid_met (os:Os):laidMet Tryz.prog Rows.balanceMassesRow.laid ((fN os).forCall (fun _ _=>0) ⟨#[],#[.agg #[.slice none 0 0,.slice none 0 0,.slice none 0 0,.slice none 0 0,.slice none 0 0,.slice none 0 0,.slice none 0 0,.slice none 0 0],.int .u8 0],[]⟩).memory:=
 laidMet_of_run' 8 (by kernel_rfl) (by kernel_rfl)
theorem reads (os:Os) {H:Type} (enc:TypeId×Value→H):∃places,DataW.whole enc Tryz.prog ((fN os).forCall (fun _ _=>0) ⟨#[],#[.agg #[.slice none 0 0,.slice none 0 0,.slice none 0 0,.slice none 0 0,.slice none 0 0,.slice none 0 0,.slice none 0 0,.slice none 0 0],.int .u8 0],[]⟩).memory Tryz.f6.params.toList Rows.balanceMassesSpec.vars false (#[.agg #[.slice none 0 0,.slice none 0 0,.slice none 0 0,.slice none 0 0,.slice none 0 0,.slice none 0 0,.slice none 0 0,.slice none 0 0],.int .u8 0]:Array Value).toList 8=some ([.agg [.nil,.nil,.nil,.nil,.nil,.nil,.nil,.nil],.lit (.int .u8 0)],[],places):=
 ⟨[],by kernel_rfl⟩
theorem lifted (os:Os) (started:os.Started) (H:Type) (enc:TypeId×Value→H) (F:Stop.Interp):
  ReturnsInHanded {} Tryz.checked os 6 .any ((OpenSpec.ofChange Rows.balanceMassesSpec).preRow enc Tryz.prog Tryz.f6 Rows.balanceMassesRow.domain false Rows.balanceMassesRow.laid) (((OpenSpec.ofChange Rows.balanceMassesSpec).at F).post enc Tryz.prog Tryz.f6 false true false false):=by
 obtain ⟨places,hx⟩:=reads os enc
 refine returnsInHanded_of_row (C:=Tryz.checked) (s:=OpenSpec.ofChange Rows.balanceMassesSpec) own started (by kernel_rfl) Tryz.func6
  (witness_row_at (enc:=enc) (C:=Tryz.checked) false (fN os) #[.agg #[.slice none 0 0,.slice none 0 0,.slice none 0 0,.slice none 0 0,.slice none 0 0,.slice none 0 0,.slice none 0 0,.slice none 0 0],.int .u8 0] rfl (by kernel_rfl) (by kernel_rfl) (by kernel_rfl)
   (OpenSpec.preRow_of_cond 8 hx (by kernel_rfl) (fun k hk=>by cases hk) (by kernel_rfl) (laid_met os))) ?_
 intro W base args ds gs before hval hW _ _ hS hL _ _
 exact contract H enc W base args ds gs before hval hW hL
set_option maxHeartbeats 99999999
theorem andB {a b:Bool} (h:a=true) (g:b=true):(a&&b)=true:=by rw [h,g];rfl
theorem closed:joinedFacts Tryz.pinned.checked.prog 6 Tryz.f6 (OpenSpec.ofChange Rows.balanceMassesSpec).bare Rows.balanceMassesRow=true:=by
 unfold joinedFacts
 repeat' with_reducible refine andB ?_ ?_
 all_goals as_aux_lemma=>kernel_rfl
theorem said:Rows.BalanceMassesSaid:=
 OpenClaim.holds_of_cond 6 Tryz.f6 rfl rfl rfl rfl rfl rfl rfl ⟨rfl,rfl,rfl,rfl,rfl⟩ rfl rfl rfl rfl rfl (by kernel_rfl) Tryz.func6 closed
  (of_decide_eq_true (by kernel_rfl)) (by unfold Func.isWrapper;first|(rw [if_pos (by decide +kernel)];kernel_rfl)|(rw [if_neg (by decide +kernel)];exact ⟨rfl,rfl⟩))
  (fun os started H enc _ F=>by rw [OpenClaim.pre_eq_preRow];exact lifted os started H enc F)
theorem plain (f:FuncId) (fn:Func) (hf:Tryz.pinned.checked.prog.funcNamed "backflush/backflushlaw14.BalanceMasses" = some f) (hfn:Tryz.pinned.checked.prog.funcs[f]? = some fn):
  true=Tryz.pinned.checked.prog.looks [] ∧ ∀(j:Nat) t,fn.params[j]? = some t→Tryz.pinned.checked.prog.wantsStandIn t=false:=by
 obtain rfl:f=6:=Option.some.inj ((show Tryz.prog.funcNamed "backflush/backflushlaw14.BalanceMasses" = some 6 by kernel_rfl).symm.trans hf) |>.symm
 obtain rfl:fn=Tryz.f6:=(Option.some.inj (Tryz.func6.symm.trans hfn)).symm
 refine ⟨by kernel_rfl,fun j t ht=>?_⟩
 rw [Tryz.params6] at ht
 have hm:=Array.mem_of_getElem? ht
 simp only [List.mem_toArray,List.mem_cons,List.not_mem_nil,or_false] at hm
 rcases hm with rfl|rfl
 ·exact (show Tryz.prog.wantsStandIn 31=false by kernel_rfl)
 exact (show Tryz.prog.wantsStandIn 5=false by kernel_rfl)
theorem card:Rows.BalanceMassesCardSaid:=
 Claim7.holds_tied_plain_at .later [] _ _ _ _ said (fun _ h=>by cases h) (by kernel_rfl) (fun _ h=>by cases h) balanceMasses_row_tie rfl ⟨rfl,rfl⟩ (by kernel_rfl) rfl plain (by kernel_rfl)
end Go.Proofs.YthjedpdedjhndaaGreatDoor.balanceMasses
