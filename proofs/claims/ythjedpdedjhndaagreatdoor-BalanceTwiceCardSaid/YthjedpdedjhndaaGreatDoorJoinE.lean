/- Texts of this seat, joined: Package types: conds, amount, outputs, runs. Package types: recipe, swap, source. Package types: source, within. Package t -/
import Derived.Test.YthjedpdedjhndaaGreatDoorJoinD
set_option linter.unusedVariables false
set_option linter.unusedSimpArgs false
namespace Go.Proofs.YthjedpdedjhndaaGreatDoor
open Go Go.Fw Go.NatM Go.RatM Go.SrcM
set_option maxRecDepth 100000
set_option maxHeartbeats 99999999
theorem iG {α:Type} {p:α→Prop} {l:List α} {k:Nat} (hk:k<l.length) {b b' x:Bool} {d1:Decidable (∀c∈l.take k,p c)} {d2:Decidable (∀c∈l.take (k+1),p c)} {d3:Decidable (p l[k])} (hb:b'=(b && @decide _ d1)) (hx:x = @decide _ d3):(b'&&x)=(b && @decide _ d2):=by
 rw [hb,hx,Bool.eq_iff_iff]
 simp only [Bool.and_eq_true,decide_eq_true_eq,and_assoc]
 rw [List.take_add_one,List.getElem?_eq_getElem hk]
 simp only [List.mem_append,Option.toList,List.mem_singleton]
 exact and_congr_right fun _=>⟨fun h c hc=>hc.elim (h.1 c) (fun e=>e▸h.2),fun h=>⟨fun c hc=>h c (.inl hc),h _ (.inr rfl)⟩⟩
theorem kG {α:Type} {p:α→Prop} {l:List α} {d:Decidable (∀c∈l.take 0,p c)} (b:Bool):b=(b && @decide _ d):=by
 rw [decide_eq_true (by simp)];simp
theorem bCT {s:aG} {c:Cd} (h:¬idx c.on s.options.length):false=decide (vN s c):=by
 refine (decide_eq_false fun hc=>?_).symm
 unfold vN at hc
 rw [at?_none h] at hc
 exact hc
theorem bAC {s:aG} {c:Cd} {k:Nat} (e:c.on=k) (hk:k<s.options.length):decide (0≤c.cn∧c.cn<s.options[k].ch.length)=decide (vN s c):=by
 refine decide_eq_decide.2 ?_
 unfold vN
 rw [e,at?_nat,aLI hk]
theorem aIL (s:aG) (b:Bool) (l:List Cd) (a:Option Addr) (c:Nat):FnT Tryz.prog (fun F h=>RoF F h (.slice a l.length c) 4 (rws Cd.row l)) 85 9 [.ptr 8 0,.v (.slice a l.length c)] (ckH s b) (fun _:Unit=>True) (fun _=>.ret (.tup []) 9 (ckH s (b&&decide (jL s l)))):=by
 have lU:=aZ s.units
 have lI:=aE It.row s.items
 have lP:=cK s.plants
 have lM:=aE Mc.row s.machines
 have lO:=aE OpV.row s.options
 have lF:=aE FbV.row s.forbids
 have lR:=aE RcV.row s.recipes
 have lS:=aE Sw.row s.swaps
 have hl:=aE Cd.row l
 refine FnT.of Tryz.func85 (by kernel_rfl) rfl Tryz.ntmps85 rfl fun E0 F h hT w0 cs=>?_
 conv=>whnf
 refine gS ?_;conv=>whnf
 have hm:=hT.len
 refine aA.nameAt (fun _ x=>x) 6 (by exact hT) ?_
 conv=>whnf
 refine sqs ?_
 refine aA.subR [] (aA.loop (fun (⟨k,b'⟩:Nat×Bool)=>[(8,.v (.int .i64 k)),(7,.v (.int .i64 l.length)),(6,.buf 9),(0,.ptr 8 0),(1,.v (.slice a l.length c))]) (fun (⟨k,b'⟩:Nat×Bool)=>[(9,.ro 4 (rws Cd.row l)),ckC b',(0,.ro 8 (aL s.units)),(1,.ro 6 (rws It.row s.items)),(2,.ro 1 (bV s.plants)),(3,.ro 4 (rws Mc.row s.machines)),(4,.ro 2 (rws OpV.row s.options)),(5,.ro 1 (rws FbV.row s.forbids)),(6,.ro 17 (rws RcV.row s.recipes)),(7,.ro 4 (rws Sw.row s.swaps))]) 10 (fun (⟨k,b'⟩:Nat×Bool)=>k≤l.length∧b'=(b&&decide (∀c∈l.take k,vN s c))) (fun (⟨k,b'⟩:Nat×Bool)=>l.length - k) ?round1 ((0,b)) ?J01) sH sH
 case J01=>exact (⟨Nat.zero_le _,kG b⟩)
 rintro ⟨k,b'⟩ hJ back
 try dsimp only at hJ back
 conv=>whnf
 try dsimp only
 refine gS ?_;conv=>whnf
 refine ⟨fun hk=>?_,fun hk=>?_⟩<;>conv=>whnf
 ·have hk:k<l.length:=by omega
  refine cG ?_
  refine ⟨_,bA hk,?_⟩;conv=>whnf
  try (refine oN ?_;conv=>whnf)
  by_cases h1:idx l[k].on s.options.length
  ·obtain ⟨j,e,hj,_⟩:=at?_idx h1
   refine aA.held tab (.fl 0 (.fl 1 (.fl 2 (.fl 3 (.fl 4 (.fl 5 (.fl 6 (.fl 7 (.fl 8 (.e1 9 [] (.fl 10 (.fl 11 (.fl 12 (.fl 13 (.fl 14 (.fl 15 (.fl 16 (.fl 17 (.fl 18 (.fl 19 (.fl 20 (.fl 21 (.fl 22 (.fl 23 (.e1 24 [] (.fl 25 (.e1 26 [] .done))))))))))))))))))))))))))) (by kernel_rfl) ?_;conv=>whnf
   refine sqr ?_
   refine aK.callV (fun Ez Hz Az Sz K=>oO l[k].on (rws OpV.row s.options).length (by omega)) (by (conv=>whnf);(repeat (guard_target=_∧_;refine And.intro (by (conv=>whnf);first|rfl|exact trivial) ?_;conv=>whnf));exact trivial) ?_
   conv=>whnf
   refine mE ?_
   conv=>whnf
   refine ⟨_,(by rw [e];exact bA hj),?_⟩;conv=>whnf
   refine aK.callV (fun Ez Hz Az Sz K=>qO l[k].cn s.options[j].ch.length) (by (conv=>whnf);(repeat (guard_target=_∧_;refine And.intro (by (conv=>whnf);first|rfl|exact trivial) ?_;conv=>whnf));exact trivial) ?_
   conv=>whnf
   refine sqr ?_
   refine aK.callN (aX b' (decide (0≤l[k].cn∧l[k].cn<s.options[j].ch.length))) [0,1,2,3,4,5,6,7,8] ?_ sH ?CNa2
   case CNa2=>rfl
   intro _ _
   conv=>whnf
   try refine oB ?_
   refine sqr ?_
   refine dT ?_
   refine aA.subR [] (back ((k+1,b'&&decide (0≤l[k].cn∧l[k].cn<s.options[j].ch.length))) (by exact (⟨hk,iG hk hJ.2 (bAC e hj)⟩)) (by (try dsimp only);omega)) sH sH
  refine aA.held tab (.fl 0 (.fl 1 (.fl 2 (.fl 3 (.fl 4 (.fl 5 (.fl 6 (.fl 7 (.fl 8 (.e1 9 [] (.fl 10 (.fl 11 (.fl 12 (.fl 13 (.fl 14 (.fl 15 (.fl 16 (.fl 17 (.fl 18 (.fl 19 (.fl 20 (.fl 21 (.fl 22 (.fl 23 (.e1 24 [] (.fl 25 (.e1 26 [] .done))))))))))))))))))))))))))) (by kernel_rfl) ?_;conv=>whnf
  refine sqr ?_
  refine aK.callV (fun Ez Hz Az Sz K=>rT l[k].on (rws OpV.row s.options).length (by rw [lO];exact h1)) (by (conv=>whnf);(repeat (guard_target=_∧_;refine And.intro (by (conv=>whnf);first|rfl|exact trivial) ?_;conv=>whnf));exact trivial) ?_
  conv=>whnf
  refine mE ?_
  conv=>whnf
  refine aK.callN (aX b' false) [0,1,2,3,4,5,6,7,8] ?_ sH ?CNa4
  case CNa4=>rfl
  intro _ _
  conv=>whnf
  try refine oB ?_
  refine sqr ?_
  refine dT ?_
  refine aA.subR [] (back ((k+1,b'&&false)) (by exact (⟨hk,iG hk hJ.2 (bCT h1)⟩)) (by (try dsimp only);omega)) sH sH
 have hk:k=l.length:=by omega
 have h2:=hJ.2
 rw [hk,List.take_length] at h2
 conv=>whnf
 refine aA.callV (fun Ez Hz Az Sz K=>aVQ l (RoF.up (Up.kp K) hT)) ?_
 conv=>whnf
 refine sqs ?_
 refine aA.callN (aX b' (!decide (¬(l.map Cd.on).Nodup))) [0,1,2,3,4,5,6,7,8] ?_ sH ?CNa6
 case CNa6=>rfl
 intro _ _
 conv=>whnf
 refine sqs ?_
 have e:(b' && !decide (¬(l.map Cd.on).Nodup))=(b&&decide (jL s l)):=by
  rw [h2,Bool.eq_iff_iff]
  simp only [Bool.and_eq_true,decide_eq_true_eq,and_assoc,Bool.not_eq_true',decide_eq_false_iff_not,Decidable.not_not]
  exact Iff.rfl
 rw [e]
 try refine aA.finU ?_
 exact aB.ret tab Tryz.func85 rfl (eN () trivial)
theorem aEN (s:aG) (b:Bool) (a:Am):FnS Tryz.prog 138 9 [.ptr 8 0,.agg (toV a.row)] (ckH s b) (fun _:Unit=>True) (fun _=>.ret (.tup []) 9 (ckH s (b&&decide (fX s a)))):=by
 have lU:=aZ s.units
 have lI:=aE It.row s.items
 have lP:=cK s.plants
 have lM:=aE Mc.row s.machines
 have lO:=aE OpV.row s.options
 have lF:=aE FbV.row s.forbids
 have lR:=aE RcV.row s.recipes
 have lS:=aE Sw.row s.swaps
 have key:∀x:Bool,(x=true↔tW (s.base a.inn) fun b=>tW (at? s.units a.un) fun u=>u.base=b)→(b&&decide (bt a.n 1 1048576)&&decide (bt a.d 1 1048576)&&x)=(b&&decide (fX s a)):=by
  intro x hx
  rw [Bool.eq_iff_iff]
  simp only [Bool.and_eq_true,decide_eq_true_eq,fX,and_assoc,hx]
 cases hb:s.base a.inn with
 |none=>
  refine FnS.of Tryz.func138 (by kernel_rfl) rfl Tryz.ntmps138 rfl fun E0 F h w0 cs=>?_
  conv=>whnf
  refine gS ?_;conv=>whnf
  refine aA.callV (fun Ez Hz Az Sz K=>cX a.n 1 1048576) ?_
  conv=>whnf
  refine sqs ?_
  refine aA.callN (aX b (decide (bt a.n 1 1048576))) [0,1,2,3,4,5,6,7,8] ?_ sH ?CNa7
  case CNa7=>rfl
  intro _ _
  conv=>whnf
  refine sqs ?_
  refine aA.callV (fun Ez Hz Az Sz K=>cX a.d 1 1048576) ?_
  conv=>whnf
  refine sqs ?_
  refine aA.callN (aX _ (decide (bt a.d 1 1048576))) [0,1,2,3,4,5,6,7,8] ?_ sH ?CNa8
  case CNa8=>rfl
  intro _ _
  conv=>whnf
  refine sqs ?_
  refine aA.callN (qY _ hb) [0,1,2,3,4,5,6,7,8] ?_ sH ?CNa9
  case CNa9=>rfl
  intro _ _
  conv=>whnf
  refine sqs ?_
  refine aA.held tab (.fl 0 (.fl 1 (.fl 2 (.fl 3 (.fl 4 (.fl 5 (.fl 6 (.fl 7 (.fl 8 (.fl 9 (.fl 10 (.e1 11 [] (.fl 12 (.fl 13 (.fl 14 (.fl 15 (.fl 16 (.fl 17 (.fl 18 (.fl 19 (.fl 20 (.fl 21 (.fl 22 (.fl 23 (.fl 24 (.fl 25 (.fl 26 (.e1 27 [] .done)))))))))))))))))))))))))))) (by kernel_rfl) ?_;conv=>whnf
  refine mE ?_
  conv=>whnf
  refine aK.callN (aX _ false) [0,1,2,3,4,5,6,7,8] ?_ sH ?CNa10
  case CNa10=>rfl
  intro _ _
  conv=>whnf
  try refine oB ?_
  refine sqr ?_
  refine sqs ?_
  rw [key false (by rw [hb];exact ⟨fun h=>(by cases h),fun h=>h.elim⟩)]
  try refine aA.finU ?_
  exact aB.ret tab Tryz.func138 rfl (eN () trivial)
 |some n=>
  by_cases h1:idx a.un s.units.length
  ·obtain ⟨j,e,hj,e3⟩:=at?_idx h1
   refine FnS.of Tryz.func138 (by kernel_rfl) rfl Tryz.ntmps138 rfl fun E0 F h w0 cs=>?_
   conv=>whnf
   refine gS ?_;conv=>whnf
   refine aA.callV (fun Ez Hz Az Sz K=>cX a.n 1 1048576) ?_
   conv=>whnf
   refine sqs ?_
   refine aA.callN (aX b (decide (bt a.n 1 1048576))) [0,1,2,3,4,5,6,7,8] ?_ sH ?CNa11
   case CNa11=>rfl
   intro _ _
   conv=>whnf
   refine sqs ?_
   refine aA.callV (fun Ez Hz Az Sz K=>cX a.d 1 1048576) ?_
   conv=>whnf
   refine sqs ?_
   refine aA.callN (aX _ (decide (bt a.d 1 1048576))) [0,1,2,3,4,5,6,7,8] ?_ sH ?CNa12
   case CNa12=>rfl
   intro _ _
   conv=>whnf
   refine sqs ?_
   refine aA.callN (kQ _ hb) [0,1,2,3,4,5,6,7,8] ?_ sH ?CNa13
   case CNa13=>rfl
   intro _ _
   conv=>whnf
   refine sqs ?_
   refine aA.held tab (.fl 0 (.fl 1 (.fl 2 (.fl 3 (.fl 4 (.fl 5 (.fl 6 (.fl 7 (.fl 8 (.fl 9 (.fl 10 (.e1 11 [] (.fl 12 (.fl 13 (.fl 14 (.fl 15 (.fl 16 (.fl 17 (.fl 18 (.fl 19 (.fl 20 (.fl 21 (.fl 22 (.fl 23 (.fl 24 (.fl 25 (.fl 26 (.e1 27 [] .done)))))))))))))))))))))))))))) (by kernel_rfl) ?_;conv=>whnf
   refine sqr ?_
   refine aK.callV (fun Ez Hz Az Sz K=>oO a.un (aL s.units).length (by omega)) (by (conv=>whnf);(repeat (guard_target=_∧_;refine And.intro (by (conv=>whnf);first|rfl|exact trivial) ?_;conv=>whnf));exact trivial) ?_
   conv=>whnf
   refine mE ?_
   conv=>whnf
   refine ⟨_,(by rw [e];exact dK hj),?_⟩;conv=>whnf
   refine aK.callN (aX _ (decide (s.units[j].base=n))) [0,1,2,3,4,5,6,7,8] ?_ sH ?CNa14
   case CNa14=>rfl
   intro _ _
   conv=>whnf
   try refine oB ?_
   refine sqr ?_
   refine sqs ?_
   rw [key (decide (s.units[j].base=n)) (by rw [hb,e3];exact decide_eq_true_iff)]
   try refine aA.finU ?_
   exact aB.ret tab Tryz.func138 rfl (eN () trivial)
  refine FnS.of Tryz.func138 (by kernel_rfl) rfl Tryz.ntmps138 rfl fun E0 F h w0 cs=>?_
  conv=>whnf
  refine gS ?_;conv=>whnf
  refine aA.callV (fun Ez Hz Az Sz K=>cX a.n 1 1048576) ?_
  conv=>whnf
  refine sqs ?_
  refine aA.callN (aX b (decide (bt a.n 1 1048576))) [0,1,2,3,4,5,6,7,8] ?_ sH ?CNa15
  case CNa15=>rfl
  intro _ _
  conv=>whnf
  refine sqs ?_
  refine aA.callV (fun Ez Hz Az Sz K=>cX a.d 1 1048576) ?_
  conv=>whnf
  refine sqs ?_
  refine aA.callN (aX _ (decide (bt a.d 1 1048576))) [0,1,2,3,4,5,6,7,8] ?_ sH ?CNa16
  case CNa16=>rfl
  intro _ _
  conv=>whnf
  refine sqs ?_
  refine aA.callN (kQ _ hb) [0,1,2,3,4,5,6,7,8] ?_ sH ?CNa17
  case CNa17=>rfl
  intro _ _
  conv=>whnf
  refine sqs ?_
  refine aA.held tab (.fl 0 (.fl 1 (.fl 2 (.fl 3 (.fl 4 (.fl 5 (.fl 6 (.fl 7 (.fl 8 (.fl 9 (.fl 10 (.e1 11 [] (.fl 12 (.fl 13 (.fl 14 (.fl 15 (.fl 16 (.fl 17 (.fl 18 (.fl 19 (.fl 20 (.fl 21 (.fl 22 (.fl 23 (.fl 24 (.fl 25 (.fl 26 (.e1 27 [] .done)))))))))))))))))))))))))))) (by kernel_rfl) ?_;conv=>whnf
  refine sqr ?_
  refine aK.callV (fun Ez Hz Az Sz K=>rT a.un (aL s.units).length (by rw [lU];exact h1)) (by (conv=>whnf);(repeat (guard_target=_∧_;refine And.intro (by (conv=>whnf);first|rfl|exact trivial) ?_;conv=>whnf));exact trivial) ?_
  conv=>whnf
  refine sqr ?_
  refine aK.callN (aX _ false) [0,1,2,3,4,5,6,7,8] ?_ sH ?CNa18
  case CNa18=>rfl
  intro _ _
  conv=>whnf
  try refine oB ?_
  refine sqr ?_
  refine sqs ?_
  rw [key false (by rw [hb,at?_none h1];exact ⟨fun h=>(by cases h),fun h=>h.elim⟩)]
  try refine aA.finU ?_
  exact aB.ret tab Tryz.func138 rfl (eN () trivial)
theorem aPL {r:RcV} (h:r.out=[]):false=decide (iT r):=by
 refine (decide_eq_false fun hc=>?_).symm
 unfold iT at hc
 rw [h] at hc
 exact hc
theorem aRM {r:RcV} (h:0<r.out.length):decide ((r.out[0]'h).inn=r.inum)=decide (iT r):=by
 refine decide_eq_decide.2 ?_
 unfold iT
 rw [aLI h]
abbrev rcC (b:Nat) (r:RcV) (c i o u:SV):Nat×Fw.Blk:=(b,.cells 49 [.v (.string r.item),.v (.string r.plant),.v (.int .i64 r.fr),.v (.int .i64 r.to),c,i,o,.v (.int .i64 r.rwN),.v (.int .i64 r.rwD),.v (.int .i64 r.yN),.v (.int .i64 r.yD),.v (.int .i64 r.tN),.v (.int .i64 r.tD),.v (.int .i64 r.lead),u,.v (.int .i64 r.inum),.v (.int .i64 r.pnum)])
theorem aYF (s:aG) (b:Bool) (r:RcV):FnT Tryz.prog (fun F h=>r.ok F h) 139 9 [.ptr 8 0,.agg (toV r.row)] (ckH s b) (fun _:Unit=>True) (fun _=>.ret (.tup []) 9 (ckH s (b&&decide (sE s r)))):=by
 have hl:=aE Am.row r.out
 have hd:∀a:Am,(decide (fX s a) && !a.back)=decide (fX s a∧a.back=false):=fun a=>by
  rw [Bool.eq_iff_iff];simp only [Bool.and_eq_true,decide_eq_true_eq,Bool.not_eq_true']
 refine FnT.of Tryz.func139 (by kernel_rfl) rfl Tryz.ntmps139 rfl fun E0 F h hT w0 cs=>?_
 conv=>whnf
 refine gS ?_;conv=>whnf
 have hm:=hT.o.len
 refine aA.nameCell (fun _ x=>x) 9 6 (by exact hT.o) ?_
 conv=>whnf
 refine sqs ?_
 refine aA.join (fun (_:Unit)=>[(3,.ptr 9 0),(0,.ptr 8 0)]) (fun (_:Unit)=>[ckC (b&&decide (iT r)),(10,.ro 7 (rws Am.row r.out)),rcC 9 r (.v (.slice r.hc.a r.cs.length r.hc.c)) (.v (.slice r.hi.a r.inn.length r.hi.c)) (.buf 10) (.v (.slice r.hr.a r.runs.length r.hr.c)),(0,.ro 8 (aL s.units)),(1,.ro 6 (rws It.row s.items)),(2,.ro 1 (bV s.plants)),(3,.ro 4 (rws Mc.row s.machines)),(4,.ro 2 (rws OpV.row s.options)),(5,.ro 1 (rws FbV.row s.forbids)),(6,.ro 17 (rws RcV.row s.recipes)),(7,.ro 4 (rws Sw.row s.swaps))]) 11 (fun (_:Unit)=>True) ?_ (fun meet=>?_)
 rotate_left
 ·by_cases h0:0<r.out.length
  ·refine aA.held tab (.fl 0 (.fl 1 (.fl 2 (.fl 3 (.fl 4 (.fl 5 (.fl 6 (.fl 7 (.fl 8 (.fl 9 (.fl 10 (.fl 11 (.fl 12 (.fl 13 (.fl 14 (.e1 15 [] .done)))))))))))))))) (by kernel_rfl) ?_
   conv=>whnf
   refine mE ?_
   conv=>whnf
   refine ⟨_,(bA (k:=0) h0),?_⟩;conv=>whnf
   refine aK.callN (aX b (decide ((r.out[0]'h0).inn=r.inum))) [0,1,2,3,4,5,6,7,8] ?_ sH ?CNa19
   case CNa19=>rfl
   intro _ _
   conv=>whnf
   try refine oB ?_
   refine sqr ?_
   refine sqs ?_
   rw [aRM h0]
   refine aA.subR [] (meet (()) (by first|trivial|omega|((try dsimp only);omega))) sH sH
  refine aA.held tab (.fl 0 (.fl 1 (.fl 2 (.fl 3 (.fl 4 (.fl 5 (.fl 6 (.fl 7 (.fl 8 (.fl 9 (.fl 10 (.fl 11 (.fl 12 (.fl 13 (.fl 14 (.e1 15 [] .done)))))))))))))))) (by kernel_rfl) ?_;conv=>whnf
  refine mE ?_
  conv=>whnf
  refine aK.callN (aX b false) [0,1,2,3,4,5,6,7,8] ?_ sH ?CNa21
  case CNa21=>rfl
  intro _ _
  conv=>whnf
  try refine oB ?_
  refine sqr ?_
  refine sqs ?_
  rw [show (b&&false)=(b&&decide (iT r)) by rw [aPL (r:=r) (List.eq_nil_of_length_eq_zero (by omega))]]
  refine aA.subR [] (meet (()) (by first|trivial|omega|((try dsimp only);omega))) sH sH
 intro _ _
 refine sqs ?_
 refine aA.subR [] (aA.loop (fun (⟨k,b'⟩:Nat×Bool)=>[(25,.v (.int .i64 k)),(24,.v (.int .i64 (rws Am.row r.out).length)),(23,.buf 10),(3,.ptr 9 0),(0,.ptr 8 0)]) (fun (⟨k,b'⟩:Nat×Bool)=>[ckC b',(10,.ro 7 (rws Am.row r.out)),rcC 9 r (.v (.slice r.hc.a r.cs.length r.hc.c)) (.v (.slice r.hi.a r.inn.length r.hi.c)) (.buf 10) (.v (.slice r.hr.a r.runs.length r.hr.c)),(0,.ro 8 (aL s.units)),(1,.ro 6 (rws It.row s.items)),(2,.ro 1 (bV s.plants)),(3,.ro 4 (rws Mc.row s.machines)),(4,.ro 2 (rws OpV.row s.options)),(5,.ro 1 (rws FbV.row s.forbids)),(6,.ro 17 (rws RcV.row s.recipes)),(7,.ro 4 (rws Sw.row s.swaps))]) 11 (fun (⟨k,b'⟩:Nat×Bool)=>k≤r.out.length∧b'=(b&&decide (iT r)&&decide (∀a∈r.out.take k,fX s a∧a.back=false))) (fun (⟨k,b'⟩:Nat×Bool)=>r.out.length - k) ?round23 ((0,b&&decide (iT r))) ?J023) sH sH
 case J023=>exact (⟨Nat.zero_le _,kG _⟩)
 rintro ⟨k,b'⟩ hJ back
 try dsimp only at hJ back
 conv=>whnf
 try dsimp only
 refine gS ?_;conv=>whnf
 refine ⟨fun hk=>?_,fun hk=>?_⟩<;>conv=>whnf
 ·have hk:k<r.out.length:=by omega
  refine cG ?_
  refine ⟨_,bA hk,?_⟩;conv=>whnf
  try (refine oN ?_;conv=>whnf)
  refine aA.callN (aEN s b' r.out[k]) [0,1,2,3,4,5,6,7,8] ?_ sH ?CNa24
  case CNa24=>rfl
  intro _ _
  conv=>whnf
  refine sqs ?_
  refine aA.callN (aX (b'&&decide (fX s r.out[k])) (!r.out[k].back)) [0,1,2,3,4,5,6,7,8] ?_ sH ?CNa25
  case CNa25=>rfl
  intro _ _
  conv=>whnf
  refine dT ?_
  rw [Bool.and_assoc b',hd]
  refine aA.subR [] (back ((k+1,b'&&decide (fX s r.out[k]∧r.out[k].back=false))) (by exact (⟨hk,iG hk hJ.2 rfl⟩)) (by (try dsimp only);omega)) sH sH
 have hk:k=r.out.length:=by omega
 have h2:=hJ.2
 rw [hk,List.take_length] at h2
 conv=>whnf
 refine aA.callV (fun Ez Hz Az Sz K=>aWO r.out (Sz.ro (b:=10) rfl)) ?_
 conv=>whnf
 refine sqs ?_
 refine aA.callN (aX b' (!decide (¬(r.out.map Am.inn).Nodup))) [0,1,2,3,4,5,6,7,8] ?_ sH ?CNa27
 case CNa27=>rfl
 intro _ _
 conv=>whnf
 refine sqs ?_
 have e:(b' && !decide (¬(r.out.map Am.inn).Nodup))=(b&&decide (sE s r)):=by
  rw [h2,Bool.eq_iff_iff]
  simp only [Bool.and_eq_true,decide_eq_true_eq,and_assoc,Bool.not_eq_true',decide_eq_false_iff_not,Decidable.not_not]
  exact Iff.rfl
 rw [e]
 try refine aA.finU ?_
 exact aB.ret tab Tryz.func139 rfl (eN () trivial)
theorem runOk_n {s:aG} {r:RcV} {x:Rn} (h:¬idx x.mn s.machines.length):(false&&decide (bt x.slots 0 15))=decide (xL s r x):=by
 rw [Bool.false_and]
 refine (decide_eq_false fun hc=>?_).symm
 unfold xL at hc
 rw [at?_none h] at hc
 exact hc.1
theorem runOk_y {s:aG} {r:RcV} {x:Rn} {k:Nat} (e:x.mn=k) (hk:k<s.machines.length):(decide (s.machines[k].pn=r.pnum)&&decide (bt x.slots 0 15))=decide (xL s r x):=by
 rw [Bool.eq_iff_iff]
 simp only [Bool.and_eq_true,decide_eq_true_eq]
 unfold xL
 rw [e,at?_nat,aLI hk]
theorem aZP (s:aG) (b:Bool) (r:RcV):FnT Tryz.prog (fun F h=>r.ok F h) 141 9 [.ptr 8 0,.agg (toV r.row)] (ckH s b) (fun _:Unit=>True) (fun _=>.ret (.tup []) 9 (ckH s (b&&decide (aBG s r)))):=by
 have lU:=aZ s.units
 have lI:=aE It.row s.items
 have lP:=cK s.plants
 have lM:=aE Mc.row s.machines
 have lO:=aE OpV.row s.options
 have lF:=aE FbV.row s.forbids
 have lR:=aE RcV.row s.recipes
 have lS:=aE Sw.row s.swaps
 have hl:=aE Rn.row r.runs
 refine FnT.of Tryz.func141 (by kernel_rfl) rfl Tryz.ntmps141 rfl fun E0 F h hT w0 cs=>?_
 conv=>whnf
 refine gS ?_;conv=>whnf
 have hm:=hT.rn.len
 refine aA.nameCell (fun _ x=>x) 9 14 (by exact hT.rn) ?_
 conv=>whnf
 refine sqs ?_
 refine aA.nameAt (fun _ x=>x) 7 (by exact hT.rn) ?_
 conv=>whnf
 refine sqs ?_
 refine aA.subR [] (aA.loop (fun (⟨k,b'⟩:Nat×Bool)=>[(9,.v (.int .i64 k)),(8,.v (.int .i64 r.runs.length)),(7,.buf 11),(3,.ptr 9 0),(0,.ptr 8 0)]) (fun (⟨k,b'⟩:Nat×Bool)=>[ckC b',(11,.ro 3 (rws Rn.row r.runs)),(10,.ro 3 (rws Rn.row r.runs)),rcC 9 r (.v (.slice r.hc.a r.cs.length r.hc.c)) (.v (.slice r.hi.a r.inn.length r.hi.c)) (.v (.slice r.ho.a r.out.length r.ho.c)) (.buf 10),(0,.ro 8 (aL s.units)),(1,.ro 6 (rws It.row s.items)),(2,.ro 1 (bV s.plants)),(3,.ro 4 (rws Mc.row s.machines)),(4,.ro 2 (rws OpV.row s.options)),(5,.ro 1 (rws FbV.row s.forbids)),(6,.ro 17 (rws RcV.row s.recipes)),(7,.ro 4 (rws Sw.row s.swaps))]) 12 (fun (⟨k,b'⟩:Nat×Bool)=>k≤r.runs.length∧b'=(b&&decide (∀a∈r.runs.take k,xL s r a))) (fun (⟨k,b'⟩:Nat×Bool)=>r.runs.length - k) ?round28 ((0,b)) ?J028) sH sH
 case J028=>exact (⟨Nat.zero_le _,kG b⟩)
 rintro ⟨k,b'⟩ hJ back
 try dsimp only at hJ back
 conv=>whnf
 try dsimp only
 refine gS ?_;conv=>whnf
 refine ⟨fun hk=>?_,fun hk=>?_⟩<;>conv=>whnf
 ·have hk:k<r.runs.length:=by omega
  refine cG ?_
  refine ⟨_,bA hk,?_⟩;conv=>whnf
  try (refine oN ?_;conv=>whnf)
  by_cases h1:idx r.runs[k].mn s.machines.length
  ·obtain ⟨j,e,hj,_⟩:=at?_idx h1
   refine aA.held tab (.fl 0 (.fl 1 (.fl 2 (.fl 3 (.fl 4 (.fl 5 (.fl 6 (.fl 7 (.fl 8 (.e1 9 [] (.fl 10 (.fl 11 (.fl 12 (.fl 13 (.fl 14 (.fl 15 (.fl 16 (.fl 17 (.fl 18 (.fl 19 (.fl 20 (.fl 21 (.fl 22 (.fl 23 (.fl 24 (.e1 25 [] .done)))))))))))))))))))))))))) (by kernel_rfl) ?_;conv=>whnf
   refine sqr ?_
   refine aK.callV (fun Ez Hz Az Sz K=>oO r.runs[k].mn (rws Mc.row s.machines).length (by omega)) (by (conv=>whnf);(repeat (guard_target=_∧_;refine And.intro (by (conv=>whnf);first|rfl|exact trivial) ?_;conv=>whnf));exact trivial) ?_
   conv=>whnf
   refine mE ?_
   conv=>whnf
   refine ⟨_,(by rw [e];exact bA hj),?_⟩;conv=>whnf
   refine aK.callN (aX b' (decide (s.machines[j].pn=r.pnum))) [0,1,2,3,4,5,6,7,8] ?_ sH ?CNa29
   case CNa29=>rfl
   intro _ _
   conv=>whnf
   try refine oB ?_
   refine sqr ?_
   refine sqs ?_
   refine aA.callV (fun Ez Hz Az Sz K=>cX r.runs[k].slots 0 15) ?_
   conv=>whnf
   refine sqs ?_
   refine aA.callN (aX _ (decide (bt r.runs[k].slots 0 15))) [0,1,2,3,4,5,6,7,8] ?_ sH ?CNa30
   case CNa30=>rfl
   intro _ _
   conv=>whnf
   refine dT ?_
   rw [Bool.and_assoc b',runOk_y e hj]
   refine aA.subR [] (back ((k+1,b'&&decide (xL s r r.runs[k]))) (by exact (⟨hk,iG hk hJ.2 rfl⟩)) (by (try dsimp only);omega)) sH sH
  refine aA.held tab (.fl 0 (.fl 1 (.fl 2 (.fl 3 (.fl 4 (.fl 5 (.fl 6 (.fl 7 (.fl 8 (.e1 9 [] (.fl 10 (.fl 11 (.fl 12 (.fl 13 (.fl 14 (.fl 15 (.fl 16 (.fl 17 (.fl 18 (.fl 19 (.fl 20 (.fl 21 (.fl 22 (.fl 23 (.fl 24 (.e1 25 [] .done)))))))))))))))))))))))))) (by kernel_rfl) ?_;conv=>whnf
  refine sqr ?_
  refine aK.callV (fun Ez Hz Az Sz K=>rT r.runs[k].mn (rws Mc.row s.machines).length (by rw [lM];exact h1)) (by (conv=>whnf);(repeat (guard_target=_∧_;refine And.intro (by (conv=>whnf);first|rfl|exact trivial) ?_;conv=>whnf));exact trivial) ?_
  conv=>whnf
  refine sqr ?_
  refine aK.callN (aX b' false) [0,1,2,3,4,5,6,7,8] ?_ sH ?CNa32
  case CNa32=>rfl
  intro _ _
  conv=>whnf
  try refine oB ?_
  refine sqr ?_
  refine sqs ?_
  refine aA.callV (fun Ez Hz Az Sz K=>cX r.runs[k].slots 0 15) ?_
  conv=>whnf
  refine sqs ?_
  refine aA.callN (aX _ (decide (bt r.runs[k].slots 0 15))) [0,1,2,3,4,5,6,7,8] ?_ sH ?CNa33
  case CNa33=>rfl
  intro _ _
  conv=>whnf
  refine dT ?_
  rw [Bool.and_assoc b',runOk_n h1]
  refine aA.subR [] (back ((k+1,b'&&decide (xL s r r.runs[k]))) (by exact (⟨hk,iG hk hJ.2 rfl⟩)) (by (try dsimp only);omega)) sH sH
 have hk:k=r.runs.length:=by omega
 have h2:=hJ.2
 rw [hk,List.take_length] at h2
 conv=>whnf
 refine aA.callV (fun Ez Hz Az Sz K=>aXT r.runs (Sz.ro (b:=10) rfl)) ?_
 conv=>whnf
 refine sqs ?_
 refine aA.callN (aX b' (!decide (¬(r.runs.map Rn.mn).Nodup))) [0,1,2,3,4,5,6,7,8] ?_ sH ?CNa35
 case CNa35=>rfl
 intro _ _
 conv=>whnf
 refine sqs ?_
 have e:(b' && !decide (¬(r.runs.map Rn.mn).Nodup))=(b&&decide (aBG s r)):=by
  rw [h2,Bool.eq_iff_iff]
  simp only [Bool.and_eq_true,decide_eq_true_eq,and_assoc,Bool.not_eq_true',decide_eq_false_iff_not,Decidable.not_not]
  exact Iff.rfl
 rw [e]
 try refine aA.finU ?_
 exact aB.ret tab Tryz.func141 rfl (eN () trivial)

theorem aKI {h:Array Obj} (n:Int) {m l:Nat} (e:m=l):FnV Tryz.prog 73 #[.int .i64 n,.int .i64 m] h fun r h'=>r=.bool (decide (idx n l))∧aH h.size h h':=by
 subst e;exact qO n m
theorem aQR (s:aG) (b:Bool) (r:RcV):FnT Tryz.prog (fun F h=>r.ok F h) 86 9 [.ptr 8 0,.agg (toV r.row)] (ckH s b) (fun _:Unit=>True) (fun _=>.ret (.tup []) 9 (ckH s (b&&decide (mY s r)))):=by
 have lU:=aZ s.units
 have lI:=aE It.row s.items
 have lP:=cK s.plants
 have lM:=aE Mc.row s.machines
 have lO:=aE OpV.row s.options
 have lF:=aE FbV.row s.forbids
 have lR:=aE RcV.row s.recipes
 have lS:=aE Sw.row s.swaps
 have hl:=aE Am.row r.inn
 refine FnT.of Tryz.func86 (by kernel_rfl) rfl Tryz.ntmps86 rfl fun E0 F h hT w0 cs=>?_
 conv=>whnf
 refine gS ?_;conv=>whnf
 have hm:=hT.i.len
 refine aA.held tab (.fl 0 (.fl 1 (.fl 2 (.fl 3 (.fl 4 (.fl 5 (.fl 6 (.fl 7 (.fl 8 (.e1 9 [] (.e1 10 [] .done))))))))))) (by kernel_rfl) ?_;conv=>whnf
 refine sqr ?_
 refine aK.callV (fun Ez Hz Az Sz K=>aKI r.inum lI) (by (conv=>whnf);(repeat (guard_target=_∧_;refine And.intro (by (conv=>whnf);first|rfl|exact trivial) ?_;conv=>whnf));exact trivial) ?_
 conv=>whnf
 refine sqr ?_
 refine aK.callN (aX b (decide (idx r.inum s.items.length))) [0,1,2,3,4,5,6,7,8] ?_ sH ?CNa1
 case CNa1=>rfl
 intro _ _
 conv=>whnf
 try refine oB ?_
 refine sqr ?_
 refine sqs ?_
 refine aA.join (fun (_:Unit)=>[(3,.ptr 9 0),(0,.ptr 8 0)]) (fun (_:Unit)=>[ckC (b&&decide (idx r.inum s.items.length)&&decide (idx r.pnum s.plants.length)),(9,.cells 49 (toV r.row)),(0,.ro 8 (aL s.units)),(1,.ro 6 (rws It.row s.items)),(2,.ro 1 (bV s.plants)),(3,.ro 4 (rws Mc.row s.machines)),(4,.ro 2 (rws OpV.row s.options)),(5,.ro 1 (rws FbV.row s.forbids)),(6,.ro 17 (rws RcV.row s.recipes)),(7,.ro 4 (rws Sw.row s.swaps))]) 10 (fun (_:Unit)=>True) ?_ (fun meet=>?_)
 rotate_left
 ·refine aA.held tab (.fl 0 (.fl 1 (.fl 2 (.fl 3 (.fl 4 (.fl 5 (.fl 6 (.fl 7 (.fl 8 (.e1 9 [] (.e1 10 [] .done))))))))))) (by kernel_rfl) ?_
  conv=>whnf
  refine sqr ?_
  refine aK.callV (fun Ez Hz Az Sz K=>aKI r.pnum lP) (by (conv=>whnf);(repeat (guard_target=_∧_;refine And.intro (by (conv=>whnf);first|rfl|exact trivial) ?_;conv=>whnf));exact trivial) ?_
  conv=>whnf
  refine sqr ?_
  refine aK.callN (aX _ (decide (idx r.pnum s.plants.length))) [0,1,2,3,4,5,6,7,8] ?_ sH ?CNa2
  case CNa2=>rfl
  intro _ _
  conv=>whnf
  try refine oB ?_
  refine sqr ?_
  refine sqs ?_
  refine aA.subR [] (meet (()) (by first|trivial|omega|((try dsimp only);omega))) sH sH
 intro _ _
 refine pM tab 1 _ _ _ _ ?_;conv=>whnf
 refine aA.join (fun (_:Unit)=>[(3,.ptr 9 0),(0,.ptr 8 0)]) (fun (_:Unit)=>[ckC (b&&decide (idx r.inum s.items.length)&&decide (idx r.pnum s.plants.length)&&decide (uK r)),(9,.cells 49 (toV r.row)),(0,.ro 8 (aL s.units)),(1,.ro 6 (rws It.row s.items)),(2,.ro 1 (bV s.plants)),(3,.ro 4 (rws Mc.row s.machines)),(4,.ro 2 (rws OpV.row s.options)),(5,.ro 1 (rws FbV.row s.forbids)),(6,.ro 17 (rws RcV.row s.recipes)),(7,.ro 4 (rws Sw.row s.swaps))]) 10 (fun (_:Unit)=>True) ?_ (fun meet=>?_)
 rotate_left
 ·have kd:∀x:Bool,(x=true↔(0≤r.fr∧r.fr<r.to∧r.to≤1024))→(b&&decide (idx r.inum s.items.length)&&decide (idx r.pnum s.plants.length)&&x)=(b&&decide (idx r.inum s.items.length)&&decide (idx r.pnum s.plants.length)&&decide (uK r)):=fun x hx=>by
   rw [show x=decide (uK r) by rw [Bool.eq_iff_iff,decide_eq_true_eq];exact hx]
  by_cases d1:0≤r.fr
  ·by_cases d2:r.fr<r.to
   ·try refine gS ?_
    refine cG ?_
    refine aA.callN (aX _ (decide (r.to≤1024))) [0,1,2,3,4,5,6,7,8] ?_ sH ?CNa4
    case CNa4=>rfl
    intro _ _
    conv=>whnf
    refine sqs ?_
    rw [kd (decide (r.to≤1024)) (by rw [decide_eq_true_eq];omega)]
    refine aA.subR [] (meet (()) (by first|trivial|omega|((try dsimp only);omega))) sH sH
   refine dT ?_
   refine aA.callN (aX _ false) [0,1,2,3,4,5,6,7,8] ?_ sH ?CNa6
   case CNa6=>rfl
   intro _ _
   conv=>whnf
   refine sqs ?_
   rw [kd false ⟨fun h=>(by cases h),fun h=>(by omega)⟩]
   refine aA.subR [] (meet (()) (by first|trivial|omega|((try dsimp only);omega))) sH sH
  refine dT ?_
  refine aA.callN (aX _ false) [0,1,2,3,4,5,6,7,8] ?_ sH ?CNa8
  case CNa8=>rfl
  intro _ _
  conv=>whnf
  refine sqs ?_
  rw [kd false ⟨fun h=>(by cases h),fun h=>(by omega)⟩]
  refine aA.subR [] (meet (()) (by first|trivial|omega|((try dsimp only);omega))) sH sH
 intro _ _
 refine sqs ?_
 refine aA.callT (RoF.tok _ _ _) (hT.c) (aIL s _ r.cs r.hc.a r.hc.c) [0,1,2,3,4,5,6,7,8] sH ?CNa10 ?_
 case CNa10=>rfl
 intro _ _
 conv=>whnf
 refine sqs ?_
 refine aA.nameAt (fun _ x=>x) 50 (by exact hT.i) ?_
 conv=>whnf
 refine sqs ?_
 refine aA.subR [] (aA.loop (fun (⟨k,b'⟩:Nat×Bool)=>[(52,.v (.int .i64 k)),(51,.v (.int .i64 r.inn.length)),(50,.buf 10),(3,.ptr 9 0),(0,.ptr 8 0)]) (fun (⟨k,b'⟩:Nat×Bool)=>[(10,.ro 7 (rws Am.row r.inn)),ckC b',(9,.cells 49 (toV r.row)),(0,.ro 8 (aL s.units)),(1,.ro 6 (rws It.row s.items)),(2,.ro 1 (bV s.plants)),(3,.ro 4 (rws Mc.row s.machines)),(4,.ro 2 (rws OpV.row s.options)),(5,.ro 1 (rws FbV.row s.forbids)),(6,.ro 17 (rws RcV.row s.recipes)),(7,.ro 4 (rws Sw.row s.swaps))]) 11 (fun (⟨k,b'⟩:Nat×Bool)=>k≤r.inn.length∧b'=(b&&decide (idx r.inum s.items.length)&&decide (idx r.pnum s.plants.length)&&decide (uK r)&&decide (jL s r.cs)&&decide (∀a∈r.inn.take k,fX s a))) (fun (⟨k,b'⟩:Nat×Bool)=>r.inn.length - k) ?round11 ((0,b&&decide (idx r.inum s.items.length)&&decide (idx r.pnum s.plants.length)&&decide (uK r)&&decide (jL s r.cs))) ?J011) sH sH
 case J011=>exact (⟨Nat.zero_le _,kG _⟩)
 rintro ⟨k,b'⟩ hJ back
 try dsimp only at hJ back
 conv=>whnf
 try dsimp only
 refine gS ?_;conv=>whnf
 refine ⟨fun hk=>?_,fun hk=>?_⟩<;>conv=>whnf
 ·have hk:k<r.inn.length:=by omega
  refine cG ?_
  refine ⟨_,bA hk,?_⟩;conv=>whnf
  try (refine oN ?_;conv=>whnf)
  refine aA.callN (aEN s b' r.inn[k]) [0,1,2,3,4,5,6,7,8] ?_ sH ?CNa12
  case CNa12=>rfl
  intro _ _
  conv=>whnf
  refine dT ?_
  refine aA.subR [] (back ((k+1,b'&&decide (fX s r.inn[k]))) (by exact (⟨hk,iG hk hJ.2 rfl⟩)) (by (try dsimp only);omega)) sH sH
 have hk:k=r.inn.length:=by omega
 have h2:=hJ.2
 rw [hk,List.take_length] at h2
 conv=>whnf
 refine aA.callT (RcV.ok.tok _) (hT) (aYF s b' r) [0,1,2,3,4,5,6,7,8] sH ?CNa14 ?_
 case CNa14=>rfl
 intro _ _
 conv=>whnf
 refine sqs ?_
 refine aA.callN (aCE s _ r.rwN r.rwD) [0,1,2,3,4,5,6,7,8] ?_ sH ?CNa15
 case CNa15=>rfl
 intro _ _
 conv=>whnf
 refine sqs ?_
 refine aA.callN (aCE s _ r.yN r.yD) [0,1,2,3,4,5,6,7,8] ?_ sH ?CNa16
 case CNa16=>rfl
 intro _ _
 conv=>whnf
 refine sqs ?_
 refine aA.callN (aCE s _ r.tN r.tD) [0,1,2,3,4,5,6,7,8] ?_ sH ?CNa17
 case CNa17=>rfl
 intro _ _
 conv=>whnf
 refine sqs ?_
 refine aA.callN (aX _ (decide (r.rwN<r.rwD))) [0,1,2,3,4,5,6,7,8] ?_ sH ?CNa18
 case CNa18=>rfl
 intro _ _
 conv=>whnf
 refine sqs ?_
 refine aA.callV (fun Ez Hz Az Sz K=>cX r.lead 0 15) ?_
 conv=>whnf
 refine sqs ?_
 refine aA.callN (aX _ (decide (bt r.lead 0 15))) [0,1,2,3,4,5,6,7,8] ?_ sH ?CNa19
 case CNa19=>rfl
 intro _ _
 conv=>whnf
 refine sqs ?_
 refine aA.callT (RcV.ok.tok _) (hT) (aZP s _ r) [0,1,2,3,4,5,6,7,8] sH ?CNa20 ?_
 case CNa20=>rfl
 intro _ _
 conv=>whnf
 refine sqs ?_
 have e:(b'&&decide (sE s r)&&decide (lJ r.rwN r.rwD)&&decide (lJ r.yN r.yD)&&decide (lJ r.tN r.tD)&&decide (r.rwN<r.rwD)&&decide (bt r.lead 0 15)&&decide (aBG s r))=(b&&decide (mY s r)):=by
  rw [h2,Bool.eq_iff_iff]
  simp only [Bool.and_eq_true,decide_eq_true_eq]
  unfold mY
  simp only [and_assoc]
 rw [e]
 try refine aA.finU ?_
 exact aB.ret tab Tryz.func86 rfl (eN () trivial)
theorem bAW (s:aG) (b:Bool) (x:Sw):FnS Tryz.prog 87 9 [.ptr 8 0,.agg (toV x.row)] (ckH s b) (fun _:Unit=>True) (fun _=>.ret (.tup []) 9 (ckH s (b&&decide (pA s x)))):=by
 have key:∀y:Bool,(y=true↔pA s x)→(b&&y)=(b&&decide (pA s x)):=fun y hy=>by
  rw [show y=decide (pA s x) by rw [Bool.eq_iff_iff,decide_eq_true_eq];exact hy]
 have hP:pA s x↔((tW (s.base x.an) fun b=>tW (s.base x.bn) fun c=>b=c)∧x.an≠x.bn):=Iff.rfl
 cases h1:s.base x.an with
 |none=>
  rw [h1] at hP
  cases h2:s.base x.bn with
  |none=>
   refine FnS.of Tryz.func87 (by kernel_rfl) rfl Tryz.ntmps87 rfl fun E0 F h w0 cs=>?_
   conv=>whnf
   refine gS ?_;conv=>whnf
   refine aA.callN (qY _ h1) [0,1,2,3,4,5,6,7,8] ?_ sH ?CNa21
   case CNa21=>rfl
   intro _ _
   conv=>whnf
   refine sqs ?_
   refine aA.callN (qY _ h2) [0,1,2,3,4,5,6,7,8] ?_ sH ?CNa22
   case CNa22=>rfl
   intro _ _
   conv=>whnf
   refine sqs ?_
   refine aA.callN (aX _ false) [0,1,2,3,4,5,6,7,8] ?_ sH ?CNa23
   case CNa23=>rfl
   intro _ _
   conv=>whnf
   refine sqs ?_
   rw [key false (by rw [hP];exact ⟨fun h=>(by cases h),fun h=>h.1.elim⟩)]
   try refine aA.finU ?_
   exact aB.ret tab Tryz.func87 rfl (eN () trivial)
  |some n2=>
   refine FnS.of Tryz.func87 (by kernel_rfl) rfl Tryz.ntmps87 rfl fun E0 F h w0 cs=>?_
   conv=>whnf
   refine gS ?_;conv=>whnf
   refine aA.callN (qY _ h1) [0,1,2,3,4,5,6,7,8] ?_ sH ?CNa24
   case CNa24=>rfl
   intro _ _
   conv=>whnf
   refine sqs ?_
   refine aA.callN (kQ _ h2) [0,1,2,3,4,5,6,7,8] ?_ sH ?CNa25
   case CNa25=>rfl
   intro _ _
   conv=>whnf
   refine sqs ?_
   refine aA.callN (aX _ false) [0,1,2,3,4,5,6,7,8] ?_ sH ?CNa26
   case CNa26=>rfl
   intro _ _
   conv=>whnf
   refine sqs ?_
   rw [key false (by rw [hP];exact ⟨fun h=>(by cases h),fun h=>h.1.elim⟩)]
   try refine aA.finU ?_
   exact aB.ret tab Tryz.func87 rfl (eN () trivial)
 |some n=>
  rw [h1] at hP
  cases h2:s.base x.bn with
  |none=>
   rw [h2] at hP
   refine FnS.of Tryz.func87 (by kernel_rfl) rfl Tryz.ntmps87 rfl fun E0 F h w0 cs=>?_
   conv=>whnf
   refine gS ?_;conv=>whnf
   refine aA.callN (kQ _ h1) [0,1,2,3,4,5,6,7,8] ?_ sH ?CNa27
   case CNa27=>rfl
   intro _ _
   conv=>whnf
   refine sqs ?_
   refine aA.callN (qY _ h2) [0,1,2,3,4,5,6,7,8] ?_ sH ?CNa28
   case CNa28=>rfl
   intro _ _
   conv=>whnf
   refine sqs ?_
   refine aA.callN (aX _ false) [0,1,2,3,4,5,6,7,8] ?_ sH ?CNa29
   case CNa29=>rfl
   intro _ _
   conv=>whnf
   refine sqs ?_
   rw [key false (by rw [hP];exact ⟨fun h=>(by cases h),fun h=>h.1.elim⟩)]
   try refine aA.finU ?_
   exact aB.ret tab Tryz.func87 rfl (eN () trivial)
  |some m=>
   rw [h2] at hP
   by_cases h3:n=m
   ·refine FnS.of Tryz.func87 (by kernel_rfl) rfl Tryz.ntmps87 rfl fun E0 F h w0 cs=>?_
    conv=>whnf
    refine gS ?_;conv=>whnf
    refine aA.callN (kQ _ h1) [0,1,2,3,4,5,6,7,8] ?_ sH ?CNa30
    case CNa30=>rfl
    intro _ _
    conv=>whnf
    refine sqs ?_
    refine aA.callN (kQ _ h2) [0,1,2,3,4,5,6,7,8] ?_ sH ?CNa31
    case CNa31=>rfl
    intro _ _
    conv=>whnf
    refine dT ?_
    refine aA.callN (aX _ (!decide (x.an=x.bn))) [0,1,2,3,4,5,6,7,8] ?_ sH ?CNa32
    case CNa32=>rfl
    intro _ _
    conv=>whnf
    refine sqs ?_
    rw [key (!decide (x.an=x.bn)) (by rw [hP,Bool.not_eq_true',decide_eq_false_iff_not];exact ⟨fun h=>⟨h3,h⟩,fun h=>h.2⟩)]
    try refine aA.finU ?_
    exact aB.ret tab Tryz.func87 rfl (eN () trivial)
   refine FnS.of Tryz.func87 (by kernel_rfl) rfl Tryz.ntmps87 rfl fun E0 F h w0 cs=>?_
   conv=>whnf
   refine gS ?_;conv=>whnf
   refine aA.callN (kQ _ h1) [0,1,2,3,4,5,6,7,8] ?_ sH ?CNa33
   case CNa33=>rfl
   intro _ _
   conv=>whnf
   refine sqs ?_
   refine aA.callN (kQ _ h2) [0,1,2,3,4,5,6,7,8] ?_ sH ?CNa34
   case CNa34=>rfl
   intro _ _
   conv=>whnf
   refine dT ?_
   refine aA.callN (aX _ false) [0,1,2,3,4,5,6,7,8] ?_ sH ?CNa35
   case CNa35=>rfl
   intro _ _
   conv=>whnf
   refine sqs ?_
   rw [key false (by rw [hP];exact ⟨fun h=>(by cases h),fun h=>absurd h.1 h3⟩)]
   try refine aA.finU ?_
   exact aB.ret tab Tryz.func87 rfl (eN () trivial)

structure aIB (c:Int) (m:Nat) (P:Prop):Prop where
 nn:0≤c
 iff:c≤m↔P
theorem aMA {α:Type} {f:α→Nat} {l:List α} {k m:Nat} (hk:k<l.length) {c:Int} (hc:aIB c m (∀o∈l.take k,f o≤m)):aIB (max c (f l[k])) m (∀o∈l.take (k+1),f o≤m):=by
 obtain ⟨h0,hi⟩:=hc
 rw [List.take_add_one,List.getElem?_eq_getElem hk]
 simp only [List.mem_append,Option.toList,List.mem_singleton]
 refine ⟨by omega,⟨fun h o ho=>ho.elim (hi.1 (by omega) o) (fun e=>by subst e;omega),fun h=>?_⟩⟩
 have h1:=hi.2 fun o ho=>h o (.inl ho)
 have h2:=h _ (.inr rfl)
 omega
theorem aGT {α:Type} {f:α→Nat} {l:List α} {m:Nat}:aIB 0 m (∀o∈l.take 0,f o≤m):=⟨by omega,by simp⟩
theorem aGK {h:Array Obj} (s:aG) {vU vI vP vM vO vF vR vS:Value} (hs:Top h vU vI vP vM vO vF vR vS s):FnV Tryz.prog 52 #[xY vU vI vP vM vO vF vR vS] h fun r h'=>r=.bool (decide (lW s))∧aH h.size h h':=by
 have lU:=aZ s.units
 have lI:=aE It.row s.items
 have lP:=cK s.plants
 have lM:=aE Mc.row s.machines
 have lO:=aE OpV.row s.options
 have lF:=aE FbV.row s.forbids
 have lR:=aE RcV.row s.recipes
 have lS:=aE Sw.row s.swaps
 have mU:=hs.U.len
 have mI:=hs.I.len
 have mP:=hs.P.len
 have mM:=hs.M.len
 have mO:=hs.O.len
 have mF:=hs.F.len
 have mR:=hs.R.len
 have mS:=hs.S.len
 obtain ⟨r,hr⟩:∃r,r=decide (lW s):=⟨_,rfl⟩
 rw [←hr]
 refine Fn.ofG (mJ [vU,vI,vP,vM,vO,vF,vR,vS]) 8 [.agg [.buf 0,.buf 1,.buf 2,.buf 3,.buf 4,.buf 5,.buf 6,.buf 7]] [(0,.ro (8) (aL s.units)),(1,.ro (6) (rws It.row s.items)),(2,.ro (1) (bV s.plants)),(3,.ro (4) (rws Mc.row s.machines)),(4,.ro (2) (rws OpV.row s.options)),(5,.ro (1) (rws FbV.row s.forbids)),(6,.ro (17) (rws RcV.row s.recipes)),(7,.ro (4) (rws Sw.row s.swaps))] (fun k=>k<_) Tryz.func52 (by kernel_rfl) rfl Tryz.ntmps52 rfl (fun _ hk=>hk) (Sat.ros (vs:=[vU,vI,vP,vM,vO,vF,vR,vS]) (l:=[(8,aL s.units),(6,rws It.row s.items),(1,bV s.plants),(4,rws Mc.row s.machines),(2,rws OpV.row s.options),(1,rws FbV.row s.forbids),(17,rws RcV.row s.recipes),(4,rws Sw.row s.swaps)]) ⟨hs.U,hs.I,hs.P,hs.M,hs.O,hs.F,hs.R,hs.S,trivial⟩) fun w0 cs=>?_
 conv=>whnf
 refine gS ?_;conv=>whnf
 refine aA.subR [] (aA.loop (fun (⟨k,c⟩:Nat×Int)=>[(15,.v (.int .i64 k)),(14,.v (.int .i64 (rws OpV.row s.options).length)),(13,.buf 4),(5,.v (.int .i64 0)),(4,.v (.int .i64 0)),(3,.v (.int .i64 c)),(1,.ptr 8 0)]) (fun (⟨k,c⟩:Nat×Int)=>[(8,.cells 31 [.buf 0,.buf 1,.buf 2,.buf 3,.buf 4,.buf 5,.buf 6,.buf 7]),(0,.ro 8 (aL s.units)),(1,.ro 6 (rws It.row s.items)),(2,.ro 1 (bV s.plants)),(3,.ro 4 (rws Mc.row s.machines)),(4,.ro 2 (rws OpV.row s.options)),(5,.ro 1 (rws FbV.row s.forbids)),(6,.ro 17 (rws RcV.row s.recipes)),(7,.ro 4 (rws Sw.row s.swaps))]) 9 (fun (⟨k,c⟩:Nat×Int)=>k≤s.options.length∧aIB c 4 (∀o∈s.options.take k,o.ch.length≤4)) (fun (⟨k,c⟩:Nat×Int)=>s.options.length - k) ?round1 ((0,0)) ?J01) sH sH
 case J01=>exact (⟨Nat.zero_le _,aGT⟩)
 rintro ⟨k,c⟩ hJ back
 try dsimp only at hJ back
 conv=>whnf
 try dsimp only
 refine gS ?_;conv=>whnf
 refine ⟨fun hk=>?_,fun hk=>?_⟩<;>conv=>whnf
 ·have hk:k<s.options.length:=by omega
  refine cG ?_
  refine ⟨_,bA hk,?_⟩;conv=>whnf
  try (refine oN ?_;conv=>whnf)
  refine sqC ?_
  refine aA.subR [] (back ((k+1,max c s.options[k].ch.length)) (by exact (⟨hk,aMA (f:=fun o=>o.ch.length) hk hJ.2⟩)) (by (try dsimp only);omega)) sH sH
 have hk:k=s.options.length:=by omega
 have hO:=hJ.2
 rw [hk,List.take_length] at hO
 clear back hJ
 conv=>whnf
 refine aA.subR [] (aA.loop (fun (⟨k,p⟩:Nat×(Int×Int))=>[(28,.v (.int .i64 k)),(27,.v (.int .i64 (rws RcV.row s.recipes).length)),(26,.buf 6),(5,.v (.int .i64 p.2)),(4,.v (.int .i64 p.1)),(3,.v (.int .i64 c)),(1,.ptr 8 0)]) (fun (⟨k,p⟩:Nat×(Int×Int))=>[(8,.cells 31 [.buf 0,.buf 1,.buf 2,.buf 3,.buf 4,.buf 5,.buf 6,.buf 7]),(0,.ro 8 (aL s.units)),(1,.ro 6 (rws It.row s.items)),(2,.ro 1 (bV s.plants)),(3,.ro 4 (rws Mc.row s.machines)),(4,.ro 2 (rws OpV.row s.options)),(5,.ro 1 (rws FbV.row s.forbids)),(6,.ro 17 (rws RcV.row s.recipes)),(7,.ro 4 (rws Sw.row s.swaps))]) 9 (fun (⟨k,p⟩:Nat×(Int×Int))=>k≤s.recipes.length∧aIB p.1 8 (∀r∈s.recipes.take k,r.inn.length≤8)∧aIB p.2 8 (∀r∈s.recipes.take k,r.out.length≤8)) (fun (⟨k,p⟩:Nat×(Int×Int))=>s.recipes.length - k) ?round3 ((0,(0,0))) ?J03) sH sH
 case J03=>exact (⟨Nat.zero_le _,aGT,aGT⟩)
 rintro ⟨k,p⟩ hJ back
 try dsimp only at hJ back
 conv=>whnf
 try dsimp only
 refine gS ?_;conv=>whnf
 refine ⟨fun hk=>?_,fun hk=>?_⟩<;>conv=>whnf
 ·have hk:k<s.recipes.length:=by omega
  refine cG ?_
  refine ⟨_,bA hk,?_⟩;conv=>whnf
  try (refine oN ?_;conv=>whnf)
  refine aA.held tab (.fl 0 (.fl 1 (.fl 2 (.fl 3 (.fl 4 (.fl 5 (.fl 6 (.fl 7 (.fl 8 (.fl 9 (.fl 10 (.fl 11 .done)))))))))))) (by kernel_rfl) ?_;conv=>whnf
  refine sqr ?_
  refine dT ?_
  refine aA.subR [] (back ((k+1,(max p.1 s.recipes[k].inn.length,max p.2 s.recipes[k].out.length))) (by exact (⟨hk,aMA (f:=fun o=>o.inn.length) hk hJ.2.1,aMA (f:=fun o=>o.out.length) hk hJ.2.2⟩)) (by (try dsimp only);omega)) sH sH
 have hk:k=s.recipes.length:=by omega
 have hI2:=hJ.2.1
 have hP2:=hJ.2.2
 rw [hk,List.take_length] at hI2 hP2
 clear back hJ
 conv=>whnf
 refine aA.loopU ?_
 refine dT ?_
 refine aA.indexA tab 0 ?_
 refine dT ?_
 refine ⟨fun q0=>?_,fun q0=>?_⟩<;>conv=>whnf
 ·conv=>whnf
  rw [hr,decide_eq_false (fun hsm=>by obtain ⟨a1,a2,a3⟩:=hsm;have:=hO.iff.2 a1;have:=hI2.iff.2 (fun r hr=>(a2 r hr).1);have:=hP2.iff.2 (fun r hr=>(a2 r hr).2);omega)]
  refine aA.retU (aB.ret tab Tryz.func52 rfl fun _ _ _ _ K=>⟨_,rfl,rfl,K.keeps⟩)
 refine cG ?_
 refine aA.againU ?_
 refine dT ?_
 refine aA.indexA tab 1 ?_
 refine dT ?_
 refine ⟨fun q1=>?_,fun q1=>?_⟩<;>conv=>whnf
 ·conv=>whnf
  rw [hr,decide_eq_false (fun hsm=>by obtain ⟨a1,a2,a3⟩:=hsm;have:=hO.iff.2 a1;have:=hI2.iff.2 (fun r hr=>(a2 r hr).1);have:=hP2.iff.2 (fun r hr=>(a2 r hr).2);omega)]
  refine aA.retU (aB.ret tab Tryz.func52 rfl fun _ _ _ _ K=>⟨_,rfl,rfl,K.keeps⟩)
 refine cG ?_
 refine aA.againU ?_
 refine dT ?_
 refine aA.indexA tab 2 ?_
 refine dT ?_
 refine ⟨fun q2=>?_,fun q2=>?_⟩<;>conv=>whnf
 ·conv=>whnf
  rw [hr,decide_eq_false (fun hsm=>by obtain ⟨a1,a2,a3⟩:=hsm;have:=hO.iff.2 a1;have:=hI2.iff.2 (fun r hr=>(a2 r hr).1);have:=hP2.iff.2 (fun r hr=>(a2 r hr).2);omega)]
  refine aA.retU (aB.ret tab Tryz.func52 rfl fun _ _ _ _ K=>⟨_,rfl,rfl,K.keeps⟩)
 refine cG ?_
 refine aA.againU ?_
 refine dT ?_
 refine aA.indexA tab 3 ?_
 refine dT ?_
 refine ⟨fun q3=>?_,fun q3=>?_⟩<;>conv=>whnf
 ·conv=>whnf
  rw [hr,decide_eq_false (fun hsm=>by obtain ⟨a1,a2,a3⟩:=hsm;have:=hO.iff.2 a1;have:=hI2.iff.2 (fun r hr=>(a2 r hr).1);have:=hP2.iff.2 (fun r hr=>(a2 r hr).2);omega)]
  refine aA.retU (aB.ret tab Tryz.func52 rfl fun _ _ _ _ K=>⟨_,rfl,rfl,K.keeps⟩)
 refine cG ?_
 refine aA.againU ?_
 refine dT ?_
 refine aA.indexA tab 4 ?_
 refine dT ?_
 refine ⟨fun q4=>?_,fun q4=>?_⟩<;>conv=>whnf
 ·conv=>whnf
  rw [hr,decide_eq_false (fun hsm=>by obtain ⟨a1,a2,a3⟩:=hsm;have:=hO.iff.2 a1;have:=hI2.iff.2 (fun r hr=>(a2 r hr).1);have:=hP2.iff.2 (fun r hr=>(a2 r hr).2);omega)]
  refine aA.retU (aB.ret tab Tryz.func52 rfl fun _ _ _ _ K=>⟨_,rfl,rfl,K.keeps⟩)
 refine cG ?_
 refine aA.againU ?_
 refine dT ?_
 refine aA.indexA tab 5 ?_
 refine dT ?_
 refine ⟨fun q5=>?_,fun q5=>?_⟩<;>conv=>whnf
 ·conv=>whnf
  rw [hr,decide_eq_false (fun hsm=>by obtain ⟨a1,a2,a3⟩:=hsm;have:=hO.iff.2 a1;have:=hI2.iff.2 (fun r hr=>(a2 r hr).1);have:=hP2.iff.2 (fun r hr=>(a2 r hr).2);omega)]
  refine aA.retU (aB.ret tab Tryz.func52 rfl fun _ _ _ _ K=>⟨_,rfl,rfl,K.keeps⟩)
 refine cG ?_
 refine aA.againU ?_
 refine dT ?_
 refine aA.indexA tab 6 ?_
 refine dT ?_
 refine ⟨fun q6=>?_,fun q6=>?_⟩<;>conv=>whnf
 ·conv=>whnf
  rw [hr,decide_eq_false (fun hsm=>by obtain ⟨a1,a2,a3⟩:=hsm;have:=hO.iff.2 a1;have:=hI2.iff.2 (fun r hr=>(a2 r hr).1);have:=hP2.iff.2 (fun r hr=>(a2 r hr).2);omega)]
  refine aA.retU (aB.ret tab Tryz.func52 rfl fun _ _ _ _ K=>⟨_,rfl,rfl,K.keeps⟩)
 refine cG ?_
 refine aA.againU ?_
 refine dT ?_
 refine aA.indexA tab 7 ?_
 refine dT ?_
 refine ⟨fun q7=>?_,fun q7=>?_⟩<;>conv=>whnf
 ·conv=>whnf
  rw [hr,decide_eq_false (fun hsm=>by obtain ⟨a1,a2,a3⟩:=hsm;have:=hO.iff.2 a1;have:=hI2.iff.2 (fun r hr=>(a2 r hr).1);have:=hP2.iff.2 (fun r hr=>(a2 r hr).2);omega)]
  refine aA.retU (aB.ret tab Tryz.func52 rfl fun _ _ _ _ K=>⟨_,rfl,rfl,K.keeps⟩)
 refine cG ?_
 refine aA.againU ?_
 refine dT ?_
 refine aA.indexA tab 8 ?_
 refine dT ?_
 refine ⟨fun q8=>?_,fun q8=>?_⟩<;>conv=>whnf
 ·conv=>whnf
  rw [hr,decide_eq_false (fun hsm=>by obtain ⟨a1,a2,a3⟩:=hsm;have:=hO.iff.2 a1;have:=hI2.iff.2 (fun r hr=>(a2 r hr).1);have:=hP2.iff.2 (fun r hr=>(a2 r hr).2);omega)]
  refine aA.retU (aB.ret tab Tryz.func52 rfl fun _ _ _ _ K=>⟨_,rfl,rfl,K.keeps⟩)
 refine cG ?_
 refine aA.againU ?_
 refine dT ?_
 refine aA.indexA tab 9 ?_
 refine dT ?_
 refine ⟨fun q9=>?_,fun q9=>?_⟩<;>conv=>whnf
 ·conv=>whnf
  rw [hr,decide_eq_false (fun hsm=>by obtain ⟨a1,a2,a3⟩:=hsm;have:=hO.iff.2 a1;have:=hI2.iff.2 (fun r hr=>(a2 r hr).1);have:=hP2.iff.2 (fun r hr=>(a2 r hr).2);omega)]
  refine aA.retU (aB.ret tab Tryz.func52 rfl fun _ _ _ _ K=>⟨_,rfl,rfl,K.keeps⟩)
 refine cG ?_
 refine aA.againU ?_
 refine dT ?_
 have hsm:lW s:=⟨hO.iff.1 (by omega),fun r hr=>⟨hI2.iff.1 (by omega) r hr,hP2.iff.1 (by omega) r hr⟩,by omega⟩
 rw [hr,decide_eq_true hsm]
 refine aA.retU (aB.ret tab Tryz.func52 rfl fun _ _ _ _ K=>⟨_,rfl,rfl,K.keeps⟩)
theorem opt_ne (o:OpV):decide (0<(o.ch.length:Int))=decide (o.ch ≠ []):=by
 refine decide_eq_decide.2 ?_
 cases o.ch<;>simp
theorem fb_ne (o:FbV):decide (0<(o.cs.length:Int))=decide (o.cs ≠ []):=by
 refine decide_eq_decide.2 ?_
 cases o.cs<;>simp
theorem aRD (s:aG) (b:Bool):FnT Tryz.prog (fun F h=>s.sub F h) 53 9 [.ptr 8 0] (ckH s b) (fun _:Unit=>True) (fun _=>.ret (.tup []) 9 (ckH s (b&&decide (vE s)))):=by
 have lU:=aZ s.units
 have lI:=aE It.row s.items
 have lP:=cK s.plants
 have lM:=aE Mc.row s.machines
 have lO:=aE OpV.row s.options
 have lF:=aE FbV.row s.forbids
 have lR:=aE RcV.row s.recipes
 have lS:=aE Sw.row s.swaps
 refine FnT.of Tryz.func53 (by kernel_rfl) rfl Tryz.ntmps53 rfl fun E0 F h hT w0 cs=>?_
 conv=>whnf
 refine gS ?_;conv=>whnf
 refine aA.lenB 1 (fun m1=>?_)
 refine aA.subR [] (aA.loop (fun (⟨k,b1⟩:Nat×Bool)=>[(20,.v (.int .i64 k)),(19,.v (.int .i64 (rws It.row s.items).length)),(18,.buf 1),(0,.ptr 8 0)]) (fun (⟨k,b1⟩:Nat×Bool)=>[ckC b1,(0,.ro 8 (aL s.units)),(1,.ro 6 (rws It.row s.items)),(2,.ro 1 (bV s.plants)),(3,.ro 4 (rws Mc.row s.machines)),(4,.ro 2 (rws OpV.row s.options)),(5,.ro 1 (rws FbV.row s.forbids)),(6,.ro 17 (rws RcV.row s.recipes)),(7,.ro 4 (rws Sw.row s.swaps))]) 9 (fun (⟨k,b1⟩:Nat×Bool)=>k≤s.items.length∧b1=(b&&decide (∀a∈s.items.take k,qF s a))) (fun (⟨k,b1⟩:Nat×Bool)=>s.items.length - k) ?round5 ((0,b)) ?J05) sH sH
 case J05=>exact (⟨Nat.zero_le _,kG _⟩)
 rintro ⟨k,b1⟩ hJ back
 try dsimp only at hJ back
 conv=>whnf
 try dsimp only
 refine gS ?_;conv=>whnf
 refine ⟨fun hk=>?_,fun hk=>?_⟩<;>conv=>whnf
 ·have hk:k<s.items.length:=by omega
  refine cG ?_
  refine ⟨_,bA hk,?_⟩;conv=>whnf
  try (refine oN ?_;conv=>whnf)
  refine aA.callN (bAA s b1 s.items[k]) [0,1,2,3,4,5,6,7,8] ?_ sH ?CNa6
  case CNa6=>rfl
  intro _ _
  conv=>whnf
  refine dT ?_
  refine aA.subR [] (back ((k+1,b1&&decide (qF s s.items[k]))) (by exact (⟨hk,iG hk hJ.2 rfl⟩)) (by (try dsimp only);omega)) sH sH
 have hk:k=s.items.length:=by omega
 have h1:=hJ.2
 rw [hk,List.take_length] at h1
 rename_i hk0
 clear back hJ hk hk0 m1
 conv=>whnf
 refine aA.lenB 3 (fun m2=>?_)
 refine aA.subR [] (aA.loop (fun (⟨k,b2⟩:Nat×Bool)=>[(34,.v (.int .i64 k)),(33,.v (.int .i64 (rws Mc.row s.machines).length)),(32,.buf 3),(0,.ptr 8 0)]) (fun (⟨k,b2⟩:Nat×Bool)=>[ckC b2,(0,.ro 8 (aL s.units)),(1,.ro 6 (rws It.row s.items)),(2,.ro 1 (bV s.plants)),(3,.ro 4 (rws Mc.row s.machines)),(4,.ro 2 (rws OpV.row s.options)),(5,.ro 1 (rws FbV.row s.forbids)),(6,.ro 17 (rws RcV.row s.recipes)),(7,.ro 4 (rws Sw.row s.swaps))]) 9 (fun (⟨k,b2⟩:Nat×Bool)=>k≤s.machines.length∧b2=(b1&&decide (∀a∈s.machines.take k,yE s a))) (fun (⟨k,b2⟩:Nat×Bool)=>s.machines.length - k) ?round8 ((0,b1)) ?J08) sH sH
 case J08=>exact (⟨Nat.zero_le _,kG _⟩)
 rintro ⟨k,b2⟩ hJ back
 try dsimp only at hJ back
 conv=>whnf
 try dsimp only
 refine gS ?_;conv=>whnf
 refine ⟨fun hk=>?_,fun hk=>?_⟩<;>conv=>whnf
 ·have hk:k<s.machines.length:=by omega
  refine cG ?_
  refine ⟨_,bA hk,?_⟩;conv=>whnf
  try (refine oN ?_;conv=>whnf)
  refine aA.held tab (.fl 0 (.fl 1 (.fl 2 (.fl 3 (.fl 4 (.fl 5 (.fl 6 (.fl 7 (.fl 8 (.e1 9 [] (.e1 10 [] .done))))))))))) (by kernel_rfl) ?_;conv=>whnf
  refine sqr ?_
  refine aK.callV (fun Ez Hz Az Sz K=>aKI s.machines[k].pn lP) (by (conv=>whnf);(repeat (guard_target=_∧_;refine And.intro (by (conv=>whnf);first|rfl|exact trivial) ?_;conv=>whnf));exact trivial) ?_
  conv=>whnf
  refine sqr ?_
  refine aK.callN (aX b2 (decide (idx s.machines[k].pn s.plants.length))) [0,1,2,3,4,5,6,7,8] ?_ sH ?CNa9
  case CNa9=>rfl
  intro _ _
  conv=>whnf
  try refine oB ?_
  refine sqr ?_
  refine sqs ?_
  refine aA.callV (fun Ez Hz Az Sz K=>cX s.machines[k].clean 0 15) ?_
  conv=>whnf
  refine sqs ?_
  refine aA.callN (aX _ (decide (bt s.machines[k].clean 0 15))) [0,1,2,3,4,5,6,7,8] ?_ sH ?CNa10
  case CNa10=>rfl
  intro _ _
  conv=>whnf
  refine dT ?_
  rw [Bool.and_assoc b2,show (decide (idx s.machines[k].pn s.plants.length)&&decide (bt s.machines[k].clean 0 15))=decide (yE s s.machines[k]) by rw [Bool.eq_iff_iff];simp only [Bool.and_eq_true,decide_eq_true_eq];exact Iff.rfl]
  refine aA.subR [] (back ((k+1,b2&&decide (yE s s.machines[k]))) (by exact (⟨hk,iG hk hJ.2 rfl⟩)) (by (try dsimp only);omega)) sH sH
 have hk:k=s.machines.length:=by omega
 have h2:=hJ.2
 rw [hk,List.take_length] at h2
 rename_i hk0
 clear back hJ hk hk0 m2
 conv=>whnf
 refine aA.lenB 4 (fun m3=>?_)
 refine aA.subR [] (aA.loop (fun (⟨k,b3⟩:Nat×Bool)=>[(61,.v (.int .i64 k)),(60,.v (.int .i64 (rws OpV.row s.options).length)),(59,.buf 4),(0,.ptr 8 0)]) (fun (⟨k,b3⟩:Nat×Bool)=>[ckC b3,(0,.ro 8 (aL s.units)),(1,.ro 6 (rws It.row s.items)),(2,.ro 1 (bV s.plants)),(3,.ro 4 (rws Mc.row s.machines)),(4,.ro 2 (rws OpV.row s.options)),(5,.ro 1 (rws FbV.row s.forbids)),(6,.ro 17 (rws RcV.row s.recipes)),(7,.ro 4 (rws Sw.row s.swaps))]) 9 (fun (⟨k,b3⟩:Nat×Bool)=>k≤s.options.length∧b3=(b2&&decide (∀a∈s.options.take k,a.ch ≠ []))) (fun (⟨k,b3⟩:Nat×Bool)=>s.options.length - k) ?round12 ((0,b2)) ?J012) sH sH
 case J012=>exact (⟨Nat.zero_le _,kG _⟩)
 rintro ⟨k,b3⟩ hJ back
 try dsimp only at hJ back
 conv=>whnf
 try dsimp only
 refine gS ?_;conv=>whnf
 refine ⟨fun hk=>?_,fun hk=>?_⟩<;>conv=>whnf
 ·have hk:k<s.options.length:=by omega
  refine cG ?_
  refine ⟨_,bA hk,?_⟩;conv=>whnf
  try (refine oN ?_;conv=>whnf)
  refine aA.callN (aX b3 (decide (0<(s.options[k].ch.length:Int)))) [0,1,2,3,4,5,6,7,8] ?_ sH ?CNa13
  case CNa13=>rfl
  intro _ _
  conv=>whnf
  refine dT ?_
  refine aA.subR [] (back ((k+1,b3&&decide (0<(s.options[k].ch.length:Int)))) (by exact (⟨hk,iG hk hJ.2 (opt_ne _)⟩)) (by (try dsimp only);omega)) sH sH
 have hk:k=s.options.length:=by omega
 have h3:=hJ.2
 rw [hk,List.take_length] at h3
 rename_i hk0
 clear back hJ hk hk0 m3
 conv=>whnf
 refine aA.lenB 5 (fun m4=>?_)
 refine aA.subR [] (aA.loop (fun (⟨k,b4⟩:Nat×Bool)=>[(78,.v (.int .i64 k)),(77,.v (.int .i64 (rws FbV.row s.forbids).length)),(76,.buf 5),(0,.ptr 8 0)]) (fun (⟨k,b4⟩:Nat×Bool)=>[ckC b4,(0,.ro 8 (aL s.units)),(1,.ro 6 (rws It.row s.items)),(2,.ro 1 (bV s.plants)),(3,.ro 4 (rws Mc.row s.machines)),(4,.ro 2 (rws OpV.row s.options)),(5,.ro 1 (rws FbV.row s.forbids)),(6,.ro 17 (rws RcV.row s.recipes)),(7,.ro 4 (rws Sw.row s.swaps))]) 9 (fun (⟨k,b4⟩:Nat×Bool)=>k≤s.forbids.length∧b4=(b3&&decide (∀a∈s.forbids.take k,a.cs ≠ []∧jL s a.cs))) (fun (⟨k,b4⟩:Nat×Bool)=>s.forbids.length - k) ?round15 ((0,b3)) ?J015) sH sH
 case J015=>exact (⟨Nat.zero_le _,kG _⟩)
 rintro ⟨k,b4⟩ hJ back
 try dsimp only at hJ back
 conv=>whnf
 try dsimp only
 refine gS ?_;conv=>whnf
 refine ⟨fun hk=>?_,fun hk=>?_⟩<;>conv=>whnf
 ·have hk:k<s.forbids.length:=by omega
  refine cG ?_
  refine ⟨_,bA hk,?_⟩;conv=>whnf
  refine aA.callN (aX b4 (decide (0<(s.forbids[k].cs.length:Int)))) [0,1,2,3,4,5,6,7,8] ?_ sH ?CNa16
  case CNa16=>rfl
  intro _ _
  conv=>whnf
  refine sqs ?_
  refine aA.callT (RoF.tok _ _ _) (hT.f _ (List.getElem_mem hk)) (aIL s _ s.forbids[k].cs s.forbids[k].hd.a s.forbids[k].hd.c) [0,1,2,3,4,5,6,7,8] sH ?CNa17 ?_
  case CNa17=>rfl
  intro _ _
  conv=>whnf
  refine dT ?_
  rw [Bool.and_assoc b4,fb_ne,show (decide (s.forbids[k].cs ≠ [])&&decide (jL s s.forbids[k].cs))=decide (s.forbids[k].cs ≠ []∧jL s s.forbids[k].cs) by rw [Bool.eq_iff_iff];simp only [Bool.and_eq_true,decide_eq_true_eq]]
  refine aA.subR [] (back ((k+1,b4&&decide (s.forbids[k].cs ≠ []∧jL s s.forbids[k].cs))) (by exact (⟨hk,iG hk hJ.2 rfl⟩)) (by (try dsimp only);omega)) sH sH
 have hk:k=s.forbids.length:=by omega
 have h4:=hJ.2
 rw [hk,List.take_length] at h4
 rename_i hk0
 clear back hJ hk hk0 m4
 conv=>whnf
 refine aA.lenB 6 (fun m5=>?_)
 refine aA.subR [] (aA.loop (fun (⟨k,b5⟩:Nat×Bool)=>[(97,.v (.int .i64 k)),(96,.v (.int .i64 (rws RcV.row s.recipes).length)),(95,.buf 6),(0,.ptr 8 0)]) (fun (⟨k,b5⟩:Nat×Bool)=>[ckC b5,(0,.ro 8 (aL s.units)),(1,.ro 6 (rws It.row s.items)),(2,.ro 1 (bV s.plants)),(3,.ro 4 (rws Mc.row s.machines)),(4,.ro 2 (rws OpV.row s.options)),(5,.ro 1 (rws FbV.row s.forbids)),(6,.ro 17 (rws RcV.row s.recipes)),(7,.ro 4 (rws Sw.row s.swaps))]) 9 (fun (⟨k,b5⟩:Nat×Bool)=>k≤s.recipes.length∧b5=(b4&&decide (∀a∈s.recipes.take k,mY s a))) (fun (⟨k,b5⟩:Nat×Bool)=>s.recipes.length - k) ?round19 ((0,b4)) ?J019) sH sH
 case J019=>exact (⟨Nat.zero_le _,kG _⟩)
 rintro ⟨k,b5⟩ hJ back
 try dsimp only at hJ back
 conv=>whnf
 try dsimp only
 refine gS ?_;conv=>whnf
 refine ⟨fun hk=>?_,fun hk=>?_⟩<;>conv=>whnf
 ·have hk:k<s.recipes.length:=by omega
  refine cG ?_
  refine ⟨_,bA hk,?_⟩;conv=>whnf
  try (refine oN ?_;conv=>whnf)
  refine aA.callT (RcV.ok.tok _) (hT.r _ (List.getElem_mem hk)) (aQR s b5 s.recipes[k]) [0,1,2,3,4,5,6,7,8] sH ?CNa20 ?_
  case CNa20=>rfl
  intro _ _
  conv=>whnf
  refine dT ?_
  refine aA.subR [] (back ((k+1,b5&&decide (mY s s.recipes[k]))) (by exact (⟨hk,iG hk hJ.2 rfl⟩)) (by (try dsimp only);omega)) sH sH
 have hk:k=s.recipes.length:=by omega
 have h5:=hJ.2
 rw [hk,List.take_length] at h5
 rename_i hk0
 clear back hJ hk hk0 m5
 conv=>whnf
 refine aA.lenB 7 (fun m6=>?_)
 refine aA.subR [] (aA.loop (fun (⟨k,b6⟩:Nat×Bool)=>[(111,.v (.int .i64 k)),(110,.v (.int .i64 (rws Sw.row s.swaps).length)),(109,.buf 7),(0,.ptr 8 0)]) (fun (⟨k,b6⟩:Nat×Bool)=>[ckC b6,(0,.ro 8 (aL s.units)),(1,.ro 6 (rws It.row s.items)),(2,.ro 1 (bV s.plants)),(3,.ro 4 (rws Mc.row s.machines)),(4,.ro 2 (rws OpV.row s.options)),(5,.ro 1 (rws FbV.row s.forbids)),(6,.ro 17 (rws RcV.row s.recipes)),(7,.ro 4 (rws Sw.row s.swaps))]) 9 (fun (⟨k,b6⟩:Nat×Bool)=>k≤s.swaps.length∧b6=(b5&&decide (∀a∈s.swaps.take k,pA s a))) (fun (⟨k,b6⟩:Nat×Bool)=>s.swaps.length - k) ?round22 ((0,b5)) ?J022) sH sH
 case J022=>exact (⟨Nat.zero_le _,kG _⟩)
 rintro ⟨k,b6⟩ hJ back
 try dsimp only at hJ back
 conv=>whnf
 try dsimp only
 refine gS ?_;conv=>whnf
 refine ⟨fun hk=>?_,fun hk=>?_⟩<;>conv=>whnf
 ·have hk:k<s.swaps.length:=by omega
  refine cG ?_
  refine ⟨_,bA hk,?_⟩;conv=>whnf
  try (refine oN ?_;conv=>whnf)
  refine aA.callN (bAW s b6 s.swaps[k]) [0,1,2,3,4,5,6,7,8] ?_ sH ?CNa23
  case CNa23=>rfl
  intro _ _
  conv=>whnf
  refine dT ?_
  refine aA.subR [] (back ((k+1,b6&&decide (pA s s.swaps[k]))) (by exact (⟨hk,iG hk hJ.2 rfl⟩)) (by (try dsimp only);omega)) sH sH
 have hk:k=s.swaps.length:=by omega
 have h6:=hJ.2
 rw [hk,List.take_length] at h6
 rename_i hk0
 clear back hJ hk hk0 m6
 conv=>whnf
 have e:b6=(b&&decide (vE s)):=by
  rw [h6,h5,h4,h3,h2,h1,Bool.eq_iff_iff]
  simp only [Bool.and_eq_true,decide_eq_true_eq,and_assoc]
  exact ⟨fun ⟨a,b,c,d,e,f,g⟩=>⟨a,b,c,d,e,f,g⟩,fun ⟨a,⟨b,c,d,e,f,g⟩⟩=>⟨a,b,c,d,e,f,g⟩⟩
 rw [e]
 try refine aA.finU ?_
 exact aB.ret tab Tryz.func53 rfl (eN () trivial)

theorem qI {h:Array Obj} (s:aG) {vU vI vP vM vO vF vR vS:Value} (hs:Top h vU vI vP vM vO vF vR vS s) (hw:s.wf) (hT:gN h):FnV Tryz.prog 25 #[xY vU vI vP vM vO vF vR vS] h fun r h'=>r=.int .i64 (bE s)∧aH h.size h h':=by
 refine Fn.ofG (mJ [vU,vI,vP,vM,vO,vF,vR,vS]) 8 [.agg [.buf 0,.buf 1,.buf 2,.buf 3,.buf 4,.buf 5,.buf 6,.buf 7]] [(0,.ro (8) (aL s.units)),(1,.ro (6) (rws It.row s.items)),(2,.ro (1) (bV s.plants)),(3,.ro (4) (rws Mc.row s.machines)),(4,.ro (2) (rws OpV.row s.options)),(5,.ro (1) (rws FbV.row s.forbids)),(6,.ro (17) (rws RcV.row s.recipes)),(7,.ro (4) (rws Sw.row s.swaps))] (fun k=>k<_) Tryz.func25 (by kernel_rfl) rfl Tryz.ntmps25 rfl (fun _ hk=>hk) (Sat.ros (vs:=[vU,vI,vP,vM,vO,vF,vR,vS]) (l:=[(8,aL s.units),(6,rws It.row s.items),(1,bV s.plants),(4,rws Mc.row s.machines),(2,rws OpV.row s.options),(1,rws FbV.row s.forbids),(17,rws RcV.row s.recipes),(4,rws Sw.row s.swaps)]) ⟨hs.U,hs.I,hs.P,hs.M,hs.O,hs.F,hs.R,hs.S,trivial⟩) fun w0 cs=>?_
 conv=>whnf
 refine gS ?_;conv=>whnf
 by_cases hu:eT s.units=0
 ·refine aA.callV (fun Ez Hz Az Sz K=>vZ s.units hw.U (Sz.ro (b:=0) rfl) (hT.keeps ⟨K.size,K.same⟩)) ?_
  conv=>whnf
  rw [hu]
  try dsimp only
  refine dT ?_
  by_cases hm:lW s
  ·refine aA.callV (fun Ez Hz Az Sz K=>aGK s ⟨Sz.ro (b:=0) rfl,Sz.ro (b:=1) rfl,Sz.ro (b:=2) rfl,Sz.ro (b:=3) rfl,Sz.ro (b:=4) rfl,Sz.ro (b:=5) rfl,Sz.ro (b:=6) rfl,Sz.ro (b:=7) rfl,hs.below.up (Up.kp K)⟩) ?_
   conv=>whnf
   rw [decide_eq_true hm]
   refine sqs ?_
   have C:=aRD s true
   by_cases ht:vE s
   ·rw [Bool.true_and,decide_eq_true ht] at C
    refine aA.callT (aG.sub.tok _) (hs.below) (C) [0,1,2,3,4,5,6,7,9] sH ?CNa1 ?_
    case CNa1=>rfl
    intro _ _
    conv=>whnf
    refine sqs ?_
    have:bE s=0:=by unfold bE;rw [if_neg (fun h=>h hu),if_neg (fun h=>h hm),if_neg (fun h=>h ht)]
    rw [this]
    refine aA.retU (aB.ret tab Tryz.func25 rfl fun _ _ _ _ K=>⟨_,rfl,rfl,K.keeps⟩)
   rw [Bool.true_and,decide_eq_false ht] at C
   refine aA.callT (aG.sub.tok _) (hs.below) (C) [0,1,2,3,4,5,6,7,9] sH ?CNa2 ?_
   case CNa2=>rfl
   intro _ _
   conv=>whnf
   refine sqs ?_
   have:bE s=120:=by unfold bE;rw [if_neg (fun h=>h hu),if_neg (fun h=>h hm),if_pos ht]
   rw [this]
   refine aA.retU (aB.ret tab Tryz.func25 rfl fun _ _ _ _ K=>⟨_,rfl,rfl,K.keeps⟩)
  refine aA.callV (fun Ez Hz Az Sz K=>aGK s ⟨Sz.ro (b:=0) rfl,Sz.ro (b:=1) rfl,Sz.ro (b:=2) rfl,Sz.ro (b:=3) rfl,Sz.ro (b:=4) rfl,Sz.ro (b:=5) rfl,Sz.ro (b:=6) rfl,Sz.ro (b:=7) rfl,hs.below.up (Up.kp K)⟩) ?_
  conv=>whnf
  rw [decide_eq_false hm]
  refine sqs ?_
  have:bE s=2:=by unfold bE;rw [if_neg (fun h=>h hu),if_pos hm]
  rw [this]
  refine aA.retU (aB.ret tab Tryz.func25 rfl fun _ _ _ _ K=>⟨_,rfl,rfl,K.keeps⟩)
 refine aA.callV (fun Ez Hz Az Sz K=>vZ s.units hw.U (Sz.ro (b:=0) rfl) (hT.keeps ⟨K.size,K.same⟩)) ?_
 conv=>whnf
 refine dT ?_
 have:bE s=eT s.units:=by unfold bE;rw [if_pos hu]
 rw [this]
 refine aA.retU (aB.ret tab Tryz.func25 rfl fun _ _ _ _ K=>⟨_,rfl,rfl,K.keeps⟩)
abbrev amV (a:Am):Value:=.agg a.row.toArray
abbrev zrC (b:Nat):Nat×Fw.Blk:=(b,.cells 35 [.v (.bool false),.v (.string ⟨#[]⟩),.v (.string ⟨#[]⟩)])
theorem tAmt_fn {h:Array Obj} (s:aG) {vU vI vP vM vO vF vR vS:Value} (hs:Top h vU vI vP vM vO vF vR vS s) (hw:s.wf) (a:Am) (ha:a.wf) (hT:gN h):FnV Tryz.prog 45 #[xY vU vI vP vM vO vF vR vS,amV a] h fun r h'=>r=rev (aDL s a)∧aH h.size h h':=by
 have lU:=aZ s.units
 have lI:=aE It.row s.items
 have lP:=cK s.plants
 have lM:=aE Mc.row s.machines
 have lO:=aE OpV.row s.options
 have lF:=aE FbV.row s.forbids
 have lR:=aE RcV.row s.recipes
 have lS:=aE Sw.row s.swaps
 obtain ⟨y,hy⟩:∃y,y=aDL s a:=⟨_,rfl⟩
 rw [←hy]
 unfold aDL at hy
 refine Fn.ofG (mJ [vU,vI,vP,vM,vO,vF,vR,vS]) 8 [.agg [.buf 0,.buf 1,.buf 2,.buf 3,.buf 4,.buf 5,.buf 6,.buf 7],.agg (toV a.row)] [(0,.ro (8) (aL s.units)),(1,.ro (6) (rws It.row s.items)),(2,.ro (1) (bV s.plants)),(3,.ro (4) (rws Mc.row s.machines)),(4,.ro (2) (rws OpV.row s.options)),(5,.ro (1) (rws FbV.row s.forbids)),(6,.ro (17) (rws RcV.row s.recipes)),(7,.ro (4) (rws Sw.row s.swaps))] (fun k=>k<_) Tryz.func45 (by kernel_rfl) rfl Tryz.ntmps45 rfl (fun _ hk=>hk) (Sat.ros (vs:=[vU,vI,vP,vM,vO,vF,vR,vS]) (l:=[(8,aL s.units),(6,rws It.row s.items),(1,bV s.plants),(4,rws Mc.row s.machines),(2,rws OpV.row s.options),(1,rws FbV.row s.forbids),(17,rws RcV.row s.recipes),(4,rws Sw.row s.swaps)]) ⟨hs.U,hs.I,hs.P,hs.M,hs.O,hs.F,hs.R,hs.S,trivial⟩) fun w0 cs=>?_
 conv=>whnf
 refine gS ?_;conv=>whnf
 by_cases h1:idx a.inn s.items.length
 ·obtain ⟨k,e,hk,e3⟩:=at?_idx h1
  rw [e3] at hy
  dsimp only at hy
  refine aA.callV (fun Ez Hz Az Sz K=>oO a.inn (rws It.row s.items).length (by omega)) ?_
  conv=>whnf
  refine sqs ?_
  refine aA.callV (fun Ez Hz Az Sz K=>iC a.n a.d ha.1 ha.2.1 (hT.keeps ⟨K.size,K.same⟩)) ?_
  conv=>whnf
  refine sqs ?_
  refine ⟨fun h2=>?_,fun h2=>?_⟩<;>conv=>whnf
  ·conv=>whnf
   rw [if_neg (fun h=>h h2)] at hy
   refine aA.held tab (.fl 0 (.fl 1 (.fl 2 (.fl 3 (.fl 4 (.fl 5 (.fl 6 (.fl 7 (.fl 8 (.fl 9 (.fl 10 (.fl 11 (.e1 12 [] (.fl 13 (.fl 14 (.e1 15 [] (.fl 16 .done))))))))))))))))) (by kernel_rfl) ?_;conv=>whnf
   refine mE ?_
   conv=>whnf
   refine ⟨_,(by rw [e];exact bA hk),?_⟩;conv=>whnf
   refine aK.callV (fun Ez Hz Az Sz K=>aSF s.units hw.U (Sz.ro (b:=0) rfl) a.un s.items[k].un (eU a.n a.d).1 (hT.keeps ⟨K.size,K.same⟩)) (by (conv=>whnf);(repeat (guard_target=_∧_;refine And.intro (by (conv=>whnf);first|rfl|exact trivial) ?_;conv=>whnf));exact trivial) ?_
   conv=>whnf
   refine mE ?_
   refine sqs ?_
   subst hy
   refine aA.retU (aB.ret tab Tryz.func45 rfl fun _ _ _ _ K=>⟨_,rfl,rfl,K.keeps⟩)
  conv=>whnf
  rw [if_pos h2] at hy
  subst hy
  refine aA.retU (aB.ret tab Tryz.func45 rfl fun _ _ _ _ K=>⟨_,rfl,rfl,K.keeps⟩)
 rw [at?_none h1] at hy
 subst hy
 refine aA.callV (fun Ez Hz Az Sz K=>rT a.inn (rws It.row s.items).length (by rw [lI];exact h1)) ?_
 conv=>whnf
 refine sqs ?_
 refine aA.retU (aB.ret tab Tryz.func45 rfl fun _ _ _ _ K=>⟨_,rfl,rfl,K.keeps⟩)
theorem aFK {h:Array Obj} (s:aG) {vU vI vP vM vO vF vR vS:Value} (hs:Top h vU vI vP vM vO vF vR vS s) (hw:s.wf) (a:Am) (ha:a.wf) (hT:gN h):FnV Tryz.prog 19 #[xY vU vI vP vM vO vF vR vS,amV a] h fun r h'=>r=rev (nR s a)∧aH h.size h h':=by
 have lU:=aZ s.units
 have lI:=aE It.row s.items
 have lP:=cK s.plants
 have lM:=aE Mc.row s.machines
 have lO:=aE OpV.row s.options
 have lF:=aE FbV.row s.forbids
 have lR:=aE RcV.row s.recipes
 have lS:=aE Sw.row s.swaps
 obtain ⟨y,hy⟩:∃y,y=nR s a:=⟨_,rfl⟩
 rw [←hy]
 unfold nR at hy
 refine Fn.ofG (mJ [vU,vI,vP,vM,vO,vF,vR,vS]) 8 [.agg [.buf 0,.buf 1,.buf 2,.buf 3,.buf 4,.buf 5,.buf 6,.buf 7],.agg (toV a.row)] [(0,.ro (8) (aL s.units)),(1,.ro (6) (rws It.row s.items)),(2,.ro (1) (bV s.plants)),(3,.ro (4) (rws Mc.row s.machines)),(4,.ro (2) (rws OpV.row s.options)),(5,.ro (1) (rws FbV.row s.forbids)),(6,.ro (17) (rws RcV.row s.recipes)),(7,.ro (4) (rws Sw.row s.swaps))] (fun k=>k<_) Tryz.func19 (by kernel_rfl) rfl Tryz.ntmps19 rfl (fun _ hk=>hk) (Sat.ros (vs:=[vU,vI,vP,vM,vO,vF,vR,vS]) (l:=[(8,aL s.units),(6,rws It.row s.items),(1,bV s.plants),(4,rws Mc.row s.machines),(2,rws OpV.row s.options),(1,rws FbV.row s.forbids),(17,rws RcV.row s.recipes),(4,rws Sw.row s.swaps)]) ⟨hs.U,hs.I,hs.P,hs.M,hs.O,hs.F,hs.R,hs.S,trivial⟩) fun w0 cs=>?_
 conv=>whnf
 refine gS ?_;conv=>whnf
 refine aA.callV (fun Ez Hz Az Sz K=>tAmt_fn s ⟨Sz.ro (b:=0) rfl,Sz.ro (b:=1) rfl,Sz.ro (b:=2) rfl,Sz.ro (b:=3) rfl,Sz.ro (b:=4) rfl,Sz.ro (b:=5) rfl,Sz.ro (b:=6) rfl,Sz.ro (b:=7) rfl,hs.below.up (Up.kp K)⟩ hw a ha (hT.keeps ⟨K.size,K.same⟩)) ?_
 conv=>whnf
 refine sqs ?_
 refine ⟨fun h0=>?_,fun h0=>?_⟩<;>conv=>whnf
 ·conv=>whnf
  rw [if_neg (fun h=>h h0)] at hy
  have h1:idx a.inn s.items.length:=Decidable.byContradiction fun h1=>by
   unfold aDL at h0
   rw [at?_none h1] at h0
   exact absurd (show (120:Int)=0 from h0) (by omega)
  obtain ⟨k,e,hk,e3⟩:=at?_idx h1
  rw [e3] at hy
  dsimp only at hy
  have hi:=hw.I _ (List.getElem_mem hk)
  refine aA.join (fun (_:Unit)=>[(7,.ptr 12 0),(6,.ptr 11 0),(5,.v (.int .i64 (eU s.items[k].mn s.items[k].md).2)),(4,.ptr 10 0)]) (fun (_:Unit)=>[rtB 12 (eU s.items[k].mn s.items[k].md).1,rtB 11 (aDL s a).1,zrC 10]) 13 (fun (_:Unit)=>True) ?_ (fun meet=>?_)
  rotate_left
  ·refine aA.held tab (.fl 0 (.fl 1 (.fl 2 (.fl 3 (.fl 4 (.fl 5 (.fl 6 (.fl 7 (.fl 8 (.fl 9 (.fl 10 (.fl 11 (.fl 12 (.fl 13 (.e2 14 [] (.fl 15 (.fl 16 (.fl 17 (.e1 18 [1,3,6,8,10,13] (.e1 19 [] (.fl 20 .done)))))) 18 [1,3,6,8,10,13] (.e1 14 [] (.fl 15 (.fl 16 (.fl 17 (.e1 19 [] (.fl 20 .done))))))))))))))))))))) (by kernel_rfl) ?_
   conv=>whnf
   refine mE ?_
   conv=>whnf
   refine ⟨_,(by rw [e];exact bA hk),?_⟩;conv=>whnf
   try (refine oN ?_;conv=>whnf)
   conv=>whnf
   refine ⟨_,(by rw [e];exact bA hk),?_⟩;conv=>whnf
   refine ⟨?_,?_⟩<;>conv=>whnf
   ·refine aK.callV (fun Ez Hz Az Sz K=>iC s.items[k].mn s.items[k].md hi.1 hi.2.1 (hT.keeps ⟨K.size,K.same⟩)) (by (conv=>whnf);(repeat (guard_target=_∧_;refine And.intro (by (conv=>whnf);first|rfl|exact trivial) ?_;conv=>whnf));exact trivial) ?_
    conv=>whnf
    refine mE ?_
    refine sqs ?_
    refine aA.subR [] (meet (()) (by first|trivial|omega|((try dsimp only);omega))) sH sH
   refine mE ?_
   conv=>whnf
   refine aK.callV (fun Ez Hz Az Sz K=>iC s.items[k].mn s.items[k].md hi.1 hi.2.1 (hT.keeps ⟨K.size,K.same⟩)) (by (conv=>whnf);(repeat (guard_target=_∧_;refine And.intro (by (conv=>whnf);first|rfl|exact trivial) ?_;conv=>whnf));exact trivial) ?_
   conv=>whnf
   refine mE ?_
   refine sqs ?_
   refine aA.subR [] (meet (()) (by first|trivial|omega|((try dsimp only);omega))) sH sH
  intro _ _
  refine sqs ?_
  refine ⟨fun h2=>?_,fun h2=>?_⟩<;>conv=>whnf
  ·conv=>whnf
   rw [if_neg (fun h=>h h2)] at hy
   refine aA.callV (fun Ez Hz Az Sz K=>nT (aDL s a).1 (eU s.items[k].mn s.items[k].md).1 (hT.keeps ⟨K.size,K.same⟩)) ?_
   conv=>whnf
   refine sqs ?_
   subst hy
   refine aA.retU (aB.ret tab Tryz.func19 rfl fun _ _ _ _ K=>⟨_,rfl,rfl,K.keeps⟩)
  conv=>whnf
  rw [if_pos h2] at hy
  subst hy
  refine aA.retU (aB.ret tab Tryz.func19 rfl fun _ _ _ _ K=>⟨_,rfl,rfl,K.keeps⟩)
 conv=>whnf
 rw [if_pos h0] at hy
 subst hy
 refine aA.retU (aB.ret tab Tryz.func19 rfl fun _ _ _ _ K=>⟨_,rfl,rfl,K.keeps⟩)




theorem aTB {h:Array Obj} (s:aG) {vU vI vP vM vO vF vR vS:Value} (hs:Top h vU vI vP vM vO vF vR vS s):FnV Tryz.prog 28 #[xY vU vI vP vM vO vF vR vS] h fun r h'=>r=.bool (decide (FewT s))∧aH h.size h h':=by
 have lU:=aZ s.units
 have lI:=aE It.row s.items
 have lP:=cK s.plants
 have lM:=aE Mc.row s.machines
 have lO:=aE OpV.row s.options
 have lF:=aE FbV.row s.forbids
 have lR:=aE RcV.row s.recipes
 have lS:=aE Sw.row s.swaps
 have mU:=hs.U.len
 have mO:=hs.O.len
 have mF:=hs.F.len
 have mR:=hs.R.len
 obtain ⟨r,hr⟩:∃r,r=decide (FewT s):=⟨_,rfl⟩
 rw [←hr]
 refine Fn.ofG (mJ [vU,vI,vP,vM,vO,vF,vR,vS]) 8 [.agg [.buf 0,.buf 1,.buf 2,.buf 3,.buf 4,.buf 5,.buf 6,.buf 7]] [(0,.ro (8) (aL s.units)),(1,.ro (6) (rws It.row s.items)),(2,.ro (1) (bV s.plants)),(3,.ro (4) (rws Mc.row s.machines)),(4,.ro (2) (rws OpV.row s.options)),(5,.ro (1) (rws FbV.row s.forbids)),(6,.ro (17) (rws RcV.row s.recipes)),(7,.ro (4) (rws Sw.row s.swaps))] (fun k=>k<_) Tryz.func28 (by kernel_rfl) rfl Tryz.ntmps28 rfl (fun _ hk=>hk) (Sat.ros (vs:=[vU,vI,vP,vM,vO,vF,vR,vS]) (l:=[(8,aL s.units),(6,rws It.row s.items),(1,bV s.plants),(4,rws Mc.row s.machines),(2,rws OpV.row s.options),(1,rws FbV.row s.forbids),(17,rws RcV.row s.recipes),(4,rws Sw.row s.swaps)]) ⟨hs.U,hs.I,hs.P,hs.M,hs.O,hs.F,hs.R,hs.S,trivial⟩) fun w0 cs=>?_
 conv=>whnf
 refine gS ?_;conv=>whnf
 refine aA.subR [] (aA.loop (fun (k:Nat)=>[(3,.v (.int .i64 k)),(1,.ptr 8 0)]) (fun (k:Nat)=>[(8,.cells 31 [.buf 0,.buf 1,.buf 2,.buf 3,.buf 4,.buf 5,.buf 6,.buf 7]),(0,.ro 8 (aL s.units)),(1,.ro 6 (rws It.row s.items)),(2,.ro 1 (bV s.plants)),(3,.ro 4 (rws Mc.row s.machines)),(4,.ro 2 (rws OpV.row s.options)),(5,.ro 1 (rws FbV.row s.forbids)),(6,.ro 17 (rws RcV.row s.recipes)),(7,.ro 4 (rws Sw.row s.swaps))]) 9 (fun (k:Nat)=>k≤s.units.length ∧ ∀o∈s.units.take k,o.scale.n.size≤60∧o.scale.d.size≤60) (fun (k:Nat)=>s.units.length - k) ?round5 (0) ?J05) sH sH
 case J05=>exact (⟨Nat.zero_le _,by simp⟩)
 rintro k hJ back
 try dsimp only at hJ back
 conv=>whnf
 try dsimp only
 refine gS ?_;conv=>whnf
 refine ⟨fun hk=>?_,fun hk=>?_⟩<;>conv=>whnf
 ·have hk:k<s.units.length:=by omega
  refine cG ?_
  refine ⟨_,dK hk,?_⟩;conv=>whnf
  by_cases t1:s.units[k].scale.n.size≤60
  rotate_left
  ·try intro _
   refine cG ?_
   have:r=false:=by rw [hr];exact decide_eq_false fun h=>t1 (h.1 _ (List.getElem_mem hk)).1
   rw [this]
   refine aA.retU (aB.ret tab Tryz.func28 rfl fun _ _ _ _ K=>⟨_,rfl,rfl,K.keeps⟩)
  try intro _
  refine cG ?_
  refine ⟨_,dK hk,?_⟩;conv=>whnf
  by_cases t2:s.units[k].scale.d.size≤60
  rotate_left
  ·try intro _
   refine cG ?_
   have:r=false:=by rw [hr];exact decide_eq_false fun h=>t2 (h.1 _ (List.getElem_mem hk)).2
   rw [this]
   refine aA.retU (aB.ret tab Tryz.func28 rfl fun _ _ _ _ K=>⟨_,rfl,rfl,K.keeps⟩)
  try intro _
  refine cG ?_
  refine aA.subR [] (back (k+1) (by exact (⟨hk,vD hk hJ.2 ⟨t1,t2⟩⟩)) (by (try dsimp only);omega)) sH sH
 have hk:k=s.units.length:=by omega
 have hU:=hJ.2
 rw [hk,List.take_length] at hU
 clear back hJ mU
 conv=>whnf
 refine aA.subR [] (aA.loop (fun (k:Nat)=>[(4,.v (.int .i64 k)),(1,.ptr 8 0)]) (fun (k:Nat)=>[(8,.cells 31 [.buf 0,.buf 1,.buf 2,.buf 3,.buf 4,.buf 5,.buf 6,.buf 7]),(0,.ro 8 (aL s.units)),(1,.ro 6 (rws It.row s.items)),(2,.ro 1 (bV s.plants)),(3,.ro 4 (rws Mc.row s.machines)),(4,.ro 2 (rws OpV.row s.options)),(5,.ro 1 (rws FbV.row s.forbids)),(6,.ro 17 (rws RcV.row s.recipes)),(7,.ro 4 (rws Sw.row s.swaps))]) 9 (fun (k:Nat)=>k≤s.options.length ∧ ∀o∈s.options.take k,o.ch.length≤6) (fun (k:Nat)=>s.options.length - k) ?round7 (0) ?J07) sH sH
 case J07=>exact (⟨Nat.zero_le _,by simp⟩)
 rintro k hJ back
 conv=>whnf
 refine gS ?_;conv=>whnf
 refine ⟨fun hk=>?_,fun hk=>?_⟩<;>conv=>whnf
 ·have hk:k<s.options.length:=by omega
  refine cG ?_
  refine ⟨_,bA hk,?_⟩;conv=>whnf
  by_cases t1:s.options[k].ch.length≤6
  rotate_left
  ·try intro _
   refine cG ?_
   have:r=false:=by rw [hr];exact decide_eq_false fun h=>t1 (h.2.1 _ (List.getElem_mem hk))
   rw [this]
   refine aA.retU (aB.ret tab Tryz.func28 rfl fun _ _ _ _ K=>⟨_,rfl,rfl,K.keeps⟩)
  try intro _
  refine cG ?_
  refine aA.subR [] (back (k+1) (by exact (⟨hk,vD hk hJ.2 t1⟩)) (by (try dsimp only);omega)) sH sH
 have hk:k=s.options.length:=by omega
 have hO:=hJ.2
 rw [hk,List.take_length] at hO
 clear back hJ mO
 conv=>whnf
 refine aA.subR [] (aA.loop (fun (k:Nat)=>[(5,.v (.int .i64 k)),(1,.ptr 8 0)]) (fun (k:Nat)=>[(8,.cells 31 [.buf 0,.buf 1,.buf 2,.buf 3,.buf 4,.buf 5,.buf 6,.buf 7]),(0,.ro 8 (aL s.units)),(1,.ro 6 (rws It.row s.items)),(2,.ro 1 (bV s.plants)),(3,.ro 4 (rws Mc.row s.machines)),(4,.ro 2 (rws OpV.row s.options)),(5,.ro 1 (rws FbV.row s.forbids)),(6,.ro 17 (rws RcV.row s.recipes)),(7,.ro 4 (rws Sw.row s.swaps))]) 9 (fun (k:Nat)=>k≤s.forbids.length ∧ ∀o∈s.forbids.take k,o.cs.length≤8) (fun (k:Nat)=>s.forbids.length - k) ?round9 (0) ?J09) sH sH
 case J09=>exact (⟨Nat.zero_le _,by simp⟩)
 rintro k hJ back
 conv=>whnf
 refine gS ?_;conv=>whnf
 refine ⟨fun hk=>?_,fun hk=>?_⟩<;>conv=>whnf
 ·have hk:k<s.forbids.length:=by omega
  refine cG ?_
  refine ⟨_,bA hk,?_⟩;conv=>whnf
  by_cases t1:s.forbids[k].cs.length≤8
  rotate_left
  ·try intro _
   refine cG ?_
   have:r=false:=by rw [hr];exact decide_eq_false fun h=>t1 (h.2.2.1 _ (List.getElem_mem hk))
   rw [this]
   refine aA.retU (aB.ret tab Tryz.func28 rfl fun _ _ _ _ K=>⟨_,rfl,rfl,K.keeps⟩)
  try intro _
  refine cG ?_
  refine aA.subR [] (back (k+1) (by exact (⟨hk,vD hk hJ.2 t1⟩)) (by (try dsimp only);omega)) sH sH
 have hk:k=s.forbids.length:=by omega
 have hF:=hJ.2
 rw [hk,List.take_length] at hF
 clear back hJ mF
 conv=>whnf
 refine aA.subR [] (aA.loop (fun (k:Nat)=>[(6,.v (.int .i64 k)),(1,.ptr 8 0)]) (fun (k:Nat)=>[(8,.cells 31 [.buf 0,.buf 1,.buf 2,.buf 3,.buf 4,.buf 5,.buf 6,.buf 7]),(0,.ro 8 (aL s.units)),(1,.ro 6 (rws It.row s.items)),(2,.ro 1 (bV s.plants)),(3,.ro 4 (rws Mc.row s.machines)),(4,.ro 2 (rws OpV.row s.options)),(5,.ro 1 (rws FbV.row s.forbids)),(6,.ro 17 (rws RcV.row s.recipes)),(7,.ro 4 (rws Sw.row s.swaps))]) 9 (fun (k:Nat)=>k≤s.recipes.length ∧ ∀o∈s.recipes.take k,o.cs.length≤8∧o.inn.length≤10∧o.out.length≤10∧o.runs.length≤20) (fun (k:Nat)=>s.recipes.length - k) ?round11 (0) ?J011) sH sH
 case J011=>exact (⟨Nat.zero_le _,by simp⟩)
 rintro k hJ back
 conv=>whnf
 refine gS ?_;conv=>whnf
 refine ⟨fun hk=>?_,fun hk=>?_⟩<;>conv=>whnf
 ·have hk:k<s.recipes.length:=by omega
  refine cG ?_
  refine ⟨_,bA hk,?_⟩;conv=>whnf
  try (refine oN ?_;conv=>whnf)
  by_cases t1:s.recipes[k].cs.length≤8
  rotate_left
  ·try intro _
   refine cG ?_
   have:r=false:=by rw [hr];exact decide_eq_false fun h=>t1 (h.2.2.2.1 _ (List.getElem_mem hk)).1
   rw [this]
   refine aA.retU (aB.ret tab Tryz.func28 rfl fun _ _ _ _ K=>⟨_,rfl,rfl,K.keeps⟩)
  try intro _
  refine cG ?_
  by_cases t2:s.recipes[k].inn.length≤10
  rotate_left
  ·try intro _
   refine cG ?_
   have:r=false:=by rw [hr];exact decide_eq_false fun h=>t2 (h.2.2.2.1 _ (List.getElem_mem hk)).2.1
   rw [this]
   refine aA.retU (aB.ret tab Tryz.func28 rfl fun _ _ _ _ K=>⟨_,rfl,rfl,K.keeps⟩)
  try intro _
  refine cG ?_
  by_cases t3:s.recipes[k].out.length≤10
  rotate_left
  ·try intro _
   refine cG ?_
   have:r=false:=by rw [hr];exact decide_eq_false fun h=>t3 (h.2.2.2.1 _ (List.getElem_mem hk)).2.2.1
   rw [this]
   refine aA.retU (aB.ret tab Tryz.func28 rfl fun _ _ _ _ K=>⟨_,rfl,rfl,K.keeps⟩)
  try intro _
  refine cG ?_
  by_cases t4:s.recipes[k].runs.length≤20
  rotate_left
  ·try intro _
   refine cG ?_
   have:r=false:=by rw [hr];exact decide_eq_false fun h=>t4 (h.2.2.2.1 _ (List.getElem_mem hk)).2.2.2
   rw [this]
   refine aA.retU (aB.ret tab Tryz.func28 rfl fun _ _ _ _ K=>⟨_,rfl,rfl,K.keeps⟩)
  try intro _
  refine cG ?_
  refine aA.subR [] (back (k+1) (by exact (⟨hk,vD hk hJ.2 ⟨t1,t2,t3,t4⟩⟩)) (by (try dsimp only);omega)) sH sH
 have hk:k=s.recipes.length:=by omega
 have hR:=hJ.2
 rw [hk,List.take_length] at hR
 clear back hJ mR
 by_cases c1:s.units.length≤40
 rotate_left
 ·refine cG ?_
  have:r=false:=by rw [hr];exact decide_eq_false fun h=>c1 h.2.2.2.2.1
  rw [this]
  refine aA.retU (aB.ret tab Tryz.func28 rfl fun _ _ _ _ K=>⟨_,rfl,rfl,K.keeps⟩)
 by_cases c2:s.items.length≤40
 rotate_left
 ·refine cG ?_
  have:r=false:=by rw [hr];exact decide_eq_false fun h=>c2 h.2.2.2.2.2.1
  rw [this]
  refine aA.retU (aB.ret tab Tryz.func28 rfl fun _ _ _ _ K=>⟨_,rfl,rfl,K.keeps⟩)
 by_cases c3:s.plants.length≤10
 rotate_left
 ·refine cG ?_
  have:r=false:=by rw [hr];exact decide_eq_false fun h=>c3 h.2.2.2.2.2.2.1
  rw [this]
  refine aA.retU (aB.ret tab Tryz.func28 rfl fun _ _ _ _ K=>⟨_,rfl,rfl,K.keeps⟩)
 by_cases c4:s.machines.length≤20
 rotate_left
 ·refine cG ?_
  have:r=false:=by rw [hr];exact decide_eq_false fun h=>c4 h.2.2.2.2.2.2.2.1
  rw [this]
  refine aA.retU (aB.ret tab Tryz.func28 rfl fun _ _ _ _ K=>⟨_,rfl,rfl,K.keeps⟩)
 by_cases c5:s.options.length≤8
 rotate_left
 ·refine cG ?_
  have:r=false:=by rw [hr];exact decide_eq_false fun h=>c5 h.2.2.2.2.2.2.2.2.1
  rw [this]
  refine aA.retU (aB.ret tab Tryz.func28 rfl fun _ _ _ _ K=>⟨_,rfl,rfl,K.keeps⟩)
 by_cases c6:s.forbids.length≤20
 rotate_left
 ·refine cG ?_
  have:r=false:=by rw [hr];exact decide_eq_false fun h=>c6 h.2.2.2.2.2.2.2.2.2.1
  rw [this]
  refine aA.retU (aB.ret tab Tryz.func28 rfl fun _ _ _ _ K=>⟨_,rfl,rfl,K.keeps⟩)
 by_cases c7:s.recipes.length≤70
 rotate_left
 ·refine cG ?_
  have:r=false:=by rw [hr];exact decide_eq_false fun h=>c7 h.2.2.2.2.2.2.2.2.2.2.1
  rw [this]
  refine aA.retU (aB.ret tab Tryz.func28 rfl fun _ _ _ _ K=>⟨_,rfl,rfl,K.keeps⟩)
 by_cases c8:s.swaps.length≤70
 rotate_left
 ·refine cG ?_
  have:r=false:=by rw [hr];exact decide_eq_false fun h=>c8 h.2.2.2.2.2.2.2.2.2.2.2
  rw [this]
  refine aA.retU (aB.ret tab Tryz.func28 rfl fun Ez Hz Az Sz K=>⟨_,rfl,congrArg Value.bool (decide_eq_false (by omega)),K.keeps⟩)
 refine cG ?_
 have:r=true:=by rw [hr];exact decide_eq_true ⟨hU,hO,hF,hR,c1,c2,c3,c4,c5,c6,c7,c8⟩
 rw [this]
 refine aA.retU (aB.ret tab Tryz.func28 rfl fun Ez Hz Az Sz K=>⟨_,rfl,congrArg Value.bool (decide_eq_true (by omega)),K.keeps⟩)


end Go.Proofs.YthjedpdedjhndaaGreatDoor

namespace Go.Proofs.YthjedpdedjhndaaGreatDoor
open Go Go.Fw
set_option maxRecDepth 100000
set_option maxHeartbeats 99999999
def cls (c:Nat):Int:=
 if (97≤c∧c≤122)∨(65≤c∧c≤90) then 2 else if 48≤c∧c≤57 then 3
 else if c=32∨c=9∨c=10∨c=13 then 1
 else if c ∈ [123,125,40,41,44,59,61,35,47,60,33,45,46,58,43] then 4 else 0
def clsS:List SV:=(List.range 256).map fun c=>.v (.int .i64 (cls c))
def scanS:List SV:=[.v (.func (.func 145) #[] #[]),.v (.func (.func 146) #[] #[]),.v (.func (.func 147) #[] #[]),.v (.func (.func 148) #[] #[]),.v (.func (.func 149) #[] #[])]
def scn (src:ByteArray) (pos:Int) (toks:SV):List SV:=.v (.string src)::.v (.int .i64 pos)::(clsS++(scanS++[toks]))
theorem aZQ {c:Nat} (hc:c<256) (r:List SV):nth (clsS++r) c=some (.v (.int .i64 (cls c))):=by
 rw [fW,List.getElem?_append_left (by simpa [clsS] using hc)]
 simp [clsS,hc]
theorem aLT {src:ByteArray} {pos:Int} {toks:SV} {c:Nat} (hc:c<256):nth (scn src pos toks) (0+(1+1)+((c:Int)).toNat*1)=some (.v (.int .i64 (cls c))):=by
 rw [show 0+(1+1)+((c:Int)).toNat*1=c+1+1 by simp;omega]
 exact aZQ hc _
abbrev scB (src:ByteArray) (pos:Int) (b:Nat:=1):Nat×Fw.Blk:=(0,.cells 206 (scn src pos (.buf b)))
def xW (pos:Int):List PanicEntry:=[{v:=.iface 198 (.int .i64 pos),recovered:=false}]
theorem yX (src:ByteArray) (pos:Int):FnS Tryz.prog 145 2 [.ptr 0 0] [scB src pos] (fun _:Unit=>True) (fun _=>.pan (xW pos) 2 [scB src pos]):=by
 refine FnS.of Tryz.func145 (by kernel_rfl) rfl Tryz.ntmps145 rfl fun E0 F h w0 cs=>?_
 conv=>whnf
 refine gS ?_;conv=>whnf
 try refine aA.panicU ?_
 exact aB.pan Tryz.func145 (aT.mk (()) (trivial) [] sH rfl rfl (aQ rfl))
theorem pass_fn (src:ByteArray) (pos:Int) (hp:0≤pos∧pos<9223372036854775807):FnS Tryz.prog 146 2 [.ptr 0 0] [scB src pos] (fun _:Unit=>True) (fun _=>.ret (.tup []) 2 [scB src (pos+1)]):=by
 refine FnS.of Tryz.func146 (by kernel_rfl) rfl Tryz.ntmps146 rfl fun E0 F h w0 cs=>?_
 conv=>whnf
 refine sqtC ?_
 try refine aA.finU ?_
 exact aB.ret tab Tryz.func146 rfl (eN () trivial)
def gE (s:ByteArray) (p:Nat→Bool) (i:Nat):Nat:=if h:i<s.size then (if p (aY s i) then gE s p (i+1) else i) else i
termination_by s.size - i
theorem oE (s:ByteArray) (i:Nat):aY s i<256:=UInt8.toNat_lt _
def iF (a b f:Int) (c:Nat):Bool:=decide (cls c=a)||decide (cls c=b)||decide ((c:Int)=f)
theorem bCI (src:ByteArray) (hs:src.size≤65536) (pos:Nat) (hp:pos≤src.size) (a b f:Int):FnS Tryz.prog 242 2 [.ptr 0 0,.v (.int .i64 a),.v (.int .i64 b),.v (.int .u8 f)] [scB src pos] (fun _:Unit=>True)
  (fun _=>.ret (.v (.int .i64 (gE src (iF a b f) pos))) 2 [scB src pos]):=by
 obtain ⟨r,hr⟩:∃r,r=gE src (iF a b f) pos:=⟨_,rfl⟩
 rw [←hr]
 refine FnS.of Tryz.func242 (by kernel_rfl) rfl Tryz.ntmps242 rfl fun E0 F h w0 cs=>?_
 conv=>whnf
 refine gS ?_;conv=>whnf
 refine aA.subR [] (aA.loop (fun (i:Nat)=>[(9,.v (.int .i64 i)),(3,.v (.int .u8 f)),(2,.v (.int .i64 b)),(1,.v (.int .i64 a)),(0,.ptr 0 0)]) (fun (i:Nat)=>[scB src pos]) 2 (fun (i:Nat)=>i≤src.size∧r=gE src (iF a b f) i) (fun (i:Nat)=>src.size - i) ?round1 (pos) ?J01) sH sH
 case J01=>exact (⟨by omega,hr⟩)
 rintro i hJ back
 conv=>whnf
 refine gS ?_;conv=>whnf
 refine ⟨fun hk=>?_,fun hk=>?_⟩<;>conv=>whnf
 ·obtain ⟨c,hc⟩:∃c,c=aY src ((i:Int)).toNat:=⟨_,rfl⟩
  have hb:c<256:=by rw [hc];exact oE src i
  rw [←hc]
  refine cG ?_
  have hc':c=aY src i:=hc
  have go:iF a b f c=true→r=gE src (iF a b f) (i+1):=fun hp=>by
   have hu:=hJ.2
   unfold gE at hu
   rw [dif_pos (by omega),←hc',if_pos hp] at hu
   exact hu
  have no:iF a b f c=false→r=i:=fun hp=>by
   have hu:=hJ.2
   unfold gE at hu
   rw [dif_pos (by omega),←hc',if_neg (by rw [hp];simp)] at hu
   exact hu
  rw [aNY (aLT hb) (by rfl) (by rfl) (by rfl)]
  conv=>whnf
  refine ⟨fun h1=>?_,fun h1=>?_⟩<;>conv=>whnf
  ·refine cG ?_
   refine aA.subR [] (back (i+1) (by exact (⟨by omega,go (by simp [iF,h1])⟩)) (by (try dsimp only);omega)) sH sH
  refine cG ?_
  rw [aNY (aLT hb) (by rfl) (by rfl) (by rfl)]
  conv=>whnf
  refine ⟨fun h2=>?_,fun h2=>?_⟩<;>conv=>whnf
  ·refine cG ?_
   refine aA.subR [] (back (i+1) (by exact (⟨by omega,go (by simp [iF,h2])⟩)) (by (try dsimp only);omega)) sH sH
  conv=>whnf
  refine ⟨fun h3=>?_,fun h3=>?_⟩<;>conv=>whnf
  ·refine cG ?_
   refine aA.subR [] (back (i+1) (by exact (⟨by omega,go (by simp [iF,h3])⟩)) (by (try dsimp only);omega)) sH sH
  conv=>whnf
  rw [no (by simp [iF,h1,h2,h3])]
  try refine aA.retU ?_
  exact aB.ret tab Tryz.func242 rfl (eN () trivial)
 conv=>whnf
 have hu:=hJ.2
 rw [show i=src.size by omega] at hu ⊢
 unfold gE at hu
 rw [dif_neg (by omega)] at hu
 rw [←hu]
 try refine aA.retU ?_
 exact aB.ret tab Tryz.func242 rfl (eN () trivial)
structure Tok where
 kind:Int
 pos:Int
 text:ByteArray
 n:Int
def Tok.row (t:Tok):List Value:=[.int .i64 t.kind,.int .i64 t.pos,.string t.text,.int .i64 t.n]
def Tok.s (t:Tok):SV:=.agg [.v (.int .i64 t.kind),.v (.int .i64 t.pos),.v (.string t.text),.v (.int .i64 t.n)]
theorem aRT (src:ByteArray) (pos:Int) (l:List Tok) (hl:l.length≤65536) (t:Tok) (e:Int):FnS Tryz.prog 243 2 [.ptr 0 0,.agg [.v (.int .i64 t.kind),.v (.int .i64 t.pos),.v (.string t.text),.v (.int .i64 t.n)],.v (.int .i64 e)] [scB src pos,(1,.own 158 4 (l.map Tok.row))] (fun _:Unit=>True)
  (fun _=>.ret (.tup []) 3 [scB src e 2,(2,.own 158 4 ((l++[{t with pos:=pos}]).map Tok.row))]):=by
 refine FnS.of Tryz.func243 (by kernel_rfl) rfl Tryz.ntmps243 rfl fun E0 F h w0 cs=>?_
 conv=>whnf
 refine gS ?_;conv=>whnf
 have hlen:(l.map Tok.row).length=l.length:=by simp
 refine aA.held tab (.fl 0 (.fl 1 (.fl 2 (.fl 3 (.fl 4 (.fl 5 (.e1 6 [4] (.e1 7 [] (.fl 8 (.fl 9 (.e1 10 [] .done))))))))))) (by kernel_rfl) ?_;conv=>whnf
 refine mE ?_
 conv=>whnf
 refine And.intro ⟨Nat.one_pos,(show (l.map Tok.row).length+1≤9223372036854775807 by omega),(show ((l.map Tok.row).length+1)*40≤140737488355328 by omega),by decide⟩ ?_
 refine xE ?_
 refine sqs ?_
 have key:l.map Tok.row++qR 4 1 [Value.int .i64 t.kind,.int .i64 pos,.string t.text,.int .i64 t.n]=(l++[{t with pos:=pos}]).map Tok.row:=by
  rw [List.map_append];rfl
 refine aA.subR (nx':=5) (l':=[]) (H':=[(4,.own 158 4 ((l++[{t with pos:=pos}]).map Tok.row)),scB src e 4]) [] ?_ trivial ⟨congrArg (fun r=>some (Fw.Blk.own _ 4 r)) key,by rfl,trivial⟩
 try refine aA.finU ?_
 exact aB.ret tab Tryz.func243 rfl (aT.mk (()) (trivial) [(2,4)] sH rfl rfl (bH rfl rfl))
theorem aJK (s:ByteArray) (p:Nat→Bool) (i:Nat):i≤gE s p i:=by
 induction h:s.size - i generalizing i with
 |zero=>
  unfold gE
  rw [dif_neg (by omega)]
  omega
 |succ n ih=>
  unfold gE
  split
  ·split
   ·exact Nat.le_trans (Nat.le_succ i) (ih (i+1) (by omega))
   omega
  omega
theorem zL (s:ByteArray) (p:Nat→Bool) (i:Nat) (hi:i≤s.size):gE s p i≤s.size:=by
 induction h:s.size - i generalizing i with
 |zero=>
  unfold gE
  rw [dif_neg (by omega)]
  omega
 |succ n ih=>
  unfold gE
  split
  ·split
   ·exact ih (i+1) (by omega) (by omega)
   omega
  omega
def kD (l:List Tok) (b:Nat):Nat×Fw.Blk:=(b,.own 158 4 (l.map Tok.row))
def endO (src:ByteArray) (pos e:Nat) (l:List Tok) (t:Tok) (bad:Prop) [Decidable bad]:eR:=
 if bad then .pan (xW pos) 2 [scB src pos,kD l 1] else .ret (.tup []) 3 [scB src e 2,kD (l++[{t with pos:=pos}]) 2]
def qU (src:ByteArray) (pos:Nat):Nat:=gE src (iF 2 3 95) pos
theorem aTA (src:ByteArray) (hs:src.size≤65536) (pos:Nat) (hp:pos≤src.size) (l:List Tok) (hl:l.length≤65536):FnS Tryz.prog 147 2 [.ptr 0 0] [scB src pos,kD l 1] (fun _:Unit=>True)
  (fun _=>endO src pos (qU src pos) l ⟨1,0,src.extract pos (qU src pos),0⟩ (32<qU src pos - pos)):=by
 obtain ⟨e,he⟩:∃e,e=qU src pos:=⟨_,rfl⟩
 have h1:pos≤e:=he▸aJK _ _ _
 have h2:e≤src.size:=he▸zL _ _ _ hp
 rw [←he]
 obtain ⟨o,ho⟩:∃o,o=endO src pos e l ⟨1,0,src.extract pos e,0⟩ (32<e - pos):=⟨_,rfl⟩
 rw [←ho]
 unfold endO at ho
 refine FnS.of Tryz.func147 (by kernel_rfl) rfl Tryz.ntmps147 rfl fun E0 F h w0 cs=>?_
 conv=>whnf
 refine gS ?_;conv=>whnf
 refine aA.callN (bCI src hs pos hp 2 3 95) [0,1] ?_ sH ?CNa5
 case CNa5=>rfl
 intro _ _
 conv=>whnf
 refine sqs ?_
 rw [show gE src (iF 2 3 95) pos=e from he.symm]
 refine cG ?_
 refine ⟨fun hb=>?_,fun hb=>?_⟩<;>conv=>whnf
 ·rw [if_pos (by omega)] at ho
  subst ho
  conv=>whnf
  refine aA.callN (yX src pos) [0,1] ?_ sH ?CNa6
  case CNa6=>rfl
  intro _ _
  conv=>whnf
  exact aB.pan Tryz.func147 (aT.mk (()) (trivial) [] sH rfl rfl (aQ rfl))
 rw [if_neg (by omega)] at ho
 subst ho
 conv=>whnf
 refine aA.held tab (.fl 0 (.fl 1 (.fl 2 (.fl 3 (.fl 4 (.fl 5 (.fl 6 (.fl 7 (.fl 8 (.fl 9 (.fl 10 (.fl 11 (.fl 12 (.e1 13 [] .done)))))))))))))) (by kernel_rfl) ?_;conv=>whnf
 refine mE ?_
 conv=>whnf
 refine aK.callN (aRT src pos l hl ⟨1,0,src.extract pos e,0⟩ e) [0,1] ?_ sH ?CNa7
 case CNa7=>rfl
 intro _ _
 conv=>whnf
 try refine oB ?_
 refine sqr ?_
 refine sqs ?_
 try refine aA.finU ?_
 exact aB.ret tab Tryz.func147 rfl (aT.mk (()) (trivial) [(2,2)] sH rfl rfl (bH rfl rfl))

def uL (s:ByteArray) (e i acc:Nat):Option Nat:=
 if i<e then (if 10*acc+(aY s i - 48)≤1099511627776 then uL s e (i+1) (10*acc+(aY s i - 48)) else none) else some acc
termination_by e - i
def aAL (src:ByteArray) (pos:Nat):Nat:=gE src (iF 3 3 48) pos
def numO (src:ByteArray) (pos e:Nat) (l:List Tok):eR:=
 if 1<e - pos∧aY src pos=48 then .pan (xW pos) 2 [scB src pos,kD l 1] else
 match uL src e pos 0 with
 |none=>.pan (xW pos) 2 [scB src pos,kD l 1]
 |some n=>.ret (.tup []) 3 [scB src e 2,kD (l++[⟨2,pos,⟨#[]⟩,n⟩]) 2]
theorem runE_in (s:ByteArray) (p:Nat→Bool) (i:Nat):∀j,i≤j→j<gE s p i→p (aY s j)=true:=by
 induction h:s.size - i generalizing i with
 |zero=>
  intro j h1 h2
  unfold gE at h2
  rw [dif_neg (by omega)] at h2
  omega
 |succ n ih=>
  intro j h1 h2
  unfold gE at h2
  rw [dif_pos (by omega)] at h2
  split at h2
  ·rename_i hp
   by_cases hj:j=i
   ·rw [hj];exact hp
   exact ih (i+1) (by omega) j (by omega) h2
  omega
theorem bAH {c:Nat} (h:iF 3 3 48 c=true):48≤c∧c≤57:=by
 simp only [iF,Bool.or_eq_true,decide_eq_true_eq] at h
 have:cls c=3∨c=48:=by omega
 rcases this with h|h
 ·unfold cls at h
  split at h
  ·omega
  split at h
  ·omega
  split at h
  ·omega
  split at h<;>omega
 omega
theorem aJD (src:ByteArray) (hs:src.size≤65536) (pos:Nat) (hp:pos≤src.size) (hd:pos<aAL src pos) (l:List Tok) (hl:l.length≤65536):FnS Tryz.prog 148 2 [.ptr 0 0] [scB src pos,kD l 1] (fun _:Unit=>True)
  (fun _=>numO src pos (aAL src pos) l):=by
 have hdig:=runE_in src (iF 3 3 48) pos
 obtain ⟨e,he⟩:∃e,e=aAL src pos:=⟨_,rfl⟩
 have h1:pos≤e:=he▸aJK _ _ _
 have h2:e≤src.size:=he▸zL _ _ _ hp
 rw [show gE src (iF 3 3 48) pos=e from he.symm] at hdig
 rw [←he] at hd ⊢
 obtain ⟨o,ho⟩:∃o,o=numO src pos e l:=⟨_,rfl⟩
 rw [←ho]
 unfold numO at ho
 refine FnS.of Tryz.func148 (by kernel_rfl) rfl Tryz.ntmps148 rfl fun E0 F h w0 cs=>?_
 conv=>whnf
 refine gS ?_;conv=>whnf
 refine aA.callN (bCI src hs pos hp 3 3 48) [0,1] ?_ sH ?CNa1
 case CNa1=>rfl
 intro _ _
 conv=>whnf
 refine sqs ?_
 rw [show gE src (iF 3 3 48) pos=e from he.symm]
 conv=>whnf
 have jT:1<e - pos→((decide (((aY src ((pos:Int)).toNat:Nat):Int)=48))=true↔(1<e - pos∧aY src pos=48)):=fun hq=>by
  rw [decide_eq_true_iff,show ((pos:Int)).toNat=pos from rfl];omega
 have jF:¬1<e - pos→(false=true↔(1<e - pos∧aY src pos=48)):=fun hq=>⟨fun h=>(by cases h),fun h=>absurd h.1 hq⟩
 have hdp:=bAH (hdig pos (Nat.le_refl _) hd)
 refine aA.join (fun (b:Bool)=>[(25,.v (.bool b)),(2,.v (.int .i64 e)),(0,.ptr 0 0)]) (fun (b:Bool)=>[scB src pos,kD l 1]) 2 (fun (b:Bool)=>(b=true↔(1<e - pos∧aY src pos=48))) ?_ (fun meet=>?_)
 rotate_left
 ·refine aA.held tab (.fl 0 (.fl 1 (.fl 2 (.fl 3 (.fl 4 (.fl 5 (.fl 6 (.fl 7 (.fl 8 (.fl 9 (.fl 10 (.fl 11 (.fl 12 (.fl 13 (.fl 14 (.fl 15 (.fl 16 (.fl 17 (.fl 18 .done))))))))))))))))))) (by kernel_rfl) ?_
  conv=>whnf
  refine mE ?_
  conv=>whnf
  refine ⟨fun ha=>?_,fun ha=>?_⟩<;>conv=>whnf
  ·try refine gR ?_
   refine xE ?_
   refine sqs ?_
   refine aA.subR [] (meet (decide (((aY src ((pos:Int)).toNat:Nat):Int)=48)) (by exact (jT (by omega)))) sH sH
  refine sqr ?_
  refine sqs ?_
  refine aA.subR [] (meet (false) (by exact (jF (by omega)))) sH sH
 intro b hb
 cases b
 ·have hb:¬(1<e - pos∧aY src pos=48):=fun hq=>by have:=hb.2 hq;cases this
  rw [if_neg hb] at ho
  refine sqs ?_
  refine aA.subR [] (aA.loop (fun (⟨i,a⟩:Nat×Nat)=>[(4,.v (.int .i64 i)),(3,.v (.int .i64 a)),(2,.v (.int .i64 e)),(0,.ptr 0 0)]) (fun (⟨i,a⟩:Nat×Nat)=>[scB src pos,kD l 1]) 2 (fun (⟨i,a⟩:Nat×Nat)=>(pos≤i∧i≤e∧a≤1099511627776)∧uL src e pos 0=uL src e i a) (fun (⟨i,a⟩:Nat×Nat)=>e - i) ?round4 ((pos,0)) ?J04) sH sH
  case J04=>exact (⟨by omega,rfl⟩)
  rintro ⟨i,a⟩ hJ back
  try dsimp only at hJ back
  conv=>whnf
  try dsimp only
  refine gS ?_;conv=>whnf
  refine ⟨fun hk=>?_,fun hk=>?_⟩<;>conv=>whnf
  ·have hdi:=bAH (hdig i (by omega) (by omega))
   obtain ⟨c,hc⟩:∃c,c=aY src ((i:Int)).toNat:=⟨_,rfl⟩
   have hc':aY src i=c:=hc.symm
   rw [hc'] at hdi
   have hm:10*(a:Int)+((c:Int) - 48)%256=((10*a+(c - 48):Nat):Int):=by omega
   refine cG ?_
   rw [←hc]
   conv=>whnf
   rw [hm]
   refine ⟨fun hx=>?_,fun hx=>?_⟩<;>conv=>whnf
   ·conv=>whnf
    have hn:uL src e pos 0=none:=by
     rw [hJ.2]
     unfold uL
     rw [if_pos (by omega),hc',if_neg (by omega)]
    rw [hn] at ho
    subst ho
    refine aA.callN (yX src pos) [0,1] ?_ sH ?CNa5
    case CNa5=>rfl
    intro _ _
    conv=>whnf
    exact aB.pan Tryz.func148 (aT.mk (()) (trivial) [] sH rfl rfl (aQ rfl))
   refine cG ?_
   have hn:uL src e pos 0=uL src e (i+1) (10*a+(c - 48)):=by
    rw [hJ.2]
    conv=>lhs;unfold uL
    rw [if_pos (by omega),hc',if_pos (by omega)]
   refine aA.subR [] (back ((i+1,10*a+(c - 48))) (by exact (⟨by omega,hn⟩)) (by (try dsimp only);omega)) sH sH
  have hn:uL src e pos 0=some a:=by
   rw [hJ.2]
   unfold uL
   rw [if_neg (by omega)]
  rw [hn] at ho
  subst ho
  conv=>whnf
  refine aA.callN (aRT src pos l hl ⟨2,0,⟨#[]⟩,a⟩ e) [0,1] ?_ sH ?CNa7
  case CNa7=>rfl
  intro _ _
  conv=>whnf
  refine sqs ?_
  try refine aA.finU ?_
  exact aB.ret tab Tryz.func148 rfl (aT.mk (()) (trivial) [(2,2)] sH rfl rfl (bH rfl rfl))
 rw [if_pos (hb.1 rfl)] at ho
 subst ho
 refine sqs ?_
 refine aA.callN (yX src pos) [0,1] ?_ sH ?CNa8
 case CNa8=>rfl
 intro _ _
 conv=>whnf
 exact aB.pan Tryz.func148 (aT.mk (()) (trivial) [] sH rfl rfl (aQ rfl))
theorem aGA {h:Array Obj} (s p:ByteArray):FnV Tryz.prog 286 #[.string s,.string p] h fun r h'=>r=.bool (decide (p.size≤s.size∧s.extract 0 p.size=p))∧aH h.size h h':=by
 refine Fn.ofS (args:=[.string s,.string p]) Tryz.func286 (by kernel_rfl) rfl Tryz.ntmps286 rfl fun w0 cs=>?_
 conv=>whnf
 refine gS ?_;conv=>whnf
 refine ⟨fun hl=>?_,fun hl=>?_⟩<;>conv=>whnf
 ·refine cG ?_
  refine aA.retU (aB.ret tab Tryz.func286 rfl fun Ez Hz Az Sz K=>⟨_,rfl,?_,K.keeps⟩)
  refine congrArg Value.bool (decide_eq_decide.2 ?_)
  exact ⟨fun e=>⟨by omega,e⟩,fun e=>e.2⟩
 conv=>whnf
 refine aA.retU (aB.ret tab Tryz.func286 rfl fun Ez Hz Az Sz K=>⟨_,rfl,?_,K.keeps⟩)
 exact congrArg Value.bool (decide_eq_false (fun e=>hl (by omega))).symm
theorem aAT {h:Array Obj} (s p:ByteArray):FnV Tryz.prog 244 #[.string s,.string p] h fun r h'=>r=.bool (decide (p.size≤s.size∧s.extract 0 p.size=p))∧aH h.size h h':=by
 refine Fn.ofS (args:=[.string s,.string p]) Tryz.func244 (by kernel_rfl) rfl Tryz.ntmps244 rfl fun w0 cs=>?_
 conv=>whnf
 refine gS ?_;conv=>whnf
 refine aA.callV (fun Ez Hz Az Sz K=>aGA s p) ?_
 conv=>whnf
 refine sqs ?_
 refine aA.retU (aB.ret tab Tryz.func244 rfl fun _ _ _ _ K=>⟨_,rfl,rfl,K.keeps⟩)
def oZ (c:Nat):Bool:=!(c==10)
abbrev comm (src:ByteArray) (pos:Nat):Prop:=(⟨#[47,47]⟩:ByteArray).size≤(src.extract pos src.size).size∧(src.extract pos src.size).extract 0 (⟨#[47,47]⟩:ByteArray).size=⟨#[47,47]⟩
def aPK (src:ByteArray) (pos:Nat) (l:List Tok):eR:=
 if comm src pos then .ret (.tup []) 2 [scB src (gE src oZ pos),kD l 1]
 else .ret (.tup []) 3 [scB src (pos+1) 2,kD (l++[⟨3,pos,src.extract pos (pos+1),0⟩]) 2]
theorem sign_fn (src:ByteArray) (hs:src.size≤65536) (pos:Nat) (hp:pos<src.size) (l:List Tok) (hl:l.length≤65536):FnS Tryz.prog 149 2 [.ptr 0 0] [scB src pos,kD l 1] (fun _:Unit=>True)
  (fun _=>aPK src pos l):=by
 obtain ⟨o,ho⟩:∃o,o=aPK src pos l:=⟨_,rfl⟩
 rw [←ho]
 unfold aPK at ho
 refine FnS.of Tryz.func149 (by kernel_rfl) rfl Tryz.ntmps149 rfl fun E0 F h w0 cs=>?_
 conv=>whnf
 refine gS ?_;conv=>whnf
 refine aA.held tab (.fl 0 (.fl 1 (.fl 2 (.fl 3 (.fl 4 (.fl 5 (.fl 6 (.fl 7 (.fl 8 (.e1 9 [] (.fl 10 .done))))))))))) (by kernel_rfl) ?_;conv=>whnf
 refine mE ?_
 conv=>whnf
 by_cases hq:comm src pos
 rotate_left
 ·rw [if_neg hq] at ho
  subst ho
  refine aK.callV (fun Ez Hz Az Sz K=>aAT (src.extract pos src.size) ⟨#[47,47]⟩) (by (conv=>whnf);(repeat (guard_target=_∧_;refine And.intro (by (conv=>whnf);first|rfl|exact trivial) ?_;conv=>whnf));exact trivial) ?_
  conv=>whnf
  rw [decide_eq_false hq]
  try dsimp only
  refine sqr ?_
  refine sqs ?_
  refine aA.held tab (.fl 0 (.fl 1 (.fl 2 (.fl 3 (.fl 4 (.fl 5 (.fl 6 (.fl 7 (.fl 8 (.fl 9 (.fl 10 (.fl 11 (.fl 12 (.fl 13 (.fl 14 (.fl 15 (.fl 16 (.fl 17 (.fl 18 (.fl 19 (.fl 20 (.e1 21 [] .done)))))))))))))))))))))) (by kernel_rfl) ?_;conv=>whnf
  refine mE ?_
  conv=>whnf
  refine aK.callN (aRT src pos l hl ⟨3,0,src.extract pos (pos+1),0⟩ (pos+1)) [0,1] ?_ sH ?CNa9
  case CNa9=>rfl
  intro _ _
  conv=>whnf
  try refine oB ?_
  refine sqr ?_
  refine sqs ?_
  try refine aA.retU ?_
  exact aB.ret tab Tryz.func149 rfl (aT.mk (()) (trivial) [(2,2)] sH rfl rfl (bH rfl rfl))
 rw [if_pos hq] at ho
 refine aK.callV (fun Ez Hz Az Sz K=>aAT (src.extract pos src.size) ⟨#[47,47]⟩) (by (conv=>whnf);(repeat (guard_target=_∧_;refine And.intro (by (conv=>whnf);first|rfl|exact trivial) ?_;conv=>whnf));exact trivial) ?_
 conv=>whnf
 rw [decide_eq_true hq]
 try dsimp only
 refine sqr ?_
 refine sqs ?_
 refine aA.subR [] (aA.loop (fun (i:Nat)=>[(0,.ptr 0 0)]) (fun (i:Nat)=>[scB src i,kD l 1]) 2 (fun (i:Nat)=>(pos≤i∧i≤src.size)∧gE src oZ pos=gE src oZ i) (fun (i:Nat)=>src.size - i) ?round10 (pos) ?J010) sH sH
 case J010=>exact (⟨by omega,rfl⟩)
 rintro i hJ back
 conv=>whnf
 refine gS ?_;conv=>whnf
 refine aA.held tab (.fl 0 (.fl 1 (.fl 2 (.fl 3 (.fl 4 (.fl 5 (.fl 6 (.fl 7 (.fl 8 (.fl 9 (.fl 10 (.fl 11 (.fl 12 (.fl 13 (.fl 14 (.fl 15 (.fl 16 (.fl 17 (.fl 18 (.fl 19 (.fl 20 (.fl 21 .done)))))))))))))))))))))) (by kernel_rfl) ?_;conv=>whnf
 refine sqr ?_
 refine ⟨fun hk=>?_,fun hk=>?_⟩<;>conv=>whnf
 ·try refine gR ?_
  refine xE ?_
  conv=>whnf
  refine ⟨fun hx=>?_,fun hx=>?_⟩<;>conv=>whnf
  ·try refine gR ?_
   conv=>whnf
   refine sqs ?_
   have hx':aY src i=10:=by exact_mod_cast hx
   have hn:gE src oZ pos=i:=by
    rw [hJ.2]
    unfold gE
    rw [dif_pos (by omega),hx'];rfl
   rw [hn] at ho
   subst ho
   conv=>whnf
   try refine aA.finU ?_
   exact aB.ret tab Tryz.func149 rfl (eN () trivial)
  refine sqr ?_
  refine dT ?_
  have hx':¬aY src i=10:=fun e=>hx (by exact_mod_cast e)
  have hn:gE src oZ pos=gE src oZ (i+1):=by
   rw [hJ.2]
   conv=>lhs;unfold gE
   rw [dif_pos (by omega),if_pos (by simp [oZ,hx'])]
  refine aA.subR [] (back (i+1) (by exact (⟨by omega,hn⟩)) (by (try dsimp only);omega)) sH sH
 refine sqr ?_
 refine sqs ?_
 have hn:gE src oZ pos=i:=by
  rw [hJ.2]
  unfold gE
  rw [dif_neg (by omega)]
 rw [hn] at ho
 subst ho
 conv=>whnf
 try refine aA.finU ?_
 exact aB.ret tab Tryz.func149 rfl (eN () trivial)

theorem aQM {h:Array Obj}:FnV Tryz.prog 144 #[] h fun r h'=>r=.agg (SV.gs (fun _=>undef) clsS).toArray∧aH h.size h h':=by
 refine Fn.ofS (args:=[]) Tryz.func144 (by kernel_rfl) rfl Tryz.ntmps144 rfl fun w0 cs=>?_
 conv=>whnf
 refine gS ?_;conv=>whnf
 repeat ((first|refine aA.againU ?_|refine aA.loopU ?_|(refine aA.indexV tab ?_ ?hmx;(case hmx=>decide)));(conv=>whnf);refine gS ?_;(conv=>whnf);repeat ((first|refine And.intro (by decide) ?_|refine And.intro (fun _=>?_) (fun hn=>absurd (by decide) hn)|refine And.intro (fun hp=>absurd hp (by decide)) (fun _=>?_));(conv=>whnf)))
 refine aA.retU (aB.ret tab Tryz.func144 rfl fun Ez Hz Az Sz K=>⟨_,rfl,?_,K.keeps⟩)
 kernel_rfl

theorem aYY:mW Tryz.prog 143 3 [.ptr 0 0,.ptr 1 0,.ptr 2 0] [] .returning (fun _:Unit=>True) (fun _=>⟨.returning,3,[]⟩):=by
 refine mW.of Tryz.func143 (by kernel_rfl) rfl Tryz.ntmps143 rfl fun E0 F h w0 c0 cs=>?_
 refine sqs ?_
 refine aA.recoverN ?_
 refine sqs ?_
 refine aA.effV (fun E h=>pG Tryz.underlying20) ?_
 refine sqs ?_
 refine aA.finU (aB.retD tab Tryz.func143 rfl (zJ.mk () trivial [] trivial rfl rfl rfl))
theorem aEX (x y z:Value) (pos:Int):mW Tryz.prog 143 3 [.ptr 0 0,.ptr 1 0,.ptr 2 0] [(0,.cells 144 [.v x]),(1,.cells 3 [.v y]),(2,.cells 36 [.v z])] (.panicking (xW pos)) (fun _:Unit=>True)
  (fun _=>⟨.panicking [{v:=.iface 198 (.int .i64 pos),recovered:=true}],3,[(0,.cells 144 [.v (.slice none 0 0)]),(1,.cells 3 [.v (.int .i64 pos)]),(2,.cells 36 [.v (.int .i64 50)])]⟩):=by
 refine mW.of Tryz.func143 (by kernel_rfl) rfl Tryz.ntmps143 rfl fun E0 F h w0 c0 cs=>?_
 refine sqs ?_
 refine aA.recoverP ?_
 refine sqs ?_
 refine aA.effV (fun E h=>xR Tryz.underlying198 (fun _ e=>by cases e)) ?_
 refine sqs ?_
 refine aA.finU (aB.retD tab Tryz.func143 rfl (zJ.mk () trivial [] ⟨by rfl,by rfl,by rfl,trivial⟩ rfl rfl rfl))
end Go.Proofs.YthjedpdedjhndaaGreatDoor

namespace Go.Proofs.YthjedpdedjhndaaGreatDoor
open Go Go.Fw
def jW (src:ByteArray) (pos:Nat) (l:List Tok):Option (Nat×List Tok):=
 let k:=cls (aY src pos)
 if k=0 then none
 else if k=1 then some (pos+1,l)
 else if k=2 then (if 32<qU src pos - pos then none else some (qU src pos,l++[⟨1,pos,src.extract pos (qU src pos),0⟩]))
 else if k=3 then (if 1<aAL src pos - pos∧aY src pos=48 then none else
  match uL src (aAL src pos) pos 0 with
  |none=>none
  |some n=>some (aAL src pos,l++[⟨2,pos,⟨#[]⟩,n⟩]))
 else (if comm src pos then some (gE src oZ pos,l) else some (pos+1,l++[⟨3,pos,src.extract pos (pos+1),0⟩]))
theorem aDQ {s:ByteArray} {p:Nat→Bool} {i:Nat} (hi:i<s.size) (hp:p (aY s i)=true):i<gE s p i:=by
 unfold gE
 rw [dif_pos hi,if_pos hp]
 have:=aJK s p (i+1)
 omega
theorem qW {src:ByteArray} {pos:Nat} {l:List Tok} (hp:pos<src.size) {p':Nat} {l':List Tok} (h:jW src pos l=some (p',l')):pos<p'∧p'≤src.size∧l'.length≤l.length+1:=by
 have hin:∀ {a b f:Int},cls (aY src pos)=a→iF a b f (aY src pos)=true:=fun h=>by simp [iF,h]
 simp only [jW] at h
 split at h
 ·cases h
 split at h
 ·cases h
  exact ⟨by omega,by omega,by omega⟩
 split at h
 ·rename_i hk
  split at h
  ·cases h
  cases h
  exact ⟨aDQ hp (hin hk),zL _ _ _ (by omega),by simp⟩
 split at h
 ·rename_i hk
  split at h
  ·cases h
  split at h
  ·cases h
  cases h
  exact ⟨aDQ hp (hin hk),zL _ _ _ (by omega),by simp⟩
 split at h
 ·rename_i hc
  cases h
  refine ⟨aDQ hp ?_,zL _ _ _ (by omega),by omega⟩
  by_cases h10:aY src pos=10
  ·rename_i h1 _ _
   exact absurd (by rw [h10];decide) h1
  simp [oZ,h10]
 cases h
 exact ⟨by omega,by omega,by simp⟩
def aBH (src:ByteArray) (pos:Nat) (l:List Tok):List Tok ⊕ Nat:=
 if hp:pos<src.size then
  match h:jW src pos l with
  |none=>.inr pos
  |some (p',l')=>aBH src p' l'
 else .inl l
termination_by src.size - pos
decreasing_by
 have:=qW hp h
 omega

abbrev Bs:=List UInt8
abbrev bs (s:ByteArray):Bs:=s.data.toList
theorem xU (s:ByteArray):(bs s).length=s.size:=rfl
theorem aSR {s:ByteArray} {i:Nat} (hi:i<s.size):∃c,(bs s).drop i=c::(bs s).drop (i+1)∧c.toNat=aY s i:=by
 refine ⟨(bs s)[i]'hi,List.drop_eq_getElem_cons hi,?_⟩
 unfold aY
 rw [List.getD_eq_getElem?_getD,List.getElem?_eq_getElem hi];rfl
theorem sN (s:ByteArray) (i j:Nat):bs (s.extract i j)=((bs s).take j).drop i:=by
 simp [bs,List.drop_take]
def sP (p:Nat→Bool):Bs→Nat
 | []=>0
 |c::r=>if p c.toNat then sP p r+1 else 0
theorem yZ (p:Nat→Bool):∀b,sP p b≤b.length
 | []=>Nat.le_refl _
 |c::r=>by
  have:=yZ p r
  simp only [sP,List.length_cons]
  split<;>omega
theorem aER {p:Nat→Bool} {c:UInt8} {r:Bs} (h:p c.toNat=true):0<sP p (c::r):=by simp [sP,h]
theorem aLL (s:ByteArray) (p:Nat→Bool) (i:Nat) (hi:i≤s.size):gE s p i=i+sP p ((bs s).drop i):=by
 induction h:s.size - i generalizing i with
 |zero=>
  unfold gE
  rw [dif_neg (by omega),List.drop_eq_nil_of_le (by rw [xU];omega)];rfl
 |succ n ih=>
  obtain ⟨c,h1,h2⟩:=aSR (s:=s) (i:=i) (by omega)
  unfold gE
  rw [dif_pos (by omega),h1,←h2]
  simp only [sP]
  split
  ·rw [ih (i+1) (by omega) (by omega)];omega
  omega
def numL:Bs→Nat→Option Nat
 | [],a=>some a
 |c::r,a=>if 10*a+(c.toNat - 48)≤1099511627776 then numL r (10*a+(c.toNat - 48)) else none
theorem numF_eq (s:ByteArray) (e:Nat) (he:e≤s.size) (i a:Nat):uL s e i a=numL (((bs s).take e).drop i) a:=by
 induction h:e - i generalizing i a with
 |zero=>
  unfold uL
  rw [if_neg (by omega),List.drop_eq_nil_of_le (by simp;omega)];rfl
 |succ n ih=>
  unfold uL
  have hi:i<((bs s).take e).length:=by rw [List.length_take,xU];omega
  rw [if_pos (by omega),List.drop_eq_getElem_cons hi]
  simp only [numL]
  have hb:aY s i=(((bs s).take e)[i]'hi).toNat:=by
   rw [List.getElem_take]
   unfold aY
   rw [List.getD_eq_getElem?_getD,List.getElem?_eq_getElem (by rw [List.length_take,xU] at hi;rw [show s.data.toList.length=s.size from rfl];omega)];rfl
  rw [hb]
  split
  ·exact ih (i+1) _ (by omega)
  rfl
inductive Tk where
 |name (b:Bs)
 |num (n:Nat)
 |sign (c:UInt8)
def Tk.tok (p:Nat):Tk→Tok
 | .name b=>⟨1,p,⟨b.toArray⟩,0⟩
 | .num n=>⟨2,p,⟨#[]⟩,n⟩
 | .sign c=>⟨3,p,⟨#[c]⟩,0⟩
def nmC:Nat→Bool:=iF 2 3 95
def dgC:Nat→Bool:=iF 3 3 48
def aCR:Bs→Option (Option Tk×Nat)
 | []=>none
 |c::r=>
  if cls c.toNat=0 then none
  else if cls c.toNat=1 then some (none,1)
  else if cls c.toNat=2 then (if 32<sP nmC (c::r) then none else some (some (.name ((c::r).take (sP nmC (c::r)))),sP nmC (c::r)))
  else if cls c.toNat=3 then (if 1<sP dgC (c::r)∧c.toNat=48 then none else
   match numL ((c::r).take (sP dgC (c::r))) 0 with
   |none=>none
   |some n=>some (some (.num n),sP dgC (c::r)))
  else if c=47∧r.head? = some 47 then some (none,sP oZ (c::r))
  else some (some (.sign c),1)
theorem aMY {b:Bs} {t:Option Tk} {k:Nat} (h:aCR b=some (t,k)):0<k∧k≤b.length:=by
 cases b with
 |nil=>cases h
 |cons c r=>
  have hin:∀ {a b f:Int},cls c.toNat=a→iF a b f c.toNat=true:=fun h=>by simp [iF,h]
  simp only [aCR] at h
  repeat' (split at h)
  all_goals first|(cases h;done)|skip
  all_goals cases h
  ·simp
  ·exact ⟨aER (hin (by assumption)),yZ _ _⟩
  ·exact ⟨aER (hin (by assumption)),yZ _ _⟩
  ·rename_i hc
   exact ⟨aER (by rw [hc.1];decide),yZ _ _⟩
  simp
def zZ (p:Nat) (t:Option Tk) (l:List (Nat×Tk)):List (Nat×Tk):=match t with
 |none=>l
 |some t=>(p,t)::l
def lexN:Nat→Bs→Nat→List (Nat×Tk) ⊕ Nat
 |0,_,_=>.inl []
 |_+1,[],_=>.inl []
 |f+1,c::r,p=>match aCR (c::r) with
  |none=>.inr p
  |some (t,k)=>match lexN f ((c::r).drop k) (p+k) with
   | .inr q=>.inr q
   | .inl l=>.inl (zZ p t l)
def aHL (b:Bs) (p:Nat):List (Nat×Tk) ⊕ Nat:=lexN b.length b p
theorem aVU:∀(f:Nat) (b:Bs) (p:Nat),b.length≤f→lexN f b p=lexN b.length b p:=by
 intro f
 induction f using Nat.strongRecOn with
 |_ f ih=>
  intro b p hf
  cases b with
  |nil=>cases f<;>rfl
  |cons c r=>
   cases f with
   |zero=>simp at hf
   |succ f=>
    simp only [lexN,List.length_cons] at hf ⊢
    split
    ·rfl
    rename_i t k hk
    have:=aMY hk
    simp only [List.length_cons] at this
    rw [ih f (by omega) _ _ (by simp;omega),ih r.length (by omega) _ _ (by simp;omega)]
theorem aYQ (p:Nat):aHL [] p=.inl []:=rfl
theorem aWR {b:Bs} (hb:b ≠ []) (p:Nat):aHL b p=match aCR b with
  |none=>.inr p
  |some (t,k)=>match aHL (b.drop k) (p+k) with
   | .inr q=>.inr q
   | .inl l=>.inl (zZ p t l):=by
 cases b with
 |nil=>exact absurd rfl hb
 |cons c r=>
  unfold aHL
  simp only [List.length_cons,lexN]
  split
  ·rfl
  rename_i t k hk
  have:=aMY hk
  simp only [List.length_cons] at this
  rw [aVU r.length _ _ (by simp;omega)]
theorem vG (s:ByteArray):(⟨(bs s).toArray⟩:ByteArray)=s:=by cases s;rfl
theorem bBH (src:ByteArray) (pos:Nat) (hp:pos<src.size) (l:List Tok):jW src pos l=match aCR ((bs src).drop pos) with
  |none=>none
  |some (t,k)=>some (pos+k,l++(zZ pos t []).map fun q=>q.2.tok q.1):=by
 obtain ⟨c,h1,h2⟩:=aSR hp
 have hn:qU src pos=pos+sP nmC ((bs src).drop pos):=aLL _ _ _ (by omega)
 have hd:aAL src pos=pos+sP dgC ((bs src).drop pos):=aLL _ _ _ (by omega)
 have hl:gE src oZ pos=pos+sP oZ ((bs src).drop pos):=aLL _ _ _ (by omega)
 have hx:∀k,src.extract pos (pos+k)=⟨(((bs src).drop pos).take k).toArray⟩:=fun k=>by
  rw [←vG (src.extract pos (pos+k)),sN,List.take_drop,Nat.add_comm]
 have hdl:sP dgC ((bs src).drop pos)≤src.size - pos:=by
  have:=yZ dgC ((bs src).drop pos)
  rwa [List.length_drop,xU] at this
 have hf:uL src (aAL src pos) pos 0=numL (((bs src).drop pos).take (sP dgC ((bs src).drop pos))) 0:=by
  rw [hd,numF_eq _ _ (by omega),List.take_drop,Nat.add_comm]
 have hcm:comm src pos↔(c=47∧((bs src).drop (pos+1)).head? = some 47):=by
  have e0:src.extract pos src.size=⟨((bs src).drop pos).toArray⟩:=by
   rw [←vG (src.extract pos src.size),sN,List.take_of_length_le (by rw [xU];exact Nat.le_refl _)]
  unfold comm
  rw [e0,h1]
  cases hr:(bs src).drop (pos+1) with
  |nil=>
   constructor
   ·intro h
    have:=h.1
    simp [ByteArray.size] at this
   rintro ⟨_,h⟩
   simp at h
  |cons d r=>
   constructor
   ·rintro ⟨_,h⟩
    have h:=congrArg bs h
    rw [sN] at h
    simp [ByteArray.size,bs] at h
    simp [h.1,h.2]
   rintro ⟨rfl,h⟩
   simp at h
   subst h
   refine ⟨by simp [ByteArray.size],?_⟩
   rw [←vG (ByteArray.extract _ _ _),sN]
   simp [ByteArray.size,bs]
 rw [hd] at hf
 simp only [jW,hn,hd,hl,hf,hcm,←h2,Nat.add_sub_cancel_left,hx]
 rw [h1]
 simp only [aCR]
 split
 ·rfl
 split
 ·simp [zZ]
 split
 ·split
  ·rfl
  simp [zZ,Tk.tok]
 split
 ·split
  ·rfl
  split<;>simp_all [zZ,Tk.tok]
 split
 ·simp [zZ]
 simp [zZ,Tk.tok]
def uD (l:List (Nat×Tk)):List Tok:=l.map fun q=>q.2.tok q.1
theorem lexG_eq (src:ByteArray) (pos:Nat) (hp:pos≤src.size) (l:List Tok):aBH src pos l=match aHL ((bs src).drop pos) pos with
  | .inl l'=>.inl (l++uD l')
  | .inr q=>.inr q:=by
 induction h:src.size - pos using Nat.strongRecOn generalizing pos l with
 |_ n ih=>
  unfold aBH
  split
  ·rename_i hlt
   have hs:=bBH src pos hlt l
   have hne:(bs src).drop pos ≠ []:=fun e=>by
    have:=congrArg List.length e
    rw [List.length_drop,xU] at this
    simp at this
    omega
   rw [aWR hne]
   split
   ·rename_i h0
    rw [h0] at hs
    cases hss:aCR ((bs src).drop pos) with
    |none=>rfl
    |some q=>rw [hss] at hs;cases hs
   rename_i p' l' h0
   have hok:=qW hlt h0
   rw [h0] at hs
   cases hss:aCR ((bs src).drop pos) with
   |none=>rw [hss] at hs;cases hs
   |some q=>
    obtain ⟨t,k⟩:=q
    rw [hss] at hs
    simp only [Option.some.injEq,Prod.mk.injEq] at hs
    obtain ⟨rfl,rfl⟩:=hs
    rw [ih _ (by omega) (pos+k) (by omega) _ rfl]
    dsimp only
    rw [List.drop_drop]
    cases aHL ((bs src).drop (pos+k)) (pos+k) with
    |inr q=>rfl
    |inl l'=>cases t<;>simp [zZ,uD]
  rw [List.drop_eq_nil_of_le (by rw [xU];omega)]
  simp [aYQ,uD]
end Go.Proofs.YthjedpdedjhndaaGreatDoor

namespace Go.Proofs.YthjedpdedjhndaaGreatDoor
open Go Go.Fw
set_option maxRecDepth 100000
set_option maxHeartbeats 99999999
def lexA (src:ByteArray):List Tok ⊕ Nat:=aBH src 0 []
def lexO (src:ByteArray):eR:=match lexA src with
 | .inl l=>.ret (.tup [.buf 0,.v (.int .i64 0),.v (.int .i64 0)]) 1 [kD l 0]
 | .inr p=>.ret (.tup [.v (.slice none 0 0),.v (.int .i64 p),.v (.int .i64 50)]) 0 []
theorem aBL {src:ByteArray} {pos:Nat} {l:List Tok} (hp:pos<src.size) (h:jW src pos l=none):aBH src pos l=.inr pos:=by
 unfold aBH
 rw [dif_pos hp]
 split
 ·rfl
 rename_i h'
 rw [h] at h';cases h'
theorem rU {src:ByteArray} {pos:Nat} {l:List Tok} (hp:pos<src.size) {p':Nat} {l':List Tok} (h:jW src pos l=some (p',l')):aBH src pos l=aBH src p' l':=by
 conv=>lhs;unfold aBH
 rw [dif_pos hp]
 split
 ·rename_i h'
  rw [h] at h';cases h'
 rename_i h'
 rw [h] at h';cases h';rfl
theorem aJE (src:ByteArray) (pos:Nat) (l:List Tok) (hq:cls (aY src pos)=3):numO src pos (aAL src pos) l=match jW src pos l with
  |none=>.pan (xW pos) 2 [scB src pos,kD l 1]
  |some (p',l')=>.ret (.tup []) 3 [scB src p' 2,kD l' 2]:=by
 simp only [numO,jW,hq]
 by_cases hb:1<aAL src pos - pos∧aY src pos=48
 ·simp [hb]
 rw [if_neg hb]
 cases hz:uL src (aAL src pos) pos 0 with
 |none=>simp [hb]
 |some n=>simp [hb]
theorem aYA (c:Nat):cls c=0∨cls c=1∨cls c=2∨cls c=3∨cls c=4:=by
 unfold cls
 repeat' split
 all_goals simp
abbrev scB3 (src:ByteArray) (pos:Int) (b:Nat):Nat×Fw.Blk:=(3,.cells 206 (scn src pos (.buf b)))
theorem lex_fn (src:ByteArray) (hs:src.size≤65536):FnS Tryz.prog 88 0 [.v (.string src)] [] (fun _:Unit=>True) (fun _=>lexO src):=by
 obtain ⟨o,ho⟩:∃o,o=lexO src:=⟨_,rfl⟩
 rw [←ho]
 unfold lexO lexA at ho
 refine FnS.of Tryz.func88 (by kernel_rfl) rfl Tryz.ntmps88 rfl fun E0 F h w0 cs=>?_
 conv=>whnf
 refine sqtC ?_
 refine aA.deferU ?_
 refine sqs ?_
 refine aA.callV (fun Ez Hz Az Sz K=>aQM) ?_
 conv=>whnf
 refine sqs ?_
 refine aA.subR (nx':=4) (l':=[(5,.ptr 3 0),(4,.ptr 2 0),(3,.ptr 1 0),(2,.ptr 0 0),(0,.v (.string src))]) (H':=[(3,.cells 206 (scn src 0 (.v (.slice none 0 0)))),(2,.cells 36 [.v (.int .i64 0)]),(1,.cells 3 [.v (.int .i64 0)]),(0,.cells 144 [.v (.slice none 0 0)])]) [] ?_ sH sH
 refine aA.nilOwn (l':=[(5,.ptr 3 0),(4,.ptr 2 0),(3,.ptr 1 0),(2,.ptr 0 0),(0,.v (.string src))]) (H':=[(3,.cells 206 (scn src 0 (.buf 4))),(2,.cells 36 [.v (.int .i64 0)]),(1,.cells 3 [.v (.int .i64 0)]),(0,.cells 144 [.v (.slice none 0 0)])]) 158 4 ?_ (by rfl) (by rfl) (by rfl)
 refine aA.subR [] (aA.loop (fun (⟨pos,l⟩:Nat×List Tok)=>[(5,.ptr 3 0),(4,.ptr 2 0),(3,.ptr 1 0),(2,.ptr 0 0),(0,.v (.string src))]) (fun (⟨pos,l⟩:Nat×List Tok)=>[scB3 src pos 4,kD l 4,(2,.cells 36 [.v (.int .i64 0)]),(1,.cells 3 [.v (.int .i64 0)]),(0,.cells 144 [.v (.slice none 0 0)])]) 5 (fun (⟨pos,l⟩:Nat×List Tok)=>(pos≤src.size∧l.length≤pos)∧aBH src 0 []=aBH src pos l) (fun (⟨pos,l⟩:Nat×List Tok)=>src.size - pos) ?round1 ((0,[])) ?J01) sH sH
 case J01=>exact (⟨by exact ⟨Nat.zero_le _,Nat.zero_le _⟩,rfl⟩)
 rintro ⟨pos,l⟩ hJ back
 try dsimp only at hJ back
 conv=>whnf
 try dsimp only
 refine gS ?_;conv=>whnf
 refine ⟨fun hk=>?_,fun hk=>?_⟩<;>conv=>whnf
 ·obtain ⟨c,hc⟩:∃c,c=aY src ((pos:Int)).toNat:=⟨_,rfl⟩
  have hb:c<256:=by rw [hc];exact oE src pos
  conv=>whnf
  refine aA.held tab (.fl 0 (.fl 1 (.fl 2 (.fl 3 (.fl 4 (.fl 5 (.fl 6 (.fl 7 (.fl 8 (.fl 9 (.fl 10 (.fl 11 (.fl 12 (.fl 13 (.fl 14 (.fl 15 (.fl 16 (.e1 17 [] .done)))))))))))))))))) (by kernel_rfl) ?_;conv=>whnf
  refine mE ?_
  conv=>whnf
  rw [←hc]
  conv=>whnf
  have hcc:c=aY src pos:=hc
  rw [ldR_at (aLT hb) (by rfl) (by rfl) (by rfl)]
  have hP:pos<src.size:=by omega
  rcases aYA c with hq|hq|hq|hq|hq<;>rw [hq]
  ·have hs0:jW src pos l=none:=by simp only [jW,←hcc,hq,if_true]
   rw [hJ.2,aBL hP hs0] at ho
   subst ho
   refine xE ?_
   conv=>whnf
   refine aK.callN (yX src pos) [3,4] ?_ sH ?CNa2
   case CNa2=>rfl
   intro _ _
   conv=>whnf
   refine aB.deferN (aEX _ _ _ pos) [0,1,2] ?_ ⟨by rfl,by rfl,by rfl,trivial⟩ rfl (fun e=>by cases e)
   intro _ _
   (conv=>whnf)
   refine aB.ret tab Tryz.func88 rfl (aT.mk () trivial [] (by exact trivial) rfl rfl (bH rfl rfl))
  ·have hs0:jW src pos l=some (pos+1,l):=by simp [jW,←hcc,hq]
   refine xE ?_
   conv=>whnf
   refine aK.callN (pass_fn src pos ⟨by omega,by omega⟩) [3,4] ?_ sH ?CNa3
   case CNa3=>rfl
   intro _ _
   conv=>whnf
   try refine oB ?_
   refine sqr ?_
   refine sqs ?_
   refine aA.subR [] (back ((pos+1,l)) (by exact (⟨by dsimp only;omega,hJ.2.trans (rU hP hs0)⟩)) (by (try dsimp only);omega)) sH sH
  ·by_cases hbad:32<qU src pos - pos
   ·have C:=aTA src hs pos (by omega) l (by omega)
    simp only [endO,if_pos hbad] at C
    have hs0:jW src pos l=none:=by simp [jW,←hcc,hq,hbad]
    rw [hJ.2,aBL hP hs0] at ho
    subst ho
    refine xE ?_
    conv=>whnf
    refine aK.callN (C) [3,4] ?_ sH ?CNa5
    case CNa5=>rfl
    intro _ _
    conv=>whnf
    refine aB.deferN (aEX _ _ _ pos) [0,1,2] ?_ ⟨by rfl,by rfl,by rfl,trivial⟩ rfl (fun e=>by cases e)
    intro _ _
    (conv=>whnf)
    refine aB.ret tab Tryz.func88 rfl (aT.mk () trivial [] (by exact trivial) rfl rfl (bH rfl rfl))
   have C:=aTA src hs pos (by omega) l (by omega)
   simp only [endO,if_neg hbad] at C
   have hs0:jW src pos l=some (qU src pos,l++[⟨1,pos,src.extract pos (qU src pos),0⟩]):=by simp [jW,←hcc,hq,hbad]
   have hok:=qW hP hs0
   refine xE ?_
   conv=>whnf
   refine aK.callN (C) [3,4] ?_ sH ?CNa6
   case CNa6=>rfl
   intro _ _
   conv=>whnf
   try refine oB ?_
   refine sqr ?_
   refine sqs ?_
   refine aA.subR [(4,5)] (back ((qU src pos,l++[⟨1,pos,src.extract pos (qU src pos),0⟩])) (by exact (⟨by dsimp only;omega,hJ.2.trans (rU hP hs0)⟩)) (by (try dsimp only);omega)) sH sH
  ·have hd:pos<aAL src pos:=aDQ hP (by rw [←hcc];simp [iF,hq])
   cases hs0:jW src pos l with
   |none=>
    have C:=aJD src hs pos (by omega) hd l (by omega)
    have hO:numO src pos (aAL src pos) l=.pan (xW pos) 2 [scB src pos,kD l 1]:=by
     have:=aJE src pos l (by rw [←hcc];exact hq)
     rw [hs0] at this
     exact this
    simp only [hO] at C
    rw [hJ.2,aBL hP hs0] at ho
    subst ho
    refine xE ?_
    conv=>whnf
    refine aK.callN (C) [3,4] ?_ sH ?CNa8
    case CNa8=>rfl
    intro _ _
    conv=>whnf
    refine aB.deferN (aEX _ _ _ pos) [0,1,2] ?_ ⟨by rfl,by rfl,by rfl,trivial⟩ rfl (fun e=>by cases e)
    intro _ _
    (conv=>whnf)
    refine aB.ret tab Tryz.func88 rfl (aT.mk () trivial [] (by exact trivial) rfl rfl (bH rfl rfl))
   |some q=>
    obtain ⟨p',l'⟩:=q
    have hok:=qW hP hs0
    have C:=aJD src hs pos (by omega) hd l (by omega)
    have hO:numO src pos (aAL src pos) l=.ret (.tup []) 3 [scB src p' 2,kD l' 2]:=by
     have:=aJE src pos l (by rw [←hcc];exact hq)
     rw [hs0] at this
     exact this
    simp only [hO] at C
    refine xE ?_
    conv=>whnf
    refine aK.callN (C) [3,4] ?_ sH ?CNa9
    case CNa9=>rfl
    intro _ _
    conv=>whnf
    try refine oB ?_
    refine sqr ?_
    refine sqs ?_
    refine aA.subR [(4,5)] (back ((p',l')) (by exact (⟨by dsimp only;omega,hJ.2.trans (rU hP hs0)⟩)) (by (try dsimp only);omega)) sH sH
  have C:=sign_fn src hs pos hP l (by omega)
  by_cases hcm:comm src pos
  ·simp only [aPK,if_pos hcm] at C
   have hs0:jW src pos l=some (gE src oZ pos,l):=by simp only [jW,←hcc,hq,if_pos hcm];rfl
   have hok:=qW hP hs0
   refine xE ?_
   conv=>whnf
   refine aK.callN (C) [3,4] ?_ sH ?CNa11
   case CNa11=>rfl
   intro _ _
   conv=>whnf
   try refine oB ?_
   refine sqr ?_
   refine sqs ?_
   refine aA.subR [] (back ((gE src oZ pos,l)) (by exact (⟨by dsimp only;omega,hJ.2.trans (rU hP hs0)⟩)) (by (try dsimp only);omega)) sH sH
  simp only [aPK,if_neg hcm] at C
  have hs0:jW src pos l=some (pos+1,l++[⟨3,pos,src.extract pos (pos+1),0⟩]):=by simp only [jW,←hcc,hq,if_neg hcm];rfl
  have hok:=qW hP hs0
  refine xE ?_
  conv=>whnf
  refine aK.callN (C) [3,4] ?_ sH ?CNa13
  case CNa13=>rfl
  intro _ _
  conv=>whnf
  try refine oB ?_
  refine sqr ?_
  refine sqs ?_
  refine aA.subR [(4,5)] (back ((pos+1,l++[⟨3,pos,src.extract pos (pos+1),0⟩])) (by exact (⟨by dsimp only;omega,hJ.2.trans (rU hP hs0)⟩)) (by (try dsimp only);omega)) sH sH
 conv=>whnf
 have hend:aBH src pos l=.inl l:=by
  unfold aBH
  rw [dif_neg (by omega)]
 rw [hJ.2,hend] at ho
 subst ho
 refine aA.retU ?_
 refine aB.deferN aYY [0,1,2] ?_ trivial rfl (fun e=>by cases e)
 intro _ _
 conv=>whnf
 refine aB.ret tab Tryz.func88 rfl (aT.mk () trivial [(0,4)] (by exact ⟨by rfl,trivial⟩) rfl rfl (bH rfl rfl))
end Go.Proofs.YthjedpdedjhndaaGreatDoor

namespace Go.SrcM
open Go Go.Fw Go.RatM
def cZ (l:List ByteArray) (nm:ByteArray):Option Nat:=l.findIdx? fun x=>decide (x=nm)
theorem pD {l:List ByteArray} {nm:ByteArray}:cZ l nm=none↔nm∉l:=by
 unfold cZ
 rw [List.findIdx?_eq_none_iff]
 exact ⟨fun h hm=>by simpa using h nm hm,fun h x hx=>by simp only [decide_eq_false_iff_not];exact fun e=>h (e▸hx)⟩
theorem aGF {l:List ByteArray} {nm:ByteArray} {k:Nat}:cZ l nm=some k ↔ ∃hk:k<l.length,l[k]=nm ∧ ∀j (hj:j<k),l[j]≠nm:=by
 unfold cZ
 rw [List.findIdx?_eq_some_iff_getElem]
 constructor
 ·rintro ⟨hk,h1,h2⟩
  exact ⟨hk,by simpa using h1,fun j hj=>by simpa using h2 j hj⟩
 rintro ⟨hk,h1,h2⟩
 exact ⟨hk,by simpa using h1,fun j hj=>by simpa using h2 j hj⟩
theorem aRK {l:List ByteArray} {x nm:ByteArray}:cZ (l++[x]) nm=match cZ l nm with
  |some k=>some k
  |none=>if x=nm then some l.length else none:=by
 unfold cZ
 rw [List.findIdx?_append]
 cases List.findIdx? (fun x=>decide (x=nm)) l with
 |some k=>rfl
 |none=>
  by_cases e:x=nm
  ·simp [e]
  simp [e]
theorem rP {α:Type} {l:List α} {k:Nat} (hk:k<l.length):l.take (k+1)=l.take k++[l[k]]:=by
 rw [List.take_add_one,List.getElem?_eq_getElem hk];rfl
def fH (l:List ByteArray):Nat→List (Value×Value)
 |0=>[]
 |k+1=>match l[k]? with
  |some x=>match cZ (l.take k) x with
   |some _=>fH l k
   |none=>fH l k++[(.string x,.int .i64 k)]
  |none=>fH l k
def eZ (l:List ByteArray):List (Value×Value):=fH l l.length
theorem kR {l:List ByteArray} {k:Nat} (hk:k<l.length) (h:l[k]∈l.take k):fH l (k+1)=fH l k:=by
 simp only [fH,List.getElem?_eq_getElem hk]
 cases hf:cZ (l.take k) l[k] with
 |some j=>rfl
 |none=>exact absurd h (pD.1 hf)
theorem kY {l:List ByteArray} {k:Nat} (hk:k<l.length) (h:l[k]∉l.take k):fH l k++[(.string l[k],.int .i64 k)]=fH l (k+1):=by
 simp only [fH,List.getElem?_eq_getElem hk,pD.2 h]
abbrev intO (o:Option Nat):Option Value:=o.map fun (k:Nat)=>Value.int .i64 (k:Int)
theorem sB {l:List ByteArray} (nm:ByteArray):∀ {k:Nat},k≤l.length→eW (fH l k) (.string nm) (intO (cZ (l.take k) nm))
 |0,_=>fun p hp=>by cases hp
 |k+1,hk=>by
  have ih:=sB (l:=l) nm (k:=k) (by omega)
  have hk:k<l.length:=hk
  rw [rP hk,aRK]
  by_cases hm:l[k]∈l.take k
  ·rw [kR hk hm]
   cases hf:cZ (l.take k) nm with
   |some j=>rw [hf] at ih;exact ih
   |none=>
    rw [hf] at ih
    dsimp only
    have hne:l[k]≠nm:=fun e=>pD.1 hf (by rw [←e];exact hm)
    rw [if_neg hne]
    exact ih
  rw [←kY hk hm]
  cases hf:cZ (l.take k) nm with
  |some j=>
   rw [hf] at ih
   have hne:l[k]≠nm:=fun e=>by
    have:=aGF.1 hf
    obtain ⟨hj,h1,_⟩:=this
    exact hm (by rw [e,←h1];exact List.getElem_mem _)
   refine ⟨?_,fun p hp h1=>?_⟩
   ·obtain ⟨p,hp,h1⟩:=ih.1
    exact ⟨p,List.mem_append.2 (.inl hp),h1⟩
   rcases List.mem_append.1 hp with hp|hp
   ·exact ih.2 p hp h1
   rw [List.mem_singleton.1 hp] at h1
   injection h1 with h1
   exact absurd h1 hne
  |none=>
   rw [hf] at ih
   dsimp only
   by_cases e:l[k]=nm
   ·rw [if_pos e]
    refine ⟨⟨_,List.mem_append.2 (.inr (List.mem_singleton.2 rfl)),by rw [e]⟩,fun p hp h1=>?_⟩
    rcases List.mem_append.1 hp with hp|hp
    ·exact absurd h1 (ih p hp)
    rw [List.mem_singleton.1 hp]
    rw [List.length_take,Nat.min_eq_left (by omega)]
   rw [if_neg e]
   intro p hp h1
   rcases List.mem_append.1 hp with hp|hp
   ·exact ih p hp h1
   rw [List.mem_singleton.1 hp] at h1
   injection h1 with h1
   exact e h1
theorem aQZ {l:List ByteArray} (nm:ByteArray):eW (eZ l) (.string nm) (intO (cZ l nm)):=by
 have:=sB (l:=l) nm (Nat.le_refl _)
 rwa [List.take_length] at this
theorem oH {l:List ByteArray} {k:Nat} (hk:k<l.length) (h:l[k]∉l.take k):eW (fH l k) (.string l[k]) none:=by
 have:=sB (l:=l) l[k] (Nat.le_of_lt hk)
 rwa [pD.2 h] at this
theorem pC {l:List ByteArray} {k:Nat} (hk:k<l.length) (h:l[k]∈l.take k):∃j:Nat,eW (fH l k) (.string l[k]) (some (.int .i64 j)):=by
 have:=sB (l:=l) l[k] (Nat.le_of_lt hk)
 cases hf:cZ (l.take k) l[k] with
 |some j=>rw [hf] at this;exact ⟨j,this⟩
 |none=>exact absurd h (pD.1 hf)
theorem xV {l:List ByteArray} {k:Nat} (hk:k<l.length):(l.take (k+1)).Nodup↔(l.take k).Nodup∧l[k]∉l.take k:=by
 rw [rP hk,List.nodup_append]
 constructor
 ·exact fun ⟨h1,_,h2⟩=>⟨h1,fun hm=>h2 _ hm _ (List.mem_singleton.2 rfl) rfl⟩
 exact fun ⟨h1,h2⟩=>⟨h1,by simp,fun a ha b hb e=>by rw [List.mem_singleton.1 hb] at e;exact h2 (e▸ha)⟩
def eI (l:List ByteArray):Bool:=decide (¬l.Nodup)
theorem zO {l:List ByteArray} {k:Nat} (hk:k<l.length) (hm:l[k]∈l.take k):true=eI (l.take (k+1)):=by
 unfold eI
 exact (decide_eq_true (show ¬(l.take (k+1)).Nodup from fun h=>((xV hk).1 h).2 hm)).symm
theorem aAE {l:List ByteArray} {k:Nat} (hk:k<l.length) (hm:l[k]∉l.take k):eI (l.take k)=eI (l.take (k+1)):=by
 unfold eI
 exact decide_eq_decide.2 (not_congr ⟨fun h=>(xV hk).2 ⟨h,hm⟩,fun h=>((xV hk).1 h).1⟩)
section
variable {α:Type} {f:α→List Value} {g:α→α} {l:List α}
def tT (g:α→α) (l:List α) (k:Nat):List α:=(l.take k).map g++l.drop k
theorem aYJ {k:Nat} (hk:k≤l.length):(rws f (tT g l k)).length=l.length:=by
 unfold tT
 rw [aE,List.length_append,List.length_map,List.length_take,List.length_drop];omega
theorem rR {k:Nat} (hk:k<l.length):(rws f (tT g l k))[k]? = some (f l[k]):=by
 unfold tT
 rw [rws,List.map_append,List.getElem?_append_right (by simp;omega)]
 simp [hk,Nat.min_eq_left (Nat.le_of_lt hk)]
theorem aXY {k:Nat} (hk:k<l.length) {r:List Value} (hr:r=f (g l[k])):(rws f (tT g l k)).set k r=rws f (tT g l (k+1)):=by
 have e:l.drop k=l[k]::l.drop (k+1):=(List.getElem_cons_drop ..).symm
 unfold tT rws
 rw [e,rP hk]
 simp only [List.map_append,List.map_cons,List.map_nil]
 rw [List.set_append_right _ _ (by simp;omega)]
 simp [Nat.min_eq_left (Nat.le_of_lt hk),hr]
theorem rB:tT g l l.length=l.map g:=by
 unfold tT
 rw [List.take_length,List.drop_length,List.append_nil]
end
/-! numbers of names -/
def oI (s:aG) (i:It):Option It:=(cZ (s.units.map Un.name) i.unit).map fun (u:Nat)=>{i with un:=u}
def pH (s:aG) (m:Mc):Option Mc:=(cZ s.plants m.plant).map fun (p:Nat)=>{m with pn:=p}
def jV (s:aG) (c:Cd):Option Cd:=match cZ (s.options.map OpV.name) c.opt with
 |some o=>match s.options[o]? with
  |some q=>(cZ q.ch c.ch).map fun (k:Nat)=>{c with on:=o,cn:=k}
  |none=>none
 |none=>none
def lK (s:aG) (a:Am):Option Am:=match cZ (s.units.map Un.name) a.unit with
 |some u=>(cZ (s.items.map It.name) a.item).map fun (i:Nat)=>{a with un:=u,inn:=i}
 |none=>none
def pQ (s:aG) (r:Rn):Option Rn:=(cZ (s.machines.map Mc.name) r.mach).map fun (m:Nat)=>{r with mn:=m}
def nS (s:aG) (x:Sw):Option Sw:=match cZ (s.items.map It.name) x.a with
 |some a=>(cZ (s.items.map It.name) x.b).map fun (b:Nat)=>{x with an:=a,bn:=b}
 |none=>none
def cH {α β:Type} (f:α→Option β):List α→Option (List β)
 | []=>some []
 |a::l=>match f a with
  |some b=>match cH f l with
   |some m=>some (b::m)
   |none=>none
  |none=>none
theorem rQ {α β:Type} {f:α→Option β}:∀ {l:List α} {m:List β},cH f l=some m↔m.length=l.length ∧ ∀i (h:i<l.length) (h':i<m.length),f l[i]=some m[i]
 | [],m=>by
  simp only [cH,Option.some.injEq,List.length_nil]
  constructor
  ·rintro rfl;exact ⟨rfl,fun i h=>absurd h (Nat.not_lt_zero _)⟩
  rintro ⟨h,_⟩;exact (List.eq_nil_of_length_eq_zero h).symm
 |a::l,m=>by
  simp only [cH]
  constructor
  ·intro h
   cases ha:f a with
   |none=>simp [ha] at h
   |some b=>
    cases hl:cH f l with
    |none=>simp [ha,hl] at h
    |some m'=>
     simp only [ha,hl,Option.some.injEq] at h
     subst h
     obtain ⟨h1,h2⟩:=rQ.1 hl
     refine ⟨by simp [h1],fun i h h'=>?_⟩
     cases i with
     |zero=>exact ha
     |succ i=>exact h2 i (by simpa using h) (by simpa using h')
  rintro ⟨h1,h2⟩
  cases m with
  |nil=>simp at h1
  |cons b m=>
   have h0:=h2 0 (by simp) (by simp)
   simp only [List.getElem_cons_zero] at h0
   have hl:cH f l=some m:=rQ.2 ⟨by simpa using h1,fun i h h'=>by have:=h2 (i+1) (by simpa using h) (by simpa using h');simpa using this⟩
   rw [h0,hl]
theorem iM {α β:Type} {f:α→Option β}:∀ {l:List α},cH f l=none ↔ ∃a∈l,f a=none
 | []=>by simp [cH]
 |a::l=>by
  simp only [cH]
  cases ha:f a with
  |none=>simp [ha]
  |some b=>
   cases hl:cH f l with
   |none=>
    obtain ⟨x,hx,e⟩:=iM.1 hl
    simp only [true_iff]
    exact ⟨x,List.mem_cons_of_mem _ hx,e⟩
   |some m=>
    simp only [false_iff,reduceCtorEq]
    rintro ⟨x,hx,e⟩
    rcases List.mem_cons.1 hx with rfl|hx
    ·rw [ha] at e;cases e
    have:=iM.2 ⟨x,hx,e⟩
    rw [hl] at this;cases this
theorem aVK {α:Type} {f:α→Option α} {l:List α} (h:∀i (hi:i<l.length),f l[i]≠none):cH f l=some (l.map fun a=>(f a).getD a):=by
 refine rQ.2 ⟨List.length_map _,fun i h1 h2=>?_⟩
 rw [List.getElem_map]
 cases hf:f l[i] with
 |none=>exact absurd hf (h i h1)
 |some b=>rfl
def nP (s:aG) (r:RcV):Option RcV:=match cZ (s.items.map It.name) r.item with
 |some i=>match cZ s.plants r.plant with
  |some p=>match cH (jV s) r.cs with
   |some cs=>match cH (lK s) r.inn with
    |some inn=>match cH (lK s) r.out with
     |some out=>match cH (pQ s) r.runs with
      |some runs=>some {r with inum:=i,pnum:=p,cs:=cs,inn:=inn,out:=out,runs:=runs}
      |none=>none
     |none=>none
    |none=>none
   |none=>none
  |none=>none
 |none=>none
def pS (s:aG) (f:FbV):Option FbV:=(cH (jV s) f.cs).map fun l=>{f with cs:=l}
def nH (s:aG):Prop:=¬(s.units.map Un.name).Nodup ∨ ¬(s.items.map It.name).Nodup ∨ ¬s.plants.Nodup ∨ ¬(s.machines.map Mc.name).Nodup ∨ ¬(s.options.map OpV.name).Nodup ∨ ¬ ∀o∈s.options,o.ch.Nodup
instance (s:aG):Decidable (nH s):=by unfold nH;infer_instance
def resS (s:aG):Option aG:=match cH (oI s) s.items with
 |some items=>match cH (pH s) s.machines with
  |some machines=>match cH (pS s) s.forbids with
   |some forbids=>match cH (nP s) s.recipes with
    |some recipes=>(cH (nS s) s.swaps).map fun swaps=>{s with items:=items,machines:=machines,forbids:=forbids,recipes:=recipes,swaps:=swaps}
    |none=>none
   |none=>none
  |none=>none
 |none=>none
def lL:aG:=⟨[],[],[],[],[],[],[],[]⟩
def eL (s:aG):aG×Int:=if nH s then (lL,111) else match dA s.units with
 | .inr e=>(lL,e)
 | .inl u=>match resS s with
  |some t=>({t with units:=u},0)
  |none=>(lL,110)
/-! where lists lie does not matter -/
def OpV.bare (o:OpV):OpV:={o with hd:=⟨none,0⟩}
def FbV.bare (o:FbV):FbV:={o with hd:=⟨none,0⟩}
def RcV.bare (r:RcV):RcV:={r with hc:=⟨none,0⟩,hi:=⟨none,0⟩,ho:=⟨none,0⟩,hr:=⟨none,0⟩}
def aG.bare (s:aG):aG:={s with options:=s.options.map OpV.bare,forbids:=s.forbids.map FbV.bare,recipes:=s.recipes.map RcV.bare}
end Go.SrcM

namespace Go.SrcM
open Go Go.Fw Go.RatM
/-! without numbers -/
def b0U (u:Un):Un:=u.re 0 zr
theorem jB {α β:Type} {f g:α→Option β} (h:∀a,f a=g a) (l:List α):cH f l=cH g l:=by
 rw [show f=g from funext h]
theorem aKR {α β:Type} {f:α→β} {o:Option α} {b:β} (h:o.map f=some b):∃a,o=some a∧f a=b:=Option.map_eq_some_iff.1 h
theorem resU_nz':∀ {l x:List Un} {e:Int},sR l x=.inr e→e≠0
 | [],_,_,h=>by cases h
 |u::l,x,e,h=>by
  simp only [sR] at h
  split at h
  ·exact resU_nz' h
  rename_i e' he
  cases h
  unfold iP at he
  split at he
  ·split at he
   ·cases he
   cases he;decide
  split at he
  ·split at he
   ·split at he
    ·cases he;decide
    cases he
   cases he;decide
  cases he;decide
theorem resolveU_nz' {l:List Un} {e:Int} (h:dA l=.inr e):e≠0:=by
 unfold dA at h
 split at h
 ·cases h;decide
 split at h
 ·cases h;decide
 exact resU_nz' h
structure ResOf (s t:aG):Prop where
 tw:¬nH s
 u:dA s.units=.inl t.units
 p:t.plants=s.plants
 o:t.options=s.options
 i:cH (oI s) s.items=some t.items
 m:cH (pH s) s.machines=some t.machines
 f:cH (pS s) s.forbids=some t.forbids
 r:cH (nP s) s.recipes=some t.recipes
 x:cH (nS s) s.swaps=some t.swaps
theorem ResOf.units {s t:aG} (h:ResOf s t):t.units.map b0U=s.units.map b0U:=by
 obtain ⟨_,_,h1,h2⟩:=zU.1 h.u
 refine List.ext_getElem (by rw [List.length_map,List.length_map,h1]) fun i g1 g2=>?_
 rw [List.length_map] at g1 g2
 rw [List.getElem_map,List.getElem_map]
 obtain ⟨e1,e2,e3,e4⟩:=aKQ (h2 i g2 g1)
 unfold b0U Un.re
 rw [e1,e2,e3,e4]
end Go.SrcM

namespace Go.Proofs.YthjedpdedjhndaaGreatDoor
open Go Go.Fw Go.NatM Go.RatM Go.SrcM
set_option maxRecDepth 100000
set_option maxHeartbeats 99999999
theorem siU:Tryz.prog.underlying 160=some (.map 9 3):=by kernel_rfl
theorem failU:Tryz.prog.underlying 329=some (.struct #[]):=by kernel_rfl
theorem vY:Tryz.prog.underlying 9=some .string:=by kernel_rfl
theorem aDI (w:World):(zeroValue 3).run Tryz.prog w=.ok (.int .i64 0) w:=by kernel_rfl
theorem aIC {h:Array Obj} (s:ByteArray):FnV Tryz.prog 179 #[.string s] h fun r h'=>r=.string s∧aH h.size h h':=by
 refine Fn.ofS (args:=[.string s]) Tryz.func179 (by kernel_rfl) rfl Tryz.ntmps179 rfl fun w0 cs=>?_
 conv=>whnf
 refine gS ?_;conv=>whnf
 refine aA.retU (aB.ret tab Tryz.func179 rfl fun _ _ _ _ K=>⟨_,rfl,rfl,K.keeps⟩)
theorem aCM {h:Array Obj} (u:Un):FnV Tryz.prog 175 #[.agg u.row.toArray] h fun r h'=>r=.string u.name∧aH h.size h h':=by
 refine Fn.ofS (args:=[.agg u.row.toArray]) Tryz.func175 (by kernel_rfl) rfl Tryz.ntmps175 rfl fun w0 cs=>?_
 conv=>whnf
 refine gS ?_;conv=>whnf
 refine aA.retU (aB.ret tab Tryz.func175 rfl fun _ _ _ _ K=>⟨_,rfl,rfl,K.keeps⟩)
theorem aCS {h:Array Obj} (u:It):FnV Tryz.prog 177 #[.agg u.row.toArray] h fun r h'=>r=.string u.name∧aH h.size h h':=by
 refine Fn.ofS (args:=[.agg u.row.toArray]) Tryz.func177 (by kernel_rfl) rfl Tryz.ntmps177 rfl fun w0 cs=>?_
 conv=>whnf
 refine gS ?_;conv=>whnf
 refine aA.retU (aB.ret tab Tryz.func177 rfl fun _ _ _ _ K=>⟨_,rfl,rfl,K.keeps⟩)
theorem uG {h:Array Obj} (u:Mc):FnV Tryz.prog 181 #[.agg u.row.toArray] h fun r h'=>r=.string u.name∧aH h.size h h':=by
 refine Fn.ofS (args:=[.agg u.row.toArray]) Tryz.func181 (by kernel_rfl) rfl Tryz.ntmps181 rfl fun w0 cs=>?_
 conv=>whnf
 refine gS ?_;conv=>whnf
 refine aA.retU (aB.ret tab Tryz.func181 rfl fun _ _ _ _ K=>⟨_,rfl,rfl,K.keeps⟩)
theorem xM {h:Array Obj} (u:OpV):FnV Tryz.prog 183 #[.agg u.row.toArray] h fun r h'=>r=.string u.name∧aH h.size h h':=by
 refine Fn.ofS (args:=[.agg u.row.toArray]) Tryz.func183 (by kernel_rfl) rfl Tryz.ntmps183 rfl fun w0 cs=>?_
 conv=>whnf
 refine gS ?_;conv=>whnf
 refine aA.retU (aB.ret tab Tryz.func183 rfl fun _ _ _ _ K=>⟨_,rfl,rfl,K.keeps⟩)
theorem aFV (l:List Un):FnX Tryz.prog 174 1 [.buf 0,.v (.func (.func 175) #[] #[])] [(0,.ro 8 (aL l))] (fun _ _=>True) (fun (r:Nat) G h=>nB G h (.map (some r)) .string (eZ (l.map Un.name)))
  (fun r=>.ret (.tup [.v (.map (some r)),.v (.bool (eI (l.map Un.name)))]) 1 []):=by
 have hl:=aZ l
 have hn:(l.map Un.name).length=l.length:=List.length_map _
 refine FnX.of Tryz.func174 (by kernel_rfl) rfl Tryz.ntmps174 rfl fun E0 F G h N hP w0 cs=>?_
 conv=>whnf
 refine gS ?_;conv=>whnf
 refine aA.lenB 0 (fun m0=>?_)
 refine aA.makeMap .string ?_
 refine sqs ?_
 refine aA.subR [] (aA.loop (fun (⟨k,b⟩:Nat×Bool)=>[(13,.v (.int .i64 k)),(12,.v (.int .i64 (aL l).length)),(11,.buf 0),(4,.buf 1),(5,.v (.bool b)),(1,.v (.func (.func 175) #[] #[]))]) (fun (⟨k,b⟩:Nat×Bool)=>[(1,.map .string (fH (l.map Un.name) k)),(0,.ro 8 (aL l))]) 2 (fun (⟨k,b⟩:Nat×Bool)=>k≤l.length∧b=eI ((l.map Un.name).take k)) (fun (⟨k,b⟩:Nat×Bool)=>l.length - k) ?round1 ((0,false)) ?J01) sH sH
 case J01=>exact (⟨Nat.zero_le _,rfl⟩)
 rintro ⟨k,b⟩ hJ back
 try dsimp only at hJ back
 conv=>whnf
 try dsimp only
 refine gS ?_;conv=>whnf
 refine ⟨fun hk=>?_,fun hk=>?_⟩<;>conv=>whnf
 ·have hk:k<l.length:=by omega
  have hk2:k<(l.map Un.name).length:=by rw [hn];exact hk
  have e:(l.map Un.name)[k]=l[k].name:=List.getElem_map ..
  refine sI ?_
  refine ⟨_,dK hk,?_⟩;conv=>whnf
  try (refine oN ?_;conv=>whnf)
  refine aA.callV (fun Ez Hz Az Sz K=>aCM l[k]) ?_
  conv=>whnf
  refine sqs ?_
  by_cases hm:(l.map Un.name)[k]∈(l.map Un.name).take k
  ·obtain ⟨j,hj⟩:=pC hk2 hm
   rw [e] at hj
   refine aA.lookup (some (.int .i64 j)) siU vY aDI hj ?_
   refine mQ ?_
   refine aA.mapEq 1 (kR hk2 hm).symm ?_;conv=>whnf
   refine aA.subR [] (back ((k+1,true)) (by exact (⟨hk,zO hk2 hm⟩)) (by (try dsimp only);omega)) sH sH
  have hj:=oH hk2 hm
  rw [e] at hj
  have hs:=kY hk2 hm
  rw [e] at hs
  refine aA.lookup none siU vY aDI hj ?_
  refine sqs ?_
  refine aA.callV (fun Ez Hz Az Sz K=>aCM l[k]) ?_
  conv=>whnf
  refine sqs ?_
  refine aA.insert siU vY hj hs ?_
  refine mQ ?_
  refine aA.subR [] (back ((k+1,b)) (by exact (⟨hk,hJ.2.trans (aAE hk2 hm)⟩)) (by (try dsimp only);omega)) sH sH
 have hk:k=l.length:=by omega
 have hb:=hJ.2
 rw [hk,←hn,List.take_length] at hb
 clear back hJ
 subst hk hb
 conv=>whnf
 refine aA.concM N.gsub 1 (fun r G' h' N' R=>?_)
 conv=>whnf
 try refine aA.retU ?_
 exact aB.ret tab Tryz.func174 rfl (eX (N.trans N') (r) (fun h U=>by unfold eZ;rw [hn];exact R.up U))
theorem aGS (l:List It):FnX Tryz.prog 176 1 [.buf 0,.v (.func (.func 177) #[] #[])] [(0,.ro 6 (rws It.row l))] (fun _ _=>True) (fun (r:Nat) G h=>nB G h (.map (some r)) .string (eZ (l.map It.name)))
  (fun r=>.ret (.tup [.v (.map (some r)),.v (.bool (eI (l.map It.name)))]) 1 []):=by
 have hl:=aE It.row l
 have hn:(l.map It.name).length=l.length:=List.length_map _
 refine FnX.of Tryz.func176 (by kernel_rfl) rfl Tryz.ntmps176 rfl fun E0 F G h N hP w0 cs=>?_
 conv=>whnf
 refine gS ?_;conv=>whnf
 refine aA.lenB 0 (fun m0=>?_)
 refine aA.makeMap .string ?_
 refine sqs ?_
 refine aA.subR [] (aA.loop (fun (⟨k,b⟩:Nat×Bool)=>[(13,.v (.int .i64 k)),(12,.v (.int .i64 (rws It.row l).length)),(11,.buf 0),(4,.buf 1),(5,.v (.bool b)),(1,.v (.func (.func 177) #[] #[]))]) (fun (⟨k,b⟩:Nat×Bool)=>[(1,.map .string (fH (l.map It.name) k)),(0,.ro 6 (rws It.row l))]) 2 (fun (⟨k,b⟩:Nat×Bool)=>k≤l.length∧b=eI ((l.map It.name).take k)) (fun (⟨k,b⟩:Nat×Bool)=>l.length - k) ?round4 ((0,false)) ?J04) sH sH
 case J04=>exact (⟨Nat.zero_le _,rfl⟩)
 rintro ⟨k,b⟩ hJ back
 try dsimp only at hJ back
 conv=>whnf
 try dsimp only
 refine gS ?_;conv=>whnf
 refine ⟨fun hk=>?_,fun hk=>?_⟩<;>conv=>whnf
 ·have hk:k<l.length:=by omega
  have hk2:k<(l.map It.name).length:=by rw [hn];exact hk
  have e:(l.map It.name)[k]=l[k].name:=List.getElem_map ..
  refine sI ?_
  refine ⟨_,bA hk,?_⟩;conv=>whnf
  try (refine oN ?_;conv=>whnf)
  refine aA.callV (fun Ez Hz Az Sz K=>aCS l[k]) ?_
  conv=>whnf
  refine sqs ?_
  by_cases hm:(l.map It.name)[k]∈(l.map It.name).take k
  ·obtain ⟨j,hj⟩:=pC hk2 hm
   rw [e] at hj
   refine aA.lookup (some (.int .i64 j)) siU vY aDI hj ?_
   refine mQ ?_
   refine aA.mapEq 1 (kR hk2 hm).symm ?_;conv=>whnf
   refine aA.subR [] (back ((k+1,true)) (by exact (⟨hk,zO hk2 hm⟩)) (by (try dsimp only);omega)) sH sH
  have hj:=oH hk2 hm
  rw [e] at hj
  have hs:=kY hk2 hm
  rw [e] at hs
  refine aA.lookup none siU vY aDI hj ?_
  refine sqs ?_
  refine aA.callV (fun Ez Hz Az Sz K=>aCS l[k]) ?_
  conv=>whnf
  refine sqs ?_
  refine aA.insert siU vY hj hs ?_
  refine mQ ?_
  refine aA.subR [] (back ((k+1,b)) (by exact (⟨hk,hJ.2.trans (aAE hk2 hm)⟩)) (by (try dsimp only);omega)) sH sH
 have hk:k=l.length:=by omega
 have hb:=hJ.2
 rw [hk,←hn,List.take_length] at hb
 clear back hJ
 subst hk hb
 conv=>whnf
 refine aA.concM N.gsub 1 (fun r G' h' N' R=>?_)
 conv=>whnf
 try refine aA.retU ?_
 exact aB.ret tab Tryz.func176 rfl (eX (N.trans N') (r) (fun h U=>by unfold eZ;rw [hn];exact R.up U))
theorem aAD (l:List Mc):FnX Tryz.prog 180 1 [.buf 0,.v (.func (.func 181) #[] #[])] [(0,.ro 4 (rws Mc.row l))] (fun _ _=>True) (fun (r:Nat) G h=>nB G h (.map (some r)) .string (eZ (l.map Mc.name)))
  (fun r=>.ret (.tup [.v (.map (some r)),.v (.bool (eI (l.map Mc.name)))]) 1 []):=by
 have hl:=aE Mc.row l
 have hn:(l.map Mc.name).length=l.length:=List.length_map _
 refine FnX.of Tryz.func180 (by kernel_rfl) rfl Tryz.ntmps180 rfl fun E0 F G h N hP w0 cs=>?_
 conv=>whnf
 refine gS ?_;conv=>whnf
 refine aA.lenB 0 (fun m0=>?_)
 refine aA.makeMap .string ?_
 refine sqs ?_
 refine aA.subR [] (aA.loop (fun (⟨k,b⟩:Nat×Bool)=>[(13,.v (.int .i64 k)),(12,.v (.int .i64 (rws Mc.row l).length)),(11,.buf 0),(4,.buf 1),(5,.v (.bool b)),(1,.v (.func (.func 181) #[] #[]))]) (fun (⟨k,b⟩:Nat×Bool)=>[(1,.map .string (fH (l.map Mc.name) k)),(0,.ro 4 (rws Mc.row l))]) 2 (fun (⟨k,b⟩:Nat×Bool)=>k≤l.length∧b=eI ((l.map Mc.name).take k)) (fun (⟨k,b⟩:Nat×Bool)=>l.length - k) ?round7 ((0,false)) ?J07) sH sH
 case J07=>exact (⟨Nat.zero_le _,rfl⟩)
 rintro ⟨k,b⟩ hJ back
 try dsimp only at hJ back
 conv=>whnf
 try dsimp only
 refine gS ?_;conv=>whnf
 refine ⟨fun hk=>?_,fun hk=>?_⟩<;>conv=>whnf
 ·have hk:k<l.length:=by omega
  have hk2:k<(l.map Mc.name).length:=by rw [hn];exact hk
  have e:(l.map Mc.name)[k]=l[k].name:=List.getElem_map ..
  refine sI ?_
  refine ⟨_,bA hk,?_⟩;conv=>whnf
  try (refine oN ?_;conv=>whnf)
  refine aA.callV (fun Ez Hz Az Sz K=>uG l[k]) ?_
  conv=>whnf
  refine sqs ?_
  by_cases hm:(l.map Mc.name)[k]∈(l.map Mc.name).take k
  ·obtain ⟨j,hj⟩:=pC hk2 hm
   rw [e] at hj
   refine aA.lookup (some (.int .i64 j)) siU vY aDI hj ?_
   refine mQ ?_
   refine aA.mapEq 1 (kR hk2 hm).symm ?_;conv=>whnf
   refine aA.subR [] (back ((k+1,true)) (by exact (⟨hk,zO hk2 hm⟩)) (by (try dsimp only);omega)) sH sH
  have hj:=oH hk2 hm
  rw [e] at hj
  have hs:=kY hk2 hm
  rw [e] at hs
  refine aA.lookup none siU vY aDI hj ?_
  refine sqs ?_
  refine aA.callV (fun Ez Hz Az Sz K=>uG l[k]) ?_
  conv=>whnf
  refine sqs ?_
  refine aA.insert siU vY hj hs ?_
  refine mQ ?_
  refine aA.subR [] (back ((k+1,b)) (by exact (⟨hk,hJ.2.trans (aAE hk2 hm)⟩)) (by (try dsimp only);omega)) sH sH
 have hk:k=l.length:=by omega
 have hb:=hJ.2
 rw [hk,←hn,List.take_length] at hb
 clear back hJ
 subst hk hb
 conv=>whnf
 refine aA.concM N.gsub 1 (fun r G' h' N' R=>?_)
 conv=>whnf
 try refine aA.retU ?_
 exact aB.ret tab Tryz.func180 rfl (eX (N.trans N') (r) (fun h U=>by unfold eZ;rw [hn];exact R.up U))
theorem aBR (l:List OpV):FnX Tryz.prog 182 1 [.buf 0,.v (.func (.func 183) #[] #[])] [(0,.ro 2 (rws OpV.row l))] (fun _ _=>True) (fun (r:Nat) G h=>nB G h (.map (some r)) .string (eZ (l.map OpV.name)))
  (fun r=>.ret (.tup [.v (.map (some r)),.v (.bool (eI (l.map OpV.name)))]) 1 []):=by
 have hl:=aE OpV.row l
 have hn:(l.map OpV.name).length=l.length:=List.length_map _
 refine FnX.of Tryz.func182 (by kernel_rfl) rfl Tryz.ntmps182 rfl fun E0 F G h N hP w0 cs=>?_
 conv=>whnf
 refine gS ?_;conv=>whnf
 refine aA.lenB 0 (fun m0=>?_)
 refine aA.makeMap .string ?_
 refine sqs ?_
 refine aA.subR [] (aA.loop (fun (⟨k,b⟩:Nat×Bool)=>[(13,.v (.int .i64 k)),(12,.v (.int .i64 (rws OpV.row l).length)),(11,.buf 0),(4,.buf 1),(5,.v (.bool b)),(1,.v (.func (.func 183) #[] #[]))]) (fun (⟨k,b⟩:Nat×Bool)=>[(1,.map .string (fH (l.map OpV.name) k)),(0,.ro 2 (rws OpV.row l))]) 2 (fun (⟨k,b⟩:Nat×Bool)=>k≤l.length∧b=eI ((l.map OpV.name).take k)) (fun (⟨k,b⟩:Nat×Bool)=>l.length - k) ?round10 ((0,false)) ?J010) sH sH
 case J010=>exact (⟨Nat.zero_le _,rfl⟩)
 rintro ⟨k,b⟩ hJ back
 try dsimp only at hJ back
 conv=>whnf
 try dsimp only
 refine gS ?_;conv=>whnf
 refine ⟨fun hk=>?_,fun hk=>?_⟩<;>conv=>whnf
 ·have hk:k<l.length:=by omega
  have hk2:k<(l.map OpV.name).length:=by rw [hn];exact hk
  have e:(l.map OpV.name)[k]=l[k].name:=List.getElem_map ..
  refine sI ?_
  refine ⟨_,bA hk,?_⟩;conv=>whnf
  try (refine oN ?_;conv=>whnf)
  refine aA.callV (fun Ez Hz Az Sz K=>xM l[k]) ?_
  conv=>whnf
  refine sqs ?_
  by_cases hm:(l.map OpV.name)[k]∈(l.map OpV.name).take k
  ·obtain ⟨j,hj⟩:=pC hk2 hm
   rw [e] at hj
   refine aA.lookup (some (.int .i64 j)) siU vY aDI hj ?_
   refine mQ ?_
   refine aA.mapEq 1 (kR hk2 hm).symm ?_;conv=>whnf
   refine aA.subR [] (back ((k+1,true)) (by exact (⟨hk,zO hk2 hm⟩)) (by (try dsimp only);omega)) sH sH
  have hj:=oH hk2 hm
  rw [e] at hj
  have hs:=kY hk2 hm
  rw [e] at hs
  refine aA.lookup none siU vY aDI hj ?_
  refine sqs ?_
  refine aA.callV (fun Ez Hz Az Sz K=>xM l[k]) ?_
  conv=>whnf
  refine sqs ?_
  refine aA.insert siU vY hj hs ?_
  refine mQ ?_
  refine aA.subR [] (back ((k+1,b)) (by exact (⟨hk,hJ.2.trans (aAE hk2 hm)⟩)) (by (try dsimp only);omega)) sH sH
 have hk:k=l.length:=by omega
 have hb:=hJ.2
 rw [hk,←hn,List.take_length] at hb
 clear back hJ
 subst hk hb
 conv=>whnf
 refine aA.concM N.gsub 1 (fun r G' h' N' R=>?_)
 conv=>whnf
 try refine aA.retU ?_
 exact aB.ret tab Tryz.func182 rfl (eX (N.trans N') (r) (fun h U=>by unfold eZ;rw [hn];exact R.up U))
theorem rI (l:List ByteArray):FnX Tryz.prog 178 1 [.buf 0,.v (.func (.func 179) #[] #[])] [(0,.ro 1 (bV l))] (fun _ _=>True) (fun (r:Nat) G h=>nB G h (.map (some r)) .string (eZ l))
  (fun r=>.ret (.tup [.v (.map (some r)),.v (.bool (eI l))]) 1 []):=by
 have hl:=cK l
 have hn:l.length=l.length:=rfl
 refine FnX.of Tryz.func178 (by kernel_rfl) rfl Tryz.ntmps178 rfl fun E0 F G h N hP w0 cs=>?_
 conv=>whnf
 refine gS ?_;conv=>whnf
 refine aA.lenB 0 (fun m0=>?_)
 refine aA.makeMap .string ?_
 refine sqs ?_
 refine aA.subR [] (aA.loop (fun (⟨k,b⟩:Nat×Bool)=>[(13,.v (.int .i64 k)),(12,.v (.int .i64 (bV l).length)),(11,.buf 0),(4,.buf 1),(5,.v (.bool b)),(1,.v (.func (.func 179) #[] #[]))]) (fun (⟨k,b⟩:Nat×Bool)=>[(1,.map .string (fH l k)),(0,.ro 1 (bV l))]) 2 (fun (⟨k,b⟩:Nat×Bool)=>k≤l.length∧b=eI (l.take k)) (fun (⟨k,b⟩:Nat×Bool)=>l.length - k) ?round13 ((0,false)) ?J013) sH sH
 case J013=>exact (⟨Nat.zero_le _,rfl⟩)
 rintro ⟨k,b⟩ hJ back
 try dsimp only at hJ back
 conv=>whnf
 try dsimp only
 refine gS ?_;conv=>whnf
 refine ⟨fun hk=>?_,fun hk=>?_⟩<;>conv=>whnf
 ·have hk:k<l.length:=by omega
  have hk2:k<l.length:=by rw [hn];exact hk
  have e:l[k]=l[k]:=rfl
  refine sI ?_
  refine ⟨_,bA hk,?_⟩;conv=>whnf
  refine aA.callV (fun Ez Hz Az Sz K=>aIC l[k]) ?_
  conv=>whnf
  refine sqs ?_
  by_cases hm:l[k]∈l.take k
  ·obtain ⟨j,hj⟩:=pC hk2 hm
   rw [e] at hj
   refine aA.lookup (some (.int .i64 j)) siU vY aDI hj ?_
   refine mQ ?_
   refine aA.mapEq 1 (kR hk2 hm).symm ?_;conv=>whnf
   refine aA.subR [] (back ((k+1,true)) (by exact (⟨hk,zO hk2 hm⟩)) (by (try dsimp only);omega)) sH sH
  have hj:=oH hk2 hm
  rw [e] at hj
  have hs:=kY hk2 hm
  rw [e] at hs
  refine aA.lookup none siU vY aDI hj ?_
  refine sqs ?_
  refine aA.callV (fun Ez Hz Az Sz K=>aIC l[k]) ?_
  conv=>whnf
  refine sqs ?_
  refine aA.insert siU vY hj hs ?_
  refine mQ ?_
  refine aA.subR [] (back ((k+1,b)) (by exact (⟨hk,hJ.2.trans (aAE hk2 hm)⟩)) (by (try dsimp only);omega)) sH sH
 have hk:k=l.length:=by omega
 have hb:=hJ.2
 rw [hk,←hn,List.take_length] at hb
 clear back hJ
 subst hk hb
 conv=>whnf
 refine aA.concM N.gsub 1 (fun r G' h' N' R=>?_)
 conv=>whnf
 try refine aA.retU ?_
 exact aB.ret tab Tryz.func178 rfl (eX (N.trans N') (r) (fun h U=>by unfold eZ;rw [hn];exact R.up U))
def nD:List PanicEntry:=[{v:=.iface 329 (.agg #[]),recovered:=false}]
theorem aSV {h:Array Obj} {v:Value} {l:List ByteArray} (hv:nB (fun k=>k<h.size) h v .string (eZ l)) (nm:ByteArray):FnO Tryz.prog nD 187 #[v,.string nm] h (intO (cZ l nm)):=by
 have hg:=aQZ (l:=l) nm
 refine Fn.ofS (args:=[v,.string nm]) Tryz.func187 (by kernel_rfl) rfl Tryz.ntmps187 rfl fun w0 cs=>?_
 conv=>whnf
 refine gS ?_;conv=>whnf
 cases hf:cZ l nm with
 |some k=>
  rw [hf] at hg
  refine aA.lookupF hv (some (.int .i64 k)) siU vY aDI hg ?_
  refine sqs ?_
  refine aA.retU (aB.ret tab Tryz.func187 rfl fun Ez Hz Az Sz K=>⟨rfl,K.keeps⟩)
 |none=>
  rw [hf] at hg
  refine aA.lookupF hv none siU vY aDI hg ?_
  refine sqs ?_
  refine aA.build0 ?_
  refine sqs ?_
  refine aA.iface0 ?_ failU
  refine sqs ?_
  refine aA.panicX (v:=.agg #[]) ?_ (fun E=>rfl)
  refine aB.pan Tryz.func187 fun Ez Hz Az Sz K=>⟨rfl,K.keeps⟩
end Go.Proofs.YthjedpdedjhndaaGreatDoor

namespace Go.Proofs.YthjedpdedjhndaaGreatDoor
open Go Go.Fw Go.NatM Go.RatM Go.SrcM
set_option maxRecDepth 100000
set_option maxHeartbeats 99999999
theorem aRA (rows:List (List Value)) (hb:rows.length≤1000000):FnS Tryz.prog 260 1 [.buf 0] [(0,.ro 6 rows)] (fun _:Unit=>True) (fun _=>.ret (.buf 1) 2 [(1,.own 85 6 rows)]):=by
 refine FnS.of Tryz.func260 (by kernel_rfl) rfl Tryz.ntmps260 rfl fun E0 F h w0 cs=>?_
 conv=>whnf
 refine gS ?_;conv=>whnf
 refine aA.isNil tab (k:=3) (fun hr=>?_) ?_ rfl<;>conv=>whnf
 ·try refine gS ?_
  conv=>whnf
  refine aA.subR (nx':=1) (l':=[(2,.v (.slice none 0 0))]) (H':=[(0,.ro 6 rows)]) [] ?_ sH sH
  refine aA.nilOwn (l':=[(2,.buf 1)]) (H':=[(0,.ro 6 rows)]) 85 6 ?_ (by rfl) (by rfl) (by rfl)
  refine aA.rowsEq 1 hr.symm ?_;conv=>whnf
  try refine aA.retU ?_
  exact aB.ret tab Tryz.func260 rfl (eN () trivial)
 refine sqs ?_
 refine And.intro (fL (show 0+rows.length≤1000000 by omega)) ?_
 conv=>whnf
 refine sqs ?_
 try refine aA.retU ?_
 exact aB.ret tab Tryz.func260 rfl (aT.mk (()) (trivial) [(1,2)] sH rfl rfl (bH rfl rfl))
theorem aPY (rows:List (List Value)) (hb:rows.length≤1000000):FnS Tryz.prog 261 1 [.buf 0] [(0,.ro 4 rows)] (fun _:Unit=>True) (fun _=>.ret (.buf 1) 2 [(1,.own 136 4 rows)]):=by
 refine FnS.of Tryz.func261 (by kernel_rfl) rfl Tryz.ntmps261 rfl fun E0 F h w0 cs=>?_
 conv=>whnf
 refine gS ?_;conv=>whnf
 refine aA.isNil tab (k:=3) (fun hr=>?_) ?_ rfl<;>conv=>whnf
 ·try refine gS ?_
  conv=>whnf
  refine aA.subR (nx':=1) (l':=[(2,.v (.slice none 0 0))]) (H':=[(0,.ro 4 rows)]) [] ?_ sH sH
  refine aA.nilOwn (l':=[(2,.buf 1)]) (H':=[(0,.ro 4 rows)]) 136 4 ?_ (by rfl) (by rfl) (by rfl)
  refine aA.rowsEq 1 hr.symm ?_;conv=>whnf
  try refine aA.retU ?_
  exact aB.ret tab Tryz.func261 rfl (eN () trivial)
 refine sqs ?_
 refine And.intro (fL (show 0+rows.length≤1000000 by omega)) ?_
 conv=>whnf
 refine sqs ?_
 try refine aA.retU ?_
 exact aB.ret tab Tryz.func261 rfl (aT.mk (()) (trivial) [(1,2)] sH rfl rfl (bH rfl rfl))
theorem aQG (rows:List (List Value)) (hb:rows.length≤1000000):FnS Tryz.prog 262 1 [.buf 0] [(0,.ro 2 rows)] (fun _:Unit=>True) (fun _=>.ret (.buf 1) 2 [(1,.own 102 2 rows)]):=by
 refine FnS.of Tryz.func262 (by kernel_rfl) rfl Tryz.ntmps262 rfl fun E0 F h w0 cs=>?_
 conv=>whnf
 refine gS ?_;conv=>whnf
 refine aA.isNil tab (k:=3) (fun hr=>?_) ?_ rfl<;>conv=>whnf
 ·try refine gS ?_
  conv=>whnf
  refine aA.subR (nx':=1) (l':=[(2,.v (.slice none 0 0))]) (H':=[(0,.ro 2 rows)]) [] ?_ sH sH
  refine aA.nilOwn (l':=[(2,.buf 1)]) (H':=[(0,.ro 2 rows)]) 102 2 ?_ (by rfl) (by rfl) (by rfl)
  refine aA.rowsEq 1 hr.symm ?_;conv=>whnf
  try refine aA.retU ?_
  exact aB.ret tab Tryz.func262 rfl (eN () trivial)
 refine sqs ?_
 refine And.intro (fL (show 0+rows.length≤1000000 by omega)) ?_
 conv=>whnf
 refine sqs ?_
 try refine aA.retU ?_
 exact aB.ret tab Tryz.func262 rfl (aT.mk (()) (trivial) [(1,2)] sH rfl rfl (bH rfl rfl))
theorem aRP (rows:List (List Value)) (hb:rows.length≤1000000):FnS Tryz.prog 263 1 [.buf 0] [(0,.ro 1 rows)] (fun _:Unit=>True) (fun _=>.ret (.buf 1) 2 [(1,.own 45 1 rows)]):=by
 refine FnS.of Tryz.func263 (by kernel_rfl) rfl Tryz.ntmps263 rfl fun E0 F h w0 cs=>?_
 conv=>whnf
 refine gS ?_;conv=>whnf
 refine aA.isNil tab (k:=3) (fun hr=>?_) ?_ rfl<;>conv=>whnf
 ·try refine gS ?_
  conv=>whnf
  refine aA.subR (nx':=1) (l':=[(2,.v (.slice none 0 0))]) (H':=[(0,.ro 1 rows)]) [] ?_ sH sH
  refine aA.nilOwn (l':=[(2,.buf 1)]) (H':=[(0,.ro 1 rows)]) 45 1 ?_ (by rfl) (by rfl) (by rfl)
  refine aA.rowsEq 1 hr.symm ?_;conv=>whnf
  try refine aA.retU ?_
  exact aB.ret tab Tryz.func263 rfl (eN () trivial)
 refine sqs ?_
 refine And.intro (fL (show 0+rows.length≤1000000 by omega)) ?_
 conv=>whnf
 refine sqs ?_
 try refine aA.retU ?_
 exact aB.ret tab Tryz.func263 rfl (aT.mk (()) (trivial) [(1,2)] sH rfl rfl (bH rfl rfl))
theorem aQV (rows:List (List Value)) (hb:rows.length≤1000000):FnS Tryz.prog 266 1 [.buf 0] [(0,.ro 17 rows)] (fun _:Unit=>True) (fun _=>.ret (.buf 1) 2 [(1,.own 49 17 rows)]):=by
 refine FnS.of Tryz.func266 (by kernel_rfl) rfl Tryz.ntmps266 rfl fun E0 F h w0 cs=>?_
 conv=>whnf
 refine gS ?_;conv=>whnf
 refine aA.isNil tab (k:=3) (fun hr=>?_) ?_ rfl<;>conv=>whnf
 ·try refine gS ?_
  conv=>whnf
  refine aA.subR (nx':=1) (l':=[(2,.v (.slice none 0 0))]) (H':=[(0,.ro 17 rows)]) [] ?_ sH sH
  refine aA.nilOwn (l':=[(2,.buf 1)]) (H':=[(0,.ro 17 rows)]) 49 17 ?_ (by rfl) (by rfl) (by rfl)
  refine aA.rowsEq 1 hr.symm ?_;conv=>whnf
  try refine aA.retU ?_
  exact aB.ret tab Tryz.func266 rfl (eN () trivial)
 refine sqs ?_
 refine And.intro (fL (show 0+rows.length≤1000000 by omega)) ?_
 conv=>whnf
 refine sqs ?_
 try refine aA.retU ?_
 exact aB.ret tab Tryz.func266 rfl (aT.mk (()) (trivial) [(1,2)] sH rfl rfl (bH rfl rfl))
theorem aRI (rows:List (List Value)) (hb:rows.length≤1000000):FnS Tryz.prog 269 1 [.buf 0] [(0,.ro 3 rows)] (fun _:Unit=>True) (fun _=>.ret (.buf 1) 2 [(1,.own 272 3 rows)]):=by
 refine FnS.of Tryz.func269 (by kernel_rfl) rfl Tryz.ntmps269 rfl fun E0 F h w0 cs=>?_
 conv=>whnf
 refine gS ?_;conv=>whnf
 refine aA.isNil tab (k:=3) (fun hr=>?_) ?_ rfl<;>conv=>whnf
 ·try refine gS ?_
  conv=>whnf
  refine aA.subR (nx':=1) (l':=[(2,.v (.slice none 0 0))]) (H':=[(0,.ro 3 rows)]) [] ?_ sH sH
  refine aA.nilOwn (l':=[(2,.buf 1)]) (H':=[(0,.ro 3 rows)]) 272 3 ?_ (by rfl) (by rfl) (by rfl)
  refine aA.rowsEq 1 hr.symm ?_;conv=>whnf
  try refine aA.retU ?_
  exact aB.ret tab Tryz.func269 rfl (eN () trivial)
 refine sqs ?_
 refine And.intro (fL (show 0+rows.length≤1000000 by omega)) ?_
 conv=>whnf
 refine sqs ?_
 try refine aA.retU ?_
 exact aB.ret tab Tryz.func269 rfl (aT.mk (()) (trivial) [(1,2)] sH rfl rfl (bH rfl rfl))
theorem aSC (rows:List (List Value)) (hb:rows.length≤1000000):FnS Tryz.prog 270 1 [.buf 0] [(0,.ro 4 rows)] (fun _:Unit=>True) (fun _=>.ret (.buf 1) 2 [(1,.own 142 4 rows)]):=by
 refine FnS.of Tryz.func270 (by kernel_rfl) rfl Tryz.ntmps270 rfl fun E0 F h w0 cs=>?_
 conv=>whnf
 refine gS ?_;conv=>whnf
 refine aA.isNil tab (k:=3) (fun hr=>?_) ?_ rfl<;>conv=>whnf
 ·try refine gS ?_
  conv=>whnf
  refine aA.subR (nx':=1) (l':=[(2,.v (.slice none 0 0))]) (H':=[(0,.ro 4 rows)]) [] ?_ sH sH
  refine aA.nilOwn (l':=[(2,.buf 1)]) (H':=[(0,.ro 4 rows)]) 142 4 ?_ (by rfl) (by rfl) (by rfl)
  refine aA.rowsEq 1 hr.symm ?_;conv=>whnf
  try refine aA.retU ?_
  exact aB.ret tab Tryz.func270 rfl (eN () trivial)
 refine sqs ?_
 refine And.intro (fL (show 0+rows.length≤1000000 by omega)) ?_
 conv=>whnf
 refine sqs ?_
 try refine aA.retU ?_
 exact aB.ret tab Tryz.func270 rfl (aT.mk (()) (trivial) [(1,2)] sH rfl rfl (bH rfl rfl))
theorem aPT (rows:List (List Value)) (hb:rows.length≤1000000):FnS Tryz.prog 290 1 [.buf 0] [(0,.ro 4 rows)] (fun _:Unit=>True) (fun _=>.ret (.buf 1) 2 [(1,.own 191 4 rows)]):=by
 refine FnS.of Tryz.func290 (by kernel_rfl) rfl Tryz.ntmps290 rfl fun E0 F h w0 cs=>?_
 conv=>whnf
 refine gS ?_;conv=>whnf
 refine aA.isNil tab (k:=3) (fun hr=>?_) ?_ rfl<;>conv=>whnf
 ·try refine gS ?_
  conv=>whnf
  refine aA.subR (nx':=1) (l':=[(2,.v (.slice none 0 0))]) (H':=[(0,.ro 4 rows)]) [] ?_ sH sH
  refine aA.nilOwn (l':=[(2,.buf 1)]) (H':=[(0,.ro 4 rows)]) 191 4 ?_ (by rfl) (by rfl) (by rfl)
  refine aA.rowsEq 1 hr.symm ?_;conv=>whnf
  try refine aA.retU ?_
  exact aB.ret tab Tryz.func290 rfl (eN () trivial)
 refine sqs ?_
 refine And.intro (fL (show 0+rows.length≤1000000 by omega)) ?_
 conv=>whnf
 refine sqs ?_
 try refine aA.retU ?_
 exact aB.ret tab Tryz.func290 rfl (aT.mk (()) (trivial) [(1,2)] sH rfl rfl (bH rfl rfl))
theorem aQN (rows:List (List Value)) (hb:rows.length≤1000000):FnS Tryz.prog 291 1 [.buf 0] [(0,.ro 7 rows)] (fun _:Unit=>True) (fun _=>.ret (.buf 1) 2 [(1,.own 55 7 rows)]):=by
 refine FnS.of Tryz.func291 (by kernel_rfl) rfl Tryz.ntmps291 rfl fun E0 F h w0 cs=>?_
 conv=>whnf
 refine gS ?_;conv=>whnf
 refine aA.isNil tab (k:=3) (fun hr=>?_) ?_ rfl<;>conv=>whnf
 ·try refine gS ?_
  conv=>whnf
  refine aA.subR (nx':=1) (l':=[(2,.v (.slice none 0 0))]) (H':=[(0,.ro 7 rows)]) [] ?_ sH sH
  refine aA.nilOwn (l':=[(2,.buf 1)]) (H':=[(0,.ro 7 rows)]) 55 7 ?_ (by rfl) (by rfl) (by rfl)
  refine aA.rowsEq 1 hr.symm ?_;conv=>whnf
  try refine aA.retU ?_
  exact aB.ret tab Tryz.func291 rfl (eN () trivial)
 refine sqs ?_
 refine And.intro (fL (show 0+rows.length≤1000000 by omega)) ?_
 conv=>whnf
 refine sqs ?_
 try refine aA.retU ?_
 exact aB.ret tab Tryz.func291 rfl (aT.mk (()) (trivial) [(1,2)] sH rfl rfl (bH rfl rfl))
theorem aEH (rows:List (List Value)) (hb:rows.length≤1000000):FnS Tryz.prog 188 1 [.buf 0] [(0,.ro 1 rows)] (fun _:Unit=>True) (fun _=>.ret (.buf 1) 2 [(1,.own 9 1 rows)]):=by
 refine FnS.of Tryz.func188 (by kernel_rfl) rfl Tryz.ntmps188 rfl fun E0 F h w0 cs=>?_
 conv=>whnf
 refine gS ?_;conv=>whnf
 refine aA.isNil tab (k:=3) (fun hr=>?_) ?_ rfl<;>conv=>whnf
 ·try refine gS ?_
  conv=>whnf
  refine aA.subR (nx':=1) (l':=[(2,.v (.slice none 0 0))]) (H':=[(0,.ro 1 rows)]) [] ?_ sH sH
  refine aA.nilOwn (l':=[(2,.buf 1)]) (H':=[(0,.ro 1 rows)]) 9 1 ?_ (by rfl) (by rfl) (by rfl)
  refine aA.rowsEq 1 hr.symm ?_;conv=>whnf
  try refine aA.retU ?_
  exact aB.ret tab Tryz.func188 rfl (eN () trivial)
 refine sqs ?_
 refine And.intro (fL (show 0+rows.length≤1000000 by omega)) ?_
 conv=>whnf
 refine sqs ?_
 try refine aA.retU ?_
 exact aB.ret tab Tryz.func188 rfl (aT.mk (()) (trivial) [(1,2)] sH rfl rfl (bH rfl rfl))
structure vW (G:Nat→Prop) (h:Array Obj) (s:aG) (mU mI mP mM mO vC:Value):Prop where
 u:nB G h mU .string (eZ (s.units.map Un.name))
 i:nB G h mI .string (eZ (s.items.map It.name))
 p:nB G h mP .string (eZ s.plants)
 m:nB G h mM .string (eZ (s.machines.map Mc.name))
 o:nB G h mO .string (eZ (s.options.map OpV.name))
 c:∃ms:List Value,RoF G h vC 1 (ms.map fun m=>[m])∧ms.length=s.options.length ∧ ∀k (h1:k<ms.length) (h2:k<s.options.length),nB G h ms[k] .string (eZ s.options[k].ch)
theorem vW.up {G G':Nat→Prop} {h h':Array Obj} {s:aG} {mU mI mP mM mO vC:Value} (H:vW G h s mU mI mP mM mO vC) (U:Up G h G' h'):vW G' h' s mU mI mP mM mO vC:=by
 obtain ⟨ms,c1,c2,c3⟩:=H.c
 exact ⟨H.u.up U,H.i.up U,H.p.up U,H.m.up U,H.o.up U,ms,RoF.up U c1,c2,fun k h1 h2=>(c3 k h1 h2).up U⟩
theorem vW.tok (s:aG) (mU mI mP mM mO vC:Value):TOk (fun F h=>vW F h s mU mI mP mM mO vC):=⟨fun _ _ _ hs H=>H.up ⟨hs,fun _ _=>rfl⟩,fun _ _ _ H K=>H.up ⟨fun _ x=>x,K.same⟩⟩
abbrev gZ (b:Nat) (mU mI mP mM mO vC:Value):Nat×Fw.Blk:=(b,.cells 163 [.v mU,.v mI,.v mP,.v mM,.v mO,.v vC])
theorem gI {h:Array Obj} {v:Value} {l:List ByteArray} (hv:nB (fun k=>k<h.size) h v .string (eZ l)) {nm:ByteArray} {k:Nat} (hf:cZ l nm=some k):FnO Tryz.prog nD 187 #[v,.string nm] h (some (.int .i64 k)):=by
 have:=aSV hv nm
 rw [hf] at this
 exact this
theorem lQ {h:Array Obj} {v:Value} {l:List ByteArray} (hv:nB (fun k=>k<h.size) h v .string (eZ l)) {nm:ByteArray} (hf:cZ l nm=none):FnO Tryz.prog nD 187 #[v,.string nm] h none:=by
 have:=aSV hv nm
 rw [hf] at this
 exact this
section
variable {s:aG} {mU mI mP mM mO vC:Value}
abbrev ResT (s:aG) (mU mI mP mM mO vC:Value) (F:Nat→Prop) (h:Array Obj):Prop:=vW F h s mU mI mP mM mO vC
abbrev aNN (e sz:Nat) (rows:List (List Value)) (k:Nat) (mU mI mP mM mO vC:Value):Option (List Value)→eR
 |some r=>.ret (.tup []) 2 [(0,.own e sz (rows.set k r)),gZ 1 mU mI mP mM mO vC]
 |none=>.pan nD 2 [(0,.own e sz rows),gZ 1 mU mI mP mM mO vC]
theorem clIt_fn (rows:List (List Value)) (k:Nat) (i:It) (hrow:rows[k]? = some i.row):FnT Tryz.prog (ResT s mU mI mP mM mO vC) 186 2 [.row 0 k 0 6,.ptr 1 0] [(0,.own 85 6 rows),gZ 1 mU mI mP mM mO vC] (fun x=>x=(oI s i).map It.row) (aNN 85 6 rows k mU mI mP mM mO vC):=by
 have hr':rows[((k:Nat):Int).toNat]? = some i.row:=hrow
 refine FnT.of Tryz.func186 (by kernel_rfl) rfl Tryz.ntmps186 rfl fun E0 F h hT w0 cs=>?_
 conv=>whnf
 refine gS ?_;conv=>whnf
 refine aA.held tab (.fl 0 (.fl 1 (.fl 2 (.fl 3 (.fl 4 (.fl 5 (.fl 6 (.e1 7 [] (.fl 8 (.fl 9 (.e1 10 [] .done))))))))))) (by kernel_rfl) ?_;conv=>whnf
 refine sqr ?_
 refine ⟨_,hr',?_⟩;conv=>whnf
 cases hf:cZ (s.units.map Un.name) i.unit with
 |none=>
  refine aK.callF (fun Ez Hz Az Sz K=>lQ (hT.u.up (Up.kp K)) hf) (by (conv=>whnf);(repeat (guard_target=_∧_;refine And.intro (by (conv=>whnf);first|rfl|exact trivial) ?_;conv=>whnf));exact trivial) ?_
  exact aB.pan Tryz.func186 (aT.mk (none) ((by unfold oI;rw [hf];rfl)) [] sH rfl rfl (aQ rfl))
 |some u=>
  refine aK.callS (fun Ez Hz Az Sz K=>gI (hT.u.up (Up.kp K)) hf) (by (conv=>whnf);(repeat (guard_target=_∧_;refine And.intro (by (conv=>whnf);first|rfl|exact trivial) ?_;conv=>whnf));exact trivial) ?_
  conv=>whnf
  refine sqr ?_
  refine aK.rput tab (_) (hr') ?_;conv=>whnf
  try refine oB ?_
  refine sqr ?_
  refine sqs ?_
  try refine aA.finU ?_
  exact aB.ret tab Tryz.func186 rfl (aT.mk (some (It.row {i with un:=(u:Nat)})) ((by unfold oI;rw [hf];rfl)) [] sH rfl rfl (bH rfl rfl))
theorem clMc_fn (rows:List (List Value)) (k:Nat) (i:Mc) (hrow:rows[k]? = some i.row):FnT Tryz.prog (ResT s mU mI mP mM mO vC) 190 2 [.row 0 k 0 4,.ptr 1 0] [(0,.own 136 4 rows),gZ 1 mU mI mP mM mO vC] (fun x=>x=(pH s i).map Mc.row) (aNN 136 4 rows k mU mI mP mM mO vC):=by
 have hr':rows[((k:Nat):Int).toNat]? = some i.row:=hrow
 refine FnT.of Tryz.func190 (by kernel_rfl) rfl Tryz.ntmps190 rfl fun E0 F h hT w0 cs=>?_
 conv=>whnf
 refine gS ?_;conv=>whnf
 refine aA.held tab (.fl 0 (.fl 1 (.fl 2 (.fl 3 (.fl 4 (.fl 5 (.fl 6 (.e1 7 [] (.fl 8 (.fl 9 (.e1 10 [] .done))))))))))) (by kernel_rfl) ?_;conv=>whnf
 refine sqr ?_
 refine ⟨_,hr',?_⟩;conv=>whnf
 cases hf:cZ (s.plants) i.plant with
 |none=>
  refine aK.callF (fun Ez Hz Az Sz K=>lQ (hT.p.up (Up.kp K)) hf) (by (conv=>whnf);(repeat (guard_target=_∧_;refine And.intro (by (conv=>whnf);first|rfl|exact trivial) ?_;conv=>whnf));exact trivial) ?_
  exact aB.pan Tryz.func190 (aT.mk (none) ((by unfold pH;rw [hf];rfl)) [] sH rfl rfl (aQ rfl))
 |some u=>
  refine aK.callS (fun Ez Hz Az Sz K=>gI (hT.p.up (Up.kp K)) hf) (by (conv=>whnf);(repeat (guard_target=_∧_;refine And.intro (by (conv=>whnf);first|rfl|exact trivial) ?_;conv=>whnf));exact trivial) ?_
  conv=>whnf
  refine sqr ?_
  refine aK.rput tab (_) (hr') ?_;conv=>whnf
  try refine oB ?_
  refine sqr ?_
  refine sqs ?_
  try refine aA.finU ?_
  exact aB.ret tab Tryz.func190 rfl (aT.mk (some (Mc.row {i with pn:=(u:Nat)})) ((by unfold pH;rw [hf];rfl)) [] sH rfl rfl (bH rfl rfl))
theorem clRn_fn (rows:List (List Value)) (k:Nat) (i:Rn) (hrow:rows[k]? = some i.row):FnT Tryz.prog (ResT s mU mI mP mM mO vC) 200 2 [.row 0 k 0 3,.ptr 1 0] [(0,.own 272 3 rows),gZ 1 mU mI mP mM mO vC] (fun x=>x=(pQ s i).map Rn.row) (aNN 272 3 rows k mU mI mP mM mO vC):=by
 have hr':rows[((k:Nat):Int).toNat]? = some i.row:=hrow
 refine FnT.of Tryz.func200 (by kernel_rfl) rfl Tryz.ntmps200 rfl fun E0 F h hT w0 cs=>?_
 conv=>whnf
 refine gS ?_;conv=>whnf
 refine aA.held tab (.fl 0 (.fl 1 (.fl 2 (.fl 3 (.fl 4 (.fl 5 (.fl 6 (.e1 7 [] (.fl 8 (.fl 9 (.e1 10 [] .done))))))))))) (by kernel_rfl) ?_;conv=>whnf
 refine sqr ?_
 refine ⟨_,hr',?_⟩;conv=>whnf
 cases hf:cZ (s.machines.map Mc.name) i.mach with
 |none=>
  refine aK.callF (fun Ez Hz Az Sz K=>lQ (hT.m.up (Up.kp K)) hf) (by (conv=>whnf);(repeat (guard_target=_∧_;refine And.intro (by (conv=>whnf);first|rfl|exact trivial) ?_;conv=>whnf));exact trivial) ?_
  exact aB.pan Tryz.func200 (aT.mk (none) ((by unfold pQ;rw [hf];rfl)) [] sH rfl rfl (aQ rfl))
 |some u=>
  refine aK.callS (fun Ez Hz Az Sz K=>gI (hT.m.up (Up.kp K)) hf) (by (conv=>whnf);(repeat (guard_target=_∧_;refine And.intro (by (conv=>whnf);first|rfl|exact trivial) ?_;conv=>whnf));exact trivial) ?_
  conv=>whnf
  refine sqr ?_
  refine aK.rput tab (_) (hr') ?_;conv=>whnf
  try refine oB ?_
  refine sqr ?_
  refine sqs ?_
  try refine aA.finU ?_
  exact aB.ret tab Tryz.func200 rfl (aT.mk (some (Rn.row {i with mn:=(u:Nat)})) ((by unfold pQ;rw [hf];rfl)) [] sH rfl rfl (bH rfl rfl))
end
end Go.Proofs.YthjedpdedjhndaaGreatDoor

namespace Go.Proofs.YthjedpdedjhndaaGreatDoor
open Go Go.Fw Go.NatM Go.RatM Go.SrcM
set_option maxRecDepth 100000
set_option maxHeartbeats 99999999
section
variable {s:aG} {mU mI mP mM mO vC:Value}
theorem flat1 {α:Type}:∀l:List α,(l.map fun m=>[m]).flatten=l
 | []=>rfl
 |a::l=>congrArg (a :: ·) (flat1 l)
theorem jD {α:Type} {l:List α} {k:Nat} {a b:α} (h:l[k]? = some a):(l.set k b)[k]? = some b:=by
 rw [List.getElem?_set_self (List.getElem?_eq_some_iff.1 h).1]
theorem clSw_fn (rows:List (List Value)) (k:Nat) (i:Sw) (hrow:rows[k]? = some i.row):FnT Tryz.prog (ResT s mU mI mP mM mO vC) 202 2 [.row 0 k 0 4,.ptr 1 0] [(0,.own 142 4 rows),gZ 1 mU mI mP mM mO vC] (fun x=>x=(nS s i).map Sw.row) (aNN 142 4 rows k mU mI mP mM mO vC):=by
 have hr':rows[((k:Nat):Int).toNat]? = some i.row:=hrow
 have hlt:k<rows.length:=(List.getElem?_eq_some_iff.1 hrow).1
 refine FnT.of Tryz.func202 (by kernel_rfl) rfl Tryz.ntmps202 rfl fun E0 F h hT w0 cs=>?_
 conv=>whnf
 refine gS ?_;conv=>whnf
 refine aA.held tab (.fl 0 (.fl 1 (.fl 2 (.fl 3 (.fl 4 (.fl 5 (.fl 6 (.fl 7 (.fl 9 (.fl 10 (.fl 11 (.fl 12 (.fl 13 (.fl 14 (.e1 8 [10,14] (.e1 15 [] (.fl 16 (.fl 17 (.e1 18 [] (.fl 19 (.fl 20 (.e1 21 [] .done)))))))))))))))))))))) (by kernel_rfl) ?_;conv=>whnf
 refine sqr ?_
 refine ⟨_,hr',?_⟩;conv=>whnf
 refine ⟨_,hr',?_⟩;conv=>whnf
 cases hf:cZ (s.items.map It.name) i.a with
 |none=>
  refine aK.callF (fun Ez Hz Az Sz K=>lQ (hT.i.up (Up.kp K)) hf) (by (conv=>whnf);(repeat (guard_target=_∧_;refine And.intro (by (conv=>whnf);first|rfl|exact trivial) ?_;conv=>whnf));exact trivial) ?_
  exact aB.pan Tryz.func202 (aT.mk (none) ((by unfold nS;rw [hf];rfl)) [] sH rfl rfl (aQ rfl))
 |some u=>
  refine aK.callS (fun Ez Hz Az Sz K=>gI (hT.i.up (Up.kp K)) hf) (by (conv=>whnf);(repeat (guard_target=_∧_;refine And.intro (by (conv=>whnf);first|rfl|exact trivial) ?_;conv=>whnf));exact trivial) ?_
  conv=>whnf
  refine sqr ?_
  cases hg:cZ (s.items.map It.name) i.b with
  |none=>
   refine aK.callF (fun Ez Hz Az Sz K=>lQ (hT.i.up (Up.kp K)) hg) (by (conv=>whnf);(repeat (guard_target=_∧_;refine And.intro (by (conv=>whnf);first|rfl|exact trivial) ?_;conv=>whnf));exact trivial) ?_
   exact aB.pan Tryz.func202 (aT.mk (none) ((by unfold nS;rw [hf];simp only [hg];rfl)) [] sH rfl rfl (aQ rfl))
  |some v=>
   have hl2:(rows.set ((k:Nat):Int).toNat (jX i.row 2 [.int .i64 u])).length=rows.length:=List.length_set
   refine aK.callS (fun Ez Hz Az Sz K=>gI (hT.i.up (Up.kp K)) hg) (by (conv=>whnf);(repeat (guard_target=_∧_;refine And.intro (by (conv=>whnf);first|rfl|exact trivial) ?_;conv=>whnf));exact trivial) ?_
   conv=>whnf
   refine sqr ?_
   refine aK.rput tab (_) (hr') ?_;conv=>whnf
   try refine oB ?_
   refine sqr ?_
   refine aK.rput tab (_) (jD hr') ?_;conv=>whnf
   try refine oB ?_
   refine sqr ?_
   refine sqs ?_
   refine aA.rowsEq 0 (show (rows.set k (jX i.row 2 [.int .i64 u])).set k (jX (jX i.row 2 [.int .i64 u]) 3 [.int .i64 v])=rows.set k (Sw.row {i with an:=(u:Nat),bn:=(v:Nat)}) by rw [List.set_set];rfl) ?_
   conv=>whnf
   try refine aA.finU ?_
   exact aB.ret tab Tryz.func202 rfl (aT.mk (some (Sw.row {i with an:=(u:Nat),bn:=(v:Nat)})) ((by unfold nS;rw [hf];simp only [hg];rfl)) [] sH rfl rfl (bH rfl rfl))
theorem clAm_fn (rows:List (List Value)) (k:Nat) (i:Am) (hrow:rows[k]? = some i.row):FnT Tryz.prog (ResT s mU mI mP mM mO vC) 268 2 [.row 0 k 0 7,.ptr 1 0] [(0,.own 55 7 rows),gZ 1 mU mI mP mM mO vC] (fun x=>x=(lK s i).map Am.row) (aNN 55 7 rows k mU mI mP mM mO vC):=by
 have hr':rows[((k:Nat):Int).toNat]? = some i.row:=hrow
 have hlt:k<rows.length:=(List.getElem?_eq_some_iff.1 hrow).1
 refine FnT.of Tryz.func268 (by kernel_rfl) rfl Tryz.ntmps268 rfl fun E0 F h hT w0 cs=>?_
 conv=>whnf
 refine gS ?_;conv=>whnf
 refine aA.held tab (.fl 0 (.fl 1 (.fl 2 (.fl 3 (.fl 4 (.fl 5 (.fl 6 (.fl 7 (.fl 9 (.fl 10 (.fl 11 (.fl 12 (.fl 13 (.fl 14 (.e1 8 [10,14] (.e1 15 [] (.fl 16 (.fl 17 (.e1 18 [] (.fl 19 (.fl 20 (.e1 21 [] .done)))))))))))))))))))))) (by kernel_rfl) ?_;conv=>whnf
 refine sqr ?_
 refine ⟨_,hr',?_⟩;conv=>whnf
 refine ⟨_,hr',?_⟩;conv=>whnf
 cases hf:cZ (s.units.map Un.name) i.unit with
 |none=>
  refine aK.callF (fun Ez Hz Az Sz K=>lQ (hT.u.up (Up.kp K)) hf) (by (conv=>whnf);(repeat (guard_target=_∧_;refine And.intro (by (conv=>whnf);first|rfl|exact trivial) ?_;conv=>whnf));exact trivial) ?_
  exact aB.pan Tryz.func268 (aT.mk (none) ((by unfold lK;rw [hf];rfl)) [] sH rfl rfl (aQ rfl))
 |some u=>
  refine aK.callS (fun Ez Hz Az Sz K=>gI (hT.u.up (Up.kp K)) hf) (by (conv=>whnf);(repeat (guard_target=_∧_;refine And.intro (by (conv=>whnf);first|rfl|exact trivial) ?_;conv=>whnf));exact trivial) ?_
  conv=>whnf
  refine sqr ?_
  cases hg:cZ (s.items.map It.name) i.item with
  |none=>
   refine aK.callF (fun Ez Hz Az Sz K=>lQ (hT.i.up (Up.kp K)) hg) (by (conv=>whnf);(repeat (guard_target=_∧_;refine And.intro (by (conv=>whnf);first|rfl|exact trivial) ?_;conv=>whnf));exact trivial) ?_
   exact aB.pan Tryz.func268 (aT.mk (none) ((by unfold lK;rw [hf];simp only [hg];rfl)) [] sH rfl rfl (aQ rfl))
  |some v=>
   have hl2:(rows.set ((k:Nat):Int).toNat (jX i.row 5 [.int .i64 u])).length=rows.length:=List.length_set
   refine aK.callS (fun Ez Hz Az Sz K=>gI (hT.i.up (Up.kp K)) hg) (by (conv=>whnf);(repeat (guard_target=_∧_;refine And.intro (by (conv=>whnf);first|rfl|exact trivial) ?_;conv=>whnf));exact trivial) ?_
   conv=>whnf
   refine sqr ?_
   refine aK.rput tab (_) (hr') ?_;conv=>whnf
   try refine oB ?_
   refine sqr ?_
   refine aK.rput tab (_) (jD hr') ?_;conv=>whnf
   try refine oB ?_
   refine sqr ?_
   refine sqs ?_
   refine aA.rowsEq 0 (show (rows.set k (jX i.row 5 [.int .i64 u])).set k (jX (jX i.row 5 [.int .i64 u]) 6 [.int .i64 v])=rows.set k (Am.row {i with un:=(u:Nat),inn:=(v:Nat)}) by rw [List.set_set];rfl) ?_
   conv=>whnf
   try refine aA.finU ?_
   exact aB.ret tab Tryz.func268 rfl (aT.mk (some (Am.row {i with un:=(u:Nat),inn:=(v:Nat)})) ((by unfold lK;rw [hf];simp only [hg];rfl)) [] sH rfl rfl (bH rfl rfl))
theorem clCd_fn (rows:List (List Value)) (k:Nat) (i:Cd) (hrow:rows[k]? = some i.row):FnT Tryz.prog (ResT s mU mI mP mM mO vC) 265 2 [.row 0 k 0 4,.ptr 1 0] [(0,.own 191 4 rows),gZ 1 mU mI mP mM mO vC] (fun (x:Option Cd)=>x=jV s i)
  (fun x=>match x with
   |some j=>.ret (.tup []) 2 [(0,.own 191 4 (rows.set k j.row)),gZ 1 mU mI mP mM mO vC]
   |none=>.pan nD 3 [gZ 1 mU mI mP mM mO vC]):=by
 have hr':rows[((k:Nat):Int).toNat]? = some i.row:=hrow
 have hlt:k<rows.length:=(List.getElem?_eq_some_iff.1 hrow).1
 refine FnT.of Tryz.func265 (by kernel_rfl) rfl Tryz.ntmps265 rfl fun E0 F h hT w0 cs=>?_
 conv=>whnf
 refine gS ?_;conv=>whnf
 refine aA.held tab (.fl 0 (.fl 1 (.fl 2 (.fl 3 (.fl 4 (.fl 5 (.fl 6 (.e1 7 [] (.fl 8 (.fl 9 (.e1 10 [] .done))))))))))) (by kernel_rfl) ?_;conv=>whnf
 refine sqr ?_
 refine ⟨_,hr',?_⟩;conv=>whnf
 cases hf:cZ (s.options.map OpV.name) i.opt with
 |none=>
  refine aK.callF (fun Ez Hz Az Sz K=>lQ (hT.o.up (Up.kp K)) hf) (by (conv=>whnf);(repeat (guard_target=_∧_;refine And.intro (by (conv=>whnf);first|rfl|exact trivial) ?_;conv=>whnf));exact trivial) ?_
  exact aB.pan Tryz.func265 (aT.mk (none) ((by unfold jV;rw [hf])) [] sH rfl rfl (aQ rfl))
 |some u=>
  refine aK.callS (fun Ez Hz Az Sz K=>gI (hT.o.up (Up.kp K)) hf) (by (conv=>whnf);(repeat (guard_target=_∧_;refine And.intro (by (conv=>whnf);first|rfl|exact trivial) ?_;conv=>whnf));exact trivial) ?_
  conv=>whnf
  refine sqr ?_
  refine aK.rput tab (_) (hr') ?_;conv=>whnf
  try refine oB ?_
  refine sqr ?_
  refine sqs ?_
  obtain ⟨hu,_,_⟩:=aGF.1 hf
  rw [List.length_map] at hu
  obtain ⟨ms,⟨c1,c2,a,cap,rfl,c3⟩,c4,c5⟩:=hT.c
  have hms:u<ms.length:=by rw [c4];exact hu
  rcases c3 with c3|⟨g,o,rfl,c6,c7⟩
  ·have h0:ms=[]:=List.map_eq_nil_iff.1 c3
   rw [h0] at hms
   cases hms
  have hcell:bL h g (o+u)=some ms[u]:=c7 u _ (by rw [flat1];exact List.getElem?_eq_getElem hms)
  have hl3:(ms.map fun m=>[m]).length=ms.length:=List.length_map _
  refine aA.held tab (.fl 0 (.fl 1 (.fl 2 (.fl 3 (.fl 4 (.fl 5 (.fl 6 (.fl 7 (.fl 8 (.fl 9 (.fl 10 (.fl 11 (.fl 12 (.e1 13 [] (.fl 14 (.fl 15 (.e1 16 [] .done))))))))))))))))) (by kernel_rfl) ?_;conv=>whnf
  refine sqr ?_
  refine ⟨_,(jD hr'),?_⟩;conv=>whnf
  try (refine oN ?_;conv=>whnf)
  conv=>whnf
  refine ⟨_,⟨c6,hcell⟩,?_⟩;conv=>whnf
  have h2:u<s.options.length:=hu
  refine ⟨_,(jD hr'),?_⟩;conv=>whnf
  cases hg:cZ s.options[u].ch i.ch with
  |none=>
   refine aK.callF (fun Ez Hz Az Sz K=>lQ ((c5 u hms h2).up (Up.kp K)) hg) (by (conv=>whnf);(repeat (guard_target=_∧_;refine And.intro (by (conv=>whnf);first|rfl|exact trivial) ?_;conv=>whnf));exact trivial) ?_
   exact aB.pan Tryz.func265 (aT.mk (none) ((by unfold jV;rw [hf];simp only [List.getElem?_eq_getElem h2,hg];rfl)) [] sH rfl rfl (aQ rfl))
  |some v=>
   refine aK.callS (fun Ez Hz Az Sz K=>gI ((c5 u hms h2).up (Up.kp K)) hg) (by (conv=>whnf);(repeat (guard_target=_∧_;refine And.intro (by (conv=>whnf);first|rfl|exact trivial) ?_;conv=>whnf));exact trivial) ?_
   conv=>whnf
   refine sqr ?_
   refine aK.rput tab (_) (jD hr') ?_;conv=>whnf
   try refine oB ?_
   refine sqr ?_
   refine sqs ?_
   refine aA.rowsEq 0 (show (rows.set k (jX i.row 2 [.int .i64 u])).set k (jX (jX i.row 2 [.int .i64 u]) 3 [.int .i64 v])=rows.set k (Cd.row {i with on:=(u:Nat),cn:=(v:Nat)}) by rw [List.set_set];rfl) ?_
   conv=>whnf
   try refine aA.finU ?_
   exact aB.ret tab Tryz.func265 rfl (aT.mk (some {i with on:=(u:Nat),cn:=(v:Nat)}) ((by unfold jV;rw [hf];simp only [List.getElem?_eq_getElem h2,hg];rfl)) [] sH rfl rfl (bH rfl rfl))
end
end Go.Proofs.YthjedpdedjhndaaGreatDoor

namespace Go.Proofs.YthjedpdedjhndaaGreatDoor
open Go Go.Fw Go.NatM Go.RatM Go.SrcM
set_option maxRecDepth 100000
set_option maxHeartbeats 99999999
section
variable {s:aG} {mU mI mP mM mO vC:Value}
abbrev aBC {α:Type} (row:α→List Value) (e sz:Nat) (mU mI mP mM mO vC:Value):Option (List α)→eR
 |some m=>.ret (.buf 1) 2 [(1,.own e sz (rws row m)),gZ 0 mU mI mP mM mO vC]
 |none=>.pan nD 1 [gZ 0 mU mI mP mM mO vC]
abbrev pZ (v:Value) (sz:Nat) (rows:List (List Value)) (s:aG) (mU mI mP mM mO vC:Value) (F:Nat→Prop) (h:Array Obj):Prop:=RoF F h v sz rows∧vW F h s mU mI mP mM mO vC
theorem pZ.tok (v:Value) (sz:Nat) (rows:List (List Value)) (s:aG) (mU mI mP mM mO vC:Value):TOk (pZ v sz rows s mU mI mP mM mO vC):=
 ⟨fun _ _ _ hs H=>⟨RoF.up ⟨hs,fun _ _=>rfl⟩ H.1,H.2.up ⟨hs,fun _ _=>rfl⟩⟩,fun _ _ _ H K=>⟨RoF.up ⟨fun _ x=>x,K.same⟩ H.1,H.2.up ⟨fun _ x=>x,K.same⟩⟩⟩
theorem aBZ {α:Type} {f:α→List Value} {g:α→α} {l:List α} {k:Nat} (hk:k<l.length):(rws f (tT g l k)).length=l.length:=aYJ (Nat.le_of_lt hk)
theorem qN {α:Type} {f:α→List Value} {res:α→Option α} {l:List α} {k:Nat} (hk:k<l.length) {b:α} (hr:res l[k]=some b):(rws f (tT (fun a=>(res a).getD a) l k)).set k (f b)=rws f (tT (fun a=>(res a).getD a) l (k+1)):=
 aXY hk (show f b=f ((res l[k]).getD l[k]) by rw [hr];rfl)
theorem rD {α:Type} {res:α→Option α} {l:List α} {k:Nat} (hk:k<l.length) {b:α} (hr:res l[k]=some b) (h:∀i (hi:i<l.length),i<k→res l[i]≠none):∀i (hi:i<l.length),i<k+1→res l[i]≠none:=by
 intro i hi h1
 rcases Nat.lt_or_eq_of_le (Nat.le_of_lt_succ h1) with h2|rfl
 ·exact h i hi h2
 rw [hr];exact Option.some_ne_none _
theorem rK {α:Type} {res:α→Option α} {l:List α} {k:Nat} (h:∀i (hi:i<l.length),i<k→res l[i]≠none) (hk:k=l.length):cH res l=some (l.map fun a=>(res a).getD a):=
 aVK (fun i hi=>h i hi (hk▸hi))
theorem bAN (v:Value) (l:List It) (hb:l.length≤1000000):FnT Tryz.prog (pZ v 6 (rws It.row l) s mU mI mP mM mO vC) 185 1 [.v v,.fn (.func 186) [] [.ptr 0 0]] [gZ 0 mU mI mP mM mO vC] (fun x=>x=cH (oI s) l) (aBC It.row 85 6 mU mI mP mM mO vC):=by
 have hl:=aE It.row l
 refine FnT.of Tryz.func185 (by kernel_rfl) rfl Tryz.ntmps185 rfl fun E0 F h hT w0 cs=>?_
 conv=>whnf
 refine gS ?_;conv=>whnf
 refine aA.nameAt (fun _ x=>x) 6 (by exact hT.1) ?_
 conv=>whnf
 refine sqs ?_
 refine aA.callN (aRA (rws It.row l) (by omega)) [1] ?_ sH ?CNa1
 case CNa1=>rfl
 intro _ _
 conv=>whnf
 refine sqs ?_
 refine aA.subR [] (aA.loop (fun (k:Nat)=>[(10,.v (.int .i64 k)),(9,.v (.int .i64 (rws It.row l).length)),(0,.buf 2),(1,.fn (.func 186) [] [.ptr 0 0])]) (fun (k:Nat)=>[(2,.own 85 6 (rws It.row (tT (fun a=>(oI s a).getD a) l k))),gZ 0 mU mI mP mM mO vC]) 3 (fun (k:Nat)=>k≤l.length ∧ ∀i (hi:i<l.length),i<k→oI s l[i]≠none) (fun (k:Nat)=>l.length - k) ?round2 (0) ?J02) sH sH
 case J02=>exact (⟨Nat.zero_le _,fun _ _ h=>absurd h (Nat.not_lt_zero _)⟩)
 rintro k hJ back
 conv=>whnf
 refine gS ?_;conv=>whnf
 refine ⟨fun hk=>?_,fun hk=>?_⟩<;>conv=>whnf
 ·have hk:k<l.length:=by omega
  have hm:=aBZ (f:=It.row) (g:=fun a=>(oI s a).getD a) hk
  refine sI ?_
  refine aA.callT (vW.tok s mU mI mP mM mO vC) (hT.2) (clIt_fn _ k l[k] (rR hk)) [2,0] sH ?CNa3 ?_
  case CNa3=>rfl
  rintro x hx
  cases hr:oI s l[k] with
  |none=>
   rw [hr] at hx
   subst hx
   conv=>whnf
   exact aB.pan Tryz.func185 (aT.mk (none) ((iM.2 ⟨l[k],List.getElem_mem hk,hr⟩).symm) [] sH rfl rfl (aQ rfl))
  |some i=>
   rw [hr] at hx
   subst hx
   conv=>whnf
   refine mQ ?_
   refine aA.rowsEq 2 (qN (f:=It.row) hk hr) ?_;conv=>whnf
   refine aA.subR [] (back (k+1) (by exact (⟨hk,rD hk hr hJ.2⟩)) (by (try dsimp only);omega)) sH sH
 have hk:k=l.length:=by omega
 have h3:=rK hJ.2 hk
 clear back hJ
 subst hk
 conv=>whnf
 refine aA.rowsEq 2 (congrArg (rws It.row) rB) ?_;conv=>whnf
 try refine aA.retU ?_
 exact aB.ret tab Tryz.func185 rfl (aT.mk (some _) (h3.symm) [(1,2)] sH rfl rfl (bH rfl rfl))
theorem bAS (v:Value) (l:List Mc) (hb:l.length≤1000000):FnT Tryz.prog (pZ v 4 (rws Mc.row l) s mU mI mP mM mO vC) 189 1 [.v v,.fn (.func 190) [] [.ptr 0 0]] [gZ 0 mU mI mP mM mO vC] (fun x=>x=cH (pH s) l) (aBC Mc.row 136 4 mU mI mP mM mO vC):=by
 have hl:=aE Mc.row l
 refine FnT.of Tryz.func189 (by kernel_rfl) rfl Tryz.ntmps189 rfl fun E0 F h hT w0 cs=>?_
 conv=>whnf
 refine gS ?_;conv=>whnf
 refine aA.nameAt (fun _ x=>x) 6 (by exact hT.1) ?_
 conv=>whnf
 refine sqs ?_
 refine aA.callN (aPY (rws Mc.row l) (by omega)) [1] ?_ sH ?CNa5
 case CNa5=>rfl
 intro _ _
 conv=>whnf
 refine sqs ?_
 refine aA.subR [] (aA.loop (fun (k:Nat)=>[(10,.v (.int .i64 k)),(9,.v (.int .i64 (rws Mc.row l).length)),(0,.buf 2),(1,.fn (.func 190) [] [.ptr 0 0])]) (fun (k:Nat)=>[(2,.own 136 4 (rws Mc.row (tT (fun a=>(pH s a).getD a) l k))),gZ 0 mU mI mP mM mO vC]) 3 (fun (k:Nat)=>k≤l.length ∧ ∀i (hi:i<l.length),i<k→pH s l[i]≠none) (fun (k:Nat)=>l.length - k) ?round6 (0) ?J06) sH sH
 case J06=>exact (⟨Nat.zero_le _,fun _ _ h=>absurd h (Nat.not_lt_zero _)⟩)
 rintro k hJ back
 conv=>whnf
 refine gS ?_;conv=>whnf
 refine ⟨fun hk=>?_,fun hk=>?_⟩<;>conv=>whnf
 ·have hk:k<l.length:=by omega
  have hm:=aBZ (f:=Mc.row) (g:=fun a=>(pH s a).getD a) hk
  refine sI ?_
  refine aA.callT (vW.tok s mU mI mP mM mO vC) (hT.2) (clMc_fn _ k l[k] (rR hk)) [2,0] sH ?CNa7 ?_
  case CNa7=>rfl
  rintro x hx
  cases hr:pH s l[k] with
  |none=>
   rw [hr] at hx
   subst hx
   conv=>whnf
   exact aB.pan Tryz.func189 (aT.mk (none) ((iM.2 ⟨l[k],List.getElem_mem hk,hr⟩).symm) [] sH rfl rfl (aQ rfl))
  |some i=>
   rw [hr] at hx
   subst hx
   conv=>whnf
   refine mQ ?_
   refine aA.rowsEq 2 (qN (f:=Mc.row) hk hr) ?_;conv=>whnf
   refine aA.subR [] (back (k+1) (by exact (⟨hk,rD hk hr hJ.2⟩)) (by (try dsimp only);omega)) sH sH
 have hk:k=l.length:=by omega
 have h3:=rK hJ.2 hk
 clear back hJ
 subst hk
 conv=>whnf
 refine aA.rowsEq 2 (congrArg (rws Mc.row) rB) ?_;conv=>whnf
 try refine aA.retU ?_
 exact aB.ret tab Tryz.func189 rfl (aT.mk (some _) (h3.symm) [(1,2)] sH rfl rfl (bH rfl rfl))
theorem bCW (v:Value) (l:List Rn) (hb:l.length≤1000000):FnT Tryz.prog (pZ v 3 (rws Rn.row l) s mU mI mP mM mO vC) 199 1 [.v v,.fn (.func 200) [] [.ptr 0 0]] [gZ 0 mU mI mP mM mO vC] (fun x=>x=cH (pQ s) l) (aBC Rn.row 272 3 mU mI mP mM mO vC):=by
 have hl:=aE Rn.row l
 refine FnT.of Tryz.func199 (by kernel_rfl) rfl Tryz.ntmps199 rfl fun E0 F h hT w0 cs=>?_
 conv=>whnf
 refine gS ?_;conv=>whnf
 refine aA.nameAt (fun _ x=>x) 6 (by exact hT.1) ?_
 conv=>whnf
 refine sqs ?_
 refine aA.callN (aRI (rws Rn.row l) (by omega)) [1] ?_ sH ?CNa9
 case CNa9=>rfl
 intro _ _
 conv=>whnf
 refine sqs ?_
 refine aA.subR [] (aA.loop (fun (k:Nat)=>[(10,.v (.int .i64 k)),(9,.v (.int .i64 (rws Rn.row l).length)),(0,.buf 2),(1,.fn (.func 200) [] [.ptr 0 0])]) (fun (k:Nat)=>[(2,.own 272 3 (rws Rn.row (tT (fun a=>(pQ s a).getD a) l k))),gZ 0 mU mI mP mM mO vC]) 3 (fun (k:Nat)=>k≤l.length ∧ ∀i (hi:i<l.length),i<k→pQ s l[i]≠none) (fun (k:Nat)=>l.length - k) ?round10 (0) ?J010) sH sH
 case J010=>exact (⟨Nat.zero_le _,fun _ _ h=>absurd h (Nat.not_lt_zero _)⟩)
 rintro k hJ back
 conv=>whnf
 refine gS ?_;conv=>whnf
 refine ⟨fun hk=>?_,fun hk=>?_⟩<;>conv=>whnf
 ·have hk:k<l.length:=by omega
  have hm:=aBZ (f:=Rn.row) (g:=fun a=>(pQ s a).getD a) hk
  refine sI ?_
  refine aA.callT (vW.tok s mU mI mP mM mO vC) (hT.2) (clRn_fn _ k l[k] (rR hk)) [2,0] sH ?CNa11 ?_
  case CNa11=>rfl
  rintro x hx
  cases hr:pQ s l[k] with
  |none=>
   rw [hr] at hx
   subst hx
   conv=>whnf
   exact aB.pan Tryz.func199 (aT.mk (none) ((iM.2 ⟨l[k],List.getElem_mem hk,hr⟩).symm) [] sH rfl rfl (aQ rfl))
  |some i=>
   rw [hr] at hx
   subst hx
   conv=>whnf
   refine mQ ?_
   refine aA.rowsEq 2 (qN (f:=Rn.row) hk hr) ?_;conv=>whnf
   refine aA.subR [] (back (k+1) (by exact (⟨hk,rD hk hr hJ.2⟩)) (by (try dsimp only);omega)) sH sH
 have hk:k=l.length:=by omega
 have h3:=rK hJ.2 hk
 clear back hJ
 subst hk
 conv=>whnf
 refine aA.rowsEq 2 (congrArg (rws Rn.row) rB) ?_;conv=>whnf
 try refine aA.retU ?_
 exact aB.ret tab Tryz.func199 rfl (aT.mk (some _) (h3.symm) [(1,2)] sH rfl rfl (bH rfl rfl))
theorem bCP (v:Value) (l:List Sw) (hb:l.length≤1000000):FnT Tryz.prog (pZ v 4 (rws Sw.row l) s mU mI mP mM mO vC) 201 1 [.v v,.fn (.func 202) [] [.ptr 0 0]] [gZ 0 mU mI mP mM mO vC] (fun x=>x=cH (nS s) l) (aBC Sw.row 142 4 mU mI mP mM mO vC):=by
 have hl:=aE Sw.row l
 refine FnT.of Tryz.func201 (by kernel_rfl) rfl Tryz.ntmps201 rfl fun E0 F h hT w0 cs=>?_
 conv=>whnf
 refine gS ?_;conv=>whnf
 refine aA.nameAt (fun _ x=>x) 6 (by exact hT.1) ?_
 conv=>whnf
 refine sqs ?_
 refine aA.callN (aSC (rws Sw.row l) (by omega)) [1] ?_ sH ?CNa13
 case CNa13=>rfl
 intro _ _
 conv=>whnf
 refine sqs ?_
 refine aA.subR [] (aA.loop (fun (k:Nat)=>[(10,.v (.int .i64 k)),(9,.v (.int .i64 (rws Sw.row l).length)),(0,.buf 2),(1,.fn (.func 202) [] [.ptr 0 0])]) (fun (k:Nat)=>[(2,.own 142 4 (rws Sw.row (tT (fun a=>(nS s a).getD a) l k))),gZ 0 mU mI mP mM mO vC]) 3 (fun (k:Nat)=>k≤l.length ∧ ∀i (hi:i<l.length),i<k→nS s l[i]≠none) (fun (k:Nat)=>l.length - k) ?round14 (0) ?J014) sH sH
 case J014=>exact (⟨Nat.zero_le _,fun _ _ h=>absurd h (Nat.not_lt_zero _)⟩)
 rintro k hJ back
 conv=>whnf
 refine gS ?_;conv=>whnf
 refine ⟨fun hk=>?_,fun hk=>?_⟩<;>conv=>whnf
 ·have hk:k<l.length:=by omega
  have hm:=aBZ (f:=Sw.row) (g:=fun a=>(nS s a).getD a) hk
  refine sI ?_
  refine aA.callT (vW.tok s mU mI mP mM mO vC) (hT.2) (clSw_fn _ k l[k] (rR hk)) [2,0] sH ?CNa15 ?_
  case CNa15=>rfl
  rintro x hx
  cases hr:nS s l[k] with
  |none=>
   rw [hr] at hx
   subst hx
   conv=>whnf
   exact aB.pan Tryz.func201 (aT.mk (none) ((iM.2 ⟨l[k],List.getElem_mem hk,hr⟩).symm) [] sH rfl rfl (aQ rfl))
  |some i=>
   rw [hr] at hx
   subst hx
   conv=>whnf
   refine mQ ?_
   refine aA.rowsEq 2 (qN (f:=Sw.row) hk hr) ?_;conv=>whnf
   refine aA.subR [] (back (k+1) (by exact (⟨hk,rD hk hr hJ.2⟩)) (by (try dsimp only);omega)) sH sH
 have hk:k=l.length:=by omega
 have h3:=rK hJ.2 hk
 clear back hJ
 subst hk
 conv=>whnf
 refine aA.rowsEq 2 (congrArg (rws Sw.row) rB) ?_;conv=>whnf
 try refine aA.retU ?_
 exact aB.ret tab Tryz.func201 rfl (aT.mk (some _) (h3.symm) [(1,2)] sH rfl rfl (bH rfl rfl))
theorem aYI (v:Value) (l:List Am) (hb:l.length≤1000000):FnT Tryz.prog (pZ v 7 (rws Am.row l) s mU mI mP mM mO vC) 267 1 [.v v,.fn (.func 268) [] [.ptr 0 0]] [gZ 0 mU mI mP mM mO vC] (fun x=>x=cH (lK s) l) (aBC Am.row 55 7 mU mI mP mM mO vC):=by
 have hl:=aE Am.row l
 refine FnT.of Tryz.func267 (by kernel_rfl) rfl Tryz.ntmps267 rfl fun E0 F h hT w0 cs=>?_
 conv=>whnf
 refine gS ?_;conv=>whnf
 refine aA.nameAt (fun _ x=>x) 6 (by exact hT.1) ?_
 conv=>whnf
 refine sqs ?_
 refine aA.callN (aQN (rws Am.row l) (by omega)) [1] ?_ sH ?CNa17
 case CNa17=>rfl
 intro _ _
 conv=>whnf
 refine sqs ?_
 refine aA.subR [] (aA.loop (fun (k:Nat)=>[(10,.v (.int .i64 k)),(9,.v (.int .i64 (rws Am.row l).length)),(0,.buf 2),(1,.fn (.func 268) [] [.ptr 0 0])]) (fun (k:Nat)=>[(2,.own 55 7 (rws Am.row (tT (fun a=>(lK s a).getD a) l k))),gZ 0 mU mI mP mM mO vC]) 3 (fun (k:Nat)=>k≤l.length ∧ ∀i (hi:i<l.length),i<k→lK s l[i]≠none) (fun (k:Nat)=>l.length - k) ?round18 (0) ?J018) sH sH
 case J018=>exact (⟨Nat.zero_le _,fun _ _ h=>absurd h (Nat.not_lt_zero _)⟩)
 rintro k hJ back
 conv=>whnf
 refine gS ?_;conv=>whnf
 refine ⟨fun hk=>?_,fun hk=>?_⟩<;>conv=>whnf
 ·have hk:k<l.length:=by omega
  have hm:=aBZ (f:=Am.row) (g:=fun a=>(lK s a).getD a) hk
  refine sI ?_
  refine aA.callT (vW.tok s mU mI mP mM mO vC) (hT.2) (clAm_fn _ k l[k] (rR hk)) [2,0] sH ?CNa19 ?_
  case CNa19=>rfl
  rintro x hx
  cases hr:lK s l[k] with
  |none=>
   rw [hr] at hx
   subst hx
   conv=>whnf
   exact aB.pan Tryz.func267 (aT.mk (none) ((iM.2 ⟨l[k],List.getElem_mem hk,hr⟩).symm) [] sH rfl rfl (aQ rfl))
  |some i=>
   rw [hr] at hx
   subst hx
   conv=>whnf
   refine mQ ?_
   refine aA.rowsEq 2 (qN (f:=Am.row) hk hr) ?_;conv=>whnf
   refine aA.subR [] (back (k+1) (by exact (⟨hk,rD hk hr hJ.2⟩)) (by (try dsimp only);omega)) sH sH
 have hk:k=l.length:=by omega
 have h3:=rK hJ.2 hk
 clear back hJ
 subst hk
 conv=>whnf
 refine aA.rowsEq 2 (congrArg (rws Am.row) rB) ?_;conv=>whnf
 try refine aA.retU ?_
 exact aB.ret tab Tryz.func267 rfl (aT.mk (some _) (h3.symm) [(1,2)] sH rfl rfl (bH rfl rfl))
theorem aZM (v:Value) (l:List Cd) (hb:l.length≤1000000):FnT Tryz.prog (pZ v 4 (rws Cd.row l) s mU mI mP mM mO vC) 264 1 [.v v,.fn (.func 265) [] [.ptr 0 0]] [gZ 0 mU mI mP mM mO vC] (fun x=>x=cH (jV s) l) (aBC Cd.row 191 4 mU mI mP mM mO vC):=by
 have hl:=aE Cd.row l
 refine FnT.of Tryz.func264 (by kernel_rfl) rfl Tryz.ntmps264 rfl fun E0 F h hT w0 cs=>?_
 conv=>whnf
 refine gS ?_;conv=>whnf
 refine aA.nameAt (fun _ x=>x) 6 (by exact hT.1) ?_
 conv=>whnf
 refine sqs ?_
 refine aA.callN (aPT (rws Cd.row l) (by omega)) [1] ?_ sH ?CNa21
 case CNa21=>rfl
 intro _ _
 conv=>whnf
 refine sqs ?_
 refine aA.subR [] (aA.loop (fun (k:Nat)=>[(10,.v (.int .i64 k)),(9,.v (.int .i64 (rws Cd.row l).length)),(0,.buf 2),(1,.fn (.func 265) [] [.ptr 0 0])]) (fun (k:Nat)=>[(2,.own 191 4 (rws Cd.row (tT (fun a=>(jV s a).getD a) l k))),gZ 0 mU mI mP mM mO vC]) 3 (fun (k:Nat)=>k≤l.length ∧ ∀i (hi:i<l.length),i<k→jV s l[i]≠none) (fun (k:Nat)=>l.length - k) ?round22 (0) ?J022) sH sH
 case J022=>exact (⟨Nat.zero_le _,fun _ _ h=>absurd h (Nat.not_lt_zero _)⟩)
 rintro k hJ back
 conv=>whnf
 refine gS ?_;conv=>whnf
 refine ⟨fun hk=>?_,fun hk=>?_⟩<;>conv=>whnf
 ·have hk:k<l.length:=by omega
  have hm:=aBZ (f:=Cd.row) (g:=fun a=>(jV s a).getD a) hk
  refine sI ?_
  refine aA.callT (vW.tok s mU mI mP mM mO vC) (hT.2) (clCd_fn _ k l[k] (rR hk)) [2,0] sH ?CNa23 ?_
  case CNa23=>rfl
  rintro x hx
  cases hr:jV s l[k] with
  |none=>
   rw [hr] at hx
   subst hx
   conv=>whnf
   exact aB.pan Tryz.func264 (aT.mk (none) ((iM.2 ⟨l[k],List.getElem_mem hk,hr⟩).symm) [] sH rfl rfl (aQ rfl))
  |some i=>
   rw [hr] at hx
   subst hx
   conv=>whnf
   refine mQ ?_
   refine aA.rowsEq 2 (qN (f:=Cd.row) hk hr) ?_;conv=>whnf
   refine aA.subR [] (back (k+1) (by exact (⟨hk,rD hk hr hJ.2⟩)) (by (try dsimp only);omega)) sH sH
 have hk:k=l.length:=by omega
 have h3:=rK hJ.2 hk
 clear back hJ
 subst hk
 conv=>whnf
 refine aA.rowsEq 2 (congrArg (rws Cd.row) rB) ?_;conv=>whnf
 try refine aA.retU ?_
 exact aB.ret tab Tryz.func264 rfl (aT.mk (some _) (h3.symm) [(1,2)] sH rfl rfl (bH rfl rfl))
end
end Go.Proofs.YthjedpdedjhndaaGreatDoor

namespace Go.Proofs.YthjedpdedjhndaaGreatDoor
open Go Go.Fw Go.NatM Go.RatM Go.SrcM
set_option maxRecDepth 100000
set_option maxHeartbeats 99999999
theorem pZ.up {v:Value} {sz:Nat} {rows:List (List Value)} {s:aG} {mU mI mP mM mO vC:Value} {G G':Nat→Prop} {h h':Array Obj} (H:pZ v sz rows s mU mI mP mM mO vC G h) (U:Up G h G' h'):pZ v sz rows s mU mI mP mM mO vC G' h':=
 ⟨RoF.up U H.1,H.2.up U⟩
abbrev SliJ {α β:Type} (row:β→List Value) (sz:Nat) (f:α→Option β) (l:List α) (x:Option Value) (G:Nat→Prop) (h:Array Obj):Prop:=match x with
 |some r=>∃m,cH f l=some m∧RoF G h r sz (rws row m)
 |none=>cH f l=none
abbrev aZX:Option Value→eR
 |some r=>.ret (.v r) 0 []
 |none=>.pan nD 0 []
section
variable {s:aG} {mU mI mP mM mO vC:Value}
theorem aMT (v:Value) (l:List Cd) (hb:l.length≤1000000):FnX Tryz.prog 195 0 [.agg [.v mU,.v mI,.v mP,.v mM,.v mO,.v vC],.v v] [] (pZ v 4 (rws Cd.row l) s mU mI mP mM mO vC) (SliJ Cd.row 4 (jV s) l) aZX:=by
 refine FnX.of Tryz.func195 (by kernel_rfl) rfl Tryz.ntmps195 rfl fun E0 F G h N hP w0 cs=>?_
 conv=>whnf
 refine gS ?_;conv=>whnf
 refine aA.callT (pZ.tok _ _ _ _ _ _ _ _ _ _) (hP.up ⟨N.gsub,fun _ _=>rfl⟩) (aZM v l hb) [0] sH ?CNa1 ?_
 case CNa1=>rfl
 rintro x hx
 cases hm:cH (jV s) l with
 |none=>
  rw [hm] at hx
  subst hx
  conv=>whnf
  exact aB.pan Tryz.func195 (jP.mk (N) (none) (fun h U=>hm) [] sH rfl rfl (aQ rfl))
 |some m=>
  rw [hm] at hx
  subst hx
  conv=>whnf
  refine sqs ?_
  refine aA.conc (n:=m.length) (N.gsub) 1 ?_ (hlen:=aE Cd.row m)
  intro a1 c1 G1 h1 N1 R1
  conv=>whnf
  refine sqs ?_
  try refine aA.retU ?_
  exact aB.ret tab Tryz.func195 rfl (eX (N.trans N1) (some _) (fun h U=>⟨m,hm,RoF.up U R1⟩))
theorem aEV (v:Value) (l:List Am) (hb:l.length≤1000000):FnX Tryz.prog 198 0 [.agg [.v mU,.v mI,.v mP,.v mM,.v mO,.v vC],.v v] [] (pZ v 7 (rws Am.row l) s mU mI mP mM mO vC) (SliJ Am.row 7 (lK s) l) aZX:=by
 refine FnX.of Tryz.func198 (by kernel_rfl) rfl Tryz.ntmps198 rfl fun E0 F G h N hP w0 cs=>?_
 conv=>whnf
 refine gS ?_;conv=>whnf
 refine aA.callT (pZ.tok _ _ _ _ _ _ _ _ _ _) (hP.up ⟨N.gsub,fun _ _=>rfl⟩) (aYI v l hb) [0] sH ?CNa2 ?_
 case CNa2=>rfl
 rintro x hx
 cases hm:cH (lK s) l with
 |none=>
  rw [hm] at hx
  subst hx
  conv=>whnf
  exact aB.pan Tryz.func198 (jP.mk (N) (none) (fun h U=>hm) [] sH rfl rfl (aQ rfl))
 |some m=>
  rw [hm] at hx
  subst hx
  conv=>whnf
  refine sqs ?_
  refine aA.conc (n:=m.length) (N.gsub) 1 ?_ (hlen:=aE Am.row m)
  intro a1 c1 G1 h1 N1 R1
  conv=>whnf
  refine sqs ?_
  try refine aA.retU ?_
  exact aB.ret tab Tryz.func198 rfl (eX (N.trans N1) (some _) (fun h U=>⟨m,hm,RoF.up U R1⟩))
end
end Go.Proofs.YthjedpdedjhndaaGreatDoor

namespace Go.Proofs.YthjedpdedjhndaaGreatDoor
open Go Go.Fw Go.NatM Go.RatM Go.SrcM
set_option maxRecDepth 100000
set_option maxHeartbeats 99999999
section
variable {s:aG} {mU mI mP mM mO vC:Value}
theorem RoF.sli {G:Nat→Prop} {h:Array Obj} {v:Value} {sz n:Nat} {rows:List (List Value)} (H:RoF G h v sz rows) (e:rows.length=n):∃a c,v=.slice a n c:=by
 obtain ⟨_,_,a,c,rfl,_⟩:=H
 exact ⟨a,c,by rw [e]⟩
theorem clOp_fn (rows:List (List Value)) (k:Nat) (i:OpV) (hrow:rows[k]? = some i.row) (hb:i.ch.length≤1000000):FnX Tryz.prog 192 1 [.row 0 k 0 2] [(0,.own 102 2 rows)] (fun G h=>i.ok G h) (fun (x:Hd) G h=>OpV.ok G h {i with hd:=x})
  (fun x=>.ret (.tup []) 1 [(0,.own 102 2 (rows.set k (OpV.row {i with hd:=x})))]):=by
 have hr':rows[((k:Nat):Int).toNat]? = some i.row:=hrow
 have hlt:k<rows.length:=(List.getElem?_eq_some_iff.1 hrow).1
 have hl:=cK i.ch
 refine FnX.of Tryz.func192 (by kernel_rfl) rfl Tryz.ntmps192 rfl fun E0 F G h N hP w0 cs=>?_
 conv=>whnf
 refine gS ?_;conv=>whnf
 refine ⟨_,hr',?_⟩;conv=>whnf
 refine aA.nameAt (fun _ x=>x) 6 (by exact OpV.ok.up hP ⟨N.gsub,fun _ _=>rfl⟩) ?_
 conv=>whnf
 refine sqs ?_
 refine aA.callN (aEH (bV i.ch) (by omega)) [1] ?_ sH ?CNa1
 case CNa1=>rfl
 intro _ _
 conv=>whnf
 refine sqs ?_
 refine aA.conc (n:=i.ch.length) (N.gsub) 2 ?_ (hlen:=hl)
 intro a1 c1 G1 h1 N1 R1
 conv=>whnf
 refine sqs ?_
 refine ⟨_,hr',?_⟩;conv=>whnf
 try refine aA.finU ?_
 exact aB.ret tab Tryz.func192 rfl (eX (N.trans N1) (⟨a1,c1⟩) (fun h U=>RoF.up U R1))
abbrev fbOut (e sz:Nat) (rows:List (List Value)) (k:Nat) (mU mI mP mM mO vC:Value):Option FbV→eR
 |some j=>.ret (.tup []) 2 [(0,.own e sz (rows.set k j.row)),gZ 1 mU mI mP mM mO vC]
 |none=>.pan nD 2 []
theorem clFb_fn (rows:List (List Value)) (k:Nat) (i:FbV) (hrow:rows[k]? = some i.row) (hb:i.cs.length≤1000000):FnX Tryz.prog 194 2 [.row 0 k 0 1,.ptr 1 0] [(0,.own 45 1 rows),gZ 1 mU mI mP mM mO vC] (fun G h=>i.ok G h∧vW G h s mU mI mP mM mO vC)
  (fun (x:Option FbV) G h=>match x with
   |some j=>cH (jV s) i.cs=some j.cs∧j.ok G h
   |none=>cH (jV s) i.cs=none) (fbOut 45 1 rows k mU mI mP mM mO vC):=by
 have hr':rows[((k:Nat):Int).toNat]? = some i.row:=hrow
 have hlt:k<rows.length:=(List.getElem?_eq_some_iff.1 hrow).1
 refine FnX.of Tryz.func194 (by kernel_rfl) rfl Tryz.ntmps194 rfl fun E0 F G h N hP w0 cs=>?_
 conv=>whnf
 refine gS ?_;conv=>whnf
 refine aA.held tab (.fl 0 (.fl 1 (.fl 2 (.fl 3 (.fl 4 (.e1 5 [] (.fl 6 (.e1 7 [] .done)))))))) (by kernel_rfl) ?_;conv=>whnf
 refine sqr ?_
 refine ⟨_,hr',?_⟩;conv=>whnf
 refine aK.callX (N.gsub) (aMT _ i.cs hb) (fun h U=>⟨RoF.up U hP.1,hP.2.up U⟩) [] sH ?CNa2 ?_
 case CNa2=>rfl
 rintro (_|r) G1 h1 N1 J1
 ·conv=>whnf
  exact aB.pan Tryz.func194 (jP.mk (N.trans N1) (none) (fun h U=>J1) [] sH rfl rfl (aQ rfl))
 obtain ⟨m,hm,R1⟩:=J1
 obtain ⟨a1,c1,rfl⟩:=RoF.sli R1 (aE Cd.row m)
 conv=>whnf
 try refine oB ?_
 refine sqr ?_
 refine aK.rput tab (_) (hr') ?_;conv=>whnf
 try refine oB ?_
 refine sqr ?_
 refine sqs ?_
 try refine aA.finU ?_
 exact aB.ret tab Tryz.func194 rfl (eX (N.trans N1) (some ⟨⟨a1,c1⟩,m⟩) (fun h U=>⟨hm,RoF.up U R1⟩))
end
end Go.Proofs.YthjedpdedjhndaaGreatDoor

namespace Go.Proofs.YthjedpdedjhndaaGreatDoor
open Go Go.Fw Go.NatM Go.RatM Go.SrcM
set_option maxRecDepth 100000
set_option maxHeartbeats 99999999
section
variable {s:aG} {mU mI mP mM mO vC:Value}
theorem set5 (l:List (List Value)) (k:Nat) (a b c d e:List Value):((((l.set k a).set k b).set k c).set k d).set k e=l.set k e:=by simp only [List.set_set]
abbrev rcOut (e sz:Nat) (rows:List (List Value)) (k:Nat) (mU mI mP mM mO vC:Value):Option RcV→eR
 |some j=>.ret (.tup []) 2 [(0,.own e sz (rows.set k j.row)),gZ 1 mU mI mP mM mO vC]
 |none=>.pan nD 2 []
theorem clRc_fn (rows:List (List Value)) (k:Nat) (i:RcV) (hrow:rows[k]? = some i.row) (hc:i.cs.length≤1000000) (hi:i.inn.length≤1000000) (ho:i.out.length≤1000000) (hn:i.runs.length≤1000000):FnX Tryz.prog 197 2 [.row 0 k 0 17,.ptr 1 0] [(0,.own 49 17 rows),gZ 1 mU mI mP mM mO vC] (fun G h=>i.ok G h∧vW G h s mU mI mP mM mO vC)
  (fun (x:Option RcV) G h=>match x with
   |some j=>(nP s i).map RcV.bare=some j.bare∧j.ok G h
   |none=>nP s i=none) (rcOut 49 17 rows k mU mI mP mM mO vC):=by
 have hr':rows[((k:Nat):Int).toNat]? = some i.row:=hrow
 have hlt:k<rows.length:=(List.getElem?_eq_some_iff.1 hrow).1
 obtain ⟨y,hy⟩:∃y,y=nP s i:=⟨_,rfl⟩
 rw [←hy]
 unfold nP at hy
 refine FnX.of Tryz.func197 (by kernel_rfl) rfl Tryz.ntmps197 rfl fun E0 F G h N hP w0 cs=>?_
 conv=>whnf
 refine gS ?_;conv=>whnf
 refine aA.held tab (.fl 0 (.fl 1 (.fl 2 (.fl 3 (.fl 4 (.fl 5 (.fl 6 (.fl 7 (.fl 9 (.fl 10 (.fl 11 (.fl 12 (.fl 13 (.fl 14 (.e1 8 [10,14] (.e1 15 [] (.fl 16 (.fl 17 (.e1 18 [] (.fl 19 (.fl 20 (.e1 21 [] .done)))))))))))))))))))))) (by kernel_rfl) ?_;conv=>whnf
 refine sqr ?_
 refine ⟨_,hr',?_⟩;conv=>whnf
 refine ⟨_,hr',?_⟩;conv=>whnf
 have hT:=hP.2.up (G':=F) (h':=h) ⟨N.gsub,fun _ _=>rfl⟩
 cases hf:cZ (s.items.map It.name) i.item with
 |none=>
  rw [hf] at hy
  refine aK.callF (fun Ez Hz Az Sz K=>lQ (hT.i.up (Up.kp K)) hf) (by (conv=>whnf);(repeat (guard_target=_∧_;refine And.intro (by (conv=>whnf);first|rfl|exact trivial) ?_;conv=>whnf));exact trivial) ?_
  exact aB.pan Tryz.func197 (jP.mk (N) (none) (fun h U=>hy) [] sH rfl rfl (aQ rfl))
 |some u=>
  rw [hf] at hy
  refine aK.callS (fun Ez Hz Az Sz K=>gI (hT.i.up (Up.kp K)) hf) (by (conv=>whnf);(repeat (guard_target=_∧_;refine And.intro (by (conv=>whnf);first|rfl|exact trivial) ?_;conv=>whnf));exact trivial) ?_
  conv=>whnf
  refine sqr ?_
  cases hg:cZ s.plants i.plant with
  |none=>
   simp only [hg] at hy
   refine aK.callF (fun Ez Hz Az Sz K=>lQ (hT.p.up (Up.kp K)) hg) (by (conv=>whnf);(repeat (guard_target=_∧_;refine And.intro (by (conv=>whnf);first|rfl|exact trivial) ?_;conv=>whnf));exact trivial) ?_
   exact aB.pan Tryz.func197 (jP.mk (N) (none) (fun h U=>hy) [] sH rfl rfl (aQ rfl))
  |some p=>
   simp only [hg] at hy
   refine aK.callS (fun Ez Hz Az Sz K=>gI (hT.p.up (Up.kp K)) hg) (by (conv=>whnf);(repeat (guard_target=_∧_;refine And.intro (by (conv=>whnf);first|rfl|exact trivial) ?_;conv=>whnf));exact trivial) ?_
   conv=>whnf
   refine sqr ?_
   refine aK.rput tab (_) (hr') ?_;conv=>whnf
   try refine oB ?_
   refine sqr ?_
   refine aK.rput tab (_) (jD hr') ?_;conv=>whnf
   try refine oB ?_
   refine sqr ?_
   refine sqs ?_
   obtain ⟨i1,hi1⟩:∃i1:RcV,i1 = {i with inum:=(u:Nat),pnum:=(p:Nat)}:=⟨_,rfl⟩
   obtain ⟨rs,hrs⟩:∃rs,rs=rows.set k (RcV.row i1):=⟨_,rfl⟩
   have hr1:rs[((k:Nat):Int).toNat]? = some (RcV.row i1):=by rw [hrs];exact jD hr'
   have hlt1:k<rs.length:=(List.getElem?_eq_some_iff.1 hr1).1
   refine aA.rowsEq 0 (show (rows.set k (jX i.row 15 [.int .i64 u])).set k (jX (jX i.row 15 [.int .i64 u]) 16 [.int .i64 p])=rs by rw [hrs,hi1,List.set_set];rfl) ?_
   have c1:i1.cs=i.cs:=by rw [hi1]
   have c2:i1.inn=i.inn:=by rw [hi1]
   have c3:i1.out=i.out:=by rw [hi1]
   have c4:i1.runs=i.runs:=by rw [hi1]
   have ok1:i1.ok G h:=by rw [hi1];exact ⟨hP.1.c,hP.1.i,hP.1.o,hP.1.rn⟩
   conv=>whnf
   refine sqs ?_
   refine aA.held tab (.fl 0 (.fl 1 (.fl 2 (.fl 3 (.fl 4 (.fl 5 (.fl 6 (.fl 7 (.fl 9 (.fl 10 (.fl 11 (.fl 12 (.fl 13 (.fl 15 (.fl 16 (.fl 17 (.fl 18 (.fl 19 (.e1 8 [9,13,15,19] (.e1 14 [15,19] (.e1 20 [] (.fl 21 (.fl 22 (.e1 23 [] (.fl 24 (.fl 25 (.e1 26 [] (.fl 27 (.fl 28 (.e1 29 [] .done)))))))))))))))))))))))))))))) (by kernel_rfl) ?_;conv=>whnf
   refine sqr ?_
   refine ⟨_,hr1,?_⟩;conv=>whnf
   refine ⟨_,hr1,?_⟩;conv=>whnf
   refine ⟨_,hr1,?_⟩;conv=>whnf
   refine aK.callX (N.gsub) (aMT _ i1.cs (by rw [c1];exact hc)) (fun h U=>⟨RoF.up U ok1.c,hP.2.up U⟩) [] sH ?CNa1 ?_
   case CNa1=>rfl
   rintro (_|v1) G1 h1 N1 J1
   ·conv=>whnf
    rw [c1] at J1
    simp only [J1] at hy
    exact aB.pan Tryz.func197 (jP.mk (N.trans N1) (none) (fun h U=>hy) [] sH rfl rfl (aQ rfl))
   obtain ⟨m1,hm1,R1⟩:=J1
   have U1:=Now.step N.gsub N1
   obtain ⟨a1,d1,rfl⟩:=RoF.sli R1 (aE Cd.row m1)
   rw [c1] at hm1
   simp only [hm1] at hy
   conv=>whnf
   try refine oB ?_
   refine sqr ?_
   refine aK.callX (N1.gsub) (aEV _ i1.inn (by rw [c2];exact hi)) (fun h U=>⟨RoF.up (U1.trans U) ok1.i,hP.2.up (U1.trans U)⟩) [] sH ?CNa2 ?_
   case CNa2=>rfl
   rintro (_|v2) G2 h2 N2 J2
   ·conv=>whnf
    rw [c2] at J2
    simp only [J2] at hy
    exact aB.pan Tryz.func197 (jP.mk ((N.trans N1).trans N2) (none) (fun h U=>hy) [] sH rfl rfl (aQ rfl))
   obtain ⟨m2,hm2,R2⟩:=J2
   have U2:=Now.step N1.gsub N2
   obtain ⟨a2,d2,rfl⟩:=RoF.sli R2 (aE Am.row m2)
   rw [c2] at hm2
   simp only [hm2] at hy
   conv=>whnf
   try refine oB ?_
   refine sqr ?_
   refine aK.callX (N2.gsub) (aEV _ i1.out (by rw [c3];exact ho)) (fun h U=>⟨RoF.up (U1.trans (U2.trans U)) ok1.o,hP.2.up (U1.trans (U2.trans U))⟩) [] sH ?CNa3 ?_
   case CNa3=>rfl
   rintro (_|v3) G3 h3 N3 J3
   ·conv=>whnf
    rw [c3] at J3
    simp only [J3] at hy
    exact aB.pan Tryz.func197 (jP.mk (((N.trans N1).trans N2).trans N3) (none) (fun h U=>hy) [] sH rfl rfl (aQ rfl))
   obtain ⟨m3,hm3,R3⟩:=J3
   have U3:=Now.step N2.gsub N3
   obtain ⟨a3,d3,rfl⟩:=RoF.sli R3 (aE Am.row m3)
   rw [c3] at hm3
   simp only [hm3] at hy
   conv=>whnf
   try refine oB ?_
   refine sqr ?_
   refine aK.rput tab (_) (hr1) ?_;conv=>whnf
   try refine oB ?_
   refine sqr ?_
   refine aK.rput tab (_) (jD hr1) ?_;conv=>whnf
   try refine oB ?_
   refine sqr ?_
   refine aK.rput tab (_) (jD (jD hr1)) ?_;conv=>whnf
   try refine oB ?_
   refine sqr ?_
   refine sqs ?_
   refine ⟨_,jD (jD (jD hr1)),?_⟩;conv=>whnf
   have U4:=U1.trans (U2.trans (U3.trans ⟨N3.gsub,fun _ _=>rfl⟩))
   refine aA.callT (pZ.tok _ _ _ _ _ _ _ _ _ _) (⟨RoF.up U4 ok1.rn,hP.2.up U4⟩) (bCW _ i1.runs (by rw [c4];exact hn)) [1] sH ?CNa4 ?_
   case CNa4=>rfl
   rintro x hx
   rw [c4] at hx
   cases hm:cH (pQ s) i.runs with
   |none=>
    rw [hm] at hx
    subst hx
    simp only [hm] at hy
    conv=>whnf
    exact aB.pan Tryz.func197 (jP.mk (((N.trans N1).trans N2).trans N3) (none) (fun h U=>hy) [] sH rfl rfl (aQ rfl))
   |some m4=>
    rw [hm] at hx
    subst hx
    simp only [hm] at hy
    conv=>whnf
    refine sqs ?_
    refine aA.conc (n:=m4.length) (N3.gsub) 2 ?_ (hlen:=aE Rn.row m4)
    intro a4 d4 G4 h4 N4 R4
    conv=>whnf
    refine sqs ?_
    have U5:=Now.step N3.gsub N4
    refine ⟨_,jD (jD (jD hr1)),?_⟩;conv=>whnf
    subst hrs
    subst hi1
    refine aA.rowsEq 0 ((set5 rows k _ _ _ _ _).trans (show _=rows.set k (RcV.row {i with inum:=(u:Nat),pnum:=(p:Nat),hc:=⟨a1,d1⟩,cs:=m1,hi:=⟨a2,d2⟩,inn:=m2,ho:=⟨a3,d3⟩,out:=m3,hr:=⟨a4,d4⟩,runs:=m4}) from rfl)) ?_;conv=>whnf
    try refine aA.finU ?_
    exact aB.ret tab Tryz.func197 rfl (eX ((((N.trans N1).trans N2).trans N3).trans N4) (some {i with inum:=(u:Nat),pnum:=(p:Nat),hc:=⟨a1,d1⟩,cs:=m1,hi:=⟨a2,d2⟩,inn:=m2,ho:=⟨a3,d3⟩,out:=m3,hr:=⟨a4,d4⟩,runs:=m4}) (fun h U=>⟨by rw [hy];rfl,RoF.up (U2.trans (U3.trans (U5.trans U))) R1,RoF.up (U3.trans (U5.trans U)) R2,RoF.up (U5.trans U) R3,RoF.up U R4⟩))
end
end Go.Proofs.YthjedpdedjhndaaGreatDoor

namespace Go.Proofs.YthjedpdedjhndaaGreatDoor
open Go Go.Fw Go.NatM Go.RatM Go.SrcM
set_option maxRecDepth 100000
set_option maxHeartbeats 99999999
section
variable {α β:Type} {f:α→List Value} {l m:List α} {k:Nat}
theorem aMB (hk:k<l.length) (e:m.length=k):(rws f (m++l.drop k)).length=l.length:=by
 rw [aE,List.length_append,List.length_drop];omega
theorem aKK (hk:k<l.length) (e:m.length=k):(rws f (m++l.drop k))[k]? = some (f l[k]):=by
 subst e
 rw [rws,List.map_append,List.getElem?_append_right (by simp)]
 simp [hk]
theorem aLS (hk:k<l.length) (e:m.length=k) (y:α):(rws f (m++l.drop k)).set k (f y)=rws f ((m++[y])++l.drop (k+1)):=by
 subst e
 have e:l.drop m.length=l[m.length]::l.drop (m.length+1):=(List.getElem_cons_drop ..).symm
 rw [e]
 simp only [rws,List.map_append,List.map_cons,List.map_nil]
 rw [List.set_append_right _ _ (by simp)]
 simp
theorem aJO (e:m.length=l.length):rws f (m++l.drop l.length)=rws f m:=by rw [List.drop_length,List.append_nil]
theorem aIT {g:α→Option β} (hk:k<l.length) {a:List β} {b:β} (h1:cH g (l.take k)=some a) (h2:g l[k]=some b):cH g (l.take (k+1))=some (a++[b]):=by
 obtain ⟨e,h⟩:=rQ.1 h1
 rw [List.length_take,Nat.min_eq_left (Nat.le_of_lt hk)] at e
 refine rQ.2 ⟨by rw [List.length_append,e,List.length_take,Nat.min_eq_left hk];rfl,fun i h3 h4=>?_⟩
 rw [List.length_take,Nat.min_eq_left hk] at h3
 rw [List.getElem_take]
 rcases Nat.lt_or_eq_of_le (Nat.le_of_lt_succ h3) with h5|rfl
 ·rw [List.getElem_append_left (by omega)]
  have:=h i (by rw [List.length_take,Nat.min_eq_left (Nat.le_of_lt hk)];exact h5) (by omega)
  rw [List.getElem_take] at this
  exact this
 rw [List.getElem_append_right (by omega)]
 simp [e,h2]
theorem aRC {p:α→Prop} {y:α} (h:∀a∈m,p a) (hy:p y):∀a∈m++[y],p a:=fun a ha=>by
 rcases List.mem_append.1 ha with ha|ha
 ·exact h a ha
 rw [List.mem_singleton.1 ha];exact hy
end
section
variable {s:aG} {mU mI mP mM mO vC:Value}
abbrev bAX {α:Type} (row:α→List Value) (e sz:Nat) (mU mI mP mM mO vC:Value):Option (List α)→eR
 |some m=>.ret (.buf 1) 2 [(1,.own e sz (rws row m)),gZ 0 mU mI mP mM mO vC]
 |none=>.pan nD 1 []
theorem bAI (v:Value) (l:List FbV) (hb:l.length≤1000000) (hs:∀a∈l,a.cs.length≤1000000):FnX Tryz.prog 193 1 [.v v,.fn (.func 194) [] [.ptr 0 0]] [gZ 0 mU mI mP mM mO vC] (fun G h=>pZ v 1 (rws FbV.row l) s mU mI mP mM mO vC G h ∧ ∀a∈l,a.ok G h)
  (fun (x:Option (List FbV)) G h=>match x with
   |some m=>cH (fun a=>(pS s a).map FbV.bare) l=some (m.map FbV.bare) ∧ ∀a∈m,a.ok G h
   |none=>cH (fun a=>(pS s a).map FbV.bare) l=none) (bAX FbV.row 45 1 mU mI mP mM mO vC):=by
 have hl:=aE FbV.row l
 refine FnX.of Tryz.func193 (by kernel_rfl) rfl Tryz.ntmps193 rfl fun E0 F G h N hP w0 cs=>?_
 conv=>whnf
 refine gS ?_;conv=>whnf
 refine aA.nameAt (fun _ x=>x) 6 (by exact RoF.up ⟨N.gsub,fun _ _=>rfl⟩ hP.1.1) ?_
 conv=>whnf
 refine sqs ?_
 refine aA.callN (aRP (rws FbV.row l) (by omega)) [1] ?_ sH ?CNa1
 case CNa1=>rfl
 intro _ _
 conv=>whnf
 refine sqs ?_
 refine aA.subR [] (aA.loopB (fun (⟨k,m,F1,G1,h1⟩:Nat×List FbV×(Nat→Prop)×(Nat→Prop)×Array Obj)=>(F1,h1)) (fun (⟨k,m,F1,G1,h1⟩:Nat×List FbV×(Nat→Prop)×(Nat→Prop)×Array Obj)=>[(10,.v (.int .i64 k)),(9,.v (.int .i64 (rws FbV.row l).length)),(0,.buf 2),(1,.fn (.func 194) [] [.ptr 0 0])]) (fun (⟨k,m,F1,G1,h1⟩:Nat×List FbV×(Nat→Prop)×(Nat→Prop)×Array Obj)=>[(2,.own 45 1 (rws FbV.row (m++l.drop k))),gZ 0 mU mI mP mM mO vC]) 3 (fun (⟨k,m,F1,G1,h1⟩:Nat×List FbV×(Nat→Prop)×(Nat→Prop)×Array Obj)=>Now F G h F1 G1 h1∧k≤l.length∧m.length=k∧cH (fun a=>(pS s a).map FbV.bare) (l.take k)=some (m.map FbV.bare) ∧ ∀a∈m,a.ok G1 h1) (fun (⟨k,m,F1,G1,h1⟩:Nat×List FbV×(Nat→Prop)×(Nat→Prop)×Array Obj)=>l.length - k) ?round2 (⟨0,[],F,G,h⟩) ?J02) sH sH
 case J02=>exact (⟨N,Nat.zero_le _,rfl,rfl,fun _ h=>absurd h List.not_mem_nil⟩)
 rintro ⟨k,m,F1,G1,h1⟩ hJ back
 try dsimp only at hJ back
 conv=>whnf
 try dsimp only
 refine gS ?_;conv=>whnf
 refine ⟨fun hk=>?_,fun hk=>?_⟩<;>conv=>whnf
 ·obtain ⟨N1,_,em,ea,ho⟩:=hJ
  have U1:=Now.step N.gsub N1
  have hk:k<l.length:=by omega
  have hm:=aMB (f:=FbV.row) hk em
  refine sI ?_
  refine aA.callX (N1.gsub) (clFb_fn _ k l[k] (aKK hk em) (hs _ (List.getElem_mem hk))) (fun h U=>⟨(hP.2 _ (List.getElem_mem hk)).up (U1.trans U),hP.1.2.up (U1.trans U)⟩) [2,0] sH ?CNa3 ?_
  case CNa3=>rfl
  rintro (_|j) G2 h2 N2 J2
  ·conv=>whnf
   have e:pS s l[k]=none:=by unfold pS;rw [show _=none from J2];rfl
   exact aB.pan Tryz.func193 (jP.mk (N.trans (N1.trans N2)) (none) (fun h U=>iM.2 ⟨l[k],List.getElem_mem hk,by rw [e];rfl⟩) [] sH rfl rfl (aQ rfl))
  have e:(pS s l[k]).map FbV.bare=some j.bare:=by unfold pS;rw [J2.1];rfl
  conv=>whnf
  refine mQ ?_
  refine aA.rowsEq 2 (aLS hk em j) ?_;conv=>whnf
  have U2:=Now.step N1.gsub N2
  refine aA.subR [] (back (⟨k+1,m++[j],_,G2,h2⟩) (by exact (⟨N1.trans N2,hk,by rw [List.length_append,em];rfl,by rw [List.map_append];exact aIT hk ea e,aRC (fun a ha=>(ho a ha).up U2) J2.2⟩)) (by (try dsimp only);omega)) sH sH
 obtain ⟨N1,_,em,ea,ho⟩:=hJ
 have hk:k=l.length:=by omega
 clear back
 subst hk
 rw [List.take_length] at ea
 conv=>whnf
 refine aA.rowsEq 2 (aJO em) ?_;conv=>whnf
 try refine aA.retU ?_
 exact aB.ret tab Tryz.func193 rfl (jP.mk (N.trans N1) (some m) (fun h U=>⟨ea,fun a ha=>(ho a ha).up U⟩) [(1,2)] sH rfl rfl (bH rfl rfl))
theorem bBW (v:Value) (l:List RcV) (hb:l.length≤1000000) (hs:∀a∈l,a.cs.length≤1000000∧a.inn.length≤1000000∧a.out.length≤1000000∧a.runs.length≤1000000):FnX Tryz.prog 196 1 [.v v,.fn (.func 197) [] [.ptr 0 0]] [gZ 0 mU mI mP mM mO vC] (fun G h=>pZ v 17 (rws RcV.row l) s mU mI mP mM mO vC G h ∧ ∀a∈l,a.ok G h)
  (fun (x:Option (List RcV)) G h=>match x with
   |some m=>cH (fun a=>(nP s a).map RcV.bare) l=some (m.map RcV.bare) ∧ ∀a∈m,a.ok G h
   |none=>cH (fun a=>(nP s a).map RcV.bare) l=none) (bAX RcV.row 49 17 mU mI mP mM mO vC):=by
 have hl:=aE RcV.row l
 refine FnX.of Tryz.func196 (by kernel_rfl) rfl Tryz.ntmps196 rfl fun E0 F G h N hP w0 cs=>?_
 conv=>whnf
 refine gS ?_;conv=>whnf
 refine aA.nameAt (fun _ x=>x) 6 (by exact RoF.up ⟨N.gsub,fun _ _=>rfl⟩ hP.1.1) ?_
 conv=>whnf
 refine sqs ?_
 refine aA.callN (aQV (rws RcV.row l) (by omega)) [1] ?_ sH ?CNa5
 case CNa5=>rfl
 intro _ _
 conv=>whnf
 refine sqs ?_
 refine aA.subR [] (aA.loopB (fun (⟨k,m,F1,G1,h1⟩:Nat×List RcV×(Nat→Prop)×(Nat→Prop)×Array Obj)=>(F1,h1)) (fun (⟨k,m,F1,G1,h1⟩:Nat×List RcV×(Nat→Prop)×(Nat→Prop)×Array Obj)=>[(10,.v (.int .i64 k)),(9,.v (.int .i64 (rws RcV.row l).length)),(0,.buf 2),(1,.fn (.func 197) [] [.ptr 0 0])]) (fun (⟨k,m,F1,G1,h1⟩:Nat×List RcV×(Nat→Prop)×(Nat→Prop)×Array Obj)=>[(2,.own 49 17 (rws RcV.row (m++l.drop k))),gZ 0 mU mI mP mM mO vC]) 3 (fun (⟨k,m,F1,G1,h1⟩:Nat×List RcV×(Nat→Prop)×(Nat→Prop)×Array Obj)=>Now F G h F1 G1 h1∧k≤l.length∧m.length=k∧cH (fun a=>(nP s a).map RcV.bare) (l.take k)=some (m.map RcV.bare) ∧ ∀a∈m,a.ok G1 h1) (fun (⟨k,m,F1,G1,h1⟩:Nat×List RcV×(Nat→Prop)×(Nat→Prop)×Array Obj)=>l.length - k) ?round6 (⟨0,[],F,G,h⟩) ?J06) sH sH
 case J06=>exact (⟨N,Nat.zero_le _,rfl,rfl,fun _ h=>absurd h List.not_mem_nil⟩)
 rintro ⟨k,m,F1,G1,h1⟩ hJ back
 try dsimp only at hJ back
 conv=>whnf
 try dsimp only
 refine gS ?_;conv=>whnf
 refine ⟨fun hk=>?_,fun hk=>?_⟩<;>conv=>whnf
 ·obtain ⟨N1,_,em,ea,ho⟩:=hJ
  have U1:=Now.step N.gsub N1
  have hk:k<l.length:=by omega
  have hm:=aMB (f:=RcV.row) hk em
  refine sI ?_
  refine aA.callX (N1.gsub) (clRc_fn _ k l[k] (aKK hk em) (hs _ (List.getElem_mem hk)).1 (hs _ (List.getElem_mem hk)).2.1 (hs _ (List.getElem_mem hk)).2.2.1 (hs _ (List.getElem_mem hk)).2.2.2) (fun h U=>⟨(hP.2 _ (List.getElem_mem hk)).up (U1.trans U),hP.1.2.up (U1.trans U)⟩) [2,0] sH ?CNa7 ?_
  case CNa7=>rfl
  rintro (_|j) G2 h2 N2 J2
  ·conv=>whnf
   have e:nP s l[k]=none:=J2
   exact aB.pan Tryz.func196 (jP.mk (N.trans (N1.trans N2)) (none) (fun h U=>iM.2 ⟨l[k],List.getElem_mem hk,by rw [e];rfl⟩) [] sH rfl rfl (aQ rfl))
  have e:(nP s l[k]).map RcV.bare=some j.bare:=J2.1
  conv=>whnf
  refine mQ ?_
  refine aA.rowsEq 2 (aLS hk em j) ?_;conv=>whnf
  have U2:=Now.step N1.gsub N2
  refine aA.subR [] (back (⟨k+1,m++[j],_,G2,h2⟩) (by exact (⟨N1.trans N2,hk,by rw [List.length_append,em];rfl,by rw [List.map_append];exact aIT hk ea e,aRC (fun a ha=>(ho a ha).up U2) J2.2⟩)) (by (try dsimp only);omega)) sH sH
 obtain ⟨N1,_,em,ea,ho⟩:=hJ
 have hk:k=l.length:=by omega
 clear back
 subst hk
 rw [List.take_length] at ea
 conv=>whnf
 refine aA.rowsEq 2 (aJO em) ?_;conv=>whnf
 try refine aA.retU ?_
 exact aB.ret tab Tryz.func196 rfl (jP.mk (N.trans N1) (some m) (fun h U=>⟨ea,fun a ha=>(ho a ha).up U⟩) [(1,2)] sH rfl rfl (bH rfl rfl))
theorem bAL (v:Value) (l:List OpV) (hb:l.length≤1000000) (hs:∀a∈l,a.ch.length≤1000000):FnX Tryz.prog 191 0 [.v v,.v (.func (.func 192) #[] #[])] [] (fun G h=>RoF G h v 2 (rws OpV.row l) ∧ ∀a∈l,a.ok G h)
  (fun (m:List OpV) G h=>l.map OpV.bare=m.map OpV.bare ∧ ∀a∈m,a.ok G h) (fun m=>.ret (.buf 0) 1 [(0,.own 102 2 (rws OpV.row m))]):=by
 have hl:=aE OpV.row l
 refine FnX.of Tryz.func191 (by kernel_rfl) rfl Tryz.ntmps191 rfl fun E0 F G h N hP w0 cs=>?_
 conv=>whnf
 refine gS ?_;conv=>whnf
 refine aA.nameAt (fun _ x=>x) 6 (by exact RoF.up ⟨N.gsub,fun _ _=>rfl⟩ hP.1) ?_
 conv=>whnf
 refine sqs ?_
 refine aA.callN (aQG (rws OpV.row l) (by omega)) [0] ?_ sH ?CNa9
 case CNa9=>rfl
 intro _ _
 conv=>whnf
 refine sqs ?_
 refine aA.subR [] (aA.loopB (fun (⟨k,m,F1,G1,h1⟩:Nat×List OpV×(Nat→Prop)×(Nat→Prop)×Array Obj)=>(F1,h1)) (fun (⟨k,m,F1,G1,h1⟩:Nat×List OpV×(Nat→Prop)×(Nat→Prop)×Array Obj)=>[(10,.v (.int .i64 k)),(9,.v (.int .i64 (rws OpV.row l).length)),(0,.buf 1),(1,.v (.func (.func 192) #[] #[]))]) (fun (⟨k,m,F1,G1,h1⟩:Nat×List OpV×(Nat→Prop)×(Nat→Prop)×Array Obj)=>[(1,.own 102 2 (rws OpV.row (m++l.drop k)))]) 2 (fun (⟨k,m,F1,G1,h1⟩:Nat×List OpV×(Nat→Prop)×(Nat→Prop)×Array Obj)=>Now F G h F1 G1 h1∧k≤l.length∧m.length=k∧(l.take k).map OpV.bare=m.map OpV.bare ∧ ∀a∈m,a.ok G1 h1) (fun (⟨k,m,F1,G1,h1⟩:Nat×List OpV×(Nat→Prop)×(Nat→Prop)×Array Obj)=>l.length - k) ?round10 (⟨0,[],F,G,h⟩) ?J010) sH sH
 case J010=>exact (⟨N,Nat.zero_le _,rfl,rfl,fun _ h=>absurd h List.not_mem_nil⟩)
 rintro ⟨k,m,F1,G1,h1⟩ hJ back
 try dsimp only at hJ back
 conv=>whnf
 try dsimp only
 refine gS ?_;conv=>whnf
 refine ⟨fun hk=>?_,fun hk=>?_⟩<;>conv=>whnf
 ·obtain ⟨N1,_,em,ea,ho⟩:=hJ
  have U1:=Now.step N.gsub N1
  have hk:k<l.length:=by omega
  have hm:=aMB (f:=OpV.row) hk em
  refine sI ?_
  refine aA.callX (N1.gsub) (clOp_fn _ k l[k] (aKK hk em) (hs _ (List.getElem_mem hk))) (fun h U=>(hP.2 _ (List.getElem_mem hk)).up (U1.trans U)) [1] sH ?CNa11 ?_
  case CNa11=>rfl
  rintro x G2 h2 N2 J2
  conv=>whnf
  refine mQ ?_
  refine aA.rowsEq 1 (aLS hk em _) ?_;conv=>whnf
  have U2:=Now.step N1.gsub N2
  refine aA.subR [] (back (⟨k+1,m++[{l[k] with hd:=x}],_,G2,h2⟩) (by exact (⟨N1.trans N2,hk,by rw [List.length_append,em];rfl,by rw [List.map_append,rP hk,List.map_append,ea];rfl,aRC (fun a ha=>(ho a ha).up U2) J2⟩)) (by (try dsimp only);omega)) sH sH
 obtain ⟨N1,_,em,ea,ho⟩:=hJ
 have hk:k=l.length:=by omega
 clear back
 subst hk
 rw [List.take_length] at ea
 conv=>whnf
 refine aA.rowsEq 1 (aJO em) ?_;conv=>whnf
 try refine aA.retU ?_
 exact aB.ret tab Tryz.func191 rfl (jP.mk (N.trans N1) (m) (fun h U=>⟨ea,fun a ha=>(ho a ha).up U⟩) [(0,1)] sH rfl rfl (bH rfl rfl))
end
end Go.Proofs.YthjedpdedjhndaaGreatDoor
