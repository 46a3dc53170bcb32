/- Texts of this seat, joined: The reference of layer 12: recipe, small, typed. The reference of layer 12: small, few, typed. The reference of layer 12:  -/
import Derived.Test.YthjedpdedjhndaaGreatDoorJoinE
set_option linter.unusedVariables false
set_option linter.unusedSimpArgs false
set_option maxRecDepth 100000
set_option maxHeartbeats 99999999
namespace Go.Proofs.YthjedpdedjhndaaGreatDoor
open Go Go.Fw Go.NatM Go.RatM Go.SrcM
theorem bFG {s:aG} {r:RcV} (h1:idx r.inum s.items.length) (h2:idx r.pnum s.plants.length) (h3:0<=r.fr) (h4:r.fr<r.to) (h5:r.to<=1024) (h6:jL s r.cs) (h7:∀a∈r.inn,fX s a) (h8:sE s r)
  (h9:lJ r.rwN r.rwD) (h10:r.rwN<r.rwD) (h11:lJ r.yN r.yD) (h12:lJ r.tN r.tD) (h13:bt r.lead 0 15):mY s r↔aBG s r:=
 ⟨fun h=>h.2.2.2.2.2.2.2.2.2.2.2,fun h=>⟨h1,h2,⟨h3,h4,h5⟩,h6,h7,h8,h9,h11,h12,h10,h13,h⟩⟩
theorem aVE {h:Array Obj} (s:aG) {vU vI vP vM vO vF vR vS:Value} (hs:Top h vU vI vP vM vO vF vR vS s) (hi:∀i∈s.items,idx i.un s.units.length) (r:RcV) (hr:r.ok (fun k=>k<h.size) h):
  FnV Tryz.prog 100 #[xY vU vI vP vM vO vF vR vS,rcV r] h fun y h'=>y=.bool (decide (mY s r))/\aH h.size h h':=by
 have lI:=aE It.row s.items;have lP:=cK s.plants;have mI:=hs.I.len;have mP:=hs.P.len;obtain ⟨y,hy⟩:∃y,y=decide (mY s r):=⟨_,rfl⟩;rw [<-hy];refine zG 8 (zA hs (vs:=[]) (l:=[]) trivial) [.agg [.buf 0,.buf 1,.buf 2,.buf 3,.buf 4,.buf 5,.buf 6,.buf 7],.agg (toV r.row)] Tryz.func100 Tryz.ntmps100 fun w0 cs=>?_;by_cases h1:idx r.inum s.items.length
 rotate_left
 ·have:y=false:=by rw [hy];exact decide_eq_false fun h=>h1 h.1
  rw [this];refine zc (fun _ _=>aGV lI mI h1) ?_;refine sqv ?_;exact zR Tryz.func100
 by_cases h2:idx r.pnum s.plants.length
 rotate_left
 ·have:y=false:=by rw [hy];exact decide_eq_false fun h=>h2 h.2.1
  rw [this];refine zc (fun _ _=>mC lI mI h1) ?_;refine sqv ?_;refine zc (fun _ _=>aGV lP mP h2) ?_;refine sqv ?_;exact zR Tryz.func100
 by_cases h3:0<=r.fr
 rotate_left
 ·have:y=false:=by rw [hy];exact decide_eq_false fun h=>h3 h.2.2.1.1
  rw [this];refine zc (fun _ _=>mC lI mI h1) ?_;refine sqv ?_;refine zc (fun _ _=>mC lP mP h2) ?_;refine bFP ?_;exact zR Tryz.func100
 by_cases h4:r.fr<r.to
 rotate_left
 ·have:y=false:=by rw [hy];exact decide_eq_false fun h=>h4 h.2.2.1.2.1
  rw [this];refine zc (fun _ _=>mC lI mI h1) ?_;refine sqv ?_;refine zc (fun _ _=>mC lP mP h2) ?_;refine bFP ?_;exact zR Tryz.func100
 by_cases h5:r.to<=1024
 rotate_left
 ·have:y=false:=by rw [hy];exact decide_eq_false fun h=>h5 h.2.2.1.2.2
  rw [this];refine zc (fun _ _=>mC lI mI h1) ?_;refine sqv ?_;refine zc (fun _ _=>mC lP mP h2) ?_;refine bFP ?_;exact zR Tryz.func100
 by_cases h6:jL s r.cs
 rotate_left
 ·have:y=false:=by rw [hy];exact decide_eq_false fun h=>h6 h.2.2.2.1
  rw [this];refine zc (fun _ _=>mC lI mI h1) ?_;refine sqv ?_;refine zc (fun _ _=>mC lP mP h2) ?_;refine bFP ?_;refine aA.callV (fun _ _ _ Sz K=>aCY s (zB Sz K hs) r.cs (RoF.up (Up.kp K) hr.c)) ?_;conv=>whnf
  rw [decide_eq_false h6];try dsimp only
  refine sqs ?_;exact zR Tryz.func100
 by_cases h7:∀a∈r.inn,fX s a
 rotate_left
 ·have:y=false:=by rw [hy];exact decide_eq_false fun h=>h7 h.2.2.2.2.1
  rw [this];refine zc (fun _ _=>mC lI mI h1) ?_;refine sqv ?_;refine zc (fun _ _=>mC lP mP h2) ?_;refine bFP ?_;refine aA.callV (fun _ _ _ Sz K=>aCY s (zB Sz K hs) r.cs (RoF.up (Up.kp K) hr.c)) ?_;conv=>whnf
  rw [decide_eq_true h6];try dsimp only
  refine sqs ?_;refine aA.callV (fun _ _ _ Sz K=>oC s (zB Sz K hs) hi r.inn (RoF.up (Up.kp K) hr.i)) ?_;conv=>whnf
  rw [decide_eq_false h7];try dsimp only
  refine sqs ?_;exact zR Tryz.func100
 by_cases h8:sE s r
 rotate_left
 ·have:y=false:=by rw [hy];exact decide_eq_false fun h=>h8 h.2.2.2.2.2.1
  rw [this];refine zc (fun _ _=>mC lI mI h1) ?_;refine sqv ?_;refine zc (fun _ _=>mC lP mP h2) ?_;refine bFP ?_;refine aA.callV (fun _ _ _ Sz K=>aCY s (zB Sz K hs) r.cs (RoF.up (Up.kp K) hr.c)) ?_;conv=>whnf
  rw [decide_eq_true h6];try dsimp only
  refine sqs ?_;refine aA.callV (fun _ _ _ Sz K=>oC s (zB Sz K hs) hi r.inn (RoF.up (Up.kp K) hr.i)) ?_;conv=>whnf
  rw [decide_eq_true h7];try dsimp only
  refine sqs ?_;refine aA.callV (fun _ _ _ Sz K=>aHS s (zB Sz K hs) hi r (hr.up (Up.kp K))) ?_;conv=>whnf
  rw [decide_eq_false h8];refine sqs ?_;exact zR Tryz.func100
 by_cases h9:lJ r.rwN r.rwD
 rotate_left
 ·have:y=false:=by rw [hy];exact decide_eq_false fun h=>h9 h.2.2.2.2.2.2.1
  rw [this];refine zc (fun _ _=>mC lI mI h1) ?_;refine sqv ?_;refine zc (fun _ _=>mC lP mP h2) ?_;refine bFP ?_;refine aA.callV (fun _ _ _ Sz K=>aCY s (zB Sz K hs) r.cs (RoF.up (Up.kp K) hr.c)) ?_;conv=>whnf
  rw [decide_eq_true h6];try dsimp only
  refine sqs ?_;refine aA.callV (fun _ _ _ Sz K=>oC s (zB Sz K hs) hi r.inn (RoF.up (Up.kp K) hr.i)) ?_;conv=>whnf
  rw [decide_eq_true h7];try dsimp only
  refine sqs ?_;refine aA.callV (fun _ _ _ Sz K=>aHS s (zB Sz K hs) hi r (hr.up (Up.kp K))) ?_;conv=>whnf
  rw [decide_eq_true h8];refine sqs ?_;refine zc (fun _ _=>oP r.rwN r.rwD) ?_;conv=>whnf
  rw [decide_eq_false h9];try dsimp only
  refine sqs ?_;exact zR Tryz.func100
 by_cases h10:r.rwN<r.rwD
 rotate_left
 ·have:y=false:=by rw [hy];exact decide_eq_false fun h=>h10 h.2.2.2.2.2.2.2.2.2.1
  rw [this];refine zc (fun _ _=>mC lI mI h1) ?_;refine sqv ?_;refine zc (fun _ _=>mC lP mP h2) ?_;refine bFP ?_;refine aA.callV (fun _ _ _ Sz K=>aCY s (zB Sz K hs) r.cs (RoF.up (Up.kp K) hr.c)) ?_;conv=>whnf
  rw [decide_eq_true h6];try dsimp only
  refine sqs ?_;refine aA.callV (fun _ _ _ Sz K=>oC s (zB Sz K hs) hi r.inn (RoF.up (Up.kp K) hr.i)) ?_;conv=>whnf
  rw [decide_eq_true h7];try dsimp only
  refine sqs ?_;refine aA.callV (fun _ _ _ Sz K=>aHS s (zB Sz K hs) hi r (hr.up (Up.kp K))) ?_;conv=>whnf
  rw [decide_eq_true h8];refine sqs ?_;refine zc (fun _ _=>oP r.rwN r.rwD) ?_;conv=>whnf
  rw [decide_eq_true h9];try dsimp only
  refine dT ?_;exact zR Tryz.func100
 by_cases h11:lJ r.yN r.yD
 rotate_left
 ·have:y=false:=by rw [hy];exact decide_eq_false fun h=>h11 h.2.2.2.2.2.2.2.1
  rw [this];refine zc (fun _ _=>mC lI mI h1) ?_;refine sqv ?_;refine zc (fun _ _=>mC lP mP h2) ?_;refine bFP ?_;refine aA.callV (fun _ _ _ Sz K=>aCY s (zB Sz K hs) r.cs (RoF.up (Up.kp K) hr.c)) ?_;conv=>whnf
  rw [decide_eq_true h6];try dsimp only
  refine sqs ?_;refine aA.callV (fun _ _ _ Sz K=>oC s (zB Sz K hs) hi r.inn (RoF.up (Up.kp K) hr.i)) ?_;conv=>whnf
  rw [decide_eq_true h7];try dsimp only
  refine sqs ?_;refine aA.callV (fun _ _ _ Sz K=>aHS s (zB Sz K hs) hi r (hr.up (Up.kp K))) ?_;conv=>whnf
  rw [decide_eq_true h8];refine sqs ?_;refine zc (fun _ _=>oP r.rwN r.rwD) ?_;conv=>whnf
  rw [decide_eq_true h9];try dsimp only
  refine dT ?_;refine zc (fun _ _=>oP r.yN r.yD) ?_;conv=>whnf
  rw [decide_eq_false h11];try dsimp only
  refine sqs ?_;exact zR Tryz.func100
 by_cases h12:lJ r.tN r.tD
 rotate_left
 ·have:y=false:=by rw [hy];exact decide_eq_false fun h=>h12 h.2.2.2.2.2.2.2.2.1
  rw [this];refine zc (fun _ _=>mC lI mI h1) ?_;refine sqv ?_;refine zc (fun _ _=>mC lP mP h2) ?_;refine bFP ?_;refine aA.callV (fun _ _ _ Sz K=>aCY s (zB Sz K hs) r.cs (RoF.up (Up.kp K) hr.c)) ?_;conv=>whnf
  rw [decide_eq_true h6];try dsimp only
  refine sqs ?_;refine aA.callV (fun _ _ _ Sz K=>oC s (zB Sz K hs) hi r.inn (RoF.up (Up.kp K) hr.i)) ?_;conv=>whnf
  rw [decide_eq_true h7];try dsimp only
  refine sqs ?_;refine aA.callV (fun _ _ _ Sz K=>aHS s (zB Sz K hs) hi r (hr.up (Up.kp K))) ?_;conv=>whnf
  rw [decide_eq_true h8];refine sqs ?_;refine zc (fun _ _=>oP r.rwN r.rwD) ?_;conv=>whnf
  rw [decide_eq_true h9];try dsimp only
  refine dT ?_;refine zc (fun _ _=>oP r.yN r.yD) ?_;conv=>whnf
  rw [decide_eq_true h11];try dsimp only
  refine sqs ?_;refine zc (fun _ _=>oP r.tN r.tD) ?_;conv=>whnf
  rw [decide_eq_false h12];try dsimp only
  refine sqs ?_;exact zR Tryz.func100
 by_cases h13:bt r.lead 0 15
 rotate_left
 ·have:y=false:=by rw [hy];exact decide_eq_false fun h=>h13 h.2.2.2.2.2.2.2.2.2.2.1
  rw [this];refine zc (fun _ _=>mC lI mI h1) ?_;refine sqv ?_;refine zc (fun _ _=>mC lP mP h2) ?_;refine bFP ?_;refine aA.callV (fun _ _ _ Sz K=>aCY s (zB Sz K hs) r.cs (RoF.up (Up.kp K) hr.c)) ?_;conv=>whnf
  rw [decide_eq_true h6];try dsimp only
  refine sqs ?_;refine aA.callV (fun _ _ _ Sz K=>oC s (zB Sz K hs) hi r.inn (RoF.up (Up.kp K) hr.i)) ?_;conv=>whnf
  rw [decide_eq_true h7];try dsimp only
  refine sqs ?_;refine aA.callV (fun _ _ _ Sz K=>aHS s (zB Sz K hs) hi r (hr.up (Up.kp K))) ?_;conv=>whnf
  rw [decide_eq_true h8];refine sqs ?_;refine zc (fun _ _=>oP r.rwN r.rwD) ?_;conv=>whnf
  rw [decide_eq_true h9];try dsimp only
  refine dT ?_;refine zc (fun _ _=>oP r.yN r.yD) ?_;conv=>whnf
  rw [decide_eq_true h11];try dsimp only
  refine sqs ?_;refine zc (fun _ _=>oP r.tN r.tD) ?_;conv=>whnf
  rw [decide_eq_true h12];try dsimp only
  refine sqs ?_;refine zc (fun _ _=>aPO h13) ?_;refine sqv ?_;exact zR Tryz.func100
 refine zc (fun _ _=>mC lI mI h1) ?_;refine sqv ?_;refine zc (fun _ _=>mC lP mP h2) ?_;refine bFP ?_;refine aA.callV (fun _ _ _ Sz K=>aCY s (zB Sz K hs) r.cs (RoF.up (Up.kp K) hr.c)) ?_;conv=>whnf
 rw [decide_eq_true h6];try dsimp only
 refine sqs ?_;refine aA.callV (fun _ _ _ Sz K=>oC s (zB Sz K hs) hi r.inn (RoF.up (Up.kp K) hr.i)) ?_;conv=>whnf
 rw [decide_eq_true h7];try dsimp only
 refine sqs ?_;refine aA.callV (fun _ _ _ Sz K=>aHS s (zB Sz K hs) hi r (hr.up (Up.kp K))) ?_;conv=>whnf
 rw [decide_eq_true h8];refine sqs ?_;refine zc (fun _ _=>oP r.rwN r.rwD) ?_;conv=>whnf
 rw [decide_eq_true h9];try dsimp only
 refine dT ?_;refine zc (fun _ _=>oP r.yN r.yD) ?_;conv=>whnf
 rw [decide_eq_true h11];try dsimp only
 refine sqs ?_;refine zc (fun _ _=>oP r.tN r.tD) ?_;conv=>whnf
 rw [decide_eq_true h12];try dsimp only
 refine sqs ?_;refine zc (fun _ _=>aGU h13) ?_;refine sqv ?_;refine aA.callV (fun _ _ _ Sz K=>bFK s (zB Sz K hs) r (hr.up (Up.kp K))) ?_;refine sqv ?_;refine aA.retU (aB.ret tab Tryz.func100 rfl fun Ez Hz Az Sz K=>⟨_,rfl,congrArg Value.bool ((decide_eq_decide.2 (bFG h1 h2 h3 h4 h5 h6 h7 h8 h9 h10 h11 h12 h13).symm).trans hy.symm),K.keeps⟩)

theorem aZT {h:Array Obj} (s:aG) {vU vI vP vM vO vF vR vS:Value} (hs:Top h vU vI vP vM vO vF vR vS s):FV 60 #[xY vU vI vP vM vO vF vR vS] h (.bool (decide (lW s))):=by
 have lU:=aZ s.units;have lI:=aE It.row s.items;have lP:=cK s.plants;have lM:=aE Mc.row s.machines;have lO:=aE OpV.row s.options;have lF:=aE FbV.row s.forbids;have lR:=aE RcV.row s.recipes;have lS:=aE Sw.row s.swaps;have mO:=hs.O.len;have mR:=hs.R.len;obtain ⟨r,hr⟩:∃r,r=decide (lW s):=⟨_,rfl⟩;rw [<-hr];refine zG 8 (zA hs (vs:=[]) (l:=[]) trivial) [.agg [.buf 0,.buf 1,.buf 2,.buf 3,.buf 4,.buf 5,.buf 6,.buf 7]] Tryz.func60 Tryz.ntmps60 fun w0 cs=>?_;refine zL (fun (k:Nat)=>[(3,nV k),(1,.ptr 8 0)]) (fun k=>((8,.cells 31 [.buf 0,.buf 1,.buf 2,.buf 3,.buf 4,.buf 5,.buf 6,.buf 7])::bFM s)) 9 (fun k=>k<=s.options.length /\ ∀o∈s.options.take k,o.ch.length<=4) (fun k=>s.options.length - k) (0) (⟨Nat.zero_le _,by simp⟩) ?_;rintro k hJ back;try dsimp only at hJ back
 conv=>whnf
 try dsimp only
 refine gS ?_;conv=>whnf
 refine ⟨fun hk=>?_,fun hk=>?_⟩<;>conv=>whnf
 ·have hk:k<s.options.length:=by omega
  refine cG ?_;refine ⟨_,bA hk,?_⟩;conv=>whnf
  by_cases h1:s.options[k].ch.length<=4
  ·refine cG ?_;exact zb (back (k+1) ((⟨hk,vD hk hJ.2 h1⟩)) (by (try dsimp only);omega))
  refine cG ?_;have:r=false:=by rw [hr];exact decide_eq_false fun h=>h1 (h.1 _ (List.getElem_mem hk))
  rw [this];exact zR Tryz.func60
 have hk:k=s.options.length:=by omega
 have hO:=hJ.2;rw [hk,List.take_length] at hO;clear back hJ mO;conv=>whnf
 refine zL (fun (k:Nat)=>[(4,nV k),(1,.ptr 8 0)]) (fun k=>((8,.cells 31 [.buf 0,.buf 1,.buf 2,.buf 3,.buf 4,.buf 5,.buf 6,.buf 7])::bFM s)) 9 (fun k=>k<=s.recipes.length /\ ∀r∈s.recipes.take k,r.inn.length<=8/\r.out.length<=8) (fun k=>s.recipes.length - k) (0) (⟨Nat.zero_le _,by simp⟩) ?_;rintro k hJ back;conv=>whnf
 refine gS ?_;conv=>whnf
 refine ⟨fun hk=>?_,fun hk=>?_⟩<;>conv=>whnf
 ·have hk:k<s.recipes.length:=by omega
  refine cG ?_;refine ⟨_,bA hk,?_⟩;conv=>whnf
  by_cases h1:s.recipes[k].inn.length<=8
  ·refine cG ?_;refine ⟨_,bA hk,?_⟩;conv=>whnf
   by_cases h2:s.recipes[k].out.length<=8
   ·try intro _
    refine cG ?_;exact zb (back (k+1) ((⟨hk,vD hk hJ.2 ⟨h1,h2⟩⟩)) (by (try dsimp only);omega))
   try intro _
   refine cG ?_;have:r=false:=by rw [hr];exact decide_eq_false fun h=>h2 (h.2.1 _ (List.getElem_mem hk)).2
   rw [this];exact zR Tryz.func60
  refine cG ?_;have:r=false:=by rw [hr];exact decide_eq_false fun h=>h1 (h.2.1 _ (List.getElem_mem hk)).1
  rw [this];exact zR Tryz.func60
 have hk:k=s.recipes.length:=by omega
 have hR:=hJ.2;rw [hk,List.take_length] at hR;clear back hJ mR;by_cases c1:s.items.length<=32
 rotate_left
 ·refine cG ?_;have:r=false:=by rw [hr];exact decide_eq_false fun h=>c1 h.2.2.1
  rw [this];exact zR Tryz.func60
 by_cases c2:s.plants.length<=8
 rotate_left
 ·refine cG ?_;have:r=false:=by rw [hr];exact decide_eq_false fun h=>c2 h.2.2.2.1
  rw [this];exact zR Tryz.func60
 by_cases c3:s.machines.length<=16
 rotate_left
 ·refine cG ?_;have:r=false:=by rw [hr];exact decide_eq_false fun h=>c3 h.2.2.2.2.1
  rw [this];exact zR Tryz.func60
 by_cases c4:s.options.length<=6
 rotate_left
 ·refine cG ?_;have:r=false:=by rw [hr];exact decide_eq_false fun h=>c4 h.2.2.2.2.2.1
  rw [this];exact zR Tryz.func60
 by_cases c5:s.forbids.length<=16
 rotate_left
 ·refine cG ?_;have:r=false:=by rw [hr];exact decide_eq_false fun h=>c5 h.2.2.2.2.2.2.1
  rw [this];exact zR Tryz.func60
 by_cases c6:s.recipes.length<=64
 rotate_left
 ·refine cG ?_;have:r=false:=by rw [hr];exact decide_eq_false fun h=>c6 h.2.2.2.2.2.2.2.1
  rw [this];exact zR Tryz.func60
 by_cases c7:s.swaps.length<=64
 rotate_left
 ·refine cG ?_;have:r=false:=by rw [hr];exact decide_eq_false fun h=>c7 h.2.2.2.2.2.2.2.2
  rw [this];refine aA.retU (aB.ret tab Tryz.func60 rfl fun Ez Hz Az Sz K=>⟨_,rfl,congrArg Value.bool (decide_eq_false (by omega)),K.keeps⟩)
 refine cG ?_;have:r=true:=by rw [hr];exact decide_eq_true ⟨hO,hR,c1,c2,c3,c4,c5,c6,c7⟩
 rw [this];refine aA.retU (aB.ret tab Tryz.func60 rfl fun Ez Hz Az Sz K=>⟨_,rfl,congrArg Value.bool (decide_eq_true (by omega)),K.keeps⟩)
theorem aTB {h:Array Obj} (s:aG) {vU vI vP vM vO vF vR vS:Value} (hs:Top h vU vI vP vM vO vF vR vS s):FV 28 #[xY vU vI vP vM vO vF vR vS] h (.bool (decide (FewT s))):=by
 have lU:=aZ s.units;have lI:=aE It.row s.items;have lP:=cK s.plants;have lM:=aE Mc.row s.machines;have lO:=aE OpV.row s.options;have lF:=aE FbV.row s.forbids;have lR:=aE RcV.row s.recipes;have lS:=aE Sw.row s.swaps;have mU:=hs.U.len;have mO:=hs.O.len;have mF:=hs.F.len;have mR:=hs.R.len;obtain ⟨r,hr⟩:∃r,r=decide (FewT s):=⟨_,rfl⟩;rw [<-hr];refine zG 8 (zA hs (vs:=[]) (l:=[]) trivial) [.agg [.buf 0,.buf 1,.buf 2,.buf 3,.buf 4,.buf 5,.buf 6,.buf 7]] Tryz.func28 Tryz.ntmps28 fun w0 cs=>?_;refine zL (fun (k:Nat)=>[(3,nV k),(1,.ptr 8 0)]) (fun k=>((8,.cells 31 [.buf 0,.buf 1,.buf 2,.buf 3,.buf 4,.buf 5,.buf 6,.buf 7])::bFM s)) 9 (fun k=>k<=s.units.length /\ ∀o∈s.units.take k,o.scale.n.size<=60/\o.scale.d.size<=60) (fun k=>s.units.length - k) (0) (⟨Nat.zero_le _,by simp⟩) ?_;rintro k hJ back;try dsimp only at hJ back
 conv=>whnf
 try dsimp only
 refine gS ?_;conv=>whnf
 refine ⟨fun hk=>?_,fun hk=>?_⟩<;>conv=>whnf
 ·have hk:k<s.units.length:=by omega
  refine cG ?_;refine ⟨_,dK hk,?_⟩;conv=>whnf
  by_cases t1:s.units[k].scale.n.size<=60
  rotate_left
  ·try intro _
   refine cG ?_;have:r=false:=by rw [hr];exact decide_eq_false fun h=>t1 (h.1 _ (List.getElem_mem hk)).1
   rw [this];exact zR Tryz.func28
  try intro _
  refine cG ?_;refine ⟨_,dK hk,?_⟩;conv=>whnf
  by_cases t2:s.units[k].scale.d.size<=60
  rotate_left
  ·try intro _
   refine cG ?_;have:r=false:=by rw [hr];exact decide_eq_false fun h=>t2 (h.1 _ (List.getElem_mem hk)).2
   rw [this];exact zR Tryz.func28
  try intro _
  refine cG ?_;exact zb (back (k+1) ((⟨hk,vD hk hJ.2 ⟨t1,t2⟩⟩)) (by (try dsimp only);omega))
 have hk:k=s.units.length:=by omega
 have hU:=hJ.2;rw [hk,List.take_length] at hU;clear back hJ mU;conv=>whnf
 refine zL (fun (k:Nat)=>[(4,nV k),(1,.ptr 8 0)]) (fun k=>((8,.cells 31 [.buf 0,.buf 1,.buf 2,.buf 3,.buf 4,.buf 5,.buf 6,.buf 7])::bFM s)) 9 (fun k=>k<=s.options.length /\ ∀o∈s.options.take k,o.ch.length<=6) (fun k=>s.options.length - k) (0) (⟨Nat.zero_le _,by simp⟩) ?_;rintro k hJ back;conv=>whnf
 refine gS ?_;conv=>whnf
 refine ⟨fun hk=>?_,fun hk=>?_⟩<;>conv=>whnf
 ·have hk:k<s.options.length:=by omega
  refine cG ?_;refine ⟨_,bA hk,?_⟩;conv=>whnf
  by_cases t1:s.options[k].ch.length<=6
  rotate_left
  ·try intro _
   refine cG ?_;have:r=false:=by rw [hr];exact decide_eq_false fun h=>t1 (h.2.1 _ (List.getElem_mem hk))
   rw [this];exact zR Tryz.func28
  try intro _
  refine cG ?_;exact zb (back (k+1) ((⟨hk,vD hk hJ.2 t1⟩)) (by (try dsimp only);omega))
 have hk:k=s.options.length:=by omega
 have hO:=hJ.2;rw [hk,List.take_length] at hO;clear back hJ mO;conv=>whnf
 refine zL (fun (k:Nat)=>[(5,nV k),(1,.ptr 8 0)]) (fun k=>((8,.cells 31 [.buf 0,.buf 1,.buf 2,.buf 3,.buf 4,.buf 5,.buf 6,.buf 7])::bFM s)) 9 (fun k=>k<=s.forbids.length /\ ∀o∈s.forbids.take k,o.cs.length<=8) (fun k=>s.forbids.length - k) (0) (⟨Nat.zero_le _,by simp⟩) ?_;rintro k hJ back;conv=>whnf
 refine gS ?_;conv=>whnf
 refine ⟨fun hk=>?_,fun hk=>?_⟩<;>conv=>whnf
 ·have hk:k<s.forbids.length:=by omega
  refine cG ?_;refine ⟨_,bA hk,?_⟩;conv=>whnf
  by_cases t1:s.forbids[k].cs.length<=8
  rotate_left
  ·try intro _
   refine cG ?_;have:r=false:=by rw [hr];exact decide_eq_false fun h=>t1 (h.2.2.1 _ (List.getElem_mem hk))
   rw [this];exact zR Tryz.func28
  try intro _
  refine cG ?_;exact zb (back (k+1) ((⟨hk,vD hk hJ.2 t1⟩)) (by (try dsimp only);omega))
 have hk:k=s.forbids.length:=by omega
 have hF:=hJ.2;rw [hk,List.take_length] at hF;clear back hJ mF;conv=>whnf
 refine zL (fun (k:Nat)=>[(6,nV k),(1,.ptr 8 0)]) (fun k=>((8,.cells 31 [.buf 0,.buf 1,.buf 2,.buf 3,.buf 4,.buf 5,.buf 6,.buf 7])::bFM s)) 9 (fun k=>k<=s.recipes.length /\ ∀o∈s.recipes.take k,o.cs.length<=8/\o.inn.length<=10/\o.out.length<=10/\o.runs.length<=20) (fun k=>s.recipes.length - k) (0) (⟨Nat.zero_le _,by simp⟩) ?_;rintro k hJ back;conv=>whnf
 refine gS ?_;conv=>whnf
 refine ⟨fun hk=>?_,fun hk=>?_⟩<;>conv=>whnf
 ·have hk:k<s.recipes.length:=by omega
  refine cG ?_;refine ⟨_,bA hk,?_⟩;conv=>whnf
  try (refine oN ?_;conv=>whnf)
  by_cases t1:s.recipes[k].cs.length<=8
  rotate_left
  ·try intro _
   refine cG ?_;have:r=false:=by rw [hr];exact decide_eq_false fun h=>t1 (h.2.2.2.1 _ (List.getElem_mem hk)).1
   rw [this];exact zR Tryz.func28
  try intro _
  refine cG ?_;by_cases t2:s.recipes[k].inn.length<=10
  rotate_left
  ·try intro _
   refine cG ?_;have:r=false:=by rw [hr];exact decide_eq_false fun h=>t2 (h.2.2.2.1 _ (List.getElem_mem hk)).2.1
   rw [this];exact zR Tryz.func28
  try intro _
  refine cG ?_;by_cases t3:s.recipes[k].out.length<=10
  rotate_left
  ·try intro _
   refine cG ?_;have:r=false:=by rw [hr];exact decide_eq_false fun h=>t3 (h.2.2.2.1 _ (List.getElem_mem hk)).2.2.1
   rw [this];exact zR Tryz.func28
  try intro _
  refine cG ?_;by_cases t4:s.recipes[k].runs.length<=20
  rotate_left
  ·try intro _
   refine cG ?_;have:r=false:=by rw [hr];exact decide_eq_false fun h=>t4 (h.2.2.2.1 _ (List.getElem_mem hk)).2.2.2
   rw [this];exact zR Tryz.func28
  try intro _
  refine cG ?_;exact zb (back (k+1) ((⟨hk,vD hk hJ.2 ⟨t1,t2,t3,t4⟩⟩)) (by (try dsimp only);omega))
 have hk:k=s.recipes.length:=by omega
 have hR:=hJ.2;rw [hk,List.take_length] at hR;clear back hJ mR;by_cases c1:s.units.length<=40
 rotate_left
 ·refine cG ?_;have:r=false:=by rw [hr];exact decide_eq_false fun h=>c1 h.2.2.2.2.1
  rw [this];exact zR Tryz.func28
 by_cases c2:s.items.length<=40
 rotate_left
 ·refine cG ?_;have:r=false:=by rw [hr];exact decide_eq_false fun h=>c2 h.2.2.2.2.2.1
  rw [this];exact zR Tryz.func28
 by_cases c3:s.plants.length<=10
 rotate_left
 ·refine cG ?_;have:r=false:=by rw [hr];exact decide_eq_false fun h=>c3 h.2.2.2.2.2.2.1
  rw [this];exact zR Tryz.func28
 by_cases c4:s.machines.length<=20
 rotate_left
 ·refine cG ?_;have:r=false:=by rw [hr];exact decide_eq_false fun h=>c4 h.2.2.2.2.2.2.2.1
  rw [this];exact zR Tryz.func28
 by_cases c5:s.options.length<=8
 rotate_left
 ·refine cG ?_;have:r=false:=by rw [hr];exact decide_eq_false fun h=>c5 h.2.2.2.2.2.2.2.2.1
  rw [this];exact zR Tryz.func28
 by_cases c6:s.forbids.length<=20
 rotate_left
 ·refine cG ?_;have:r=false:=by rw [hr];exact decide_eq_false fun h=>c6 h.2.2.2.2.2.2.2.2.2.1
  rw [this];exact zR Tryz.func28
 by_cases c7:s.recipes.length<=70
 rotate_left
 ·refine cG ?_;have:r=false:=by rw [hr];exact decide_eq_false fun h=>c7 h.2.2.2.2.2.2.2.2.2.2.1
  rw [this];exact zR Tryz.func28
 by_cases c8:s.swaps.length<=70
 rotate_left
 ·refine cG ?_;have:r=false:=by rw [hr];exact decide_eq_false fun h=>c8 h.2.2.2.2.2.2.2.2.2.2.2
  rw [this];refine aA.retU (aB.ret tab Tryz.func28 rfl fun Ez Hz Az Sz K=>⟨_,rfl,congrArg Value.bool (decide_eq_false (by omega)),K.keeps⟩)
 refine cG ?_;have:r=true:=by rw [hr];exact decide_eq_true ⟨hU,hO,hF,hR,c1,c2,c3,c4,c5,c6,c7,c8⟩
 rw [this];refine aA.retU (aB.ret tab Tryz.func28 rfl fun Ez Hz Az Sz K=>⟨_,rfl,congrArg Value.bool (decide_eq_true (by omega)),K.keeps⟩)

theorem bEB {s:aG} (hi:∀i∈s.items,idx i.un s.units.length) {i:Int} (h:idx i s.items.length):∃(k:Nat) (_:i=k) (hk:k<s.items.length) (j:Nat) (_:s.items[k].un=j) (hj:j<s.units.length),s.base i=some s.units[j].base:=by
 obtain ⟨k,e3,hk,e4⟩:=at?_idx h;obtain ⟨m,e5,hm,e6⟩:=at?_idx (hi _ (List.getElem_mem hk));exact ⟨k,e3,hk,m,e5,hm,by unfold aG.base;rw [e4];dsimp only;rw [e6]⟩
theorem bEC {s:aG} {i:Int} (h:¬idx i s.items.length):s.base i=none:=by unfold aG.base;rw [at?_none h]
theorem aZV {h:Array Obj} (s:aG) {vU vI vP vM vO vF vR vS:Value} (hs:Top h vU vI vP vM vO vF vR vS s):FV 61 #[xY vU vI vP vM vO vF vR vS] h (.bool (decide (vE s))):=by
 have lU:=aZ s.units;have lI:=aE It.row s.items;have lP:=cK s.plants;have lM:=aE Mc.row s.machines;have lO:=aE OpV.row s.options;have lF:=aE FbV.row s.forbids;have lR:=aE RcV.row s.recipes;have lS:=aE Sw.row s.swaps;have mU:=hs.U.len;have mI:=hs.I.len;have mP:=hs.P.len;have mM:=hs.M.len;have mO:=hs.O.len;have mF:=hs.F.len;have mR:=hs.R.len;have mS:=hs.S.len;obtain ⟨r,hr⟩:∃r,r=decide (vE s):=⟨_,rfl⟩;rw [<-hr];refine zG 8 (zA hs (vs:=[]) (l:=[]) trivial) [.agg [.buf 0,.buf 1,.buf 2,.buf 3,.buf 4,.buf 5,.buf 6,.buf 7]] Tryz.func61 Tryz.ntmps61 fun w0 cs=>?_;refine zL (fun (k:Nat)=>[(3,nV k),(1,.ptr 8 0)]) (fun k=>((8,.cells 31 [.buf 0,.buf 1,.buf 2,.buf 3,.buf 4,.buf 5,.buf 6,.buf 7])::bFM s)) 9 (fun k=>k<=s.items.length /\ ∀o∈s.items.take k,qF s o) (fun k=>s.items.length - k) (0) (⟨Nat.zero_le _,by simp⟩) ?_;rintro k hJ back;try dsimp only at hJ back
 conv=>whnf
 try dsimp only
 refine gS ?_;conv=>whnf
 refine ⟨fun hk=>?_,fun hk=>?_⟩<;>conv=>whnf
 ·have hk:k<s.items.length:=by omega
  by_cases t1:idx s.items[k].un s.units.length
  rotate_left
  ·refine cG ?_;refine ⟨_,bA hk,?_⟩;conv=>whnf
   try (refine oN ?_;conv=>whnf)
   refine zc (fun _ _=>aGV lU mU t1) ?_;refine sqv ?_;have:r=false:=by rw [hr];exact decide_eq_false fun h=>t1 (h.I _ (List.getElem_mem hk)).1
   rw [this];exact zR Tryz.func61
  by_cases t2:bt s.items[k].mn 0 1048576
  rotate_left
  ·refine cG ?_;refine ⟨_,bA hk,?_⟩;conv=>whnf
   try (refine oN ?_;conv=>whnf)
   refine zc (fun _ _=>mC lU mU t1) ?_;refine sqv ?_;refine zc (fun _ _=>aPO t2) ?_;refine sqv ?_;have:r=false:=by rw [hr];exact decide_eq_false fun h=>t2 (h.I _ (List.getElem_mem hk)).2.1
   rw [this];exact zR Tryz.func61
  by_cases t3:bt s.items[k].md 1 1048576
  rotate_left
  ·refine cG ?_;refine ⟨_,bA hk,?_⟩;conv=>whnf
   try (refine oN ?_;conv=>whnf)
   refine zc (fun _ _=>mC lU mU t1) ?_;refine sqv ?_;refine zc (fun _ _=>aGU t2) ?_;refine sqv ?_;refine zc (fun _ _=>aPO t3) ?_;refine sqv ?_;have:r=false:=by rw [hr];exact decide_eq_false fun h=>t3 (h.I _ (List.getElem_mem hk)).2.2.1
   rw [this];exact zR Tryz.func61
  by_cases t4:bt s.items[k].shelf 0 1023
  rotate_left
  ·refine cG ?_;refine ⟨_,bA hk,?_⟩;conv=>whnf
   try (refine oN ?_;conv=>whnf)
   refine zc (fun _ _=>mC lU mU t1) ?_;refine sqv ?_;refine zc (fun _ _=>aGU t2) ?_;refine sqv ?_;refine zc (fun _ _=>aGU t3) ?_;refine sqv ?_;refine zc (fun _ _=>aPO t4) ?_;refine sqv ?_;have:r=false:=by rw [hr];exact decide_eq_false fun h=>t4 (h.I _ (List.getElem_mem hk)).2.2.2
   rw [this];exact zR Tryz.func61
  refine cG ?_;refine ⟨_,bA hk,?_⟩;conv=>whnf
  try (refine oN ?_;conv=>whnf)
  refine zc (fun _ _=>mC lU mU t1) ?_;refine sqv ?_;refine zc (fun _ _=>aGU t2) ?_;refine sqv ?_;refine zc (fun _ _=>aGU t3) ?_;refine sqv ?_;refine zc (fun _ _=>aGU t4) ?_;refine bFP ?_;exact zb (back (k+1) ((⟨hk,vD hk hJ.2 ⟨t1,t2,t3,t4⟩⟩)) (by (try dsimp only);omega))
 have hk:k=s.items.length:=by omega
 have hI:=hJ.2;rw [hk,List.take_length] at hI;clear back hJ;conv=>whnf
 have hi:∀i∈s.items,idx i.un s.units.length:=fun i h=>(hI i h).1;refine zL (fun (k:Nat)=>[(5,nV k),(1,.ptr 8 0)]) (fun k=>((8,.cells 31 [.buf 0,.buf 1,.buf 2,.buf 3,.buf 4,.buf 5,.buf 6,.buf 7])::bFM s)) 9 (fun k=>k<=s.machines.length /\ ∀o∈s.machines.take k,yE s o) (fun k=>s.machines.length - k) (0) (⟨Nat.zero_le _,by simp⟩) ?_;rintro k hJ back;conv=>whnf
 refine gS ?_;conv=>whnf
 refine ⟨fun hk=>?_,fun hk=>?_⟩<;>conv=>whnf
 ·have hk:k<s.machines.length:=by omega
  by_cases t1:idx s.machines[k].pn s.plants.length
  rotate_left
  ·refine zH (fls 0 9 (.e1 9 [] (fls 10 8 (.e1 18 [] (fls 19 2 .done))))) ?_;refine aBF ?_;conv=>whnf
   refine ⟨_,(bA hk),?_⟩;conv=>whnf
   refine zk (fun _ _=>aGV lP mP t1) ?_;refine aBF ?_;refine sqs ?_;have:r=false:=by rw [hr];exact decide_eq_false fun h=>t1 (h.M _ (List.getElem_mem hk)).1
   rw [this];exact zR Tryz.func61
  by_cases t2:bt s.machines[k].clean 0 15
  rotate_left
  ·refine zH (fls 0 9 (.e1 9 [] (fls 10 8 (.e1 18 [] (fls 19 2 .done))))) ?_;refine aBF ?_;conv=>whnf
   refine ⟨_,(bA hk),?_⟩;conv=>whnf
   refine zk (fun _ _=>mC lP mP t1) ?_;refine aBF ?_;conv=>whnf
   refine ⟨_,(bA hk),?_⟩;conv=>whnf
   refine zk (fun _ _=>aPO t2) ?_;refine squ ?_;refine sqs ?_;have:r=false:=by rw [hr];exact decide_eq_false fun h=>t2 (h.M _ (List.getElem_mem hk)).2
   rw [this];exact zR Tryz.func61
  refine zH (fls 0 9 (.e1 9 [] (fls 10 8 (.e1 18 [] (fls 19 2 .done))))) ?_;refine aBF ?_;conv=>whnf
  refine ⟨_,(bA hk),?_⟩;conv=>whnf
  refine zk (fun _ _=>mC lP mP t1) ?_;refine aBF ?_;conv=>whnf
  refine ⟨_,(bA hk),?_⟩;conv=>whnf
  refine zk (fun _ _=>aGU t2) ?_;refine squ ?_;refine dT ?_;exact zb (back (k+1) ((⟨hk,vD hk hJ.2 ⟨t1,t2⟩⟩)) (by (try dsimp only);omega))
 have hk:k=s.machines.length:=by omega
 have hM:=hJ.2;rw [hk,List.take_length] at hM;clear back hJ;conv=>whnf
 refine zL (fun (k:Nat)=>[(6,nV k),(1,.ptr 8 0)]) (fun k=>((8,.cells 31 [.buf 0,.buf 1,.buf 2,.buf 3,.buf 4,.buf 5,.buf 6,.buf 7])::bFM s)) 9 (fun k=>k<=s.options.length /\ ∀o∈s.options.take k,o.ch ≠ []) (fun k=>s.options.length - k) (0) (⟨Nat.zero_le _,by simp⟩) ?_;rintro k hJ back;conv=>whnf
 refine gS ?_;conv=>whnf
 refine ⟨fun hk=>?_,fun hk=>?_⟩<;>conv=>whnf
 ·have hk:k<s.options.length:=by omega
  refine cG ?_;refine ⟨_,bA hk,?_⟩;conv=>whnf
  refine ⟨fun t0=>?_,fun t0=>?_⟩<;>conv=>whnf
  ·conv=>whnf
   have:r=false:=by rw [hr];exact decide_eq_false fun h=>h.O _ (List.getElem_mem hk) (List.eq_nil_of_length_eq_zero (by omega))
   rw [this];exact zR Tryz.func61
  refine cG ?_;exact zb (back (k+1) ((⟨hk,vD hk hJ.2 (fun e=>t0 (by rw [e];rfl))⟩)) (by (try dsimp only);omega))
 have hk:k=s.options.length:=by omega
 have hO:=hJ.2;rw [hk,List.take_length] at hO;clear back hJ;conv=>whnf
 refine zL (fun (k:Nat)=>[(7,nV k),(1,.ptr 8 0)]) (fun k=>((8,.cells 31 [.buf 0,.buf 1,.buf 2,.buf 3,.buf 4,.buf 5,.buf 6,.buf 7])::bFM s)) 9 (fun k=>k<=s.forbids.length /\ ∀o∈s.forbids.take k,o.cs ≠ []/\jL s o.cs) (fun k=>s.forbids.length - k) (0) (⟨Nat.zero_le _,by simp⟩) ?_;rintro k hJ back;conv=>whnf
 refine gS ?_;conv=>whnf
 refine ⟨fun hk=>?_,fun hk=>?_⟩<;>conv=>whnf
 ·have hk:k<s.forbids.length:=by omega
  by_cases t0:s.forbids[k].cs.length=0
  ·refine zH (fls 0 14 (.e1 14 [] (fls 15 2 .done))) ?_;refine aBF ?_;conv=>whnf
   refine ⟨_,(bA hk),?_⟩;refine xE ?_;refine sqs ?_;have:r=false:=by rw [hr];exact decide_eq_false fun h=>(h.F _ (List.getElem_mem hk)).1 (List.eq_nil_of_length_eq_zero t0)
   rw [this];try intro _
   refine sqv ?_;exact zR Tryz.func61
  by_cases t1:jL s s.forbids[k].cs
  rotate_left
  ·refine zH (fls 0 14 (.e1 14 [] (fls 15 2 .done))) ?_;refine aBF ?_;conv=>whnf
   refine ⟨_,(bA hk),?_⟩;conv=>whnf
   try (refine oN ?_;conv=>whnf)
   conv=>whnf
   try intro _
   refine xE ?_;conv=>whnf
   refine ⟨_,(bA hk),?_⟩;conv=>whnf
   refine aK.callV (fun _ _ _ Sz K=>aCY s (zB Sz K hs) s.forbids[k].cs ((hs.below.f _ (List.getElem_mem hk)).up (Up.kp K))) zP ?_;conv=>whnf
   rw [decide_eq_false t1];try dsimp only
   refine sqr ?_;refine sqs ?_;have:r=false:=by rw [hr];exact decide_eq_false fun h=>t1 (h.F _ (List.getElem_mem hk)).2
   rw [this];exact zR Tryz.func61
  refine zH (fls 0 14 (.e1 14 [] (fls 15 2 .done))) ?_;refine aBF ?_;conv=>whnf
  refine ⟨_,(bA hk),?_⟩;conv=>whnf
  try (refine oN ?_;conv=>whnf)
  conv=>whnf
  try intro _
  refine xE ?_;conv=>whnf
  refine ⟨_,(bA hk),?_⟩;conv=>whnf
  refine aK.callV (fun _ _ _ Sz K=>aCY s (zB Sz K hs) s.forbids[k].cs ((hs.below.f _ (List.getElem_mem hk)).up (Up.kp K))) zP ?_;conv=>whnf
  rw [decide_eq_true t1];try dsimp only
  refine sqr ?_;refine dT ?_;exact zb (back (k+1) ((⟨hk,vD hk hJ.2 ⟨fun e=>t0 (by rw [e];rfl),t1⟩⟩)) (by (try dsimp only);omega))
 have hk:k=s.forbids.length:=by omega
 have hF:=hJ.2;rw [hk,List.take_length] at hF;clear back hJ;conv=>whnf
 refine zL (fun (k:Nat)=>[(8,nV k),(1,.ptr 8 0)]) (fun k=>((8,.cells 31 [.buf 0,.buf 1,.buf 2,.buf 3,.buf 4,.buf 5,.buf 6,.buf 7])::bFM s)) 9 (fun k=>k<=s.recipes.length /\ ∀o∈s.recipes.take k,mY s o) (fun k=>s.recipes.length - k) (0) (⟨Nat.zero_le _,by simp⟩) ?_;rintro k hJ back;conv=>whnf
 refine gS ?_;conv=>whnf
 refine ⟨fun hk=>?_,fun hk=>?_⟩<;>conv=>whnf
 ·have hk:k<s.recipes.length:=by omega
  by_cases t1:mY s s.recipes[k]
  rotate_left
  ·refine zH (fls 0 6 (.e1 6 [] (.fl 7 .done))) ?_;refine aBF ?_;conv=>whnf
   refine ⟨_,(bA hk),?_⟩;conv=>whnf
   try (refine oN ?_;conv=>whnf)
   conv=>whnf
   refine aK.callV (fun _ _ _ Sz K=>aVE s (zB Sz K hs) hi s.recipes[k] ((hs.below.r _ (List.getElem_mem hk)).up (Up.kp K))) zP ?_;conv=>whnf
   rw [decide_eq_false t1];try dsimp only
   refine sqr ?_;refine sqs ?_;have:r=false:=by rw [hr];exact decide_eq_false fun h=>t1 (h.R _ (List.getElem_mem hk))
   rw [this];exact zR Tryz.func61
  refine zH (fls 0 6 (.e1 6 [] (.fl 7 .done))) ?_;refine aBF ?_;conv=>whnf
  refine ⟨_,(bA hk),?_⟩;conv=>whnf
  try (refine oN ?_;conv=>whnf)
  conv=>whnf
  refine aK.callV (fun _ _ _ Sz K=>aVE s (zB Sz K hs) hi s.recipes[k] ((hs.below.r _ (List.getElem_mem hk)).up (Up.kp K))) zP ?_;conv=>whnf
  rw [decide_eq_true t1];try dsimp only
  refine sqr ?_;refine dT ?_;exact zb (back (k+1) ((⟨hk,vD hk hJ.2 t1⟩)) (by (try dsimp only);omega))
 have hk:k=s.recipes.length:=by omega
 have hR:=hJ.2;rw [hk,List.take_length] at hR;clear back hJ;conv=>whnf
 refine zL (fun (k:Nat)=>[(9,nV k),(1,.ptr 8 0)]) (fun k=>((8,.cells 31 [.buf 0,.buf 1,.buf 2,.buf 3,.buf 4,.buf 5,.buf 6,.buf 7])::bFM s)) 9 (fun k=>k<=s.swaps.length /\ ∀o∈s.swaps.take k,pA s o) (fun k=>s.swaps.length - k) (0) (⟨Nat.zero_le _,by simp⟩) ?_;rintro k hJ back;conv=>whnf
 refine gS ?_;conv=>whnf
 refine ⟨fun hk=>?_,fun hk=>?_⟩<;>conv=>whnf
 ·have hk:k<s.swaps.length:=by omega
  refine cG ?_;refine ⟨_,bA hk,?_⟩;conv=>whnf
  try (refine oN ?_;conv=>whnf)
  by_cases t1:idx s.swaps[k].an s.items.length
  rotate_left
  ·refine zH (fls 0 5 (.e1 5 [] (fls 6 7 (.e1 13 [] (fls 14 13 (fls 28 3 (.e1 27 [28,30] (.e1 31 [] (fls 32 2 .done))))))))) ?_;refine squ ?_;refine zk (fun _ _=>aGV lI mI t1) ?_;refine aBF ?_;refine sqs ?_;have:r=false:=by rw [hr];exact decide_eq_false fun h=>by have:=h.S _ (List.getElem_mem hk);unfold pA at this;rw [bEC t1] at this;exact this.1
   rw [this];exact zR Tryz.func61
  obtain ⟨ka,ea,hka,ja,ua,hja,ba⟩:=bEB hi t1;by_cases t2:idx s.swaps[k].bn s.items.length
  rotate_left
  ·refine zH (fls 0 5 (.e1 5 [] (fls 6 7 (.e1 13 [] (fls 14 13 (fls 28 3 (.e1 27 [28,30] (.e1 31 [] (fls 32 2 .done))))))))) ?_;refine squ ?_;refine zk (fun _ _=>mC lI mI t1) ?_;refine squ ?_;refine zk (fun _ _=>aGV lI mI t2) ?_;refine aBF ?_;refine sqs ?_;have:r=false:=by rw [hr];exact decide_eq_false fun h=>by have:=h.S _ (List.getElem_mem hk);unfold pA at this;rw [ba,bEC t2] at this;exact this.1
   rw [this];exact zR Tryz.func61
  obtain ⟨kb,eb,hkb,jb,ub,hjb,bb⟩:=bEB hi t2;by_cases t3:s.swaps[k].an=s.swaps[k].bn
  ·refine zH (fls 0 5 (.e1 5 [] (fls 6 7 (.e1 13 [] (fls 14 13 (fls 28 3 (.e1 27 [28,30] (.e1 31 [] (fls 32 2 .done))))))))) ?_;refine squ ?_;refine zk (fun _ _=>mC lI mI t1) ?_;refine squ ?_;refine zk (fun _ _=>mC lI mI t2) ?_;refine aBF ?_;refine sqs ?_;have:r=false:=by rw [hr];exact decide_eq_false fun h=>(h.S _ (List.getElem_mem hk)).2 t3
   rw [this];exact zR Tryz.func61
  by_cases t4:s.units[ja].base=s.units[jb].base
  rotate_left
  ·refine zH (fls 0 5 (.e1 5 [] (fls 6 7 (.e1 13 [] (fls 14 13 (fls 28 3 (.e1 27 [28,30] (.e1 31 [] (fls 32 2 .done))))))))) ?_;refine squ ?_;refine zk (fun _ _=>mC lI mI t1) ?_;refine squ ?_;refine zk (fun _ _=>mC lI mI t2) ?_;refine aBF ?_;conv=>whnf
   refine aK.callV (fun _ _ _ Sz K=>aLD s (zB Sz K hs) ea hka ua hja) zP ?_;refine squ ?_;refine aK.callV (fun _ _ _ Sz K=>aLD s (zB Sz K hs) eb hkb ub hjb) zP ?_;refine aBF ?_;refine sqs ?_;have:r=false:=by rw [hr];exact decide_eq_false fun h=>by have:=h.S _ (List.getElem_mem hk);unfold pA at this;rw [ba,bb] at this;exact t4 this.1
   rw [this];try intro _
   refine sqv ?_;exact zR Tryz.func61
  refine zH (fls 0 5 (.e1 5 [] (fls 6 7 (.e1 13 [] (fls 14 13 (fls 28 3 (.e1 27 [28,30] (.e1 31 [] (fls 32 2 .done))))))))) ?_;refine squ ?_;refine zk (fun _ _=>mC lI mI t1) ?_;refine squ ?_;refine zk (fun _ _=>mC lI mI t2) ?_;refine aBF ?_;conv=>whnf
  refine aK.callV (fun _ _ _ Sz K=>aLD s (zB Sz K hs) ea hka ua hja) zP ?_;refine squ ?_;refine aK.callV (fun _ _ _ Sz K=>aLD s (zB Sz K hs) eb hkb ub hjb) zP ?_;refine aBF ?_;refine dT ?_;try intro _
  refine sqv ?_;exact zb (back (k+1) ((⟨hk,vD hk hJ.2 ⟨by rw [ba,bb];exact t4,t3⟩⟩)) (by (try dsimp only);omega))
 have hk:k=s.swaps.length:=by omega
 have hS:=hJ.2;rw [hk,List.take_length] at hS;clear back hJ;conv=>whnf
 have:r=true:=by rw [hr];exact decide_eq_true ⟨hI,hM,hO,hF,hR,hS⟩
 rw [this];exact zR Tryz.func61

theorem aOU {h:Array Obj} (s:aG) {vU vI vP vM vO vF vR vS:Value} (hs:Top h vU vI vP vM vO vF vR vS s) (hw:s.wf):FV 32 #[xY vU vI vP vM vO vF vR vS] h (.int .i64 (bE s)):=by
 refine zG 8 (zA hs (vs:=[]) (l:=[]) trivial) [.agg [.buf 0,.buf 1,.buf 2,.buf 3,.buf 4,.buf 5,.buf 6,.buf 7]] Tryz.func32 Tryz.ntmps32 fun w0 cs=>?_;by_cases hu:eT s.units=0
 rotate_left
 ·refine aA.callV (fun _ _ _ Sz _=>aKO s.units hw.U (Sz.ro (b:=0) rfl)) ?_;refine bFP ?_;have:bE s=eT s.units:=by unfold bE;rw [if_pos hu]
  rw [this];exact zR Tryz.func32
 refine aA.callV (fun _ _ _ Sz _=>aKO s.units hw.U (Sz.ro (b:=0) rfl)) ?_;conv=>whnf
 rw [hu];try dsimp only
 refine dT ?_;by_cases hm:lW s
 rotate_left
 ·refine aA.callV (fun _ _ _ Sz K=>aZT s (zB Sz K hs)) ?_;conv=>whnf
  rw [decide_eq_false hm];refine sqs ?_;have:bE s=2:=by unfold bE;rw [if_neg (fun h=>h hu),if_pos hm]
  rw [this];exact zR Tryz.func32
 refine aA.callV (fun _ _ _ Sz K=>aZT s (zB Sz K hs)) ?_;conv=>whnf
 rw [decide_eq_true hm];refine sqs ?_;by_cases ht:vE s
 ·refine aA.callV (fun _ _ _ Sz K=>aZV s (zB Sz K hs)) ?_;conv=>whnf
  rw [decide_eq_true ht];refine sqs ?_;have:bE s=0:=by unfold bE;rw [if_neg (fun h=>h hu),if_neg (fun h=>h hm),if_neg (fun h=>h ht)]
  rw [this];exact zR Tryz.func32
 refine aA.callV (fun _ _ _ Sz K=>aZV s (zB Sz K hs)) ?_;conv=>whnf
 rw [decide_eq_false ht];refine sqs ?_;have:bE s=120:=by unfold bE;rw [if_neg (fun h=>h hu),if_neg (fun h=>h hm),if_pos ht]
 rw [this];exact zR Tryz.func32
theorem yAmt_fn {h:Array Obj} (s:aG) {vU vI vP vM vO vF vR vS:Value} (hs:Top h vU vI vP vM vO vF vR vS s) (hw:s.wf) (a:Am) (ha:a.wf):FV 209 #[xY vU vI vP vM vO vF vR vS,amV a] h (rev (aDL s a)):=by
 have lU:=aZ s.units;have lI:=aE It.row s.items;have lP:=cK s.plants;have lM:=aE Mc.row s.machines;have lO:=aE OpV.row s.options;have lF:=aE FbV.row s.forbids;have lR:=aE RcV.row s.recipes;have lS:=aE Sw.row s.swaps;have mI:=hs.I.len;obtain ⟨y,hy⟩:∃y,y=aDL s a:=⟨_,rfl⟩;rw [<-hy];unfold aDL at hy;refine zG 8 (zA hs (vs:=[]) (l:=[]) trivial) [.agg [.buf 0,.buf 1,.buf 2,.buf 3,.buf 4,.buf 5,.buf 6,.buf 7],.agg (toV a.row)] Tryz.func209 Tryz.ntmps209 fun w0 cs=>?_;by_cases h1:idx a.inn s.items.length
 ·obtain ⟨k,e,hk,e3⟩:=at?_idx h1;rw [e3] at hy;dsimp only at hy;refine zc (fun _ _=>mC lI mI h1) ?_;refine sqv ?_;refine zc (fun _ _=>aKX a.n a.d ha.1 ha.2.1) ?_;refine sqv ?_;refine ⟨fun h2=>?_,fun h2=>?_⟩<;>conv=>whnf
  ·conv=>whnf
   rw [if_neg (fun h=>h h2)] at hy;refine zH (fls 0 12 (.e1 12 [] (fls 13 2 (.e1 15 [] (.fl 16 .done))))) ?_;refine aBF ?_;conv=>whnf
   refine ⟨_,(by rw [e];exact bA hk),?_⟩;conv=>whnf
   refine aK.callV (fun _ _ _ Sz _=>bDL s.units hw.U (Sz.ro (b:=0) rfl) a.un s.items[k].un (eU a.n a.d).1) zP ?_;refine aBF ?_;refine sqs ?_;subst hy;exact zR Tryz.func209
  conv=>whnf
  rw [if_pos h2] at hy;subst hy;exact zR Tryz.func209
 rw [at?_none h1] at hy;subst hy;refine zc (fun _ _=>aGV lI mI h1) ?_;refine sqv ?_;exact zR Tryz.func209
theorem bFJ {h:Array Obj} (s:aG) {vU vI vP vM vO vF vR vS:Value} (hs:Top h vU vI vP vM vO vF vR vS s) (hw:s.wf) (a:Am) (ha:a.wf):FV 102 #[xY vU vI vP vM vO vF vR vS,amV a] h (rev (nR s a)):=by
 have lU:=aZ s.units;have lI:=aE It.row s.items;have lP:=cK s.plants;have lM:=aE Mc.row s.machines;have lO:=aE OpV.row s.options;have lF:=aE FbV.row s.forbids;have lR:=aE RcV.row s.recipes;have lS:=aE Sw.row s.swaps;obtain ⟨y,hy⟩:∃y,y=nR s a:=⟨_,rfl⟩;rw [<-hy];unfold nR at hy;refine zG 8 (zA hs (vs:=[]) (l:=[]) trivial) [.agg [.buf 0,.buf 1,.buf 2,.buf 3,.buf 4,.buf 5,.buf 6,.buf 7],.agg (toV a.row)] Tryz.func102 Tryz.ntmps102 fun w0 cs=>?_;refine aA.callV (fun _ _ _ Sz K=>yAmt_fn s (zB Sz K hs) hw a ha) ?_;refine sqv ?_;refine ⟨fun h0=>?_,fun h0=>?_⟩<;>conv=>whnf
 ·conv=>whnf
  rw [if_neg (fun h=>h h0)] at hy;have h1:idx a.inn s.items.length:=Decidable.byContradiction fun h1=>by
   unfold aDL at h0;rw [at?_none h1] at h0;exact absurd (show (120:Int)=0 from h0) (by omega)
  obtain ⟨k,e,hk,e3⟩:=at?_idx h1;rw [e3] at hy;dsimp only at hy;have hi:=hw.I _ (List.getElem_mem hk);refine cG ?_;refine ⟨_,(by rw [e];exact bA hk),?_⟩;conv=>whnf
  try (refine oN ?_;conv=>whnf)
  refine zc (fun _ _=>aKX s.items[k].mn s.items[k].md hi.1 hi.2.1) ?_;refine sqv ?_;refine ⟨fun h2=>?_,fun h2=>?_⟩<;>conv=>whnf
  ·conv=>whnf
   rw [if_neg (fun h=>h h2)] at hy;refine zc (fun _ _=>aKV (aDL s a).1 (eU s.items[k].mn s.items[k].md).1) ?_;refine sqv ?_;subst hy;exact zR Tryz.func102
  conv=>whnf
  rw [if_pos h2] at hy;subst hy;exact zR Tryz.func102
 conv=>whnf
 rw [if_pos h0] at hy;subst hy;exact zR Tryz.func102
end Go.Proofs.YthjedpdedjhndaaGreatDoor

namespace Go.Proofs.YthjedpdedjhndaaGreatDoor
open Go Go.Fw
def cls (c:Nat):Int:=
 if (97<=c/\c<=122)\/(65<=c/\c<=90) then 2 else if 48<=c/\c<=57 then 3
 else if c=32\/c=9\/c=10\/c=13 then 1
 else if c ∈ [123,125,40,41,44,59,61,35,47,60,33,45,46,58,43] then 4 else 0
def clsS:List SV:=(List.range 256).map fun c=>nV (cls c)
def scanS:List SV:=[.v (.func (.func 145) #[] #[]),.v (.func (.func 146) #[] #[]),.v (.func (.func 147) #[] #[]),.v (.func (.func 148) #[] #[]),.v (.func (.func 149) #[] #[])]
def scn (src:ByteArray) (pos:Int) (toks:SV):List SV:=.v (.string src)::nV pos::(clsS++(scanS++[toks]))
theorem aZQ {c:Nat} (hc:c<256) (r:List SV):nth (clsS++r) c=some (nV (cls c)):=by
 rw [fW,List.getElem?_append_left (by simpa [clsS] using hc)]
 simp [clsS,hc]
theorem aLT {src:ByteArray} {pos:Int} {toks:SV} {c:Nat} (hc:c<256):nth (scn src pos toks) (0+(1+1)+((c:Int)).toNat*1)=some (nV (cls c)):=by
 rw [show 0+(1+1)+((c:Int)).toNat*1=c+1+1 by simp;omega];exact aZQ hc _
abbrev scB (src:ByteArray) (pos:Int) (b:Nat:=1):Nat×Fw.Blk:=(0,.cells 206 (scn src pos (.buf b)))
def xW (pos:Int):List PanicEntry:=[{v:=.iface 198 (.int .i64 pos),recovered:=false}]
theorem yX (src:ByteArray) (pos:Int):FnS Tryz.prog 145 2 [.ptr 0 0] [scB src pos] (fun _:Unit=>True) (fun _=>.pan (xW pos) 2 [scB src pos]):=by
 refine zS Tryz.func145 Tryz.ntmps145 fun E0 F h w0 cs=>?_;try refine aA.panicU ?_
 exact zV Tryz.func145 (()) (trivial)
theorem pass_fn (src:ByteArray) (pos:Int) (hp:0<=pos/\pos<9223372036854775807):FnS Tryz.prog 146 2 [.ptr 0 0] [scB src pos] (fun _:Unit=>True) (fun _=>.ret (.tup []) 2 [scB src (pos+1)]):=by
 refine zS Tryz.func146 Tryz.ntmps146 fun E0 F h w0 cs=>?_;refine sqC ?_;exact zI Tryz.func146 () trivial
def gE (s:ByteArray) (p:Nat->Bool) (i:Nat):Nat:=if h:i<s.size then (if p (aY s i) then gE s p (i+1) else i) else i
termination_by s.size - i
theorem oE (s:ByteArray) (i:Nat):aY s i<256:=UInt8.toNat_lt _
def iF (a b f:Int) (c:Nat):Bool:=decide (cls c=a)||decide (cls c=b)||decide ((c:Int)=f)
theorem bCI (src:ByteArray) (hs:src.size<=65536) (pos:Nat) (hp:pos<=src.size) (a b f:Int):FnS Tryz.prog 242 2 [.ptr 0 0,nV a,nV b,.v (.int .u8 f)] [scB src pos] (fun _:Unit=>True)
  (fun _=>.ret (nV (gE src (iF a b f) pos)) 2 [scB src pos]):=by
 obtain ⟨r,hr⟩:∃r,r=gE src (iF a b f) pos:=⟨_,rfl⟩;rw [<-hr];refine zS Tryz.func242 Tryz.ntmps242 fun E0 F h w0 cs=>?_;refine zL (fun (i:Nat)=>[(9,nV i),(3,.v (.int .u8 f)),(2,nV b),(1,nV a),(0,.ptr 0 0)]) (fun i=>[scB src pos]) 2 (fun i=>i<=src.size/\r=gE src (iF a b f) i) (fun i=>src.size - i) (pos) (⟨by omega,hr⟩) ?_;rintro i hJ back;conv=>whnf
 refine gS ?_;conv=>whnf
 refine ⟨fun hk=>?_,fun hk=>?_⟩<;>conv=>whnf
 ·obtain ⟨c,hc⟩:∃c,c=aY src ((i:Int)).toNat:=⟨_,rfl⟩;have hb:c<256:=by rw [hc];exact oE src i
  rw [<-hc];refine cG ?_;have hc':c=aY src i:=hc;have go:iF a b f c=true->r=gE src (iF a b f) (i+1):=fun hp=>by
   have hu:=hJ.2;unfold gE at hu;rw [dif_pos (by omega),<-hc',if_pos hp] at hu;exact hu
  have no:iF a b f c=false->r=i:=fun hp=>by
   have hu:=hJ.2;unfold gE at hu;rw [dif_pos (by omega),<-hc',if_neg (by rw [hp];simp)] at hu;exact hu
  rw [aNY (aLT hb) (by rfl) (by rfl) (by rfl)];conv=>whnf
  refine ⟨fun h1=>?_,fun h1=>?_⟩<;>conv=>whnf
  ·refine cG ?_;exact zb (back (i+1) ((⟨by omega,go (by simp [iF,h1])⟩)) (by (try dsimp only);omega))
  refine cG ?_;rw [aNY (aLT hb) (by rfl) (by rfl) (by rfl)];conv=>whnf
  refine ⟨fun h2=>?_,fun h2=>?_⟩<;>conv=>whnf
  ·refine cG ?_;exact zb (back (i+1) ((⟨by omega,go (by simp [iF,h2])⟩)) (by (try dsimp only);omega))
  conv=>whnf
  refine ⟨fun h3=>?_,fun h3=>?_⟩<;>conv=>whnf
  ·refine cG ?_;exact zb (back (i+1) ((⟨by omega,go (by simp [iF,h3])⟩)) (by (try dsimp only);omega))
  conv=>whnf
  rw [no (by simp [iF,h1,h2,h3])];exact zI Tryz.func242 () trivial
 conv=>whnf
 have hu:=hJ.2;rw [show i=src.size by omega] at hu ⊢;unfold gE at hu;rw [dif_neg (by omega)] at hu;rw [<-hu];exact zI Tryz.func242 () trivial
structure Tok where
 kind:Int
 pos:Int
 text:ByteArray
 n:Int
def Tok.row (t:Tok):List Value:=[.int .i64 t.kind,.int .i64 t.pos,.string t.text,.int .i64 t.n]
def Tok.s (t:Tok):SV:=.agg [nV t.kind,nV t.pos,.v (.string t.text),nV t.n]
theorem aRT (src:ByteArray) (pos:Int) (l:List Tok) (hl:l.length<=65536) (t:Tok) (e:Int):FnS Tryz.prog 243 2 [.ptr 0 0,.agg [nV t.kind,nV t.pos,.v (.string t.text),nV t.n],nV e] [scB src pos,(1,.own 158 4 (l.map Tok.row))] (fun _:Unit=>True)
  (fun _=>.ret (.tup []) 3 [scB src e 2,(2,.own 158 4 ((l++[{t with pos:=pos}]).map Tok.row))]):=by
 refine zS Tryz.func243 Tryz.ntmps243 fun E0 F h w0 cs=>?_;have hlen:(l.map Tok.row).length=l.length:=by simp
 refine zH (fls 0 6 (.e1 6 [4] (.e1 7 [] (fls 8 2 (.e1 10 [] .done))))) ?_;refine aBF ?_;conv=>whnf
 refine And.intro ⟨Nat.one_pos,(show (l.map Tok.row).length+1<=9223372036854775807 by omega),(show ((l.map Tok.row).length+1)*40<=140737488355328 by omega),by decide⟩ ?_;refine xE ?_;refine sqs ?_;have key:l.map Tok.row++qR 4 1 [Value.int .i64 t.kind,.int .i64 pos,.string t.text,.int .i64 t.n]=(l++[{t with pos:=pos}]).map Tok.row:=by
  rw [List.map_append];rfl
 refine aA.subR (nx':=5) (l':=[]) (H':=[(4,.own 158 4 ((l++[{t with pos:=pos}]).map Tok.row)),scB src e 4]) [] ?_ trivial ⟨congrArg (fun r=>some (Fw.Blk.own _ 4 r)) key,by rfl,trivial⟩;exact zI Tryz.func243 (()) (trivial) [(2,4)]
theorem aJK (s:ByteArray) (p:Nat->Bool) (i:Nat):i<=gE s p i:=by
 induction h:s.size - i generalizing i with
 |zero=>
  unfold gE;rw [dif_neg (by omega)];omega
 |succ n ih=>
  unfold gE;split
  ·split
   ·exact Nat.le_trans (Nat.le_succ i) (ih (i+1) (by omega))
   omega
  omega
theorem aTI (s:ByteArray) (p:Nat->Bool) (i:Nat) (hi:i<=s.size):gE s p i<=s.size:=by
 induction h:s.size - i generalizing i with
 |zero=>
  unfold gE;rw [dif_neg (by omega)];omega
 |succ n ih=>
  unfold gE;split
  ·split
   ·exact ih (i+1) (by omega) (by omega)
   omega
  omega
def kD (l:List Tok) (b:Nat):Nat×Fw.Blk:=(b,.own 158 4 (l.map Tok.row))
def endO (src:ByteArray) (pos e:Nat) (l:List Tok) (t:Tok) (bad:Prop) [Decidable bad]:eR:=
 if bad then .pan (xW pos) 2 [scB src pos,kD l 1] else .ret (.tup []) 3 [scB src e 2,kD (l++[{t with pos:=pos}]) 2]
def qU (src:ByteArray) (pos:Nat):Nat:=gE src (iF 2 3 95) pos
theorem aTA (src:ByteArray) (hs:src.size<=65536) (pos:Nat) (hp:pos<=src.size) (l:List Tok) (hl:l.length<=65536):FnS Tryz.prog 147 2 [.ptr 0 0] [scB src pos,kD l 1] (fun _:Unit=>True)
  (fun _=>endO src pos (qU src pos) l ⟨1,0,src.extract pos (qU src pos),0⟩ (32<qU src pos - pos)):=by
 obtain ⟨e,he⟩:∃e,e=qU src pos:=⟨_,rfl⟩;have h1:pos<=e:=he▸aJK _ _ _;have h2:e<=src.size:=he▸aTI _ _ _ hp;rw [<-he];obtain ⟨o,ho⟩:∃o,o=endO src pos e l ⟨1,0,src.extract pos e,0⟩ (32<e - pos):=⟨_,rfl⟩;rw [<-ho];unfold endO at ho;refine zS Tryz.func147 Tryz.ntmps147 fun E0 F h w0 cs=>?_;refine zN (bCI src hs pos hp 2 3 95) [0,1] ?_;refine sqs ?_;rw [show gE src (iF 2 3 95) pos=e from he.symm];refine cG ?_;refine ⟨fun hb=>?_,fun hb=>?_⟩<;>conv=>whnf
 ·rw [if_pos (by omega)] at ho;subst ho;conv=>whnf
  refine zN (yX src pos) [0,1] ?_;exact zV Tryz.func147 (()) (trivial)
 rw [if_neg (by omega)] at ho;subst ho;conv=>whnf
 refine zH (fls 0 13 (.e1 13 [] .done)) ?_;refine aBF ?_;conv=>whnf
 refine zK (aRT src pos l hl ⟨1,0,src.extract pos e,0⟩ e) [0,1] ?_;refine sqr ?_;refine sqs ?_;exact zI Tryz.func147 (()) (trivial) [(2,2)]

def uL (s:ByteArray) (e i acc:Nat):Option Nat:=
 if i<e then (if 10*acc+(aY s i - 48)<=1099511627776 then uL s e (i+1) (10*acc+(aY s i - 48)) else none) else some acc
termination_by e - i
def aAL (src:ByteArray) (pos:Nat):Nat:=gE src (iF 3 3 48) pos
def numO (src:ByteArray) (pos e:Nat) (l:List Tok):eR:=
 if 1<e - pos/\aY src pos=48 then .pan (xW pos) 2 [scB src pos,kD l 1] else
 match uL src e pos 0 with
 |none=>.pan (xW pos) 2 [scB src pos,kD l 1]
 |some n=>.ret (.tup []) 3 [scB src e 2,kD (l++[⟨2,pos,⟨#[]⟩,n⟩]) 2]
theorem runE_in (s:ByteArray) (p:Nat->Bool) (i:Nat):∀j,i<=j->j<gE s p i->p (aY s j)=true:=by
 induction h:s.size - i generalizing i with
 |zero=>
  intro j h1 h2;unfold gE at h2;rw [dif_neg (by omega)] at h2;omega
 |succ n ih=>
  intro j h1 h2;unfold gE at h2;rw [dif_pos (by omega)] at h2;split at h2
  ·rename_i hp
   by_cases hj:j=i
   ·rw [hj];exact hp
   exact ih (i+1) (by omega) j (by omega) h2
  omega
theorem bAH {c:Nat} (h:iF 3 3 48 c=true):48<=c/\c<=57:=by
 simp only [iF,Bool.or_eq_true,decide_eq_true_eq] at h;have:cls c=3\/c=48:=by omega
 rcases this with h|h
 ·unfold cls at h;split at h
  ·omega
  split at h
  ·omega
  split at h
  ·omega
  split at h<;>omega
 omega
theorem aJD (src:ByteArray) (hs:src.size<=65536) (pos:Nat) (hp:pos<=src.size) (hd:pos<aAL src pos) (l:List Tok) (hl:l.length<=65536):FnS Tryz.prog 148 2 [.ptr 0 0] [scB src pos,kD l 1] (fun _:Unit=>True)
  (fun _=>numO src pos (aAL src pos) l):=by
 have hdig:=runE_in src (iF 3 3 48) pos;obtain ⟨e,he⟩:∃e,e=aAL src pos:=⟨_,rfl⟩;have h1:pos<=e:=he▸aJK _ _ _;have h2:e<=src.size:=he▸aTI _ _ _ hp;rw [show gE src (iF 3 3 48) pos=e from he.symm] at hdig;rw [<-he] at hd ⊢;obtain ⟨o,ho⟩:∃o,o=numO src pos e l:=⟨_,rfl⟩;rw [<-ho];unfold numO at ho;refine zS Tryz.func148 Tryz.ntmps148 fun E0 F h w0 cs=>?_;refine zN (bCI src hs pos hp 3 3 48) [0,1] ?_;refine sqs ?_;rw [show gE src (iF 3 3 48) pos=e from he.symm];conv=>whnf
 have jT:1<e - pos->((decide (((aY src ((pos:Int)).toNat:Nat):Int)=48))=true↔(1<e - pos/\aY src pos=48)):=fun hq=>by
  rw [decide_eq_true_iff,show ((pos:Int)).toNat=pos from rfl];omega
 have jF:¬1<e - pos->(false=true↔(1<e - pos/\aY src pos=48)):=fun hq=>⟨fun h=>(by cases h),fun h=>absurd h.1 hq⟩;have hdp:=bAH (hdig pos (Nat.le_refl _) hd);refine aA.join (fun (b:Bool)=>[(25,.v (.bool b)),(2,nV e),(0,.ptr 0 0)]) (fun (b:Bool)=>[scB src pos,kD l 1]) 2 (fun (b:Bool)=>(b=true↔(1<e - pos/\aY src pos=48))) ?_ (fun meet=>?_);rotate_left
 ·refine zH (fls 0 19 .done) ?_;refine aBF ?_;conv=>whnf
  refine ⟨fun ha=>?_,fun ha=>?_⟩<;>conv=>whnf
  ·try refine gR ?_
   refine xE ?_;refine sqs ?_;exact zb (meet (decide (((aY src ((pos:Int)).toNat:Nat):Int)=48)) ((jT (by omega))))
  refine sqr ?_;refine sqs ?_;exact zb (meet (false) ((jF (by omega))))
 intro b hb;cases b
 ·have hb:¬(1<e - pos/\aY src pos=48):=fun hq=>by have:=hb.2 hq;cases this
  rw [if_neg hb] at ho;refine sqs ?_;refine zL (fun (⟨i,a⟩:Nat×Nat)=>[(4,nV i),(3,nV a),(2,nV e),(0,.ptr 0 0)]) (fun ⟨i,a⟩=>[scB src pos,kD l 1]) 2 (fun ⟨i,a⟩=>(pos<=i/\i<=e/\a<=1099511627776)/\uL src e pos 0=uL src e i a) (fun ⟨i,a⟩=>e - i) ((pos,0)) (⟨by omega,rfl⟩) ?_;rintro ⟨i,a⟩ hJ back;try dsimp only at hJ back
  conv=>whnf
  try dsimp only
  refine gS ?_;conv=>whnf
  refine ⟨fun hk=>?_,fun hk=>?_⟩<;>conv=>whnf
  ·have hdi:=bAH (hdig i (by omega) (by omega));obtain ⟨c,hc⟩:∃c,c=aY src ((i:Int)).toNat:=⟨_,rfl⟩;have hc':aY src i=c:=hc.symm;rw [hc'] at hdi;have hm:10*(a:Int)+((c:Int) - 48)%256=((10*a+(c - 48):Nat):Int):=by omega
   refine cG ?_;rw [<-hc];conv=>whnf
   rw [hm];refine ⟨fun hx=>?_,fun hx=>?_⟩<;>conv=>whnf
   ·conv=>whnf
    have hn:uL src e pos 0=none:=by
     rw [hJ.2];unfold uL;rw [if_pos (by omega),hc',if_neg (by omega)]
    rw [hn] at ho;subst ho;refine zN (yX src pos) [0,1] ?_;exact zV Tryz.func148 (()) (trivial)
   refine cG ?_;have hn:uL src e pos 0=uL src e (i+1) (10*a+(c - 48)):=by
    rw [hJ.2];conv=>lhs;unfold uL
    rw [if_pos (by omega),hc',if_pos (by omega)]
   exact zb (back ((i+1,10*a+(c - 48))) ((⟨by omega,hn⟩)) (by (try dsimp only);omega))
  have hn:uL src e pos 0=some a:=by
   rw [hJ.2];unfold uL;rw [if_neg (by omega)]
  rw [hn] at ho;subst ho;conv=>whnf
  refine zN (aRT src pos l hl ⟨2,0,⟨#[]⟩,a⟩ e) [0,1] ?_;refine sqs ?_;exact zI Tryz.func148 (()) (trivial) [(2,2)]
 rw [if_pos (hb.1 rfl)] at ho;subst ho;refine sqs ?_;refine zN (yX src pos) [0,1] ?_;exact zV Tryz.func148 (()) (trivial)
theorem aGA {h:Array Obj} (s p:ByteArray):FV 286 #[.string s,.string p] h (.bool (decide (p.size<=s.size/\s.extract 0 p.size=p))):=by
 refine zO Tryz.func286 Tryz.ntmps286 (args:=[.string s,.string p]) fun w0 cs=>?_;refine ⟨fun hl=>?_,fun hl=>?_⟩<;>conv=>whnf
 ·refine cG ?_;refine zW Tryz.func286 fun Ez=>?_;refine congrArg Value.bool (decide_eq_decide.2 ?_);exact ⟨fun e=>⟨by omega,e⟩,fun e=>e.2⟩
 conv=>whnf
 refine zW Tryz.func286 fun Ez=>?_;exact congrArg Value.bool (decide_eq_false (fun e=>hl (by omega))).symm
theorem aAT {h:Array Obj} (s p:ByteArray):FV 244 #[.string s,.string p] h (.bool (decide (p.size<=s.size/\s.extract 0 p.size=p))):=by
 refine zO Tryz.func244 Tryz.ntmps244 (args:=[.string s,.string p]) fun w0 cs=>?_;refine zc (fun _ _=>aGA s p) ?_;refine sqv ?_;exact zR Tryz.func244
def oZ (c:Nat):Bool:=!(c==10)
abbrev comm (src:ByteArray) (pos:Nat):Prop:=(⟨#[47,47]⟩:ByteArray).size<=(src.extract pos src.size).size/\(src.extract pos src.size).extract 0 (⟨#[47,47]⟩:ByteArray).size=⟨#[47,47]⟩
def aPK (src:ByteArray) (pos:Nat) (l:List Tok):eR:=
 if comm src pos then .ret (.tup []) 2 [scB src (gE src oZ pos),kD l 1]
 else .ret (.tup []) 3 [scB src (pos+1) 2,kD (l++[⟨3,pos,src.extract pos (pos+1),0⟩]) 2]
theorem sign_fn (src:ByteArray) (hs:src.size<=65536) (pos:Nat) (hp:pos<src.size) (l:List Tok) (hl:l.length<=65536):FnS Tryz.prog 149 2 [.ptr 0 0] [scB src pos,kD l 1] (fun _:Unit=>True)
  (fun _=>aPK src pos l):=by
 obtain ⟨o,ho⟩:∃o,o=aPK src pos l:=⟨_,rfl⟩;rw [<-ho];unfold aPK at ho;refine zS Tryz.func149 Tryz.ntmps149 fun E0 F h w0 cs=>?_;refine zH (fls 0 9 (.e1 9 [] (.fl 10 .done))) ?_;refine aBF ?_;conv=>whnf
 by_cases hq:comm src pos
 rotate_left
 ·rw [if_neg hq] at ho;subst ho;refine zk (fun _ _=>aAT (src.extract pos src.size) ⟨#[47,47]⟩) ?_;conv=>whnf
  rw [decide_eq_false hq];try dsimp only
  refine sqr ?_;refine sqs ?_;refine zH (fls 0 21 (.e1 21 [] .done)) ?_;refine aBF ?_;conv=>whnf
  refine zK (aRT src pos l hl ⟨3,0,src.extract pos (pos+1),0⟩ (pos+1)) [0,1] ?_;refine sqr ?_;refine sqs ?_;exact zI Tryz.func149 (()) (trivial) [(2,2)]
 rw [if_pos hq] at ho;refine zk (fun _ _=>aAT (src.extract pos src.size) ⟨#[47,47]⟩) ?_;conv=>whnf
 rw [decide_eq_true hq];try dsimp only
 refine sqr ?_;refine sqs ?_;refine zL (fun (i:Nat)=>[(0,.ptr 0 0)]) (fun i=>[scB src i,kD l 1]) 2 (fun i=>(pos<=i/\i<=src.size)/\gE src oZ pos=gE src oZ i) (fun i=>src.size - i) (pos) (⟨by omega,rfl⟩) ?_;rintro i hJ back;conv=>whnf
 refine gS ?_;conv=>whnf
 refine zH (fls 0 22 .done) ?_;refine squ ?_;refine ⟨fun hk=>?_,fun hk=>?_⟩<;>conv=>whnf
 ·try refine gR ?_
  refine xE ?_;conv=>whnf
  refine ⟨fun hx=>?_,fun hx=>?_⟩<;>conv=>whnf
  ·try refine gR ?_
   refine sqv ?_;have hx':aY src i=10:=by exact_mod_cast hx
   have hn:gE src oZ pos=i:=by
    rw [hJ.2];unfold gE;rw [dif_pos (by omega),hx'];rfl
   rw [hn] at ho;subst ho;conv=>whnf
   exact zI Tryz.func149 () trivial
  refine sqr ?_;refine dT ?_;have hx':¬aY src i=10:=fun e=>hx (by exact_mod_cast e);have hn:gE src oZ pos=gE src oZ (i+1):=by
   rw [hJ.2];conv=>lhs;unfold gE
   rw [dif_pos (by omega),if_pos (by simp [oZ,hx'])]
  exact zb (back (i+1) ((⟨by omega,hn⟩)) (by (try dsimp only);omega))
 refine sqr ?_;refine sqs ?_;have hn:gE src oZ pos=i:=by
  rw [hJ.2];unfold gE;rw [dif_neg (by omega)]
 rw [hn] at ho;subst ho;conv=>whnf
 exact zI Tryz.func149 () trivial

theorem aQM {h:Array Obj}:FV 144 #[] h (.agg (SV.gs (fun _=>undef) clsS).toArray):=by
 refine zO Tryz.func144 Tryz.ntmps144 (args:=[]) fun w0 cs=>?_;repeat ((first|refine aA.againU ?_|refine aA.loopU ?_|(refine aA.indexV tab ?_ ?hmx;(case hmx=>decide)));(conv=>whnf);refine gS ?_;(conv=>whnf);repeat ((first|refine And.intro (by decide) ?_|refine And.intro (fun _=>?_) (fun hn=>absurd (by decide) hn)|refine And.intro (fun hp=>absurd hp (by decide)) (fun _=>?_));(conv=>whnf)))
 refine zW Tryz.func144 fun Ez=>?_
 kernel_rfl

theorem aYY:mW Tryz.prog 143 3 [.ptr 0 0,.ptr 1 0,.ptr 2 0] [] .returning (fun _:Unit=>True) (fun _=>⟨.returning,3,[]⟩):=by
 refine mW.of Tryz.func143 (by kernel_rfl) rfl Tryz.ntmps143 rfl fun E0 F h w0 c0 cs=>?_;refine sqs ?_;refine aA.recoverN ?_;refine sqs ?_;refine aA.effV (fun E h=>pG Tryz.underlying20) ?_;refine sqs ?_;refine aA.finU (aB.retD tab Tryz.func143 rfl (zJ.mk () trivial [] trivial rfl rfl rfl))
theorem aEX (x y z:Value) (pos:Int):mW Tryz.prog 143 3 [.ptr 0 0,.ptr 1 0,.ptr 2 0] [(0,.cells 144 [.v x]),(1,.cells 3 [.v y]),(2,.cells 36 [.v z])] (.panicking (xW pos)) (fun _:Unit=>True)
  (fun _=>⟨.panicking [{v:=.iface 198 (.int .i64 pos),recovered:=true}],3,[(0,.cells 144 [.v (.slice none 0 0)]),(1,.cells 3 [nV pos]),(2,.cells 36 [nV 50])]⟩):=by
 refine mW.of Tryz.func143 (by kernel_rfl) rfl Tryz.ntmps143 rfl fun E0 F h w0 c0 cs=>?_;refine sqs ?_;refine aA.recoverP ?_;refine sqs ?_;refine aA.effV (fun E h=>xR Tryz.underlying198 (fun _ e=>by cases e)) ?_;refine sqs ?_;refine aA.finU (aB.retD tab Tryz.func143 rfl (zJ.mk () trivial [] ⟨by rfl,by rfl,by rfl,trivial⟩ rfl rfl rfl))

def jW (src:ByteArray) (pos:Nat) (l:List Tok):Option (Nat×List Tok):=
 let k:=cls (aY src pos)
 if k=0 then none
 else if k=1 then some (pos+1,l)
 else if k=2 then (if 32<qU src pos - pos then none else some (qU src pos,l++[⟨1,pos,src.extract pos (qU src pos),0⟩]))
 else if k=3 then (if 1<aAL src pos - pos/\aY src pos=48 then none else
  match uL src (aAL src pos) pos 0 with
  |none=>none
  |some n=>some (aAL src pos,l++[⟨2,pos,⟨#[]⟩,n⟩]))
 else (if comm src pos then some (gE src oZ pos,l) else some (pos+1,l++[⟨3,pos,src.extract pos (pos+1),0⟩]))
theorem aDQ {s:ByteArray} {p:Nat->Bool} {i:Nat} (hi:i<s.size) (hp:p (aY s i)=true):i<gE s p i:=by
 unfold gE;rw [dif_pos hi,if_pos hp];have:=aJK s p (i+1);omega
theorem qW {src:ByteArray} {pos:Nat} {l:List Tok} (hp:pos<src.size) {p':Nat} {l':List Tok} (h:jW src pos l=some (p',l')):pos<p'/\p'<=src.size/\l'.length<=l.length+1:=by
 have hin:∀ {a b f:Int},cls (aY src pos)=a->iF a b f (aY src pos)=true:=fun h=>by simp [iF,h]
 simp only [jW] at h;split at h
 ·cases h
 split at h
 ·cases h;exact ⟨by omega,by omega,by omega⟩
 split at h
 ·rename_i hk
  split at h
  ·cases h
  cases h;exact ⟨aDQ hp (hin hk),aTI _ _ _ (by omega),by simp⟩
 split at h
 ·rename_i hk
  split at h
  ·cases h
  split at h
  ·cases h
  cases h;exact ⟨aDQ hp (hin hk),aTI _ _ _ (by omega),by simp⟩
 split at h
 ·rename_i hc
  cases h;refine ⟨aDQ hp ?_,aTI _ _ _ (by omega),by omega⟩;by_cases h10:aY src pos=10
  ·rename_i h1 _ _
   exact absurd (by rw [h10];decide) h1
  simp [oZ,h10]
 cases h;exact ⟨by omega,by omega,by simp⟩
def aBH (src:ByteArray) (pos:Nat) (l:List Tok):List Tok ⊕ Nat:=
 if hp:pos<src.size then
  match h:jW src pos l with
  |none=>.inr pos
  |some (p',l')=>aBH src p' l'
 else .inl l
termination_by src.size - pos
decreasing_by
 have:=qW hp h;omega

abbrev Bs:=List UInt8
abbrev bs (s:ByteArray):Bs:=s.data.toList
theorem xU (s:ByteArray):(bs s).length=s.size:=rfl
theorem aSR {s:ByteArray} {i:Nat} (hi:i<s.size):∃c,(bs s).drop i=c::(bs s).drop (i+1)/\c.toNat=aY s i:=by
 refine ⟨(bs s)[i]'hi,List.drop_eq_getElem_cons hi,?_⟩;unfold aY;rw [List.getD_eq_getElem?_getD,List.getElem?_eq_getElem hi];rfl
theorem sN (s:ByteArray) (i j:Nat):bs (s.extract i j)=((bs s).take j).drop i:=by
 simp [bs,List.drop_take]
def sP (p:Nat->Bool):Bs->Nat
 | []=>0
 |c::r=>if p c.toNat then sP p r+1 else 0
theorem yZ (p:Nat->Bool):∀b,sP p b<=b.length
 | []=>Nat.le_refl _
 |c::r=>by
  have:=yZ p r;simp only [sP,List.length_cons];split<;>omega
theorem aER {p:Nat->Bool} {c:UInt8} {r:Bs} (h:p c.toNat=true):0<sP p (c::r):=by simp [sP,h]
theorem aLL (s:ByteArray) (p:Nat->Bool) (i:Nat) (hi:i<=s.size):gE s p i=i+sP p ((bs s).drop i):=by
 induction h:s.size - i generalizing i with
 |zero=>
  unfold gE;rw [dif_neg (by omega),List.drop_eq_nil_of_le (by rw [xU];omega)];rfl
 |succ n ih=>
  obtain ⟨c,h1,h2⟩:=aSR (s:=s) (i:=i) (by omega);unfold gE;rw [dif_pos (by omega),h1,<-h2];simp only [sP];split
  ·rw [ih (i+1) (by omega) (by omega)];omega
  omega
def numL:Bs->Nat->Option Nat
 | [],a=>some a
 |c::r,a=>if 10*a+(c.toNat - 48)<=1099511627776 then numL r (10*a+(c.toNat - 48)) else none
theorem numF_eq (s:ByteArray) (e:Nat) (he:e<=s.size) (i a:Nat):uL s e i a=numL (((bs s).take e).drop i) a:=by
 induction h:e - i generalizing i a with
 |zero=>
  unfold uL;rw [if_neg (by omega),List.drop_eq_nil_of_le (by simp;omega)];rfl
 |succ n ih=>
  unfold uL;have hi:i<((bs s).take e).length:=by rw [List.length_take,xU];omega
  rw [if_pos (by omega),List.drop_eq_getElem_cons hi];simp only [numL];have hb:aY s i=(((bs s).take e)[i]'hi).toNat:=by
   rw [List.getElem_take];unfold aY;rw [List.getD_eq_getElem?_getD,List.getElem?_eq_getElem (by rw [List.length_take,xU] at hi;rw [show s.data.toList.length=s.size from rfl];omega)];rfl
  rw [hb];split
  ·exact ih (i+1) _ (by omega)
  rfl
inductive Tk where
 |name (b:Bs)
 |num (n:Nat)
 |sign (c:UInt8)
def Tk.tok (p:Nat):Tk->Tok
 | .name b=>⟨1,p,⟨b.toArray⟩,0⟩
 | .num n=>⟨2,p,⟨#[]⟩,n⟩
 | .sign c=>⟨3,p,⟨#[c]⟩,0⟩
def nmC:Nat->Bool:=iF 2 3 95
def dgC:Nat->Bool:=iF 3 3 48
def aCR:Bs->Option (Option Tk×Nat)
 | []=>none
 |c::r=>
  if cls c.toNat=0 then none
  else if cls c.toNat=1 then some (none,1)
  else if cls c.toNat=2 then (if 32<sP nmC (c::r) then none else some (some (.name ((c::r).take (sP nmC (c::r)))),sP nmC (c::r)))
  else if cls c.toNat=3 then (if 1<sP dgC (c::r)/\c.toNat=48 then none else
   match numL ((c::r).take (sP dgC (c::r))) 0 with
   |none=>none
   |some n=>some (some (.num n),sP dgC (c::r)))
  else if c=47/\r.head? = some 47 then some (none,sP oZ (c::r))
  else some (some (.sign c),1)
theorem aMY {b:Bs} {t:Option Tk} {k:Nat} (h:aCR b=some (t,k)):0<k/\k<=b.length:=by
 cases b with
 |nil=>cases h
 |cons c r=>
  have hin:∀ {a b f:Int},cls c.toNat=a->iF a b f c.toNat=true:=fun h=>by simp [iF,h]
  simp only [aCR] at h;repeat' (split at h)
  all_goals first|(cases h;done)|skip
  all_goals cases h
  ·simp
  ·exact ⟨aER (hin (by assumption)),yZ _ _⟩
  ·exact ⟨aER (hin (by assumption)),yZ _ _⟩
  ·rename_i hc
   exact ⟨aER (by rw [hc.1];decide),yZ _ _⟩
  simp
def zZ (p:Nat) (t:Option Tk) (l:List (Nat×Tk)):List (Nat×Tk):=match t with
 |none=>l
 |some t=>(p,t)::l
def lexN:Nat->Bs->Nat->List (Nat×Tk) ⊕ Nat
 |0,_,_=>.inl []
 |_+1,[],_=>.inl []
 |f+1,c::r,p=>match aCR (c::r) with
  |none=>.inr p
  |some (t,k)=>match lexN f ((c::r).drop k) (p+k) with
   | .inr q=>.inr q
   | .inl l=>.inl (zZ p t l)
def aHL (b:Bs) (p:Nat):List (Nat×Tk) ⊕ Nat:=lexN b.length b p
theorem aVU:∀(f:Nat) (b:Bs) (p:Nat),b.length<=f->lexN f b p=lexN b.length b p:=by
 intro f
 induction f using Nat.strongRecOn with
 |_ f ih=>
  intro b p hf
  cases b with
  |nil=>cases f<;>rfl
  |cons c r=>
   cases f with
   |zero=>simp at hf
   |succ f=>
    simp only [lexN,List.length_cons] at hf ⊢;split
    ·rfl
    rename_i t k hk
    have:=aMY hk;simp only [List.length_cons] at this;rw [ih f (by omega) _ _ (by simp;omega),ih r.length (by omega) _ _ (by simp;omega)]
theorem aYQ (p:Nat):aHL [] p=.inl []:=rfl
theorem aWR {b:Bs} (hb:b ≠ []) (p:Nat):aHL b p=match aCR b with
  |none=>.inr p
  |some (t,k)=>match aHL (b.drop k) (p+k) with
   | .inr q=>.inr q
   | .inl l=>.inl (zZ p t l):=by
 cases b with
 |nil=>exact absurd rfl hb
 |cons c r=>
  unfold aHL;simp only [List.length_cons,lexN];split
  ·rfl
  rename_i t k hk
  have:=aMY hk;simp only [List.length_cons] at this;rw [aVU r.length _ _ (by simp;omega)]
theorem vG (s:ByteArray):(⟨(bs s).toArray⟩:ByteArray)=s:=by cases s;rfl
theorem bBH (src:ByteArray) (pos:Nat) (hp:pos<src.size) (l:List Tok):jW src pos l=match aCR ((bs src).drop pos) with
  |none=>none
  |some (t,k)=>some (pos+k,l++(zZ pos t []).map fun q=>q.2.tok q.1):=by
 obtain ⟨c,h1,h2⟩:=aSR hp;have hn:qU src pos=pos+sP nmC ((bs src).drop pos):=aLL _ _ _ (by omega);have hd:aAL src pos=pos+sP dgC ((bs src).drop pos):=aLL _ _ _ (by omega);have hl:gE src oZ pos=pos+sP oZ ((bs src).drop pos):=aLL _ _ _ (by omega);have hx:∀k,src.extract pos (pos+k)=⟨(((bs src).drop pos).take k).toArray⟩:=fun k=>by
  rw [<-vG (src.extract pos (pos+k)),sN,List.take_drop,Nat.add_comm]
 have hdl:sP dgC ((bs src).drop pos)<=src.size - pos:=by
  have:=yZ dgC ((bs src).drop pos)
  rwa [List.length_drop,xU] at this
 have hf:uL src (aAL src pos) pos 0=numL (((bs src).drop pos).take (sP dgC ((bs src).drop pos))) 0:=by
  rw [hd,numF_eq _ _ (by omega),List.take_drop,Nat.add_comm]
 have hcm:comm src pos↔(c=47/\((bs src).drop (pos+1)).head? = some 47):=by
  have e0:src.extract pos src.size=⟨((bs src).drop pos).toArray⟩:=by
   rw [<-vG (src.extract pos src.size),sN,List.take_of_length_le (by rw [xU];exact Nat.le_refl _)]
  unfold comm;rw [e0,h1]
  cases hr:(bs src).drop (pos+1) with
  |nil=>
   constructor
   ·intro h;have:=h.1
    simp [ByteArray.size] at this
   rintro ⟨_,h⟩
   simp at h
  |cons d r=>
   constructor
   ·rintro ⟨_,h⟩;have h:=congrArg bs h;rw [sN] at h
    simp [ByteArray.size,bs] at h
    simp [h.1,h.2]
   rintro ⟨rfl,h⟩
   simp at h
   subst h;refine ⟨by simp [ByteArray.size],?_⟩;rw [<-vG (ByteArray.extract _ _ _),sN]
   simp [ByteArray.size,bs]
 rw [hd] at hf;simp only [jW,hn,hd,hl,hf,hcm,<-h2,Nat.add_sub_cancel_left,hx];rw [h1];simp only [aCR];split
 ·rfl
 split
 ·simp [zZ]
 split
 ·split
  ·rfl
  simp [zZ,Tk.tok]
 split
 ·split
  ·rfl
  split<;>simp_all [zZ,Tk.tok]
 split
 ·simp [zZ]
 simp [zZ,Tk.tok]
def uD (l:List (Nat×Tk)):List Tok:=l.map fun q=>q.2.tok q.1
theorem lexG_eq (src:ByteArray) (pos:Nat) (hp:pos<=src.size) (l:List Tok):aBH src pos l=match aHL ((bs src).drop pos) pos with
  | .inl l'=>.inl (l++uD l')
  | .inr q=>.inr q:=by
 induction h:src.size - pos using Nat.strongRecOn generalizing pos l with
 |_ n ih=>
  unfold aBH;split
  ·rename_i hlt
   have hs:=bBH src pos hlt l;have hne:(bs src).drop pos ≠ []:=fun e=>by
    have:=congrArg List.length e;rw [List.length_drop,xU] at this
    simp at this
    omega
   rw [aWR hne];split
   ·rename_i h0
    rw [h0] at hs
    cases hss:aCR ((bs src).drop pos) with
    |none=>rfl
    |some q=>rw [hss] at hs;cases hs
   rename_i p' l' h0
   have hok:=qW hlt h0;rw [h0] at hs
   cases hss:aCR ((bs src).drop pos) with
   |none=>rw [hss] at hs;cases hs
   |some q=>
    obtain ⟨t,k⟩:=q;rw [hss] at hs;simp only [Option.some.injEq,Prod.mk.injEq] at hs;obtain ⟨rfl,rfl⟩:=hs;rw [ih _ (by omega) (pos+k) (by omega) _ rfl];dsimp only;rw [List.drop_drop]
    cases aHL ((bs src).drop (pos+k)) (pos+k) with
    |inr q=>rfl
    |inl l'=>cases t<;>simp [zZ,uD]
  rw [List.drop_eq_nil_of_le (by rw [xU];omega)]
  simp [aYQ,uD]

def lexA (src:ByteArray):List Tok ⊕ Nat:=aBH src 0 []
def lexO (src:ByteArray):eR:=match lexA src with
 | .inl l=>.ret (.tup [.buf 0,nV 0,nV 0]) 1 [kD l 0]
 | .inr p=>.ret (.tup [.v (.slice none 0 0),nV p,nV 50]) 0 []
theorem aBL {src:ByteArray} {pos:Nat} {l:List Tok} (hp:pos<src.size) (h:jW src pos l=none):aBH src pos l=.inr pos:=by
 unfold aBH;rw [dif_pos hp];split
 ·rfl
 rename_i h'
 rw [h] at h';cases h'
theorem rU {src:ByteArray} {pos:Nat} {l:List Tok} (hp:pos<src.size) {p':Nat} {l':List Tok} (h:jW src pos l=some (p',l')):aBH src pos l=aBH src p' l':=by
 conv=>lhs;unfold aBH
 rw [dif_pos hp];split
 ·rename_i h'
  rw [h] at h';cases h'
 rename_i h'
 rw [h] at h';cases h';rfl
theorem aJE (src:ByteArray) (pos:Nat) (l:List Tok) (hq:cls (aY src pos)=3):numO src pos (aAL src pos) l=match jW src pos l with
  |none=>.pan (xW pos) 2 [scB src pos,kD l 1]
  |some (p',l')=>.ret (.tup []) 3 [scB src p' 2,kD l' 2]:=by
 simp only [numO,jW,hq];by_cases hb:1<aAL src pos - pos/\aY src pos=48
 ·simp [hb]
 rw [if_neg hb]
 cases hz:uL src (aAL src pos) pos 0 with
 |none=>simp [hb]
 |some n=>simp [hb]
theorem aYA (c:Nat):cls c=0\/cls c=1\/cls c=2\/cls c=3\/cls c=4:=by
 unfold cls;repeat' split
 all_goals simp
abbrev scB3 (src:ByteArray) (pos:Int) (b:Nat):Nat×Fw.Blk:=(3,.cells 206 (scn src pos (.buf b)))
theorem lex_fn (src:ByteArray) (hs:src.size<=65536):FnS Tryz.prog 88 0 [.v (.string src)] [] (fun _:Unit=>True) (fun _=>lexO src):=by
 obtain ⟨o,ho⟩:∃o,o=lexO src:=⟨_,rfl⟩;rw [<-ho];unfold lexO lexA at ho;refine zS Tryz.func88 Tryz.ntmps88 fun E0 F h w0 cs=>?_;refine sqC ?_;refine aA.deferU ?_;refine sqs ?_;refine zc (fun _ _=>aQM) ?_;refine sqv ?_;refine zQ 4 [(5,.ptr 3 0),(4,.ptr 2 0),(3,.ptr 1 0),(2,.ptr 0 0),(0,.v (.string src))] [(3,.cells 206 (scn src 0 (.v (.slice none 0 0)))),(2,.cells 36 [nV 0]),(1,.cells 3 [nV 0]),(0,.cells 144 [.v (.slice none 0 0)])] ?_;refine aA.nilOwn (l':=[(5,.ptr 3 0),(4,.ptr 2 0),(3,.ptr 1 0),(2,.ptr 0 0),(0,.v (.string src))]) (H':=[(3,.cells 206 (scn src 0 (.buf 4))),(2,.cells 36 [nV 0]),(1,.cells 3 [nV 0]),(0,.cells 144 [.v (.slice none 0 0)])]) 158 4 ?_ (by rfl) (by rfl) (by rfl);refine zL (fun (⟨pos,l⟩:Nat×List Tok)=>[(5,.ptr 3 0),(4,.ptr 2 0),(3,.ptr 1 0),(2,.ptr 0 0),(0,.v (.string src))]) (fun ⟨pos,l⟩=>[scB3 src pos 4,kD l 4,(2,.cells 36 [nV 0]),(1,.cells 3 [nV 0]),(0,.cells 144 [.v (.slice none 0 0)])]) 5 (fun ⟨pos,l⟩=>(pos<=src.size/\l.length<=pos)/\aBH src 0 []=aBH src pos l) (fun ⟨pos,l⟩=>src.size - pos) ((0,[])) (⟨by exact ⟨Nat.zero_le _,Nat.zero_le _⟩,rfl⟩) ?_;rintro ⟨pos,l⟩ hJ back;try dsimp only at hJ back
 conv=>whnf
 try dsimp only
 refine gS ?_;conv=>whnf
 refine ⟨fun hk=>?_,fun hk=>?_⟩<;>conv=>whnf
 ·obtain ⟨c,hc⟩:∃c,c=aY src ((pos:Int)).toNat:=⟨_,rfl⟩;have hb:c<256:=by rw [hc];exact oE src pos
  conv=>whnf
  refine zH (fls 0 17 (.e1 17 [] .done)) ?_;refine aBF ?_;conv=>whnf
  rw [<-hc];conv=>whnf
  have hcc:c=aY src pos:=hc;rw [ldR_at (aLT hb) (by rfl) (by rfl) (by rfl)];have hP:pos<src.size:=by omega
  rcases aYA c with hq|hq|hq|hq|hq<;>rw [hq]
  ·have hs0:jW src pos l=none:=by simp only [jW,<-hcc,hq,if_true]
   rw [hJ.2,aBL hP hs0] at ho;subst ho;refine xE ?_;conv=>whnf
   refine aK.callN (yX src pos) [3,4] ?_ sH ?CNa2;case CNa2=>rfl
   intro _ _;conv=>whnf
   refine aB.deferN (aEX _ _ _ pos) [0,1,2] ?_ ⟨by rfl,by rfl,by rfl,trivial⟩ rfl (fun e=>by cases e);intro _ _
   (conv=>whnf)
   refine aB.ret tab Tryz.func88 rfl (aT.mk () trivial [] (by exact trivial) rfl rfl (bH rfl rfl))
  ·have hs0:jW src pos l=some (pos+1,l):=by simp [jW,<-hcc,hq]
   refine xE ?_;conv=>whnf
   refine zK (pass_fn src pos ⟨by omega,by omega⟩) [3,4] ?_;refine sqr ?_;refine sqs ?_;exact zb (back ((pos+1,l)) ((⟨by dsimp only;omega,hJ.2.trans (rU hP hs0)⟩)) (by (try dsimp only);omega))
  ·by_cases hbad:32<qU src pos - pos
   ·have C:=aTA src hs pos (by omega) l (by omega);simp only [endO,if_pos hbad] at C;have hs0:jW src pos l=none:=by simp [jW,<-hcc,hq,hbad]
    rw [hJ.2,aBL hP hs0] at ho;subst ho;refine xE ?_;conv=>whnf
    refine aK.callN (C) [3,4] ?_ sH ?CNa5;case CNa5=>rfl
    intro _ _;conv=>whnf
    refine aB.deferN (aEX _ _ _ pos) [0,1,2] ?_ ⟨by rfl,by rfl,by rfl,trivial⟩ rfl (fun e=>by cases e);intro _ _
    (conv=>whnf)
    refine aB.ret tab Tryz.func88 rfl (aT.mk () trivial [] (by exact trivial) rfl rfl (bH rfl rfl))
   have C:=aTA src hs pos (by omega) l (by omega);simp only [endO,if_neg hbad] at C;have hs0:jW src pos l=some (qU src pos,l++[⟨1,pos,src.extract pos (qU src pos),0⟩]):=by simp [jW,<-hcc,hq,hbad]
   have hok:=qW hP hs0;refine xE ?_;conv=>whnf
   refine zK (C) [3,4] ?_;refine sqr ?_;refine sqs ?_;exact zb (back ((qU src pos,l++[⟨1,pos,src.extract pos (qU src pos),0⟩])) ((⟨by dsimp only;omega,hJ.2.trans (rU hP hs0)⟩)) (by (try dsimp only);omega)) [(4,5)]
  ·have hd:pos<aAL src pos:=aDQ hP (by rw [<-hcc];simp [iF,hq])
   cases hs0:jW src pos l with
   |none=>
    have C:=aJD src hs pos (by omega) hd l (by omega);have hO:numO src pos (aAL src pos) l=.pan (xW pos) 2 [scB src pos,kD l 1]:=by
     have:=aJE src pos l (by rw [<-hcc];exact hq);rw [hs0] at this;exact this
    simp only [hO] at C;rw [hJ.2,aBL hP hs0] at ho;subst ho;refine xE ?_;conv=>whnf
    refine aK.callN (C) [3,4] ?_ sH ?CNa8;case CNa8=>rfl
    intro _ _;conv=>whnf
    refine aB.deferN (aEX _ _ _ pos) [0,1,2] ?_ ⟨by rfl,by rfl,by rfl,trivial⟩ rfl (fun e=>by cases e);intro _ _
    (conv=>whnf)
    refine aB.ret tab Tryz.func88 rfl (aT.mk () trivial [] (by exact trivial) rfl rfl (bH rfl rfl))
   |some q=>
    obtain ⟨p',l'⟩:=q;have hok:=qW hP hs0;have C:=aJD src hs pos (by omega) hd l (by omega);have hO:numO src pos (aAL src pos) l=.ret (.tup []) 3 [scB src p' 2,kD l' 2]:=by
     have:=aJE src pos l (by rw [<-hcc];exact hq);rw [hs0] at this;exact this
    simp only [hO] at C;refine xE ?_;conv=>whnf
    refine zK (C) [3,4] ?_;refine sqr ?_;refine sqs ?_;exact zb (back ((p',l')) ((⟨by dsimp only;omega,hJ.2.trans (rU hP hs0)⟩)) (by (try dsimp only);omega)) [(4,5)]
  have C:=sign_fn src hs pos hP l (by omega);by_cases hcm:comm src pos
  ·simp only [aPK,if_pos hcm] at C;have hs0:jW src pos l=some (gE src oZ pos,l):=by simp only [jW,<-hcc,hq,if_pos hcm];rfl
   have hok:=qW hP hs0;refine xE ?_;conv=>whnf
   refine zK (C) [3,4] ?_;refine sqr ?_;refine sqs ?_;exact zb (back ((gE src oZ pos,l)) ((⟨by dsimp only;omega,hJ.2.trans (rU hP hs0)⟩)) (by (try dsimp only);omega))
  simp only [aPK,if_neg hcm] at C;have hs0:jW src pos l=some (pos+1,l++[⟨3,pos,src.extract pos (pos+1),0⟩]):=by simp only [jW,<-hcc,hq,if_neg hcm];rfl
  have hok:=qW hP hs0;refine xE ?_;conv=>whnf
  refine zK (C) [3,4] ?_;refine sqr ?_;refine sqs ?_;exact zb (back ((pos+1,l++[⟨3,pos,src.extract pos (pos+1),0⟩])) ((⟨by dsimp only;omega,hJ.2.trans (rU hP hs0)⟩)) (by (try dsimp only);omega)) [(4,5)]
 conv=>whnf
 have hend:aBH src pos l=.inl l:=by
  unfold aBH;rw [dif_neg (by omega)]
 rw [hJ.2,hend] at ho;subst ho;refine aA.retU ?_;refine aB.deferN aYY [0,1,2] ?_ trivial rfl (fun e=>by cases e);intro _ _;conv=>whnf
 refine aB.ret tab Tryz.func88 rfl (aT.mk () trivial [(0,4)] (by exact ⟨by rfl,trivial⟩) rfl rfl (bH rfl rfl))
end Go.Proofs.YthjedpdedjhndaaGreatDoor

namespace Go.SrcM
open Go Go.Fw Go.RatM
def cZ (l:List ByteArray) (nm:ByteArray):Option Nat:=l.findIdx? fun x=>decide (x=nm)
theorem pD {l:List ByteArray} {nm:ByteArray}:cZ l nm=none↔nm∉l:=by
 unfold cZ;rw [List.findIdx?_eq_none_iff];exact ⟨fun h hm=>by simpa using h nm hm,fun h x hx=>by simp only [decide_eq_false_iff_not];exact fun e=>h (e▸hx)⟩
theorem aGF {l:List ByteArray} {nm:ByteArray} {k:Nat}:cZ l nm=some k ↔ ∃hk:k<l.length,l[k]=nm /\ ∀j (hj:j<k),l[j]≠nm:=by
 unfold cZ;rw [List.findIdx?_eq_some_iff_getElem]
 constructor
 ·rintro ⟨hk,h1,h2⟩;exact ⟨hk,by simpa using h1,fun j hj=>by simpa using h2 j hj⟩
 rintro ⟨hk,h1,h2⟩;exact ⟨hk,by simpa using h1,fun j hj=>by simpa using h2 j hj⟩
theorem aRK {l:List ByteArray} {x nm:ByteArray}:cZ (l++[x]) nm=match cZ l nm with
  |some k=>some k
  |none=>if x=nm then some l.length else none:=by
 unfold cZ;rw [List.findIdx?_append]
 cases List.findIdx? (fun x=>decide (x=nm)) l with
 |some k=>rfl
 |none=>
  by_cases e:x=nm
  ·simp [e]
  simp [e]
theorem rP {α:Type} {l:List α} {k:Nat} (hk:k<l.length):l.take (k+1)=l.take k++[l[k]]:=by
 rw [List.take_add_one,List.getElem?_eq_getElem hk];rfl
def fH (l:List ByteArray):Nat->List (Value×Value)
 |0=>[]
 |k+1=>match l[k]? with
  |some x=>match cZ (l.take k) x with
   |some _=>fH l k
   |none=>fH l k++[(.string x,.int .i64 k)]
  |none=>fH l k
def eZ (l:List ByteArray):List (Value×Value):=fH l l.length
theorem kR {l:List ByteArray} {k:Nat} (hk:k<l.length) (h:l[k]∈l.take k):fH l (k+1)=fH l k:=by
 simp only [fH,List.getElem?_eq_getElem hk]
 cases hf:cZ (l.take k) l[k] with
 |some j=>rfl
 |none=>exact absurd h (pD.1 hf)
theorem kY {l:List ByteArray} {k:Nat} (hk:k<l.length) (h:l[k]∉l.take k):fH l k++[(.string l[k],.int .i64 k)]=fH l (k+1):=by
 simp only [fH,List.getElem?_eq_getElem hk,pD.2 h]
abbrev intO (o:Option Nat):Option Value:=o.map fun (k:Nat)=>Value.int .i64 (k:Int)
theorem sB {l:List ByteArray} (nm:ByteArray):∀ {k:Nat},k<=l.length->eW (fH l k) (.string nm) (intO (cZ (l.take k) nm))
 |0,_=>fun p hp=>by cases hp
 |k+1,hk=>by
  have ih:=sB (l:=l) nm (k:=k) (by omega);have hk:k<l.length:=hk;rw [rP hk,aRK];by_cases hm:l[k]∈l.take k
  ·rw [kR hk hm]
   cases hf:cZ (l.take k) nm with
   |some j=>rw [hf] at ih;exact ih
   |none=>
    rw [hf] at ih;dsimp only;have hne:l[k]≠nm:=fun e=>pD.1 hf (by rw [<-e];exact hm);rw [if_neg hne];exact ih
  rw [<-kY hk hm]
  cases hf:cZ (l.take k) nm with
  |some j=>
   rw [hf] at ih;have hne:l[k]≠nm:=fun e=>by
    have:=aGF.1 hf;obtain ⟨hj,h1,_⟩:=this;exact hm (by rw [e,<-h1];exact List.getElem_mem _)
   refine ⟨?_,fun p hp h1=>?_⟩
   ·obtain ⟨p,hp,h1⟩:=ih.1;exact ⟨p,List.mem_append.2 (.inl hp),h1⟩
   rcases List.mem_append.1 hp with hp|hp
   ·exact ih.2 p hp h1
   rw [List.mem_singleton.1 hp] at h1;injection h1 with h1
   exact absurd h1 hne
  |none=>
   rw [hf] at ih;dsimp only;by_cases e:l[k]=nm
   ·rw [if_pos e];refine ⟨⟨_,List.mem_append.2 (.inr (List.mem_singleton.2 rfl)),by rw [e]⟩,fun p hp h1=>?_⟩;rcases List.mem_append.1 hp with hp|hp
    ·exact absurd h1 (ih p hp)
    rw [List.mem_singleton.1 hp];rw [List.length_take,Nat.min_eq_left (by omega)]
   rw [if_neg e];intro p hp h1;rcases List.mem_append.1 hp with hp|hp
   ·exact ih p hp h1
   rw [List.mem_singleton.1 hp] at h1;injection h1 with h1
   exact e h1
theorem aQZ {l:List ByteArray} (nm:ByteArray):eW (eZ l) (.string nm) (intO (cZ l nm)):=by
 have:=sB (l:=l) nm (Nat.le_refl _)
 rwa [List.take_length] at this
theorem oH {l:List ByteArray} {k:Nat} (hk:k<l.length) (h:l[k]∉l.take k):eW (fH l k) (.string l[k]) none:=by
 have:=sB (l:=l) l[k] (Nat.le_of_lt hk)
 rwa [pD.2 h] at this
theorem pC {l:List ByteArray} {k:Nat} (hk:k<l.length) (h:l[k]∈l.take k):∃j:Nat,eW (fH l k) (.string l[k]) (some (.int .i64 j)):=by
 have:=sB (l:=l) l[k] (Nat.le_of_lt hk)
 cases hf:cZ (l.take k) l[k] with
 |some j=>rw [hf] at this;exact ⟨j,this⟩
 |none=>exact absurd h (pD.1 hf)
theorem xV {l:List ByteArray} {k:Nat} (hk:k<l.length):(l.take (k+1)).Nodup↔(l.take k).Nodup/\l[k]∉l.take k:=by
 rw [rP hk,List.nodup_append]
 constructor
 ·exact fun ⟨h1,_,h2⟩=>⟨h1,fun hm=>h2 _ hm _ (List.mem_singleton.2 rfl) rfl⟩
 exact fun ⟨h1,h2⟩=>⟨h1,by simp,fun a ha b hb e=>by rw [List.mem_singleton.1 hb] at e;exact h2 (e▸ha)⟩
def eI (l:List ByteArray):Bool:=decide (¬l.Nodup)
theorem bFW {l:List ByteArray} {k:Nat} (hk:k<l.length) (hm:l[k]∈l.take k):true=eI (l.take (k+1)):=by
 unfold eI;exact (decide_eq_true (show ¬(l.take (k+1)).Nodup from fun h=>((xV hk).1 h).2 hm)).symm
theorem aAE {l:List ByteArray} {k:Nat} (hk:k<l.length) (hm:l[k]∉l.take k):eI (l.take k)=eI (l.take (k+1)):=by
 unfold eI;exact decide_eq_decide.2 (not_congr ⟨fun h=>(xV hk).2 ⟨h,hm⟩,fun h=>((xV hk).1 h).1⟩)
section
variable {α:Type} {f:α->List Value} {g:α->α} {l:List α}
def tT (g:α->α) (l:List α) (k:Nat):List α:=(l.take k).map g++l.drop k
theorem aYJ {k:Nat} (hk:k<=l.length):(rws f (tT g l k)).length=l.length:=by
 unfold tT;rw [aE,List.length_append,List.length_map,List.length_take,List.length_drop];omega
theorem rR {k:Nat} (hk:k<l.length):(rws f (tT g l k))[k]? = some (f l[k]):=by
 unfold tT;rw [rws,List.map_append,List.getElem?_append_right (by simp;omega)]
 simp [hk,Nat.min_eq_left (Nat.le_of_lt hk)]
theorem aXY {k:Nat} (hk:k<l.length) {r:List Value} (hr:r=f (g l[k])):(rws f (tT g l k)).set k r=rws f (tT g l (k+1)):=by
 have e:l.drop k=l[k]::l.drop (k+1):=(List.getElem_cons_drop ..).symm;unfold tT rws;rw [e,rP hk];simp only [List.map_append,List.map_cons,List.map_nil];rw [List.set_append_right _ _ (by simp;omega)]
 simp [Nat.min_eq_left (Nat.le_of_lt hk),hr]
theorem rB:tT g l l.length=l.map g:=by
 unfold tT;rw [List.take_length,List.drop_length,List.append_nil]
end
/-! numbers of names -/
def oI (s:aG) (i:It):Option It:=(cZ (s.units.map Un.name) i.unit).map fun (u:Nat)=>{i with un:=u}
def pH (s:aG) (m:Mc):Option Mc:=(cZ s.plants m.plant).map fun (p:Nat)=>{m with pn:=p}
def jV (s:aG) (c:Cd):Option Cd:=match cZ (s.options.map OpV.name) c.opt with
 |some o=>match s.options[o]? with
  |some q=>(cZ q.ch c.ch).map fun (k:Nat)=>{c with on:=o,cn:=k}
  |none=>none
 |none=>none
def lK (s:aG) (a:Am):Option Am:=match cZ (s.units.map Un.name) a.unit with
 |some u=>(cZ (s.items.map It.name) a.item).map fun (i:Nat)=>{a with un:=u,inn:=i}
 |none=>none
def pQ (s:aG) (r:Rn):Option Rn:=(cZ (s.machines.map Mc.name) r.mach).map fun (m:Nat)=>{r with mn:=m}
def nS (s:aG) (x:Sw):Option Sw:=match cZ (s.items.map It.name) x.a with
 |some a=>(cZ (s.items.map It.name) x.b).map fun (b:Nat)=>{x with an:=a,bn:=b}
 |none=>none
def cH {α β:Type} (f:α->Option β):List α->Option (List β)
 | []=>some []
 |a::l=>match f a with
  |some b=>match cH f l with
   |some m=>some (b::m)
   |none=>none
  |none=>none
theorem rQ {α β:Type} {f:α->Option β}:∀ {l:List α} {m:List β},cH f l=some m↔m.length=l.length /\ ∀i (h:i<l.length) (h':i<m.length),f l[i]=some m[i]
 | [],m=>by
  simp only [cH,Option.some.injEq,List.length_nil]
  constructor
  ·rintro rfl;exact ⟨rfl,fun i h=>absurd h (Nat.not_lt_zero _)⟩
  rintro ⟨h,_⟩;exact (List.eq_nil_of_length_eq_zero h).symm
 |a::l,m=>by
  simp only [cH]
  constructor
  ·intro h
   cases ha:f a with
   |none=>simp [ha] at h
   |some b=>
    cases hl:cH f l with
    |none=>simp [ha,hl] at h
    |some m'=>
     simp only [ha,hl,Option.some.injEq] at h;subst h;obtain ⟨h1,h2⟩:=rQ.1 hl;refine ⟨by simp [h1],fun i h h'=>?_⟩
     cases i with
     |zero=>exact ha
     |succ i=>exact h2 i (by simpa using h) (by simpa using h')
  rintro ⟨h1,h2⟩
  cases m with
  |nil=>simp at h1
  |cons b m=>
   have h0:=h2 0 (by simp) (by simp);simp only [List.getElem_cons_zero] at h0;have hl:cH f l=some m:=rQ.2 ⟨by simpa using h1,fun i h h'=>by have:=h2 (i+1) (by simpa using h) (by simpa using h');simpa using this⟩;rw [h0,hl]
theorem iM {α β:Type} {f:α->Option β}:∀ {l:List α},cH f l=none ↔ ∃a∈l,f a=none
 | []=>by simp [cH]
 |a::l=>by
  simp only [cH]
  cases ha:f a with
  |none=>simp [ha]
  |some b=>
   cases hl:cH f l with
   |none=>
    obtain ⟨x,hx,e⟩:=iM.1 hl;simp only [true_iff];exact ⟨x,List.mem_cons_of_mem _ hx,e⟩
   |some m=>
    simp only [false_iff,reduceCtorEq];rintro ⟨x,hx,e⟩;rcases List.mem_cons.1 hx with rfl|hx
    ·rw [ha] at e;cases e
    have:=iM.2 ⟨x,hx,e⟩;rw [hl] at this;cases this
theorem aVK {α:Type} {f:α->Option α} {l:List α} (h:∀i (hi:i<l.length),f l[i]≠none):cH f l=some (l.map fun a=>(f a).getD a):=by
 refine rQ.2 ⟨List.length_map _,fun i h1 h2=>?_⟩;rw [List.getElem_map]
 cases hf:f l[i] with
 |none=>exact absurd hf (h i h1)
 |some b=>rfl
def nP (s:aG) (r:RcV):Option RcV:=match cZ (s.items.map It.name) r.item with
 |some i=>match cZ s.plants r.plant with
  |some p=>match cH (jV s) r.cs with
   |some cs=>match cH (lK s) r.inn with
    |some inn=>match cH (lK s) r.out with
     |some out=>match cH (pQ s) r.runs with
      |some runs=>some {r with inum:=i,pnum:=p,cs:=cs,inn:=inn,out:=out,runs:=runs}
      |none=>none
     |none=>none
    |none=>none
   |none=>none
  |none=>none
 |none=>none
def pS (s:aG) (f:FbV):Option FbV:=(cH (jV s) f.cs).map fun l=>{f with cs:=l}
def nH (s:aG):Prop:=¬(s.units.map Un.name).Nodup \/ ¬(s.items.map It.name).Nodup \/ ¬s.plants.Nodup \/ ¬(s.machines.map Mc.name).Nodup \/ ¬(s.options.map OpV.name).Nodup \/ ¬ ∀o∈s.options,o.ch.Nodup
instance (s:aG):Decidable (nH s):=by unfold nH;infer_instance
def resS (s:aG):Option aG:=match cH (oI s) s.items with
 |some items=>match cH (pH s) s.machines with
  |some machines=>match cH (pS s) s.forbids with
   |some forbids=>match cH (nP s) s.recipes with
    |some recipes=>(cH (nS s) s.swaps).map fun swaps=>{s with items:=items,machines:=machines,forbids:=forbids,recipes:=recipes,swaps:=swaps}
    |none=>none
   |none=>none
  |none=>none
 |none=>none
def lL:aG:=⟨[],[],[],[],[],[],[],[]⟩
def eL (s:aG):aG×Int:=if nH s then (lL,111) else match dA s.units with
 | .inr e=>(lL,e)
 | .inl u=>match resS s with
  |some t=>({t with units:=u},0)
  |none=>(lL,110)
/-! where lists lie does not matter -/
def OpV.bare (o:OpV):OpV:={o with hd:=⟨none,0⟩}
def FbV.bare (o:FbV):FbV:={o with hd:=⟨none,0⟩}
def RcV.bare (r:RcV):RcV:={r with hc:=⟨none,0⟩,hi:=⟨none,0⟩,ho:=⟨none,0⟩,hr:=⟨none,0⟩}
def aG.bare (s:aG):aG:={s with options:=s.options.map OpV.bare,forbids:=s.forbids.map FbV.bare,recipes:=s.recipes.map RcV.bare}

/-! without numbers -/
def b0U (u:Un):Un:=u.re 0 zr
theorem jB {α β:Type} {f g:α->Option β} (h:∀a,f a=g a) (l:List α):cH f l=cH g l:=by
 rw [show f=g from funext h]
theorem aKR {α β:Type} {f:α->β} {o:Option α} {b:β} (h:o.map f=some b):∃a,o=some a/\f a=b:=Option.map_eq_some_iff.1 h
theorem resU_nz':∀ {l x:List Un} {e:Int},sR l x=.inr e->e≠0
 | [],_,_,h=>by cases h
 |u::l,x,e,h=>by
  simp only [sR] at h;split at h
  ·exact resU_nz' h
  rename_i e' he
  cases h;unfold iP at he;split at he
  ·split at he
   ·cases he
   cases he;decide
  split at he
  ·split at he
   ·split at he
    ·cases he;decide
    cases he
   cases he;decide
  cases he;decide
theorem resolveU_nz' {l:List Un} {e:Int} (h:dA l=.inr e):e≠0:=by
 unfold dA at h;split at h
 ·cases h;decide
 split at h
 ·cases h;decide
 exact resU_nz' h
structure ResOf (s t:aG):Prop where
 tw:¬nH s
 u:dA s.units=.inl t.units
 p:t.plants=s.plants
 o:t.options=s.options
 i:cH (oI s) s.items=some t.items
 m:cH (pH s) s.machines=some t.machines
 f:cH (pS s) s.forbids=some t.forbids
 r:cH (nP s) s.recipes=some t.recipes
 x:cH (nS s) s.swaps=some t.swaps
theorem ResOf.units {s t:aG} (h:ResOf s t):t.units.map b0U=s.units.map b0U:=by
 obtain ⟨_,_,h1,h2⟩:=bGI.1 h.u;refine List.ext_getElem (by rw [List.length_map,List.length_map,h1]) fun i g1 g2=>?_;rw [List.length_map] at g1 g2;rw [List.getElem_map,List.getElem_map];obtain ⟨e1,e2,e3,e4⟩:=aKQ (h2 i g2 g1);unfold b0U Un.re;rw [e1,e2,e3,e4]
end Go.SrcM

namespace Go.Proofs.YthjedpdedjhndaaGreatDoor
open Go Go.Fw Go.NatM Go.RatM Go.SrcM
theorem siU:Tryz.prog.underlying 160=some (.map 9 3):=by kernel_rfl
theorem failU:Tryz.prog.underlying 329=some (.struct #[]):=by kernel_rfl
theorem vY:Tryz.prog.underlying 9=some .string:=by kernel_rfl
theorem aDI (w:World):(zeroValue 3).run Tryz.prog w=.ok (.int .i64 0) w:=by kernel_rfl
theorem aIC {h:Array Obj} (s:ByteArray):FV 179 #[.string s] h (.string s):=by
 refine zO Tryz.func179 Tryz.ntmps179 (args:=[.string s]) fun w0 cs=>?_;exact zR Tryz.func179
theorem aCM {h:Array Obj} (u:Un):FV 175 #[.agg u.row.toArray] h (.string u.name):=by
 refine zO Tryz.func175 Tryz.ntmps175 (args:=[.agg u.row.toArray]) fun w0 cs=>?_;exact zR Tryz.func175
theorem aCS {h:Array Obj} (u:It):FV 177 #[.agg u.row.toArray] h (.string u.name):=by
 refine zO Tryz.func177 Tryz.ntmps177 (args:=[.agg u.row.toArray]) fun w0 cs=>?_;exact zR Tryz.func177
theorem uG {h:Array Obj} (u:Mc):FV 181 #[.agg u.row.toArray] h (.string u.name):=by
 refine zO Tryz.func181 Tryz.ntmps181 (args:=[.agg u.row.toArray]) fun w0 cs=>?_;exact zR Tryz.func181
theorem xM {h:Array Obj} (u:OpV):FV 183 #[.agg u.row.toArray] h (.string u.name):=by
 refine zO Tryz.func183 Tryz.ntmps183 (args:=[.agg u.row.toArray]) fun w0 cs=>?_;exact zR Tryz.func183
theorem aFV (l:List Un):FnX Tryz.prog 174 1 [.buf 0,.v (.func (.func 175) #[] #[])] [(0,.ro 8 (aL l))] (fun _ _=>True) (fun (r:Nat) G h=>nB G h (.map (some r)) .string (eZ (l.map Un.name)))
  (fun r=>.ret (.tup [.v (.map (some r)),.v (.bool (eI (l.map Un.name)))]) 1 []):=by
 have hl:=aZ l;have hn:(l.map Un.name).length=l.length:=List.length_map _;refine zX Tryz.func174 Tryz.ntmps174 fun E0 F G h N hP w0 cs=>?_;refine aA.lenB 0 (fun m0=>?_);refine aA.makeMap .string ?_;refine sqs ?_;refine zL (fun (⟨k,b⟩:Nat×Bool)=>[(13,nV k),(12,nV ((aL l).length)),(11,.buf 0),(4,.buf 1),(5,.v (.bool b)),(1,.v (.func (.func 175) #[] #[]))]) (fun ⟨k,b⟩=>[(1,.map .string (fH (l.map Un.name) k)),(0,.ro 8 (aL l))]) 2 (fun ⟨k,b⟩=>k<=l.length/\b=eI ((l.map Un.name).take k)) (fun ⟨k,b⟩=>l.length - k) ((0,false)) (⟨Nat.zero_le _,rfl⟩) ?_;rintro ⟨k,b⟩ hJ back;try dsimp only at hJ back
 conv=>whnf
 try dsimp only
 refine gS ?_;conv=>whnf
 refine ⟨fun hk=>?_,fun hk=>?_⟩<;>conv=>whnf
 ·have hk:k<l.length:=by omega
  have hk2:k<(l.map Un.name).length:=by rw [hn];exact hk
  have e:(l.map Un.name)[k]=l[k].name:=List.getElem_map ..;refine sI ?_;refine ⟨_,dK hk,?_⟩;conv=>whnf
  try (refine oN ?_;conv=>whnf)
  refine zc (fun _ _=>aCM l[k]) ?_;refine sqv ?_;by_cases hm:(l.map Un.name)[k]∈(l.map Un.name).take k
  ·obtain ⟨j,hj⟩:=pC hk2 hm;rw [e] at hj;refine aA.lookup (some (.int .i64 j)) siU vY aDI hj ?_;refine mQ ?_;refine aA.mapEq 1 (kR hk2 hm).symm ?_;conv=>whnf
   exact zb (back ((k+1,true)) ((⟨hk,bFW hk2 hm⟩)) (by (try dsimp only);omega))
  have hj:=oH hk2 hm;rw [e] at hj;have hs:=kY hk2 hm;rw [e] at hs;refine aA.lookup none siU vY aDI hj ?_;refine sqs ?_;refine zc (fun _ _=>aCM l[k]) ?_;refine sqv ?_;refine aA.insert siU vY hj hs ?_;refine mQ ?_;exact zb (back ((k+1,b)) ((⟨hk,hJ.2.trans (aAE hk2 hm)⟩)) (by (try dsimp only);omega))
 have hk:k=l.length:=by omega
 have hb:=hJ.2;rw [hk,<-hn,List.take_length] at hb;clear back hJ;subst hk hb;conv=>whnf
 refine aA.concM N.gsub 1 (fun r G' h' N' R=>?_);conv=>whnf
 exact zU (aB.ret tab Tryz.func174 rfl (eX (N.trans N') (r) (fun h U=>by unfold eZ;rw [hn];exact R.up U)))
theorem aGS (l:List It):FnX Tryz.prog 176 1 [.buf 0,.v (.func (.func 177) #[] #[])] [(0,.ro 6 (rws It.row l))] (fun _ _=>True) (fun (r:Nat) G h=>nB G h (.map (some r)) .string (eZ (l.map It.name)))
  (fun r=>.ret (.tup [.v (.map (some r)),.v (.bool (eI (l.map It.name)))]) 1 []):=by
 have hl:=aE It.row l;have hn:(l.map It.name).length=l.length:=List.length_map _;refine zX Tryz.func176 Tryz.ntmps176 fun E0 F G h N hP w0 cs=>?_;refine aA.lenB 0 (fun m0=>?_);refine aA.makeMap .string ?_;refine sqs ?_;refine zL (fun (⟨k,b⟩:Nat×Bool)=>[(13,nV k),(12,nV ((rws It.row l).length)),(11,.buf 0),(4,.buf 1),(5,.v (.bool b)),(1,.v (.func (.func 177) #[] #[]))]) (fun ⟨k,b⟩=>[(1,.map .string (fH (l.map It.name) k)),(0,.ro 6 (rws It.row l))]) 2 (fun ⟨k,b⟩=>k<=l.length/\b=eI ((l.map It.name).take k)) (fun ⟨k,b⟩=>l.length - k) ((0,false)) (⟨Nat.zero_le _,rfl⟩) ?_;rintro ⟨k,b⟩ hJ back;try dsimp only at hJ back
 conv=>whnf
 try dsimp only
 refine gS ?_;conv=>whnf
 refine ⟨fun hk=>?_,fun hk=>?_⟩<;>conv=>whnf
 ·have hk:k<l.length:=by omega
  have hk2:k<(l.map It.name).length:=by rw [hn];exact hk
  have e:(l.map It.name)[k]=l[k].name:=List.getElem_map ..;refine sI ?_;refine ⟨_,bA hk,?_⟩;conv=>whnf
  try (refine oN ?_;conv=>whnf)
  refine zc (fun _ _=>aCS l[k]) ?_;refine sqv ?_;by_cases hm:(l.map It.name)[k]∈(l.map It.name).take k
  ·obtain ⟨j,hj⟩:=pC hk2 hm;rw [e] at hj;refine aA.lookup (some (.int .i64 j)) siU vY aDI hj ?_;refine mQ ?_;refine aA.mapEq 1 (kR hk2 hm).symm ?_;conv=>whnf
   exact zb (back ((k+1,true)) ((⟨hk,bFW hk2 hm⟩)) (by (try dsimp only);omega))
  have hj:=oH hk2 hm;rw [e] at hj;have hs:=kY hk2 hm;rw [e] at hs;refine aA.lookup none siU vY aDI hj ?_;refine sqs ?_;refine zc (fun _ _=>aCS l[k]) ?_;refine sqv ?_;refine aA.insert siU vY hj hs ?_;refine mQ ?_;exact zb (back ((k+1,b)) ((⟨hk,hJ.2.trans (aAE hk2 hm)⟩)) (by (try dsimp only);omega))
 have hk:k=l.length:=by omega
 have hb:=hJ.2;rw [hk,<-hn,List.take_length] at hb;clear back hJ;subst hk hb;conv=>whnf
 refine aA.concM N.gsub 1 (fun r G' h' N' R=>?_);conv=>whnf
 exact zU (aB.ret tab Tryz.func176 rfl (eX (N.trans N') (r) (fun h U=>by unfold eZ;rw [hn];exact R.up U)))
theorem aAD (l:List Mc):FnX Tryz.prog 180 1 [.buf 0,.v (.func (.func 181) #[] #[])] [(0,.ro 4 (rws Mc.row l))] (fun _ _=>True) (fun (r:Nat) G h=>nB G h (.map (some r)) .string (eZ (l.map Mc.name)))
  (fun r=>.ret (.tup [.v (.map (some r)),.v (.bool (eI (l.map Mc.name)))]) 1 []):=by
 have hl:=aE Mc.row l;have hn:(l.map Mc.name).length=l.length:=List.length_map _;refine zX Tryz.func180 Tryz.ntmps180 fun E0 F G h N hP w0 cs=>?_;refine aA.lenB 0 (fun m0=>?_);refine aA.makeMap .string ?_;refine sqs ?_;refine zL (fun (⟨k,b⟩:Nat×Bool)=>[(13,nV k),(12,nV ((rws Mc.row l).length)),(11,.buf 0),(4,.buf 1),(5,.v (.bool b)),(1,.v (.func (.func 181) #[] #[]))]) (fun ⟨k,b⟩=>[(1,.map .string (fH (l.map Mc.name) k)),(0,.ro 4 (rws Mc.row l))]) 2 (fun ⟨k,b⟩=>k<=l.length/\b=eI ((l.map Mc.name).take k)) (fun ⟨k,b⟩=>l.length - k) ((0,false)) (⟨Nat.zero_le _,rfl⟩) ?_;rintro ⟨k,b⟩ hJ back;try dsimp only at hJ back
 conv=>whnf
 try dsimp only
 refine gS ?_;conv=>whnf
 refine ⟨fun hk=>?_,fun hk=>?_⟩<;>conv=>whnf
 ·have hk:k<l.length:=by omega
  have hk2:k<(l.map Mc.name).length:=by rw [hn];exact hk
  have e:(l.map Mc.name)[k]=l[k].name:=List.getElem_map ..;refine sI ?_;refine ⟨_,bA hk,?_⟩;conv=>whnf
  try (refine oN ?_;conv=>whnf)
  refine zc (fun _ _=>uG l[k]) ?_;refine sqv ?_;by_cases hm:(l.map Mc.name)[k]∈(l.map Mc.name).take k
  ·obtain ⟨j,hj⟩:=pC hk2 hm;rw [e] at hj;refine aA.lookup (some (.int .i64 j)) siU vY aDI hj ?_;refine mQ ?_;refine aA.mapEq 1 (kR hk2 hm).symm ?_;conv=>whnf
   exact zb (back ((k+1,true)) ((⟨hk,bFW hk2 hm⟩)) (by (try dsimp only);omega))
  have hj:=oH hk2 hm;rw [e] at hj;have hs:=kY hk2 hm;rw [e] at hs;refine aA.lookup none siU vY aDI hj ?_;refine sqs ?_;refine zc (fun _ _=>uG l[k]) ?_;refine sqv ?_;refine aA.insert siU vY hj hs ?_;refine mQ ?_;exact zb (back ((k+1,b)) ((⟨hk,hJ.2.trans (aAE hk2 hm)⟩)) (by (try dsimp only);omega))
 have hk:k=l.length:=by omega
 have hb:=hJ.2;rw [hk,<-hn,List.take_length] at hb;clear back hJ;subst hk hb;conv=>whnf
 refine aA.concM N.gsub 1 (fun r G' h' N' R=>?_);conv=>whnf
 exact zU (aB.ret tab Tryz.func180 rfl (eX (N.trans N') (r) (fun h U=>by unfold eZ;rw [hn];exact R.up U)))
theorem aBR (l:List OpV):FnX Tryz.prog 182 1 [.buf 0,.v (.func (.func 183) #[] #[])] [(0,.ro 2 (rws OpV.row l))] (fun _ _=>True) (fun (r:Nat) G h=>nB G h (.map (some r)) .string (eZ (l.map OpV.name)))
  (fun r=>.ret (.tup [.v (.map (some r)),.v (.bool (eI (l.map OpV.name)))]) 1 []):=by
 have hl:=aE OpV.row l;have hn:(l.map OpV.name).length=l.length:=List.length_map _;refine zX Tryz.func182 Tryz.ntmps182 fun E0 F G h N hP w0 cs=>?_;refine aA.lenB 0 (fun m0=>?_);refine aA.makeMap .string ?_;refine sqs ?_;refine zL (fun (⟨k,b⟩:Nat×Bool)=>[(13,nV k),(12,nV ((rws OpV.row l).length)),(11,.buf 0),(4,.buf 1),(5,.v (.bool b)),(1,.v (.func (.func 183) #[] #[]))]) (fun ⟨k,b⟩=>[(1,.map .string (fH (l.map OpV.name) k)),(0,.ro 2 (rws OpV.row l))]) 2 (fun ⟨k,b⟩=>k<=l.length/\b=eI ((l.map OpV.name).take k)) (fun ⟨k,b⟩=>l.length - k) ((0,false)) (⟨Nat.zero_le _,rfl⟩) ?_;rintro ⟨k,b⟩ hJ back;try dsimp only at hJ back
 conv=>whnf
 try dsimp only
 refine gS ?_;conv=>whnf
 refine ⟨fun hk=>?_,fun hk=>?_⟩<;>conv=>whnf
 ·have hk:k<l.length:=by omega
  have hk2:k<(l.map OpV.name).length:=by rw [hn];exact hk
  have e:(l.map OpV.name)[k]=l[k].name:=List.getElem_map ..;refine sI ?_;refine ⟨_,bA hk,?_⟩;conv=>whnf
  try (refine oN ?_;conv=>whnf)
  refine zc (fun _ _=>xM l[k]) ?_;refine sqv ?_;by_cases hm:(l.map OpV.name)[k]∈(l.map OpV.name).take k
  ·obtain ⟨j,hj⟩:=pC hk2 hm;rw [e] at hj;refine aA.lookup (some (.int .i64 j)) siU vY aDI hj ?_;refine mQ ?_;refine aA.mapEq 1 (kR hk2 hm).symm ?_;conv=>whnf
   exact zb (back ((k+1,true)) ((⟨hk,bFW hk2 hm⟩)) (by (try dsimp only);omega))
  have hj:=oH hk2 hm;rw [e] at hj;have hs:=kY hk2 hm;rw [e] at hs;refine aA.lookup none siU vY aDI hj ?_;refine sqs ?_;refine zc (fun _ _=>xM l[k]) ?_;refine sqv ?_;refine aA.insert siU vY hj hs ?_;refine mQ ?_;exact zb (back ((k+1,b)) ((⟨hk,hJ.2.trans (aAE hk2 hm)⟩)) (by (try dsimp only);omega))
 have hk:k=l.length:=by omega
 have hb:=hJ.2;rw [hk,<-hn,List.take_length] at hb;clear back hJ;subst hk hb;conv=>whnf
 refine aA.concM N.gsub 1 (fun r G' h' N' R=>?_);conv=>whnf
 exact zU (aB.ret tab Tryz.func182 rfl (eX (N.trans N') (r) (fun h U=>by unfold eZ;rw [hn];exact R.up U)))
theorem rI (l:List ByteArray):FnX Tryz.prog 178 1 [.buf 0,.v (.func (.func 179) #[] #[])] [(0,.ro 1 (bV l))] (fun _ _=>True) (fun (r:Nat) G h=>nB G h (.map (some r)) .string (eZ l))
  (fun r=>.ret (.tup [.v (.map (some r)),.v (.bool (eI l))]) 1 []):=by
 have hl:=cK l;have hn:l.length=l.length:=rfl;refine zX Tryz.func178 Tryz.ntmps178 fun E0 F G h N hP w0 cs=>?_;refine aA.lenB 0 (fun m0=>?_);refine aA.makeMap .string ?_;refine sqs ?_;refine zL (fun (⟨k,b⟩:Nat×Bool)=>[(13,nV k),(12,nV ((bV l).length)),(11,.buf 0),(4,.buf 1),(5,.v (.bool b)),(1,.v (.func (.func 179) #[] #[]))]) (fun ⟨k,b⟩=>[(1,.map .string (fH l k)),(0,.ro 1 (bV l))]) 2 (fun ⟨k,b⟩=>k<=l.length/\b=eI (l.take k)) (fun ⟨k,b⟩=>l.length - k) ((0,false)) (⟨Nat.zero_le _,rfl⟩) ?_;rintro ⟨k,b⟩ hJ back;try dsimp only at hJ back
 conv=>whnf
 try dsimp only
 refine gS ?_;conv=>whnf
 refine ⟨fun hk=>?_,fun hk=>?_⟩<;>conv=>whnf
 ·have hk:k<l.length:=by omega
  have hk2:k<l.length:=by rw [hn];exact hk
  have e:l[k]=l[k]:=rfl;refine sI ?_;refine ⟨_,bA hk,?_⟩;conv=>whnf
  refine zc (fun _ _=>aIC l[k]) ?_;refine sqv ?_;by_cases hm:l[k]∈l.take k
  ·obtain ⟨j,hj⟩:=pC hk2 hm;rw [e] at hj;refine aA.lookup (some (.int .i64 j)) siU vY aDI hj ?_;refine mQ ?_;refine aA.mapEq 1 (kR hk2 hm).symm ?_;conv=>whnf
   exact zb (back ((k+1,true)) ((⟨hk,bFW hk2 hm⟩)) (by (try dsimp only);omega))
  have hj:=oH hk2 hm;rw [e] at hj;have hs:=kY hk2 hm;rw [e] at hs;refine aA.lookup none siU vY aDI hj ?_;refine sqs ?_;refine zc (fun _ _=>aIC l[k]) ?_;refine sqv ?_;refine aA.insert siU vY hj hs ?_;refine mQ ?_;exact zb (back ((k+1,b)) ((⟨hk,hJ.2.trans (aAE hk2 hm)⟩)) (by (try dsimp only);omega))
 have hk:k=l.length:=by omega
 have hb:=hJ.2;rw [hk,<-hn,List.take_length] at hb;clear back hJ;subst hk hb;conv=>whnf
 refine aA.concM N.gsub 1 (fun r G' h' N' R=>?_);conv=>whnf
 exact zU (aB.ret tab Tryz.func178 rfl (eX (N.trans N') (r) (fun h U=>by unfold eZ;rw [hn];exact R.up U)))
def nD:List PanicEntry:=[{v:=.iface 329 (.agg #[]),recovered:=false}]
theorem aSV {h:Array Obj} {v:Value} {l:List ByteArray} (hv:nB (fun k=>k<h.size) h v .string (eZ l)) (nm:ByteArray):FnO Tryz.prog nD 187 #[v,.string nm] h (intO (cZ l nm)):=by
 have hg:=aQZ (l:=l) nm;refine zO Tryz.func187 Tryz.ntmps187 (args:=[v,.string nm]) fun w0 cs=>?_
 cases hf:cZ l nm with
 |some k=>
  rw [hf] at hg;refine aA.lookupF hv (some (.int .i64 k)) siU vY aDI hg ?_;refine sqs ?_;refine aA.retU (aB.ret tab Tryz.func187 rfl fun Ez Hz Az Sz K=>⟨rfl,K.keeps⟩)
 |none=>
  rw [hf] at hg;refine aA.lookupF hv none siU vY aDI hg ?_;refine sqs ?_;refine aA.build0 ?_;refine sqs ?_;refine aA.iface0 ?_ failU;refine sqs ?_;refine aA.panicX (v:=.agg #[]) ?_ (fun E=>rfl);refine aB.pan Tryz.func187 fun Ez Hz Az Sz K=>⟨rfl,K.keeps⟩

theorem aRA (rows:List (List Value)) (hb:rows.length<=1000000):FnS Tryz.prog 260 1 [.buf 0] [(0,.ro 6 rows)] (fun _:Unit=>True) (fun _=>.ret (.buf 1) 2 [(1,.own 85 6 rows)]):=by
 refine zS Tryz.func260 Tryz.ntmps260 fun E0 F h w0 cs=>?_;refine aA.isNil tab (k:=3) (fun hr=>?_) ?_ rfl<;>conv=>whnf
 ·try refine gS ?_
  conv=>whnf
  refine zQ 1 [(2,.v (.slice none 0 0))] [(0,.ro 6 rows)] ?_;refine aA.nilOwn (l':=[(2,.buf 1)]) (H':=[(0,.ro 6 rows)]) 85 6 ?_ (by rfl) (by rfl) (by rfl);refine aA.rowsEq 1 hr.symm ?_;conv=>whnf
  exact zI Tryz.func260 () trivial
 refine sqs ?_;refine And.intro (fL (show 0+rows.length<=1000000 by omega)) ?_;refine sqv ?_;exact zI Tryz.func260 (()) (trivial) [(1,2)]
theorem aPY (rows:List (List Value)) (hb:rows.length<=1000000):FnS Tryz.prog 261 1 [.buf 0] [(0,.ro 4 rows)] (fun _:Unit=>True) (fun _=>.ret (.buf 1) 2 [(1,.own 136 4 rows)]):=by
 refine zS Tryz.func261 Tryz.ntmps261 fun E0 F h w0 cs=>?_;refine aA.isNil tab (k:=3) (fun hr=>?_) ?_ rfl<;>conv=>whnf
 ·try refine gS ?_
  conv=>whnf
  refine zQ 1 [(2,.v (.slice none 0 0))] [(0,.ro 4 rows)] ?_;refine aA.nilOwn (l':=[(2,.buf 1)]) (H':=[(0,.ro 4 rows)]) 136 4 ?_ (by rfl) (by rfl) (by rfl);refine aA.rowsEq 1 hr.symm ?_;conv=>whnf
  exact zI Tryz.func261 () trivial
 refine sqs ?_;refine And.intro (fL (show 0+rows.length<=1000000 by omega)) ?_;refine sqv ?_;exact zI Tryz.func261 (()) (trivial) [(1,2)]
theorem aQG (rows:List (List Value)) (hb:rows.length<=1000000):FnS Tryz.prog 262 1 [.buf 0] [(0,.ro 2 rows)] (fun _:Unit=>True) (fun _=>.ret (.buf 1) 2 [(1,.own 102 2 rows)]):=by
 refine zS Tryz.func262 Tryz.ntmps262 fun E0 F h w0 cs=>?_;refine aA.isNil tab (k:=3) (fun hr=>?_) ?_ rfl<;>conv=>whnf
 ·try refine gS ?_
  conv=>whnf
  refine zQ 1 [(2,.v (.slice none 0 0))] [(0,.ro 2 rows)] ?_;refine aA.nilOwn (l':=[(2,.buf 1)]) (H':=[(0,.ro 2 rows)]) 102 2 ?_ (by rfl) (by rfl) (by rfl);refine aA.rowsEq 1 hr.symm ?_;conv=>whnf
  exact zI Tryz.func262 () trivial
 refine sqs ?_;refine And.intro (fL (show 0+rows.length<=1000000 by omega)) ?_;refine sqv ?_;exact zI Tryz.func262 (()) (trivial) [(1,2)]
theorem aRP (rows:List (List Value)) (hb:rows.length<=1000000):FnS Tryz.prog 263 1 [.buf 0] [(0,.ro 1 rows)] (fun _:Unit=>True) (fun _=>.ret (.buf 1) 2 [(1,.own 45 1 rows)]):=by
 refine zS Tryz.func263 Tryz.ntmps263 fun E0 F h w0 cs=>?_;refine aA.isNil tab (k:=3) (fun hr=>?_) ?_ rfl<;>conv=>whnf
 ·try refine gS ?_
  conv=>whnf
  refine zQ 1 [(2,.v (.slice none 0 0))] [(0,.ro 1 rows)] ?_;refine aA.nilOwn (l':=[(2,.buf 1)]) (H':=[(0,.ro 1 rows)]) 45 1 ?_ (by rfl) (by rfl) (by rfl);refine aA.rowsEq 1 hr.symm ?_;conv=>whnf
  exact zI Tryz.func263 () trivial
 refine sqs ?_;refine And.intro (fL (show 0+rows.length<=1000000 by omega)) ?_;refine sqv ?_;exact zI Tryz.func263 (()) (trivial) [(1,2)]
theorem aQV (rows:List (List Value)) (hb:rows.length<=1000000):FnS Tryz.prog 266 1 [.buf 0] [(0,.ro 17 rows)] (fun _:Unit=>True) (fun _=>.ret (.buf 1) 2 [(1,.own 49 17 rows)]):=by
 refine zS Tryz.func266 Tryz.ntmps266 fun E0 F h w0 cs=>?_;refine aA.isNil tab (k:=3) (fun hr=>?_) ?_ rfl<;>conv=>whnf
 ·try refine gS ?_
  conv=>whnf
  refine zQ 1 [(2,.v (.slice none 0 0))] [(0,.ro 17 rows)] ?_;refine aA.nilOwn (l':=[(2,.buf 1)]) (H':=[(0,.ro 17 rows)]) 49 17 ?_ (by rfl) (by rfl) (by rfl);refine aA.rowsEq 1 hr.symm ?_;conv=>whnf
  exact zI Tryz.func266 () trivial
 refine sqs ?_;refine And.intro (fL (show 0+rows.length<=1000000 by omega)) ?_;refine sqv ?_;exact zI Tryz.func266 (()) (trivial) [(1,2)]
theorem aRI (rows:List (List Value)) (hb:rows.length<=1000000):FnS Tryz.prog 269 1 [.buf 0] [(0,.ro 3 rows)] (fun _:Unit=>True) (fun _=>.ret (.buf 1) 2 [(1,.own 272 3 rows)]):=by
 refine zS Tryz.func269 Tryz.ntmps269 fun E0 F h w0 cs=>?_;refine aA.isNil tab (k:=3) (fun hr=>?_) ?_ rfl<;>conv=>whnf
 ·try refine gS ?_
  conv=>whnf
  refine zQ 1 [(2,.v (.slice none 0 0))] [(0,.ro 3 rows)] ?_;refine aA.nilOwn (l':=[(2,.buf 1)]) (H':=[(0,.ro 3 rows)]) 272 3 ?_ (by rfl) (by rfl) (by rfl);refine aA.rowsEq 1 hr.symm ?_;conv=>whnf
  exact zI Tryz.func269 () trivial
 refine sqs ?_;refine And.intro (fL (show 0+rows.length<=1000000 by omega)) ?_;refine sqv ?_;exact zI Tryz.func269 (()) (trivial) [(1,2)]
theorem aSC (rows:List (List Value)) (hb:rows.length<=1000000):FnS Tryz.prog 270 1 [.buf 0] [(0,.ro 4 rows)] (fun _:Unit=>True) (fun _=>.ret (.buf 1) 2 [(1,.own 142 4 rows)]):=by
 refine zS Tryz.func270 Tryz.ntmps270 fun E0 F h w0 cs=>?_;refine aA.isNil tab (k:=3) (fun hr=>?_) ?_ rfl<;>conv=>whnf
 ·try refine gS ?_
  conv=>whnf
  refine zQ 1 [(2,.v (.slice none 0 0))] [(0,.ro 4 rows)] ?_;refine aA.nilOwn (l':=[(2,.buf 1)]) (H':=[(0,.ro 4 rows)]) 142 4 ?_ (by rfl) (by rfl) (by rfl);refine aA.rowsEq 1 hr.symm ?_;conv=>whnf
  exact zI Tryz.func270 () trivial
 refine sqs ?_;refine And.intro (fL (show 0+rows.length<=1000000 by omega)) ?_;refine sqv ?_;exact zI Tryz.func270 (()) (trivial) [(1,2)]
theorem aPT (rows:List (List Value)) (hb:rows.length<=1000000):FnS Tryz.prog 290 1 [.buf 0] [(0,.ro 4 rows)] (fun _:Unit=>True) (fun _=>.ret (.buf 1) 2 [(1,.own 191 4 rows)]):=by
 refine zS Tryz.func290 Tryz.ntmps290 fun E0 F h w0 cs=>?_;refine aA.isNil tab (k:=3) (fun hr=>?_) ?_ rfl<;>conv=>whnf
 ·try refine gS ?_
  conv=>whnf
  refine zQ 1 [(2,.v (.slice none 0 0))] [(0,.ro 4 rows)] ?_;refine aA.nilOwn (l':=[(2,.buf 1)]) (H':=[(0,.ro 4 rows)]) 191 4 ?_ (by rfl) (by rfl) (by rfl);refine aA.rowsEq 1 hr.symm ?_;conv=>whnf
  exact zI Tryz.func290 () trivial
 refine sqs ?_;refine And.intro (fL (show 0+rows.length<=1000000 by omega)) ?_;refine sqv ?_;exact zI Tryz.func290 (()) (trivial) [(1,2)]
theorem aQN (rows:List (List Value)) (hb:rows.length<=1000000):FnS Tryz.prog 291 1 [.buf 0] [(0,.ro 7 rows)] (fun _:Unit=>True) (fun _=>.ret (.buf 1) 2 [(1,.own 55 7 rows)]):=by
 refine zS Tryz.func291 Tryz.ntmps291 fun E0 F h w0 cs=>?_;refine aA.isNil tab (k:=3) (fun hr=>?_) ?_ rfl<;>conv=>whnf
 ·try refine gS ?_
  conv=>whnf
  refine zQ 1 [(2,.v (.slice none 0 0))] [(0,.ro 7 rows)] ?_;refine aA.nilOwn (l':=[(2,.buf 1)]) (H':=[(0,.ro 7 rows)]) 55 7 ?_ (by rfl) (by rfl) (by rfl);refine aA.rowsEq 1 hr.symm ?_;conv=>whnf
  exact zI Tryz.func291 () trivial
 refine sqs ?_;refine And.intro (fL (show 0+rows.length<=1000000 by omega)) ?_;refine sqv ?_;exact zI Tryz.func291 (()) (trivial) [(1,2)]
theorem aEH (rows:List (List Value)) (hb:rows.length<=1000000):FnS Tryz.prog 188 1 [.buf 0] [(0,.ro 1 rows)] (fun _:Unit=>True) (fun _=>.ret (.buf 1) 2 [(1,.own 9 1 rows)]):=by
 refine zS Tryz.func188 Tryz.ntmps188 fun E0 F h w0 cs=>?_;refine aA.isNil tab (k:=3) (fun hr=>?_) ?_ rfl<;>conv=>whnf
 ·try refine gS ?_
  conv=>whnf
  refine zQ 1 [(2,.v (.slice none 0 0))] [(0,.ro 1 rows)] ?_;refine aA.nilOwn (l':=[(2,.buf 1)]) (H':=[(0,.ro 1 rows)]) 9 1 ?_ (by rfl) (by rfl) (by rfl);refine aA.rowsEq 1 hr.symm ?_;conv=>whnf
  exact zI Tryz.func188 () trivial
 refine sqs ?_;refine And.intro (fL (show 0+rows.length<=1000000 by omega)) ?_;refine sqv ?_;exact zI Tryz.func188 (()) (trivial) [(1,2)]
structure vW (G:Nat->Prop) (h:Array Obj) (s:aG) (mU mI mP mM mO vC:Value):Prop where
 u:nB G h mU .string (eZ (s.units.map Un.name))
 i:nB G h mI .string (eZ (s.items.map It.name))
 p:nB G h mP .string (eZ s.plants)
 m:nB G h mM .string (eZ (s.machines.map Mc.name))
 o:nB G h mO .string (eZ (s.options.map OpV.name))
 c:∃ms:List Value,RoF G h vC 1 (ms.map fun m=>[m])/\ms.length=s.options.length /\ ∀k (h1:k<ms.length) (h2:k<s.options.length),nB G h ms[k] .string (eZ s.options[k].ch)
theorem vW.up {G G':Nat->Prop} {h h':Array Obj} {s:aG} {mU mI mP mM mO vC:Value} (H:vW G h s mU mI mP mM mO vC) (U:Up G h G' h'):vW G' h' s mU mI mP mM mO vC:=by
 obtain ⟨ms,c1,c2,c3⟩:=H.c;exact ⟨H.u.up U,H.i.up U,H.p.up U,H.m.up U,H.o.up U,ms,RoF.up U c1,c2,fun k h1 h2=>(c3 k h1 h2).up U⟩
theorem vW.tok (s:aG) (mU mI mP mM mO vC:Value):TOk (fun F h=>vW F h s mU mI mP mM mO vC):=⟨fun _ _ _ hs H=>H.up ⟨hs,fun _ _=>rfl⟩,fun _ _ _ H K=>H.up ⟨fun _ x=>x,K.same⟩⟩
abbrev gZ (b:Nat) (mU mI mP mM mO vC:Value):Nat×Fw.Blk:=(b,.cells 163 [.v mU,.v mI,.v mP,.v mM,.v mO,.v vC])
theorem gI {h:Array Obj} {v:Value} {l:List ByteArray} (hv:nB (fun k=>k<h.size) h v .string (eZ l)) {nm:ByteArray} {k:Nat} (hf:cZ l nm=some k):FnO Tryz.prog nD 187 #[v,.string nm] h (some (.int .i64 k)):=by
 have:=aSV hv nm;rw [hf] at this;exact this
theorem lQ {h:Array Obj} {v:Value} {l:List ByteArray} (hv:nB (fun k=>k<h.size) h v .string (eZ l)) {nm:ByteArray} (hf:cZ l nm=none):FnO Tryz.prog nD 187 #[v,.string nm] h none:=by
 have:=aSV hv nm;rw [hf] at this;exact this
section
variable {s:aG} {mU mI mP mM mO vC:Value}
abbrev ResT (s:aG) (mU mI mP mM mO vC:Value) (F:Nat->Prop) (h:Array Obj):Prop:=vW F h s mU mI mP mM mO vC
abbrev aNN (e sz:Nat) (rows:List (List Value)) (k:Nat) (mU mI mP mM mO vC:Value):Option (List Value)->eR
 |some r=>.ret (.tup []) 2 [(0,.own e sz (rows.set k r)),gZ 1 mU mI mP mM mO vC]
 |none=>.pan nD 2 [(0,.own e sz rows),gZ 1 mU mI mP mM mO vC]
theorem clIt_fn (rows:List (List Value)) (k:Nat) (i:It) (hrow:rows[k]? = some i.row):FnT Tryz.prog (ResT s mU mI mP mM mO vC) 186 2 [.row 0 k 0 6,.ptr 1 0] [(0,.own 85 6 rows),gZ 1 mU mI mP mM mO vC] (fun x=>x=(oI s i).map It.row) (aNN 85 6 rows k mU mI mP mM mO vC):=by
 have hr':rows[((k:Nat):Int).toNat]? = some i.row:=hrow;refine zT Tryz.func186 Tryz.ntmps186 fun E0 F h hT w0 cs=>?_;refine zH (fls 0 7 (.e1 7 [] (fls 8 2 (.e1 10 [] .done)))) ?_;refine squ ?_;refine ⟨_,hr',?_⟩;conv=>whnf
 cases hf:cZ (s.units.map Un.name) i.unit with
 |none=>
  refine aK.callF (fun _ _ _ _ K=>lQ (hT.u.up (Up.kp K)) hf) zP ?_;exact zV Tryz.func186 (none) ((by unfold oI;rw [hf];rfl))
 |some u=>
  refine aK.callS (fun _ _ _ _ K=>gI (hT.u.up (Up.kp K)) hf) zP ?_;refine squ ?_;refine aK.rput tab (_) (hr') ?_;conv=>whnf
  try refine oB ?_
  refine sqr ?_;refine sqs ?_;exact zI Tryz.func186 (some (It.row {i with un:=(u:Nat)})) ((by unfold oI;rw [hf];rfl))
theorem clMc_fn (rows:List (List Value)) (k:Nat) (i:Mc) (hrow:rows[k]? = some i.row):FnT Tryz.prog (ResT s mU mI mP mM mO vC) 190 2 [.row 0 k 0 4,.ptr 1 0] [(0,.own 136 4 rows),gZ 1 mU mI mP mM mO vC] (fun x=>x=(pH s i).map Mc.row) (aNN 136 4 rows k mU mI mP mM mO vC):=by
 have hr':rows[((k:Nat):Int).toNat]? = some i.row:=hrow;refine zT Tryz.func190 Tryz.ntmps190 fun E0 F h hT w0 cs=>?_;refine zH (fls 0 7 (.e1 7 [] (fls 8 2 (.e1 10 [] .done)))) ?_;refine squ ?_;refine ⟨_,hr',?_⟩;conv=>whnf
 cases hf:cZ (s.plants) i.plant with
 |none=>
  refine aK.callF (fun _ _ _ _ K=>lQ (hT.p.up (Up.kp K)) hf) zP ?_;exact zV Tryz.func190 (none) ((by unfold pH;rw [hf];rfl))
 |some u=>
  refine aK.callS (fun _ _ _ _ K=>gI (hT.p.up (Up.kp K)) hf) zP ?_;refine squ ?_;refine aK.rput tab (_) (hr') ?_;conv=>whnf
  try refine oB ?_
  refine sqr ?_;refine sqs ?_;exact zI Tryz.func190 (some (Mc.row {i with pn:=(u:Nat)})) ((by unfold pH;rw [hf];rfl))
theorem clRn_fn (rows:List (List Value)) (k:Nat) (i:Rn) (hrow:rows[k]? = some i.row):FnT Tryz.prog (ResT s mU mI mP mM mO vC) 200 2 [.row 0 k 0 3,.ptr 1 0] [(0,.own 272 3 rows),gZ 1 mU mI mP mM mO vC] (fun x=>x=(pQ s i).map Rn.row) (aNN 272 3 rows k mU mI mP mM mO vC):=by
 have hr':rows[((k:Nat):Int).toNat]? = some i.row:=hrow;refine zT Tryz.func200 Tryz.ntmps200 fun E0 F h hT w0 cs=>?_;refine zH (fls 0 7 (.e1 7 [] (fls 8 2 (.e1 10 [] .done)))) ?_;refine squ ?_;refine ⟨_,hr',?_⟩;conv=>whnf
 cases hf:cZ (s.machines.map Mc.name) i.mach with
 |none=>
  refine aK.callF (fun _ _ _ _ K=>lQ (hT.m.up (Up.kp K)) hf) zP ?_;exact zV Tryz.func200 (none) ((by unfold pQ;rw [hf];rfl))
 |some u=>
  refine aK.callS (fun _ _ _ _ K=>gI (hT.m.up (Up.kp K)) hf) zP ?_;refine squ ?_;refine aK.rput tab (_) (hr') ?_;conv=>whnf
  try refine oB ?_
  refine sqr ?_;refine sqs ?_;exact zI Tryz.func200 (some (Rn.row {i with mn:=(u:Nat)})) ((by unfold pQ;rw [hf];rfl))
end

section
variable {s:aG} {mU mI mP mM mO vC:Value}
theorem flat1 {α:Type}:∀l:List α,(l.map fun m=>[m]).flatten=l
 | []=>rfl
 |a::l=>congrArg (a :: ·) (flat1 l)
theorem jD {α:Type} {l:List α} {k:Nat} {a b:α} (h:l[k]? = some a):(l.set k b)[k]? = some b:=by
 rw [List.getElem?_set_self (List.getElem?_eq_some_iff.1 h).1]
theorem clSw_fn (rows:List (List Value)) (k:Nat) (i:Sw) (hrow:rows[k]? = some i.row):FnT Tryz.prog (ResT s mU mI mP mM mO vC) 202 2 [.row 0 k 0 4,.ptr 1 0] [(0,.own 142 4 rows),gZ 1 mU mI mP mM mO vC] (fun x=>x=(nS s i).map Sw.row) (aNN 142 4 rows k mU mI mP mM mO vC):=by
 have hr':rows[((k:Nat):Int).toNat]? = some i.row:=hrow;have hlt:k<rows.length:=(List.getElem?_eq_some_iff.1 hrow).1;refine zT Tryz.func202 Tryz.ntmps202 fun E0 F h hT w0 cs=>?_;refine zH (fls 0 8 (fls 9 6 (.e1 8 [10,14] (.e1 15 [] (fls 16 2 (.e1 18 [] (fls 19 2 (.e1 21 [] .done)))))))) ?_;refine squ ?_;refine ⟨_,hr',?_⟩;conv=>whnf
 refine ⟨_,hr',?_⟩;conv=>whnf
 cases hf:cZ (s.items.map It.name) i.a with
 |none=>
  refine aK.callF (fun _ _ _ _ K=>lQ (hT.i.up (Up.kp K)) hf) zP ?_;exact zV Tryz.func202 (none) ((by unfold nS;rw [hf];rfl))
 |some u=>
  refine aK.callS (fun _ _ _ _ K=>gI (hT.i.up (Up.kp K)) hf) zP ?_;refine squ ?_
  cases hg:cZ (s.items.map It.name) i.b with
  |none=>
   refine aK.callF (fun _ _ _ _ K=>lQ (hT.i.up (Up.kp K)) hg) zP ?_;exact zV Tryz.func202 (none) ((by unfold nS;rw [hf];simp only [hg];rfl))
  |some v=>
   have hl2:(rows.set ((k:Nat):Int).toNat (jX i.row 2 [.int .i64 u])).length=rows.length:=List.length_set;refine aK.callS (fun _ _ _ _ K=>gI (hT.i.up (Up.kp K)) hg) zP ?_;refine squ ?_;refine aK.rput tab (_) (hr') ?_;conv=>whnf
   try refine oB ?_
   refine sqr ?_;refine aK.rput tab (_) (jD hr') ?_;conv=>whnf
   try refine oB ?_
   refine sqr ?_;refine sqs ?_;refine aA.rowsEq 0 (show (rows.set k (jX i.row 2 [.int .i64 u])).set k (jX (jX i.row 2 [.int .i64 u]) 3 [.int .i64 v])=rows.set k (Sw.row {i with an:=(u:Nat),bn:=(v:Nat)}) by rw [List.set_set];rfl) ?_;conv=>whnf
   exact zI Tryz.func202 (some (Sw.row {i with an:=(u:Nat),bn:=(v:Nat)})) ((by unfold nS;rw [hf];simp only [hg];rfl))
theorem clAm_fn (rows:List (List Value)) (k:Nat) (i:Am) (hrow:rows[k]? = some i.row):FnT Tryz.prog (ResT s mU mI mP mM mO vC) 268 2 [.row 0 k 0 7,.ptr 1 0] [(0,.own 55 7 rows),gZ 1 mU mI mP mM mO vC] (fun x=>x=(lK s i).map Am.row) (aNN 55 7 rows k mU mI mP mM mO vC):=by
 have hr':rows[((k:Nat):Int).toNat]? = some i.row:=hrow;have hlt:k<rows.length:=(List.getElem?_eq_some_iff.1 hrow).1;refine zT Tryz.func268 Tryz.ntmps268 fun E0 F h hT w0 cs=>?_;refine zH (fls 0 8 (fls 9 6 (.e1 8 [10,14] (.e1 15 [] (fls 16 2 (.e1 18 [] (fls 19 2 (.e1 21 [] .done)))))))) ?_;refine squ ?_;refine ⟨_,hr',?_⟩;conv=>whnf
 refine ⟨_,hr',?_⟩;conv=>whnf
 cases hf:cZ (s.units.map Un.name) i.unit with
 |none=>
  refine aK.callF (fun _ _ _ _ K=>lQ (hT.u.up (Up.kp K)) hf) zP ?_;exact zV Tryz.func268 (none) ((by unfold lK;rw [hf];rfl))
 |some u=>
  refine aK.callS (fun _ _ _ _ K=>gI (hT.u.up (Up.kp K)) hf) zP ?_;refine squ ?_
  cases hg:cZ (s.items.map It.name) i.item with
  |none=>
   refine aK.callF (fun _ _ _ _ K=>lQ (hT.i.up (Up.kp K)) hg) zP ?_;exact zV Tryz.func268 (none) ((by unfold lK;rw [hf];simp only [hg];rfl))
  |some v=>
   have hl2:(rows.set ((k:Nat):Int).toNat (jX i.row 5 [.int .i64 u])).length=rows.length:=List.length_set;refine aK.callS (fun _ _ _ _ K=>gI (hT.i.up (Up.kp K)) hg) zP ?_;refine squ ?_;refine aK.rput tab (_) (hr') ?_;conv=>whnf
   try refine oB ?_
   refine sqr ?_;refine aK.rput tab (_) (jD hr') ?_;conv=>whnf
   try refine oB ?_
   refine sqr ?_;refine sqs ?_;refine aA.rowsEq 0 (show (rows.set k (jX i.row 5 [.int .i64 u])).set k (jX (jX i.row 5 [.int .i64 u]) 6 [.int .i64 v])=rows.set k (Am.row {i with un:=(u:Nat),inn:=(v:Nat)}) by rw [List.set_set];rfl) ?_;conv=>whnf
   exact zI Tryz.func268 (some (Am.row {i with un:=(u:Nat),inn:=(v:Nat)})) ((by unfold lK;rw [hf];simp only [hg];rfl))
theorem clCd_fn (rows:List (List Value)) (k:Nat) (i:Cd) (hrow:rows[k]? = some i.row):FnT Tryz.prog (ResT s mU mI mP mM mO vC) 265 2 [.row 0 k 0 4,.ptr 1 0] [(0,.own 191 4 rows),gZ 1 mU mI mP mM mO vC] (fun (x:Option Cd)=>x=jV s i)
  (fun x=>match x with
   |some j=>.ret (.tup []) 2 [(0,.own 191 4 (rows.set k j.row)),gZ 1 mU mI mP mM mO vC]
   |none=>.pan nD 3 [gZ 1 mU mI mP mM mO vC]):=by
 have hr':rows[((k:Nat):Int).toNat]? = some i.row:=hrow;have hlt:k<rows.length:=(List.getElem?_eq_some_iff.1 hrow).1;refine zT Tryz.func265 Tryz.ntmps265 fun E0 F h hT w0 cs=>?_;refine zH (fls 0 7 (.e1 7 [] (fls 8 2 (.e1 10 [] .done)))) ?_;refine squ ?_;refine ⟨_,hr',?_⟩;conv=>whnf
 cases hf:cZ (s.options.map OpV.name) i.opt with
 |none=>
  refine aK.callF (fun _ _ _ _ K=>lQ (hT.o.up (Up.kp K)) hf) zP ?_;exact zV Tryz.func265 (none) ((by unfold jV;rw [hf]))
 |some u=>
  refine aK.callS (fun _ _ _ _ K=>gI (hT.o.up (Up.kp K)) hf) zP ?_;refine squ ?_;refine aK.rput tab (_) (hr') ?_;conv=>whnf
  try refine oB ?_
  refine sqr ?_;refine sqs ?_;obtain ⟨hu,_,_⟩:=aGF.1 hf;rw [List.length_map] at hu;obtain ⟨ms,⟨c1,c2,a,cap,rfl,c3⟩,c4,c5⟩:=hT.c;have hms:u<ms.length:=by rw [c4];exact hu
  rcases c3 with c3|⟨g,o,rfl,c6,c7⟩
  ·have h0:ms=[]:=List.map_eq_nil_iff.1 c3;rw [h0] at hms;cases hms
  have hcell:bL h g (o+u)=some ms[u]:=c7 u _ (by rw [flat1];exact List.getElem?_eq_getElem hms);have hl3:(ms.map fun m=>[m]).length=ms.length:=List.length_map _;refine zH (fls 0 13 (.e1 13 [] (fls 14 2 (.e1 16 [] .done)))) ?_;refine squ ?_;refine ⟨_,(jD hr'),?_⟩;conv=>whnf
  try (refine oN ?_;conv=>whnf)
  conv=>whnf
  refine ⟨_,⟨c6,hcell⟩,?_⟩;conv=>whnf
  have h2:u<s.options.length:=hu;refine ⟨_,(jD hr'),?_⟩;conv=>whnf
  cases hg:cZ s.options[u].ch i.ch with
  |none=>
   refine aK.callF (fun _ _ _ _ K=>lQ ((c5 u hms h2).up (Up.kp K)) hg) zP ?_;exact zV Tryz.func265 (none) ((by unfold jV;rw [hf];simp only [List.getElem?_eq_getElem h2,hg];rfl))
  |some v=>
   refine aK.callS (fun _ _ _ _ K=>gI ((c5 u hms h2).up (Up.kp K)) hg) zP ?_;refine squ ?_;refine aK.rput tab (_) (jD hr') ?_;conv=>whnf
   try refine oB ?_
   refine sqr ?_;refine sqs ?_;refine aA.rowsEq 0 (show (rows.set k (jX i.row 2 [.int .i64 u])).set k (jX (jX i.row 2 [.int .i64 u]) 3 [.int .i64 v])=rows.set k (Cd.row {i with on:=(u:Nat),cn:=(v:Nat)}) by rw [List.set_set];rfl) ?_;conv=>whnf
   exact zI Tryz.func265 (some {i with on:=(u:Nat),cn:=(v:Nat)}) ((by unfold jV;rw [hf];simp only [List.getElem?_eq_getElem h2,hg];rfl))
end

section
variable {s:aG} {mU mI mP mM mO vC:Value}
abbrev aBC {α:Type} (row:α->List Value) (e sz:Nat) (mU mI mP mM mO vC:Value):Option (List α)->eR
 |some m=>.ret (.buf 1) 2 [(1,.own e sz (rws row m)),gZ 0 mU mI mP mM mO vC]
 |none=>.pan nD 1 [gZ 0 mU mI mP mM mO vC]
abbrev pZ (v:Value) (sz:Nat) (rows:List (List Value)) (s:aG) (mU mI mP mM mO vC:Value) (F:Nat->Prop) (h:Array Obj):Prop:=RoF F h v sz rows/\vW F h s mU mI mP mM mO vC
theorem pZ.tok (v:Value) (sz:Nat) (rows:List (List Value)) (s:aG) (mU mI mP mM mO vC:Value):TOk (pZ v sz rows s mU mI mP mM mO vC):=
 ⟨fun _ _ _ hs H=>⟨RoF.up ⟨hs,fun _ _=>rfl⟩ H.1,H.2.up ⟨hs,fun _ _=>rfl⟩⟩,fun _ _ _ H K=>⟨RoF.up ⟨fun _ x=>x,K.same⟩ H.1,H.2.up ⟨fun _ x=>x,K.same⟩⟩⟩
theorem aBZ {α:Type} {f:α->List Value} {g:α->α} {l:List α} {k:Nat} (hk:k<l.length):(rws f (tT g l k)).length=l.length:=aYJ (Nat.le_of_lt hk)
theorem qN {α:Type} {f:α->List Value} {res:α->Option α} {l:List α} {k:Nat} (hk:k<l.length) {b:α} (hr:res l[k]=some b):(rws f (tT (fun a=>(res a).getD a) l k)).set k (f b)=rws f (tT (fun a=>(res a).getD a) l (k+1)):=
 aXY hk (show f b=f ((res l[k]).getD l[k]) by rw [hr];rfl)
theorem rD {α:Type} {res:α->Option α} {l:List α} {k:Nat} (hk:k<l.length) {b:α} (hr:res l[k]=some b) (h:∀i (hi:i<l.length),i<k->res l[i]≠none):∀i (hi:i<l.length),i<k+1->res l[i]≠none:=by
 intro i hi h1;rcases Nat.lt_or_eq_of_le (Nat.le_of_lt_succ h1) with h2|rfl
 ·exact h i hi h2
 rw [hr];exact Option.some_ne_none _
theorem rK {α:Type} {res:α->Option α} {l:List α} {k:Nat} (h:∀i (hi:i<l.length),i<k->res l[i]≠none) (hk:k=l.length):cH res l=some (l.map fun a=>(res a).getD a):=
 aVK (fun i hi=>h i hi (hk▸hi))
theorem bAN (v:Value) (l:List It) (hb:l.length<=1000000):FnT Tryz.prog (pZ v 6 (rws It.row l) s mU mI mP mM mO vC) 185 1 [.v v,.fn (.func 186) [] [.ptr 0 0]] [gZ 0 mU mI mP mM mO vC] (fun x=>x=cH (oI s) l) (aBC It.row 85 6 mU mI mP mM mO vC):=by
 have hl:=aE It.row l;refine zT Tryz.func185 Tryz.ntmps185 fun E0 F h hT w0 cs=>?_;refine aA.nameAt (fun _ x=>x) 6 (by exact hT.1) ?_;refine sqv ?_;refine zN (aRA (rws It.row l) (by omega)) [1] ?_;refine sqs ?_;refine zL (fun (k:Nat)=>[(10,nV k),(9,nV ((rws It.row l).length)),(0,.buf 2),(1,.fn (.func 186) [] [.ptr 0 0])]) (fun k=>[(2,.own 85 6 (rws It.row (tT (fun a=>(oI s a).getD a) l k))),gZ 0 mU mI mP mM mO vC]) 3 (fun k=>k<=l.length /\ ∀i (hi:i<l.length),i<k->oI s l[i]≠none) (fun k=>l.length - k) (0) (⟨Nat.zero_le _,fun _ _ h=>absurd h (Nat.not_lt_zero _)⟩) ?_;rintro k hJ back;conv=>whnf
 refine gS ?_;conv=>whnf
 refine ⟨fun hk=>?_,fun hk=>?_⟩<;>conv=>whnf
 ·have hk:k<l.length:=by omega
  have hm:=aBZ (f:=It.row) (g:=fun a=>(oI s a).getD a) hk;refine sI ?_;refine aA.callT (vW.tok s mU mI mP mM mO vC) (hT.2) (clIt_fn _ k l[k] (rR hk)) [2,0] sH ?CNa3 ?_;case CNa3=>rfl
  rintro x hx
  cases hr:oI s l[k] with
  |none=>
   rw [hr] at hx;subst hx;conv=>whnf
   exact zV Tryz.func185 (none) ((iM.2 ⟨l[k],List.getElem_mem hk,hr⟩).symm)
  |some i=>
   rw [hr] at hx;subst hx;refine bFU ?_;refine aA.rowsEq 2 (qN (f:=It.row) hk hr) ?_;conv=>whnf
   exact zb (back (k+1) ((⟨hk,rD hk hr hJ.2⟩)) (by (try dsimp only);omega))
 have hk:k=l.length:=by omega
 have h3:=rK hJ.2 hk;clear back hJ;subst hk;conv=>whnf
 refine aA.rowsEq 2 (congrArg (rws It.row) rB) ?_;conv=>whnf
 exact zI Tryz.func185 (some _) (h3.symm) [(1,2)]
theorem bAS (v:Value) (l:List Mc) (hb:l.length<=1000000):FnT Tryz.prog (pZ v 4 (rws Mc.row l) s mU mI mP mM mO vC) 189 1 [.v v,.fn (.func 190) [] [.ptr 0 0]] [gZ 0 mU mI mP mM mO vC] (fun x=>x=cH (pH s) l) (aBC Mc.row 136 4 mU mI mP mM mO vC):=by
 have hl:=aE Mc.row l;refine zT Tryz.func189 Tryz.ntmps189 fun E0 F h hT w0 cs=>?_;refine aA.nameAt (fun _ x=>x) 6 (by exact hT.1) ?_;refine sqv ?_;refine zN (aPY (rws Mc.row l) (by omega)) [1] ?_;refine sqs ?_;refine zL (fun (k:Nat)=>[(10,nV k),(9,nV ((rws Mc.row l).length)),(0,.buf 2),(1,.fn (.func 190) [] [.ptr 0 0])]) (fun k=>[(2,.own 136 4 (rws Mc.row (tT (fun a=>(pH s a).getD a) l k))),gZ 0 mU mI mP mM mO vC]) 3 (fun k=>k<=l.length /\ ∀i (hi:i<l.length),i<k->pH s l[i]≠none) (fun k=>l.length - k) (0) (⟨Nat.zero_le _,fun _ _ h=>absurd h (Nat.not_lt_zero _)⟩) ?_;rintro k hJ back;conv=>whnf
 refine gS ?_;conv=>whnf
 refine ⟨fun hk=>?_,fun hk=>?_⟩<;>conv=>whnf
 ·have hk:k<l.length:=by omega
  have hm:=aBZ (f:=Mc.row) (g:=fun a=>(pH s a).getD a) hk;refine sI ?_;refine aA.callT (vW.tok s mU mI mP mM mO vC) (hT.2) (clMc_fn _ k l[k] (rR hk)) [2,0] sH ?CNa7 ?_;case CNa7=>rfl
  rintro x hx
  cases hr:pH s l[k] with
  |none=>
   rw [hr] at hx;subst hx;conv=>whnf
   exact zV Tryz.func189 (none) ((iM.2 ⟨l[k],List.getElem_mem hk,hr⟩).symm)
  |some i=>
   rw [hr] at hx;subst hx;refine bFU ?_;refine aA.rowsEq 2 (qN (f:=Mc.row) hk hr) ?_;conv=>whnf
   exact zb (back (k+1) ((⟨hk,rD hk hr hJ.2⟩)) (by (try dsimp only);omega))
 have hk:k=l.length:=by omega
 have h3:=rK hJ.2 hk;clear back hJ;subst hk;conv=>whnf
 refine aA.rowsEq 2 (congrArg (rws Mc.row) rB) ?_;conv=>whnf
 exact zI Tryz.func189 (some _) (h3.symm) [(1,2)]
theorem bCW (v:Value) (l:List Rn) (hb:l.length<=1000000):FnT Tryz.prog (pZ v 3 (rws Rn.row l) s mU mI mP mM mO vC) 199 1 [.v v,.fn (.func 200) [] [.ptr 0 0]] [gZ 0 mU mI mP mM mO vC] (fun x=>x=cH (pQ s) l) (aBC Rn.row 272 3 mU mI mP mM mO vC):=by
 have hl:=aE Rn.row l;refine zT Tryz.func199 Tryz.ntmps199 fun E0 F h hT w0 cs=>?_;refine aA.nameAt (fun _ x=>x) 6 (by exact hT.1) ?_;refine sqv ?_;refine zN (aRI (rws Rn.row l) (by omega)) [1] ?_;refine sqs ?_;refine zL (fun (k:Nat)=>[(10,nV k),(9,nV ((rws Rn.row l).length)),(0,.buf 2),(1,.fn (.func 200) [] [.ptr 0 0])]) (fun k=>[(2,.own 272 3 (rws Rn.row (tT (fun a=>(pQ s a).getD a) l k))),gZ 0 mU mI mP mM mO vC]) 3 (fun k=>k<=l.length /\ ∀i (hi:i<l.length),i<k->pQ s l[i]≠none) (fun k=>l.length - k) (0) (⟨Nat.zero_le _,fun _ _ h=>absurd h (Nat.not_lt_zero _)⟩) ?_;rintro k hJ back;conv=>whnf
 refine gS ?_;conv=>whnf
 refine ⟨fun hk=>?_,fun hk=>?_⟩<;>conv=>whnf
 ·have hk:k<l.length:=by omega
  have hm:=aBZ (f:=Rn.row) (g:=fun a=>(pQ s a).getD a) hk;refine sI ?_;refine aA.callT (vW.tok s mU mI mP mM mO vC) (hT.2) (clRn_fn _ k l[k] (rR hk)) [2,0] sH ?CNa11 ?_;case CNa11=>rfl
  rintro x hx
  cases hr:pQ s l[k] with
  |none=>
   rw [hr] at hx;subst hx;conv=>whnf
   exact zV Tryz.func199 (none) ((iM.2 ⟨l[k],List.getElem_mem hk,hr⟩).symm)
  |some i=>
   rw [hr] at hx;subst hx;refine bFU ?_;refine aA.rowsEq 2 (qN (f:=Rn.row) hk hr) ?_;conv=>whnf
   exact zb (back (k+1) ((⟨hk,rD hk hr hJ.2⟩)) (by (try dsimp only);omega))
 have hk:k=l.length:=by omega
 have h3:=rK hJ.2 hk;clear back hJ;subst hk;conv=>whnf
 refine aA.rowsEq 2 (congrArg (rws Rn.row) rB) ?_;conv=>whnf
 exact zI Tryz.func199 (some _) (h3.symm) [(1,2)]
theorem bCP (v:Value) (l:List Sw) (hb:l.length<=1000000):FnT Tryz.prog (pZ v 4 (rws Sw.row l) s mU mI mP mM mO vC) 201 1 [.v v,.fn (.func 202) [] [.ptr 0 0]] [gZ 0 mU mI mP mM mO vC] (fun x=>x=cH (nS s) l) (aBC Sw.row 142 4 mU mI mP mM mO vC):=by
 have hl:=aE Sw.row l;refine zT Tryz.func201 Tryz.ntmps201 fun E0 F h hT w0 cs=>?_;refine aA.nameAt (fun _ x=>x) 6 (by exact hT.1) ?_;refine sqv ?_;refine zN (aSC (rws Sw.row l) (by omega)) [1] ?_;refine sqs ?_;refine zL (fun (k:Nat)=>[(10,nV k),(9,nV ((rws Sw.row l).length)),(0,.buf 2),(1,.fn (.func 202) [] [.ptr 0 0])]) (fun k=>[(2,.own 142 4 (rws Sw.row (tT (fun a=>(nS s a).getD a) l k))),gZ 0 mU mI mP mM mO vC]) 3 (fun k=>k<=l.length /\ ∀i (hi:i<l.length),i<k->nS s l[i]≠none) (fun k=>l.length - k) (0) (⟨Nat.zero_le _,fun _ _ h=>absurd h (Nat.not_lt_zero _)⟩) ?_;rintro k hJ back;conv=>whnf
 refine gS ?_;conv=>whnf
 refine ⟨fun hk=>?_,fun hk=>?_⟩<;>conv=>whnf
 ·have hk:k<l.length:=by omega
  have hm:=aBZ (f:=Sw.row) (g:=fun a=>(nS s a).getD a) hk;refine sI ?_;refine aA.callT (vW.tok s mU mI mP mM mO vC) (hT.2) (clSw_fn _ k l[k] (rR hk)) [2,0] sH ?CNa15 ?_;case CNa15=>rfl
  rintro x hx
  cases hr:nS s l[k] with
  |none=>
   rw [hr] at hx;subst hx;conv=>whnf
   exact zV Tryz.func201 (none) ((iM.2 ⟨l[k],List.getElem_mem hk,hr⟩).symm)
  |some i=>
   rw [hr] at hx;subst hx;refine bFU ?_;refine aA.rowsEq 2 (qN (f:=Sw.row) hk hr) ?_;conv=>whnf
   exact zb (back (k+1) ((⟨hk,rD hk hr hJ.2⟩)) (by (try dsimp only);omega))
 have hk:k=l.length:=by omega
 have h3:=rK hJ.2 hk;clear back hJ;subst hk;conv=>whnf
 refine aA.rowsEq 2 (congrArg (rws Sw.row) rB) ?_;conv=>whnf
 exact zI Tryz.func201 (some _) (h3.symm) [(1,2)]
theorem aYI (v:Value) (l:List Am) (hb:l.length<=1000000):FnT Tryz.prog (pZ v 7 (rws Am.row l) s mU mI mP mM mO vC) 267 1 [.v v,.fn (.func 268) [] [.ptr 0 0]] [gZ 0 mU mI mP mM mO vC] (fun x=>x=cH (lK s) l) (aBC Am.row 55 7 mU mI mP mM mO vC):=by
 have hl:=aE Am.row l;refine zT Tryz.func267 Tryz.ntmps267 fun E0 F h hT w0 cs=>?_;refine aA.nameAt (fun _ x=>x) 6 (by exact hT.1) ?_;refine sqv ?_;refine zN (aQN (rws Am.row l) (by omega)) [1] ?_;refine sqs ?_;refine zL (fun (k:Nat)=>[(10,nV k),(9,nV ((rws Am.row l).length)),(0,.buf 2),(1,.fn (.func 268) [] [.ptr 0 0])]) (fun k=>[(2,.own 55 7 (rws Am.row (tT (fun a=>(lK s a).getD a) l k))),gZ 0 mU mI mP mM mO vC]) 3 (fun k=>k<=l.length /\ ∀i (hi:i<l.length),i<k->lK s l[i]≠none) (fun k=>l.length - k) (0) (⟨Nat.zero_le _,fun _ _ h=>absurd h (Nat.not_lt_zero _)⟩) ?_;rintro k hJ back;conv=>whnf
 refine gS ?_;conv=>whnf
 refine ⟨fun hk=>?_,fun hk=>?_⟩<;>conv=>whnf
 ·have hk:k<l.length:=by omega
  have hm:=aBZ (f:=Am.row) (g:=fun a=>(lK s a).getD a) hk;refine sI ?_;refine aA.callT (vW.tok s mU mI mP mM mO vC) (hT.2) (clAm_fn _ k l[k] (rR hk)) [2,0] sH ?CNa19 ?_;case CNa19=>rfl
  rintro x hx
  cases hr:lK s l[k] with
  |none=>
   rw [hr] at hx;subst hx;conv=>whnf
   exact zV Tryz.func267 (none) ((iM.2 ⟨l[k],List.getElem_mem hk,hr⟩).symm)
  |some i=>
   rw [hr] at hx;subst hx;refine bFU ?_;refine aA.rowsEq 2 (qN (f:=Am.row) hk hr) ?_;conv=>whnf
   exact zb (back (k+1) ((⟨hk,rD hk hr hJ.2⟩)) (by (try dsimp only);omega))
 have hk:k=l.length:=by omega
 have h3:=rK hJ.2 hk;clear back hJ;subst hk;conv=>whnf
 refine aA.rowsEq 2 (congrArg (rws Am.row) rB) ?_;conv=>whnf
 exact zI Tryz.func267 (some _) (h3.symm) [(1,2)]
theorem aZM (v:Value) (l:List Cd) (hb:l.length<=1000000):FnT Tryz.prog (pZ v 4 (rws Cd.row l) s mU mI mP mM mO vC) 264 1 [.v v,.fn (.func 265) [] [.ptr 0 0]] [gZ 0 mU mI mP mM mO vC] (fun x=>x=cH (jV s) l) (aBC Cd.row 191 4 mU mI mP mM mO vC):=by
 have hl:=aE Cd.row l;refine zT Tryz.func264 Tryz.ntmps264 fun E0 F h hT w0 cs=>?_;refine aA.nameAt (fun _ x=>x) 6 (by exact hT.1) ?_;refine sqv ?_;refine zN (aPT (rws Cd.row l) (by omega)) [1] ?_;refine sqs ?_;refine zL (fun (k:Nat)=>[(10,nV k),(9,nV ((rws Cd.row l).length)),(0,.buf 2),(1,.fn (.func 265) [] [.ptr 0 0])]) (fun k=>[(2,.own 191 4 (rws Cd.row (tT (fun a=>(jV s a).getD a) l k))),gZ 0 mU mI mP mM mO vC]) 3 (fun k=>k<=l.length /\ ∀i (hi:i<l.length),i<k->jV s l[i]≠none) (fun k=>l.length - k) (0) (⟨Nat.zero_le _,fun _ _ h=>absurd h (Nat.not_lt_zero _)⟩) ?_;rintro k hJ back;conv=>whnf
 refine gS ?_;conv=>whnf
 refine ⟨fun hk=>?_,fun hk=>?_⟩<;>conv=>whnf
 ·have hk:k<l.length:=by omega
  have hm:=aBZ (f:=Cd.row) (g:=fun a=>(jV s a).getD a) hk;refine sI ?_;refine aA.callT (vW.tok s mU mI mP mM mO vC) (hT.2) (clCd_fn _ k l[k] (rR hk)) [2,0] sH ?CNa23 ?_;case CNa23=>rfl
  rintro x hx
  cases hr:jV s l[k] with
  |none=>
   rw [hr] at hx;subst hx;conv=>whnf
   exact zV Tryz.func264 (none) ((iM.2 ⟨l[k],List.getElem_mem hk,hr⟩).symm)
  |some i=>
   rw [hr] at hx;subst hx;refine bFU ?_;refine aA.rowsEq 2 (qN (f:=Cd.row) hk hr) ?_;conv=>whnf
   exact zb (back (k+1) ((⟨hk,rD hk hr hJ.2⟩)) (by (try dsimp only);omega))
 have hk:k=l.length:=by omega
 have h3:=rK hJ.2 hk;clear back hJ;subst hk;conv=>whnf
 refine aA.rowsEq 2 (congrArg (rws Cd.row) rB) ?_;conv=>whnf
 exact zI Tryz.func264 (some _) (h3.symm) [(1,2)]
end

theorem pZ.up {v:Value} {sz:Nat} {rows:List (List Value)} {s:aG} {mU mI mP mM mO vC:Value} {G G':Nat->Prop} {h h':Array Obj} (H:pZ v sz rows s mU mI mP mM mO vC G h) (U:Up G h G' h'):pZ v sz rows s mU mI mP mM mO vC G' h':=
 ⟨RoF.up U H.1,H.2.up U⟩
abbrev SliJ {α β:Type} (row:β->List Value) (sz:Nat) (f:α->Option β) (l:List α) (x:Option Value) (G:Nat->Prop) (h:Array Obj):Prop:=match x with
 |some r=>∃m,cH f l=some m/\RoF G h r sz (rws row m)
 |none=>cH f l=none
abbrev aZX:Option Value->eR
 |some r=>.ret (.v r) 0 []
 |none=>.pan nD 0 []
section
variable {s:aG} {mU mI mP mM mO vC:Value}
theorem aMT (v:Value) (l:List Cd) (hb:l.length<=1000000):FnX Tryz.prog 195 0 [.agg [.v mU,.v mI,.v mP,.v mM,.v mO,.v vC],.v v] [] (pZ v 4 (rws Cd.row l) s mU mI mP mM mO vC) (SliJ Cd.row 4 (jV s) l) aZX:=by
 refine zX Tryz.func195 Tryz.ntmps195 fun E0 F G h N hP w0 cs=>?_;refine aA.callT (pZ.tok _ _ _ _ _ _ _ _ _ _) (hP.up ⟨N.gsub,fun _ _=>rfl⟩) (aZM v l hb) [0] sH ?CNa1 ?_;case CNa1=>rfl
 rintro x hx
 cases hm:cH (jV s) l with
 |none=>
  rw [hm] at hx;subst hx;conv=>whnf
  exact aB.pan Tryz.func195 (jP.mk (N) (none) (fun h U=>hm) [] sH rfl rfl (aQ rfl))
 |some m=>
  rw [hm] at hx;subst hx;refine sqv ?_;refine aA.conc (n:=m.length) (N.gsub) 1 ?_ (hlen:=aE Cd.row m);intro a1 c1 G1 h1 N1 R1;refine sqv ?_;exact zU (aB.ret tab Tryz.func195 rfl (eX (N.trans N1) (some _) (fun h U=>⟨m,hm,RoF.up U R1⟩)))
theorem aEV (v:Value) (l:List Am) (hb:l.length<=1000000):FnX Tryz.prog 198 0 [.agg [.v mU,.v mI,.v mP,.v mM,.v mO,.v vC],.v v] [] (pZ v 7 (rws Am.row l) s mU mI mP mM mO vC) (SliJ Am.row 7 (lK s) l) aZX:=by
 refine zX Tryz.func198 Tryz.ntmps198 fun E0 F G h N hP w0 cs=>?_;refine aA.callT (pZ.tok _ _ _ _ _ _ _ _ _ _) (hP.up ⟨N.gsub,fun _ _=>rfl⟩) (aYI v l hb) [0] sH ?CNa2 ?_;case CNa2=>rfl
 rintro x hx
 cases hm:cH (lK s) l with
 |none=>
  rw [hm] at hx;subst hx;conv=>whnf
  exact aB.pan Tryz.func198 (jP.mk (N) (none) (fun h U=>hm) [] sH rfl rfl (aQ rfl))
 |some m=>
  rw [hm] at hx;subst hx;refine sqv ?_;refine aA.conc (n:=m.length) (N.gsub) 1 ?_ (hlen:=aE Am.row m);intro a1 c1 G1 h1 N1 R1;refine sqv ?_;exact zU (aB.ret tab Tryz.func198 rfl (eX (N.trans N1) (some _) (fun h U=>⟨m,hm,RoF.up U R1⟩)))
end

section
variable {s:aG} {mU mI mP mM mO vC:Value}
theorem RoF.sli {G:Nat->Prop} {h:Array Obj} {v:Value} {sz n:Nat} {rows:List (List Value)} (H:RoF G h v sz rows) (e:rows.length=n):∃a c,v=.slice a n c:=by
 obtain ⟨_,_,a,c,rfl,_⟩:=H;exact ⟨a,c,by rw [e]⟩
theorem clOp_fn (rows:List (List Value)) (k:Nat) (i:OpV) (hrow:rows[k]? = some i.row) (hb:i.ch.length<=1000000):FnX Tryz.prog 192 1 [.row 0 k 0 2] [(0,.own 102 2 rows)] (fun G h=>i.ok G h) (fun (x:Hd) G h=>OpV.ok G h {i with hd:=x})
  (fun x=>.ret (.tup []) 1 [(0,.own 102 2 (rows.set k (OpV.row {i with hd:=x})))]):=by
 have hr':rows[((k:Nat):Int).toNat]? = some i.row:=hrow;have hlt:k<rows.length:=(List.getElem?_eq_some_iff.1 hrow).1;have hl:=cK i.ch;refine zX Tryz.func192 Tryz.ntmps192 fun E0 F G h N hP w0 cs=>?_;refine ⟨_,hr',?_⟩;conv=>whnf
 refine aA.nameAt (fun _ x=>x) 6 (by exact OpV.ok.up hP ⟨N.gsub,fun _ _=>rfl⟩) ?_;refine sqv ?_;refine zN (aEH (bV i.ch) (by omega)) [1] ?_;refine sqs ?_;refine aA.conc (n:=i.ch.length) (N.gsub) 2 ?_ (hlen:=hl);intro a1 c1 G1 h1 N1 R1;refine sqv ?_;refine ⟨_,hr',?_⟩;conv=>whnf
 exact zU (aB.ret tab Tryz.func192 rfl (eX (N.trans N1) (⟨a1,c1⟩) (fun h U=>RoF.up U R1)))
abbrev fbOut (e sz:Nat) (rows:List (List Value)) (k:Nat) (mU mI mP mM mO vC:Value):Option FbV->eR
 |some j=>.ret (.tup []) 2 [(0,.own e sz (rows.set k j.row)),gZ 1 mU mI mP mM mO vC]
 |none=>.pan nD 2 []
theorem clFb_fn (rows:List (List Value)) (k:Nat) (i:FbV) (hrow:rows[k]? = some i.row) (hb:i.cs.length<=1000000):FnX Tryz.prog 194 2 [.row 0 k 0 1,.ptr 1 0] [(0,.own 45 1 rows),gZ 1 mU mI mP mM mO vC] (fun G h=>i.ok G h/\vW G h s mU mI mP mM mO vC)
  (fun (x:Option FbV) G h=>match x with
   |some j=>cH (jV s) i.cs=some j.cs/\j.ok G h
   |none=>cH (jV s) i.cs=none) (fbOut 45 1 rows k mU mI mP mM mO vC):=by
 have hr':rows[((k:Nat):Int).toNat]? = some i.row:=hrow;have hlt:k<rows.length:=(List.getElem?_eq_some_iff.1 hrow).1;refine zX Tryz.func194 Tryz.ntmps194 fun E0 F G h N hP w0 cs=>?_;refine zH (fls 0 5 (.e1 5 [] (.fl 6 (.e1 7 [] .done)))) ?_;refine squ ?_;refine ⟨_,hr',?_⟩;conv=>whnf
 refine aK.callX (N.gsub) (aMT _ i.cs hb) (fun h U=>⟨RoF.up U hP.1,hP.2.up U⟩) [] sH ?CNa2 ?_;case CNa2=>rfl
 rintro (_|r) G1 h1 N1 J1
 ·conv=>whnf
  exact aB.pan Tryz.func194 (jP.mk (N.trans N1) (none) (fun h U=>J1) [] sH rfl rfl (aQ rfl))
 obtain ⟨m,hm,R1⟩:=J1;obtain ⟨a1,c1,rfl⟩:=RoF.sli R1 (aE Cd.row m);conv=>whnf
 try refine oB ?_
 refine sqr ?_;refine aK.rput tab (_) (hr') ?_;conv=>whnf
 try refine oB ?_
 refine sqr ?_;refine sqs ?_;exact zU (aB.ret tab Tryz.func194 rfl (eX (N.trans N1) (some ⟨⟨a1,c1⟩,m⟩) (fun h U=>⟨hm,RoF.up U R1⟩)))
end

section
variable {s:aG} {mU mI mP mM mO vC:Value}
theorem set5 (l:List (List Value)) (k:Nat) (a b c d e:List Value):((((l.set k a).set k b).set k c).set k d).set k e=l.set k e:=by simp only [List.set_set]
abbrev rcOut (e sz:Nat) (rows:List (List Value)) (k:Nat) (mU mI mP mM mO vC:Value):Option RcV->eR
 |some j=>.ret (.tup []) 2 [(0,.own e sz (rows.set k j.row)),gZ 1 mU mI mP mM mO vC]
 |none=>.pan nD 2 []
theorem clRc_fn (rows:List (List Value)) (k:Nat) (i:RcV) (hrow:rows[k]? = some i.row) (hc:i.cs.length<=1000000) (hi:i.inn.length<=1000000) (ho:i.out.length<=1000000) (hn:i.runs.length<=1000000):FnX Tryz.prog 197 2 [.row 0 k 0 17,.ptr 1 0] [(0,.own 49 17 rows),gZ 1 mU mI mP mM mO vC] (fun G h=>i.ok G h/\vW G h s mU mI mP mM mO vC)
  (fun (x:Option RcV) G h=>match x with
   |some j=>(nP s i).map RcV.bare=some j.bare/\j.ok G h
   |none=>nP s i=none) (rcOut 49 17 rows k mU mI mP mM mO vC):=by
 have hr':rows[((k:Nat):Int).toNat]? = some i.row:=hrow;have hlt:k<rows.length:=(List.getElem?_eq_some_iff.1 hrow).1;obtain ⟨y,hy⟩:∃y,y=nP s i:=⟨_,rfl⟩;rw [<-hy];unfold nP at hy;refine zX Tryz.func197 Tryz.ntmps197 fun E0 F G h N hP w0 cs=>?_;refine zH (fls 0 8 (fls 9 6 (.e1 8 [10,14] (.e1 15 [] (fls 16 2 (.e1 18 [] (fls 19 2 (.e1 21 [] .done)))))))) ?_;refine squ ?_;refine ⟨_,hr',?_⟩;conv=>whnf
 refine ⟨_,hr',?_⟩;conv=>whnf
 have hT:=hP.2.up (G':=F) (h':=h) ⟨N.gsub,fun _ _=>rfl⟩
 cases hf:cZ (s.items.map It.name) i.item with
 |none=>
  rw [hf] at hy;refine aK.callF (fun _ _ _ _ K=>lQ (hT.i.up (Up.kp K)) hf) zP ?_;exact aB.pan Tryz.func197 (jP.mk (N) (none) (fun h U=>hy) [] sH rfl rfl (aQ rfl))
 |some u=>
  rw [hf] at hy;refine aK.callS (fun _ _ _ _ K=>gI (hT.i.up (Up.kp K)) hf) zP ?_;refine squ ?_
  cases hg:cZ s.plants i.plant with
  |none=>
   simp only [hg] at hy;refine aK.callF (fun _ _ _ _ K=>lQ (hT.p.up (Up.kp K)) hg) zP ?_;exact aB.pan Tryz.func197 (jP.mk (N) (none) (fun h U=>hy) [] sH rfl rfl (aQ rfl))
  |some p=>
   simp only [hg] at hy;refine aK.callS (fun _ _ _ _ K=>gI (hT.p.up (Up.kp K)) hg) zP ?_;refine squ ?_;refine aK.rput tab (_) (hr') ?_;conv=>whnf
   try refine oB ?_
   refine sqr ?_;refine aK.rput tab (_) (jD hr') ?_;conv=>whnf
   try refine oB ?_
   refine sqr ?_;refine sqs ?_;obtain ⟨i1,hi1⟩:∃i1:RcV,i1 = {i with inum:=(u:Nat),pnum:=(p:Nat)}:=⟨_,rfl⟩;obtain ⟨rs,hrs⟩:∃rs,rs=rows.set k (RcV.row i1):=⟨_,rfl⟩;have hr1:rs[((k:Nat):Int).toNat]? = some (RcV.row i1):=by rw [hrs];exact jD hr'
   have hlt1:k<rs.length:=(List.getElem?_eq_some_iff.1 hr1).1;refine aA.rowsEq 0 (show (rows.set k (jX i.row 15 [.int .i64 u])).set k (jX (jX i.row 15 [.int .i64 u]) 16 [.int .i64 p])=rs by rw [hrs,hi1,List.set_set];rfl) ?_;have c1:i1.cs=i.cs:=by rw [hi1]
   have c2:i1.inn=i.inn:=by rw [hi1]
   have c3:i1.out=i.out:=by rw [hi1]
   have c4:i1.runs=i.runs:=by rw [hi1]
   have ok1:i1.ok G h:=by rw [hi1];exact ⟨hP.1.c,hP.1.i,hP.1.o,hP.1.rn⟩
   refine sqv ?_;refine zH (fls 0 8 (fls 9 5 (fls 15 5 (.e1 8 [9,13,15,19] (.e1 14 [15,19] (.e1 20 [] (fls 21 2 (.e1 23 [] (fls 24 2 (.e1 26 [] (fls 27 2 (.e1 29 [] .done)))))))))))) ?_;refine squ ?_;refine ⟨_,hr1,?_⟩;conv=>whnf
   refine ⟨_,hr1,?_⟩;conv=>whnf
   refine ⟨_,hr1,?_⟩;conv=>whnf
   refine aK.callX (N.gsub) (aMT _ i1.cs (by rw [c1];exact hc)) (fun h U=>⟨RoF.up U ok1.c,hP.2.up U⟩) [] sH ?CNa1 ?_;case CNa1=>rfl
   rintro (_|v1) G1 h1 N1 J1
   ·conv=>whnf
    rw [c1] at J1;simp only [J1] at hy;exact aB.pan Tryz.func197 (jP.mk (N.trans N1) (none) (fun h U=>hy) [] sH rfl rfl (aQ rfl))
   obtain ⟨m1,hm1,R1⟩:=J1;have U1:=Now.step N.gsub N1;obtain ⟨a1,d1,rfl⟩:=RoF.sli R1 (aE Cd.row m1);rw [c1] at hm1;simp only [hm1] at hy;conv=>whnf
   try refine oB ?_
   refine sqr ?_;refine aK.callX (N1.gsub) (aEV _ i1.inn (by rw [c2];exact hi)) (fun h U=>⟨RoF.up (U1.trans U) ok1.i,hP.2.up (U1.trans U)⟩) [] sH ?CNa2 ?_;case CNa2=>rfl
   rintro (_|v2) G2 h2 N2 J2
   ·conv=>whnf
    rw [c2] at J2;simp only [J2] at hy;exact aB.pan Tryz.func197 (jP.mk ((N.trans N1).trans N2) (none) (fun h U=>hy) [] sH rfl rfl (aQ rfl))
   obtain ⟨m2,hm2,R2⟩:=J2;have U2:=Now.step N1.gsub N2;obtain ⟨a2,d2,rfl⟩:=RoF.sli R2 (aE Am.row m2);rw [c2] at hm2;simp only [hm2] at hy;conv=>whnf
   try refine oB ?_
   refine sqr ?_;refine aK.callX (N2.gsub) (aEV _ i1.out (by rw [c3];exact ho)) (fun h U=>⟨RoF.up (U1.trans (U2.trans U)) ok1.o,hP.2.up (U1.trans (U2.trans U))⟩) [] sH ?CNa3 ?_;case CNa3=>rfl
   rintro (_|v3) G3 h3 N3 J3
   ·conv=>whnf
    rw [c3] at J3;simp only [J3] at hy;exact aB.pan Tryz.func197 (jP.mk (((N.trans N1).trans N2).trans N3) (none) (fun h U=>hy) [] sH rfl rfl (aQ rfl))
   obtain ⟨m3,hm3,R3⟩:=J3;have U3:=Now.step N2.gsub N3;obtain ⟨a3,d3,rfl⟩:=RoF.sli R3 (aE Am.row m3);rw [c3] at hm3;simp only [hm3] at hy;conv=>whnf
   try refine oB ?_
   refine sqr ?_;refine aK.rput tab (_) (hr1) ?_;conv=>whnf
   try refine oB ?_
   refine sqr ?_;refine aK.rput tab (_) (jD hr1) ?_;conv=>whnf
   try refine oB ?_
   refine sqr ?_;refine aK.rput tab (_) (jD (jD hr1)) ?_;conv=>whnf
   try refine oB ?_
   refine sqr ?_;refine sqs ?_;refine ⟨_,jD (jD (jD hr1)),?_⟩;conv=>whnf
   have U4:=U1.trans (U2.trans (U3.trans ⟨N3.gsub,fun _ _=>rfl⟩));refine aA.callT (pZ.tok _ _ _ _ _ _ _ _ _ _) (⟨RoF.up U4 ok1.rn,hP.2.up U4⟩) (bCW _ i1.runs (by rw [c4];exact hn)) [1] sH ?CNa4 ?_;case CNa4=>rfl
   rintro x hx;rw [c4] at hx
   cases hm:cH (pQ s) i.runs with
   |none=>
    rw [hm] at hx;subst hx;simp only [hm] at hy;conv=>whnf
    exact aB.pan Tryz.func197 (jP.mk (((N.trans N1).trans N2).trans N3) (none) (fun h U=>hy) [] sH rfl rfl (aQ rfl))
   |some m4=>
    rw [hm] at hx;subst hx;simp only [hm] at hy;refine sqv ?_;refine aA.conc (n:=m4.length) (N3.gsub) 2 ?_ (hlen:=aE Rn.row m4);intro a4 d4 G4 h4 N4 R4;refine sqv ?_;have U5:=Now.step N3.gsub N4;refine ⟨_,jD (jD (jD hr1)),?_⟩;conv=>whnf
    subst hrs;subst hi1;refine aA.rowsEq 0 ((set5 rows k _ _ _ _ _).trans (show _=rows.set k (RcV.row {i with inum:=(u:Nat),pnum:=(p:Nat),hc:=⟨a1,d1⟩,cs:=m1,hi:=⟨a2,d2⟩,inn:=m2,ho:=⟨a3,d3⟩,out:=m3,hr:=⟨a4,d4⟩,runs:=m4}) from rfl)) ?_;conv=>whnf
    exact zU (aB.ret tab Tryz.func197 rfl (eX ((((N.trans N1).trans N2).trans N3).trans N4) (some {i with inum:=(u:Nat),pnum:=(p:Nat),hc:=⟨a1,d1⟩,cs:=m1,hi:=⟨a2,d2⟩,inn:=m2,ho:=⟨a3,d3⟩,out:=m3,hr:=⟨a4,d4⟩,runs:=m4}) (fun h U=>⟨by rw [hy];rfl,RoF.up (U2.trans (U3.trans (U5.trans U))) R1,RoF.up (U3.trans (U5.trans U)) R2,RoF.up (U5.trans U) R3,RoF.up U R4⟩)))
end

section
variable {α β:Type} {f:α->List Value} {l m:List α} {k:Nat}
theorem aMB (hk:k<l.length) (e:m.length=k):(rws f (m++l.drop k)).length=l.length:=by
 rw [aE,List.length_append,List.length_drop];omega
theorem aKK (hk:k<l.length) (e:m.length=k):(rws f (m++l.drop k))[k]? = some (f l[k]):=by
 subst e;rw [rws,List.map_append,List.getElem?_append_right (by simp)]
 simp [hk]
theorem aLS (hk:k<l.length) (e:m.length=k) (y:α):(rws f (m++l.drop k)).set k (f y)=rws f ((m++[y])++l.drop (k+1)):=by
 subst e;have e:l.drop m.length=l[m.length]::l.drop (m.length+1):=(List.getElem_cons_drop ..).symm;rw [e];simp only [rws,List.map_append,List.map_cons,List.map_nil];rw [List.set_append_right _ _ (by simp)]
 simp
theorem aJO (e:m.length=l.length):rws f (m++l.drop l.length)=rws f m:=by rw [List.drop_length,List.append_nil]
theorem aIT {g:α->Option β} (hk:k<l.length) {a:List β} {b:β} (h1:cH g (l.take k)=some a) (h2:g l[k]=some b):cH g (l.take (k+1))=some (a++[b]):=by
 obtain ⟨e,h⟩:=rQ.1 h1;rw [List.length_take,Nat.min_eq_left (Nat.le_of_lt hk)] at e;refine rQ.2 ⟨by rw [List.length_append,e,List.length_take,Nat.min_eq_left hk];rfl,fun i h3 h4=>?_⟩;rw [List.length_take,Nat.min_eq_left hk] at h3;rw [List.getElem_take];rcases Nat.lt_or_eq_of_le (Nat.le_of_lt_succ h3) with h5|rfl
 ·rw [List.getElem_append_left (by omega)];have:=h i (by rw [List.length_take,Nat.min_eq_left (Nat.le_of_lt hk)];exact h5) (by omega);rw [List.getElem_take] at this;exact this
 rw [List.getElem_append_right (by omega)]
 simp [e,h2]
theorem aRC {p:α->Prop} {y:α} (h:∀a∈m,p a) (hy:p y):∀a∈m++[y],p a:=fun a ha=>by
 rcases List.mem_append.1 ha with ha|ha
 ·exact h a ha
 rw [List.mem_singleton.1 ha];exact hy
end
section
variable {s:aG} {mU mI mP mM mO vC:Value}
abbrev bAX {α:Type} (row:α->List Value) (e sz:Nat) (mU mI mP mM mO vC:Value):Option (List α)->eR
 |some m=>.ret (.buf 1) 2 [(1,.own e sz (rws row m)),gZ 0 mU mI mP mM mO vC]
 |none=>.pan nD 1 []
theorem bAI (v:Value) (l:List FbV) (hb:l.length<=1000000) (hs:∀a∈l,a.cs.length<=1000000):FnX Tryz.prog 193 1 [.v v,.fn (.func 194) [] [.ptr 0 0]] [gZ 0 mU mI mP mM mO vC] (fun G h=>pZ v 1 (rws FbV.row l) s mU mI mP mM mO vC G h /\ ∀a∈l,a.ok G h)
  (fun (x:Option (List FbV)) G h=>match x with
   |some m=>cH (fun a=>(pS s a).map FbV.bare) l=some (m.map FbV.bare) /\ ∀a∈m,a.ok G h
   |none=>cH (fun a=>(pS s a).map FbV.bare) l=none) (bAX FbV.row 45 1 mU mI mP mM mO vC):=by
 have hl:=aE FbV.row l;refine zX Tryz.func193 Tryz.ntmps193 fun E0 F G h N hP w0 cs=>?_;refine aA.nameAt (fun _ x=>x) 6 (by exact RoF.up ⟨N.gsub,fun _ _=>rfl⟩ hP.1.1) ?_;refine sqv ?_;refine zN (aRP (rws FbV.row l) (by omega)) [1] ?_;refine sqs ?_;refine aA.subR [] (aA.loopB (fun (⟨k,m,F1,G1,h1⟩:Nat×List FbV×(Nat->Prop)×(Nat->Prop)×Array Obj)=>(F1,h1)) (fun (⟨k,m,F1,G1,h1⟩:Nat×List FbV×(Nat->Prop)×(Nat->Prop)×Array Obj)=>[(10,nV k),(9,nV ((rws FbV.row l).length)),(0,.buf 2),(1,.fn (.func 194) [] [.ptr 0 0])]) (fun (⟨k,m,F1,G1,h1⟩:Nat×List FbV×(Nat->Prop)×(Nat->Prop)×Array Obj)=>[(2,.own 45 1 (rws FbV.row (m++l.drop k))),gZ 0 mU mI mP mM mO vC]) 3 (fun (⟨k,m,F1,G1,h1⟩:Nat×List FbV×(Nat->Prop)×(Nat->Prop)×Array Obj)=>Now F G h F1 G1 h1/\k<=l.length/\m.length=k/\cH (fun a=>(pS s a).map FbV.bare) (l.take k)=some (m.map FbV.bare) /\ ∀a∈m,a.ok G1 h1) (fun (⟨k,m,F1,G1,h1⟩:Nat×List FbV×(Nat->Prop)×(Nat->Prop)×Array Obj)=>l.length - k) ?round2 (⟨0,[],F,G,h⟩) ?J02) sH sH;case J02=>exact (⟨N,Nat.zero_le _,rfl,rfl,fun _ h=>absurd h List.not_mem_nil⟩)
 rintro ⟨k,m,F1,G1,h1⟩ hJ back;try dsimp only at hJ back
 conv=>whnf
 try dsimp only
 refine gS ?_;conv=>whnf
 refine ⟨fun hk=>?_,fun hk=>?_⟩<;>conv=>whnf
 ·obtain ⟨N1,_,em,ea,ho⟩:=hJ;have U1:=Now.step N.gsub N1;have hk:k<l.length:=by omega
  have hm:=aMB (f:=FbV.row) hk em;refine sI ?_;refine aA.callX (N1.gsub) (clFb_fn _ k l[k] (aKK hk em) (hs _ (List.getElem_mem hk))) (fun h U=>⟨(hP.2 _ (List.getElem_mem hk)).up (U1.trans U),hP.1.2.up (U1.trans U)⟩) [2,0] sH ?CNa3 ?_;case CNa3=>rfl
  rintro (_|j) G2 h2 N2 J2
  ·conv=>whnf
   have e:pS s l[k]=none:=by unfold pS;rw [show _=none from J2];rfl
   exact aB.pan Tryz.func193 (jP.mk (N.trans (N1.trans N2)) (none) (fun h U=>iM.2 ⟨l[k],List.getElem_mem hk,by rw [e];rfl⟩) [] sH rfl rfl (aQ rfl))
  have e:(pS s l[k]).map FbV.bare=some j.bare:=by unfold pS;rw [J2.1];rfl
  refine bFU ?_;refine aA.rowsEq 2 (aLS hk em j) ?_;conv=>whnf
  have U2:=Now.step N1.gsub N2;exact zb (back (⟨k+1,m++[j],_,G2,h2⟩) ((⟨N1.trans N2,hk,by rw [List.length_append,em];rfl,by rw [List.map_append];exact aIT hk ea e,aRC (fun a ha=>(ho a ha).up U2) J2.2⟩)) (by (try dsimp only);omega))
 obtain ⟨N1,_,em,ea,ho⟩:=hJ;have hk:k=l.length:=by omega
 clear back;subst hk;rw [List.take_length] at ea;conv=>whnf
 refine aA.rowsEq 2 (aJO em) ?_;conv=>whnf
 exact zU (aB.ret tab Tryz.func193 rfl (jP.mk (N.trans N1) (some m) (fun h U=>⟨ea,fun a ha=>(ho a ha).up U⟩) [(1,2)] sH rfl rfl (bH rfl rfl)))
theorem bBW (v:Value) (l:List RcV) (hb:l.length<=1000000) (hs:∀a∈l,a.cs.length<=1000000/\a.inn.length<=1000000/\a.out.length<=1000000/\a.runs.length<=1000000):FnX Tryz.prog 196 1 [.v v,.fn (.func 197) [] [.ptr 0 0]] [gZ 0 mU mI mP mM mO vC] (fun G h=>pZ v 17 (rws RcV.row l) s mU mI mP mM mO vC G h /\ ∀a∈l,a.ok G h)
  (fun (x:Option (List RcV)) G h=>match x with
   |some m=>cH (fun a=>(nP s a).map RcV.bare) l=some (m.map RcV.bare) /\ ∀a∈m,a.ok G h
   |none=>cH (fun a=>(nP s a).map RcV.bare) l=none) (bAX RcV.row 49 17 mU mI mP mM mO vC):=by
 have hl:=aE RcV.row l;refine zX Tryz.func196 Tryz.ntmps196 fun E0 F G h N hP w0 cs=>?_;refine aA.nameAt (fun _ x=>x) 6 (by exact RoF.up ⟨N.gsub,fun _ _=>rfl⟩ hP.1.1) ?_;refine sqv ?_;refine zN (aQV (rws RcV.row l) (by omega)) [1] ?_;refine sqs ?_;refine aA.subR [] (aA.loopB (fun (⟨k,m,F1,G1,h1⟩:Nat×List RcV×(Nat->Prop)×(Nat->Prop)×Array Obj)=>(F1,h1)) (fun (⟨k,m,F1,G1,h1⟩:Nat×List RcV×(Nat->Prop)×(Nat->Prop)×Array Obj)=>[(10,nV k),(9,nV ((rws RcV.row l).length)),(0,.buf 2),(1,.fn (.func 197) [] [.ptr 0 0])]) (fun (⟨k,m,F1,G1,h1⟩:Nat×List RcV×(Nat->Prop)×(Nat->Prop)×Array Obj)=>[(2,.own 49 17 (rws RcV.row (m++l.drop k))),gZ 0 mU mI mP mM mO vC]) 3 (fun (⟨k,m,F1,G1,h1⟩:Nat×List RcV×(Nat->Prop)×(Nat->Prop)×Array Obj)=>Now F G h F1 G1 h1/\k<=l.length/\m.length=k/\cH (fun a=>(nP s a).map RcV.bare) (l.take k)=some (m.map RcV.bare) /\ ∀a∈m,a.ok G1 h1) (fun (⟨k,m,F1,G1,h1⟩:Nat×List RcV×(Nat->Prop)×(Nat->Prop)×Array Obj)=>l.length - k) ?round6 (⟨0,[],F,G,h⟩) ?J06) sH sH;case J06=>exact (⟨N,Nat.zero_le _,rfl,rfl,fun _ h=>absurd h List.not_mem_nil⟩)
 rintro ⟨k,m,F1,G1,h1⟩ hJ back;try dsimp only at hJ back
 conv=>whnf
 try dsimp only
 refine gS ?_;conv=>whnf
 refine ⟨fun hk=>?_,fun hk=>?_⟩<;>conv=>whnf
 ·obtain ⟨N1,_,em,ea,ho⟩:=hJ;have U1:=Now.step N.gsub N1;have hk:k<l.length:=by omega
  have hm:=aMB (f:=RcV.row) hk em;refine sI ?_;refine aA.callX (N1.gsub) (clRc_fn _ k l[k] (aKK hk em) (hs _ (List.getElem_mem hk)).1 (hs _ (List.getElem_mem hk)).2.1 (hs _ (List.getElem_mem hk)).2.2.1 (hs _ (List.getElem_mem hk)).2.2.2) (fun h U=>⟨(hP.2 _ (List.getElem_mem hk)).up (U1.trans U),hP.1.2.up (U1.trans U)⟩) [2,0] sH ?CNa7 ?_;case CNa7=>rfl
  rintro (_|j) G2 h2 N2 J2
  ·conv=>whnf
   have e:nP s l[k]=none:=J2;exact aB.pan Tryz.func196 (jP.mk (N.trans (N1.trans N2)) (none) (fun h U=>iM.2 ⟨l[k],List.getElem_mem hk,by rw [e];rfl⟩) [] sH rfl rfl (aQ rfl))
  have e:(nP s l[k]).map RcV.bare=some j.bare:=J2.1;refine bFU ?_;refine aA.rowsEq 2 (aLS hk em j) ?_;conv=>whnf
  have U2:=Now.step N1.gsub N2;exact zb (back (⟨k+1,m++[j],_,G2,h2⟩) ((⟨N1.trans N2,hk,by rw [List.length_append,em];rfl,by rw [List.map_append];exact aIT hk ea e,aRC (fun a ha=>(ho a ha).up U2) J2.2⟩)) (by (try dsimp only);omega))
 obtain ⟨N1,_,em,ea,ho⟩:=hJ;have hk:k=l.length:=by omega
 clear back;subst hk;rw [List.take_length] at ea;conv=>whnf
 refine aA.rowsEq 2 (aJO em) ?_;conv=>whnf
 exact zU (aB.ret tab Tryz.func196 rfl (jP.mk (N.trans N1) (some m) (fun h U=>⟨ea,fun a ha=>(ho a ha).up U⟩) [(1,2)] sH rfl rfl (bH rfl rfl)))
theorem bAL (v:Value) (l:List OpV) (hb:l.length<=1000000) (hs:∀a∈l,a.ch.length<=1000000):FnX Tryz.prog 191 0 [.v v,.v (.func (.func 192) #[] #[])] [] (fun G h=>RoF G h v 2 (rws OpV.row l) /\ ∀a∈l,a.ok G h)
  (fun (m:List OpV) G h=>l.map OpV.bare=m.map OpV.bare /\ ∀a∈m,a.ok G h) (fun m=>.ret (.buf 0) 1 [(0,.own 102 2 (rws OpV.row m))]):=by
 have hl:=aE OpV.row l;refine zX Tryz.func191 Tryz.ntmps191 fun E0 F G h N hP w0 cs=>?_;refine aA.nameAt (fun _ x=>x) 6 (by exact RoF.up ⟨N.gsub,fun _ _=>rfl⟩ hP.1) ?_;refine sqv ?_;refine zN (aQG (rws OpV.row l) (by omega)) [0] ?_;refine sqs ?_;refine aA.subR [] (aA.loopB (fun (⟨k,m,F1,G1,h1⟩:Nat×List OpV×(Nat->Prop)×(Nat->Prop)×Array Obj)=>(F1,h1)) (fun (⟨k,m,F1,G1,h1⟩:Nat×List OpV×(Nat->Prop)×(Nat->Prop)×Array Obj)=>[(10,nV k),(9,nV ((rws OpV.row l).length)),(0,.buf 1),(1,.v (.func (.func 192) #[] #[]))]) (fun (⟨k,m,F1,G1,h1⟩:Nat×List OpV×(Nat->Prop)×(Nat->Prop)×Array Obj)=>[(1,.own 102 2 (rws OpV.row (m++l.drop k)))]) 2 (fun (⟨k,m,F1,G1,h1⟩:Nat×List OpV×(Nat->Prop)×(Nat->Prop)×Array Obj)=>Now F G h F1 G1 h1/\k<=l.length/\m.length=k/\(l.take k).map OpV.bare=m.map OpV.bare /\ ∀a∈m,a.ok G1 h1) (fun (⟨k,m,F1,G1,h1⟩:Nat×List OpV×(Nat->Prop)×(Nat->Prop)×Array Obj)=>l.length - k) ?round10 (⟨0,[],F,G,h⟩) ?J010) sH sH;case J010=>exact (⟨N,Nat.zero_le _,rfl,rfl,fun _ h=>absurd h List.not_mem_nil⟩)
 rintro ⟨k,m,F1,G1,h1⟩ hJ back;try dsimp only at hJ back
 conv=>whnf
 try dsimp only
 refine gS ?_;conv=>whnf
 refine ⟨fun hk=>?_,fun hk=>?_⟩<;>conv=>whnf
 ·obtain ⟨N1,_,em,ea,ho⟩:=hJ;have U1:=Now.step N.gsub N1;have hk:k<l.length:=by omega
  have hm:=aMB (f:=OpV.row) hk em;refine sI ?_;refine aA.callX (N1.gsub) (clOp_fn _ k l[k] (aKK hk em) (hs _ (List.getElem_mem hk))) (fun h U=>(hP.2 _ (List.getElem_mem hk)).up (U1.trans U)) [1] sH ?CNa11 ?_;case CNa11=>rfl
  rintro x G2 h2 N2 J2;refine bFU ?_;refine aA.rowsEq 1 (aLS hk em _) ?_;conv=>whnf
  have U2:=Now.step N1.gsub N2;exact zb (back (⟨k+1,m++[{l[k] with hd:=x}],_,G2,h2⟩) ((⟨N1.trans N2,hk,by rw [List.length_append,em];rfl,by rw [List.map_append,rP hk,List.map_append,ea];rfl,aRC (fun a ha=>(ho a ha).up U2) J2⟩)) (by (try dsimp only);omega))
 obtain ⟨N1,_,em,ea,ho⟩:=hJ;have hk:k=l.length:=by omega
 clear back;subst hk;rw [List.take_length] at ea;conv=>whnf
 refine aA.rowsEq 1 (aJO em) ?_;conv=>whnf
 exact zU (aB.ret tab Tryz.func191 rfl (jP.mk (N.trans N1) (m) (fun h U=>⟨ea,fun a ha=>(ho a ha).up U⟩) [(0,1)] sH rfl rfl (bH rfl rfl)))
end
end Go.Proofs.YthjedpdedjhndaaGreatDoor

namespace Go.SrcM
open Go Go.Fw Go.RatM
structure pW (G:Nat->Prop) (h:Array Obj) (vU vI vP vM vO vF vR vS:Value) (s:aG):Prop where
 U:RoF G h vU 8 (aL s.units)
 I:RoF G h vI 6 (rws It.row s.items)
 P:RoF G h vP 1 (bV s.plants)
 M:RoF G h vM 4 (rws Mc.row s.machines)
 O:RoF G h vO 2 (rws OpV.row s.options)
 F:RoF G h vF 1 (rws FbV.row s.forbids)
 R:RoF G h vR 17 (rws RcV.row s.recipes)
 S:RoF G h vS 4 (rws Sw.row s.swaps)
 below:s.sub G h
theorem pW.up {G G':Nat->Prop} {h h':Array Obj} {vU vI vP vM vO vF vR vS:Value} {s:aG} (H:pW G h vU vI vP vM vO vF vR vS s) (U:Up G h G' h'):pW G' h' vU vI vP vM vO vF vR vS s:=
 ⟨RoF.up U H.U,RoF.up U H.I,RoF.up U H.P,RoF.up U H.M,RoF.up U H.O,RoF.up U H.F,RoF.up U H.R,RoF.up U H.S,H.below.up U⟩
structure Lens (s:aG):Prop where
 U:s.units.length<=1000000
 I:s.items.length<=1000000
 P:s.plants.length<=1000000
 M:s.machines.length<=1000000
 O:s.options.length<=1000000
 F:s.forbids.length<=1000000
 R:s.recipes.length<=1000000
 S:s.swaps.length<=1000000
 o:∀a∈s.options,a.ch.length<=1000000
 f:∀a∈s.forbids,a.cs.length<=1000000
 r:∀a∈s.recipes,a.cs.length<=1000000/\a.inn.length<=1000000/\a.out.length<=1000000/\a.runs.length<=1000000
theorem qK {α β γ:Type} {f:α->Option β} {b:β->γ}:∀l:List α,cH (fun a=>(f a).map b) l=(cH f l).map (List.map b)
 | []=>rfl
 |a::l=>by
  simp only [cH]
  cases f a with
  |none=>rfl
  |some x=>
   rw [qK l];cases cH f l<;>rfl
end Go.SrcM
namespace Go.Proofs.YthjedpdedjhndaaGreatDoor
open Go Go.Fw Go.NatM Go.RatM Go.SrcM
section
variable {s:aG} {mU mI mP mM mO vC:Value}
abbrev srcOut:Option (aG×Value×Value×Value×Value×Value×Value×Value×Value)->eR
 |some (_,vU,vI,vP,vM,vO,vF,vR,vS)=>.ret (.agg [.v vU,.v vI,.v vP,.v vM,.v vO,.v vF,.v vR,.v vS]) 0 []
 |none=>.pan nD 0 []
theorem aWF (vU vI vP vM vO vF vR vS:Value) (hL:Lens s):FnX Tryz.prog 94 0 [.agg [.v mU,.v mI,.v mP,.v mM,.v mO,.v vC],.agg [.v vU,.v vI,.v vP,.v vM,.v vO,.v vF,.v vR,.v vS]] [] (fun G h=>pW G h vU vI vP vM vO vF vR vS s/\vW G h s mU mI mP mM mO vC)
  (fun x G h=>match x with
   |some (t,wU,wI,wP,wM,wO,wF,wR,wS)=>(SrcM.resS s).map aG.bare=some t.bare/\t.units=s.units/\pW G h wU wI wP wM wO wF wR wS t
   |none=>SrcM.resS s=none) srcOut:=by
 obtain ⟨y,hy⟩:∃y,y=SrcM.resS s:=⟨_,rfl⟩;rw [<-hy];unfold SrcM.resS at hy;refine zX Tryz.func94 Tryz.ntmps94 fun E0 F G h N hP w0 cs=>?_;obtain ⟨aU,cU,rfl⟩:=RoF.sli hP.1.U rfl;have T0:=N;have V0:=Now.step N.gsub N;refine aA.callT (pZ.tok _ _ _ _ _ _ _ _ _ _) (⟨RoF.up (V0.trans ⟨T0.gsub,fun _ _=>rfl⟩) hP.1.I,hP.2.up (V0.trans ⟨T0.gsub,fun _ _=>rfl⟩)⟩) (bAN vI s.items hL.I) [0] sH ?CNa1 ?_;case CNa1=>rfl
 rintro x1 hx1
 cases hm1:cH (oI s) s.items with
 |none=>
  rw [hm1] at hx1;subst hx1;simp only [hm1] at hy;conv=>whnf
  exact aB.pan Tryz.func94 (jP.mk (T0) (none) (fun h U=>hy) [] sH rfl rfl (aQ rfl))
 |some m1=>
 rw [hm1] at hx1;subst hx1;simp only [hm1] at hy;refine sqv ?_;refine aA.conc (n:=m1.length) (T0.gsub) 3 ?_ (hlen:=aE It.row m1);intro a1 c1 G1 h1 N1 R1;refine sqv ?_;have T1:=T0.trans N1;have V1:=Now.step N.gsub T1;have W1:=Now.step T0.gsub N1;refine zQ 3 [(11,.v vP),(2,.ptr 0 0),(3,.ptr 1 0),(4,.ptr 2 0)] [gZ 0 mU mI mP mM mO vC,(1,.cells 31 [.v (.slice aU (aL s.units).length cU),.v (.slice a1 m1.length c1),.v vP,.v vM,.v vO,.v vF,.v vR,.v vS]),(2,.cells 31 [.v (.slice none 0 0),.v (.slice none 0 0),.v (.slice none 0 0),.v (.slice none 0 0),.v (.slice none 0 0),.v (.slice none 0 0),.v (.slice none 0 0),.v (.slice none 0 0)])] ?_;refine aA.nameAt (fun _ x=>x) 11 (by exact RoF.up (V1.trans ⟨T1.gsub,fun _ _=>rfl⟩) hP.1.P) ?_;refine sqv ?_;refine zN (aEH (bV s.plants) (by rw [cK];exact hL.P)) [3] ?_;refine sqs ?_;refine aA.conc (n:=s.plants.length) (T1.gsub) 4 ?_ (hlen:=cK s.plants);intro a2 c2 G2 h2 N2 R2;refine sqv ?_;have T2:=T1.trans N2;have V2:=Now.step N.gsub T2;have W2:=Now.step T1.gsub N2;refine zQ 3 [(15,.v vM),(16,.fn (.func 190) [] [.ptr 0 0]),(2,.ptr 0 0),(3,.ptr 1 0),(4,.ptr 2 0)] [gZ 0 mU mI mP mM mO vC,(1,.cells 31 [.v (.slice aU (aL s.units).length cU),.v (.slice a1 m1.length c1),.v (.slice a2 s.plants.length c2),.v vM,.v vO,.v vF,.v vR,.v vS]),(2,.cells 31 [.v (.slice none 0 0),.v (.slice none 0 0),.v (.slice none 0 0),.v (.slice none 0 0),.v (.slice none 0 0),.v (.slice none 0 0),.v (.slice none 0 0),.v (.slice none 0 0)])] ?_;refine aA.callT (pZ.tok _ _ _ _ _ _ _ _ _ _) (⟨RoF.up (V2.trans ⟨T2.gsub,fun _ _=>rfl⟩) hP.1.M,hP.2.up (V2.trans ⟨T2.gsub,fun _ _=>rfl⟩)⟩) (bAS vM s.machines hL.M) [0] sH ?CNa3 ?_;case CNa3=>rfl
 rintro x3 hx3
 cases hm3:cH (pH s) s.machines with
 |none=>
  rw [hm3] at hx3;subst hx3;simp only [hm3] at hy;conv=>whnf
  exact aB.pan Tryz.func94 (jP.mk (T2) (none) (fun h U=>hy) [] sH rfl rfl (aQ rfl))
 |some m3=>
 rw [hm3] at hx3;subst hx3;simp only [hm3] at hy;refine sqv ?_;refine aA.conc (n:=m3.length) (T2.gsub) 3 ?_ (hlen:=aE Mc.row m3);intro a3 c3 G3 h3 N3 R3;refine sqv ?_;have T3:=T2.trans N3;have V3:=Now.step N.gsub T3;have W3:=Now.step T2.gsub N3;refine zQ 3 [(20,.v vO),(2,.ptr 0 0),(3,.ptr 1 0),(4,.ptr 2 0)] [gZ 0 mU mI mP mM mO vC,(1,.cells 31 [.v (.slice aU (aL s.units).length cU),.v (.slice a1 m1.length c1),.v (.slice a2 s.plants.length c2),.v (.slice a3 m3.length c3),.v vO,.v vF,.v vR,.v vS]),(2,.cells 31 [.v (.slice none 0 0),.v (.slice none 0 0),.v (.slice none 0 0),.v (.slice none 0 0),.v (.slice none 0 0),.v (.slice none 0 0),.v (.slice none 0 0),.v (.slice none 0 0)])] ?_;refine aA.callX (T3.gsub) (bAL vO s.options hL.O hL.o) (fun h U=>⟨RoF.up (V3.trans U) hP.1.O,fun a ha=>(hP.1.below.o a ha).up (V3.trans U)⟩) [] sH ?CNa4 ?_;case CNa4=>rfl
 rintro m4 G4 h4 N4 J4;refine sqv ?_;have T4:=T3.trans N4;have V4:=Now.step N.gsub T4;have W4:=Now.step T3.gsub N4;refine aA.conc (n:=m4.length) (T4.gsub) 3 ?_ (hlen:=aE OpV.row m4);intro a5 c5 G5 h5 N5 R5;refine sqv ?_;have T5:=T4.trans N5;have V5:=Now.step N.gsub T5;have W5:=Now.step T4.gsub N5;refine zQ 3 [(24,.v vF),(25,.fn (.func 194) [] [.ptr 0 0]),(2,.ptr 0 0),(3,.ptr 1 0),(4,.ptr 2 0)] [gZ 0 mU mI mP mM mO vC,(1,.cells 31 [.v (.slice aU (aL s.units).length cU),.v (.slice a1 m1.length c1),.v (.slice a2 s.plants.length c2),.v (.slice a3 m3.length c3),.v (.slice a5 m4.length c5),.v vF,.v vR,.v vS]),(2,.cells 31 [.v (.slice none 0 0),.v (.slice none 0 0),.v (.slice none 0 0),.v (.slice none 0 0),.v (.slice none 0 0),.v (.slice none 0 0),.v (.slice none 0 0),.v (.slice none 0 0)])] ?_;refine aA.callX (T5.gsub) (bAI vF s.forbids hL.F hL.f) (fun h U=>⟨⟨RoF.up (V5.trans U) hP.1.F,hP.2.up (V5.trans U)⟩,fun a ha=>(hP.1.below.f a ha).up (V5.trans U)⟩) [0] sH ?CNa5 ?_;case CNa5=>rfl
 rintro (_|m6) G6 h6 N6 J6
 ·conv=>whnf
  rw [qK] at J6;simp only [Option.map_eq_none_iff.1 J6] at hy;exact aB.pan Tryz.func94 (jP.mk (T5.trans N6) (none) (fun h U=>hy) [] sH rfl rfl (aQ rfl))
 have e6:=J6.1;rw [qK] at e6;obtain ⟨l6,hm6,b6⟩:=aKR e6;simp only [hm6] at hy;have T6:=T5.trans N6;have V6:=Now.step N.gsub T6;have W6:=Now.step T5.gsub N6;refine sqv ?_;refine aA.conc (n:=m6.length) (T6.gsub) 3 ?_ (hlen:=aE FbV.row m6);intro a7 c7 G7 h7 N7 R7;refine sqv ?_;have T7:=T6.trans N7;have V7:=Now.step N.gsub T7;have W7:=Now.step T6.gsub N7;refine zQ 3 [(29,.v vR),(30,.fn (.func 197) [] [.ptr 0 0]),(2,.ptr 0 0),(3,.ptr 1 0),(4,.ptr 2 0)] [gZ 0 mU mI mP mM mO vC,(1,.cells 31 [.v (.slice aU (aL s.units).length cU),.v (.slice a1 m1.length c1),.v (.slice a2 s.plants.length c2),.v (.slice a3 m3.length c3),.v (.slice a5 m4.length c5),.v (.slice a7 m6.length c7),.v vR,.v vS]),(2,.cells 31 [.v (.slice none 0 0),.v (.slice none 0 0),.v (.slice none 0 0),.v (.slice none 0 0),.v (.slice none 0 0),.v (.slice none 0 0),.v (.slice none 0 0),.v (.slice none 0 0)])] ?_;refine aA.callX (T7.gsub) (bBW vR s.recipes hL.R hL.r) (fun h U=>⟨⟨RoF.up (V7.trans U) hP.1.R,hP.2.up (V7.trans U)⟩,fun a ha=>(hP.1.below.r a ha).up (V7.trans U)⟩) [0] sH ?CNa6 ?_;case CNa6=>rfl
 rintro (_|m8) G8 h8 N8 J8
 ·conv=>whnf
  rw [qK] at J8;simp only [Option.map_eq_none_iff.1 J8] at hy;exact aB.pan Tryz.func94 (jP.mk (T7.trans N8) (none) (fun h U=>hy) [] sH rfl rfl (aQ rfl))
 have e8:=J8.1;rw [qK] at e8;obtain ⟨l8,hm8,b8⟩:=aKR e8;simp only [hm8] at hy;have T8:=T7.trans N8;have V8:=Now.step N.gsub T8;have W8:=Now.step T7.gsub N8;refine sqv ?_;refine aA.conc (n:=m8.length) (T8.gsub) 3 ?_ (hlen:=aE RcV.row m8);intro a9 c9 G9 h9 N9 R9;refine sqv ?_;have T9:=T8.trans N9;have V9:=Now.step N.gsub T9;have W9:=Now.step T8.gsub N9;refine zQ 3 [(34,.v vS),(35,.fn (.func 202) [] [.ptr 0 0]),(2,.ptr 0 0),(3,.ptr 1 0),(4,.ptr 2 0)] [gZ 0 mU mI mP mM mO vC,(1,.cells 31 [.v (.slice aU (aL s.units).length cU),.v (.slice a1 m1.length c1),.v (.slice a2 s.plants.length c2),.v (.slice a3 m3.length c3),.v (.slice a5 m4.length c5),.v (.slice a7 m6.length c7),.v (.slice a9 m8.length c9),.v vS]),(2,.cells 31 [.v (.slice none 0 0),.v (.slice none 0 0),.v (.slice none 0 0),.v (.slice none 0 0),.v (.slice none 0 0),.v (.slice none 0 0),.v (.slice none 0 0),.v (.slice none 0 0)])] ?_;refine aA.callT (pZ.tok _ _ _ _ _ _ _ _ _ _) (⟨RoF.up (V9.trans ⟨T9.gsub,fun _ _=>rfl⟩) hP.1.S,hP.2.up (V9.trans ⟨T9.gsub,fun _ _=>rfl⟩)⟩) (bCP vS s.swaps hL.S) [0] sH ?CNa7 ?_;case CNa7=>rfl
 rintro x10 hx10
 cases hm10:cH (nS s) s.swaps with
 |none=>
  rw [hm10] at hx10;subst hx10;simp only [hm10] at hy;conv=>whnf
  exact aB.pan Tryz.func94 (jP.mk (T9) (none) (fun h U=>hy) [] sH rfl rfl (aQ rfl))
 |some m10=>
 rw [hm10] at hx10;subst hx10;simp only [hm10] at hy;conv=>whnf
 refine aA.conc (n:=m10.length) (T9.gsub) 3 ?_ (hlen:=aE Sw.row m10);intro a10 c10 G10 h10 N10 R10;refine sqv ?_;have T10:=T9.trans N10;have V10:=Now.step N.gsub T10;have W10:=Now.step T9.gsub N10;exact zU (aB.ret tab Tryz.func94 rfl (eX (T10) (some (⟨s.units,m1,s.plants,m3,m4,m6,m8,m10⟩,_,_,_,_,_,_,_,_)) (fun h U=>⟨by rw [hy];simp only [Option.map,aG.bare,J4.1,b6,b8],rfl,RoF.up (V10.trans U) hP.1.U,RoF.up (W2.trans (W3.trans (W4.trans (W5.trans (W6.trans (W7.trans (W8.trans (W9.trans (W10.trans U))))))))) R1,RoF.up (W3.trans (W4.trans (W5.trans (W6.trans (W7.trans (W8.trans (W9.trans (W10.trans U)))))))) R2,RoF.up (W4.trans (W5.trans (W6.trans (W7.trans (W8.trans (W9.trans (W10.trans U))))))) R3,RoF.up (W6.trans (W7.trans (W8.trans (W9.trans (W10.trans U))))) R5,RoF.up (W8.trans (W9.trans (W10.trans U))) R7,RoF.up (W10.trans U) R9,RoF.up U R10,fun a ha=>(J4.2 a ha).up (W5.trans (W6.trans (W7.trans (W8.trans (W9.trans (W10.trans U)))))),fun a ha=>(J6.2 a ha).up (W7.trans (W8.trans (W9.trans (W10.trans U)))),fun a ha=>(J8.2 a ha).up (W9.trans (W10.trans U))⟩)))
end
end Go.Proofs.YthjedpdedjhndaaGreatDoor
