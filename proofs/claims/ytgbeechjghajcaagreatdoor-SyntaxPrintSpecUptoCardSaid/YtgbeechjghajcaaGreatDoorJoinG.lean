/- Texts of this seat, joined: The reference of syntax: Printable. The reference of syntax: Print. SyntaxPrintSpec: Print and Same match the specificatio -/
import Derived.Test.YtgbeechjghajcaaGreatDoorJoinF
set_option linter.unusedVariables false
set_option linter.unusedSimpArgs false
namespace Go.Proofs.YtgbeechjghajcaaGreatDoor
open Go Go.Fw Go.NatM Go.RatM Go.SrcM Go.SynM
set_option maxRecDepth 100000
set_option maxHeartbeats 99999999
theorem aTA (s:aJ):s.bare.bare=s.bare:=by
 unfold aJ.bare
 simp only [List.map_map];rfl
theorem aYS (s:aJ):(jI s).length≤ttl s:=by
 rw [←aJN (N:=NmP) vocN]
 unfold iW
 rw [List.length_map]
 exact aJH s
section
variable {vU vI vP vM vO vF vR vS:Value}
theorem yC (s:aJ) {b:Bool} (hb:b=true↔s.good NmP) (hl:(jI s).length≤65536) (hL:Lens s):FnX Tryz.prog 32 0 [sK vU vI vP vM vO vF vR vS] [] (gX · · vU vI vP vM vO vF vR vS s) (fun (_:Unit) _ _=>True) (fun _=>.ret (.v (.bool b)) 0 []):=by
 have CT:=aFI (vU:=vU) (vI:=vI) (vP:=vP) (vM:=vM) (vO:=vO) (vF:=vF) (vR:=vR) (vS:=vS) s (by omega)
 have hV:s.good NmP→AllV (jI s):=aBU
 have hR:s.good NmP→aAK (jI s)=.ok s.un []:=aVO
 have hG:∀x r,AllV (jI s)→aAK (jI s)=.ok x r→x.bare=s.un.bare→s.good NmP:=fun x r=>aUK
 obtain ⟨L,eL⟩:∃L,L=jI s:=⟨_,rfl⟩
 rw [←eL] at CT hV hR hG hl
 have lm:(L.map Tok.row).length=L.length:=List.length_map _
 refine FnX.of Tryz.func32 (by kernel_rfl) rfl Tryz.ntmps32 rfl fun E0 F G h N hP w0 cs=>?_
 conv=>whnf
 refine gS ?_;conv=>whnf
 refine aA.callY (N.gsub) (CT) (fun h U=>hP.up U) [] sH ?CNa1 ?_
 case CNa1=>rfl
 rintro _ x1 G1 h1 N1 J1
 conv=>whnf
 (try refine gS ?_);conv=>whnf
 have V1:=Now.step N.gsub N1
 refine aA.subR (nx':=1) (l':=[(1,.ptr 0 0),(3,.v (x1.v L.length)),(4,.v (.int .i64 0))]) (H':=[(0,vC vU vI vP vM vO vF vR vS)]) [] ?_ sH sH
 refine aA.nameAt (fun _ x=>x) 3 (by exact RoF.up ⟨N1.gsub,fun _ _=>rfl⟩ J1) ?_
 conv=>whnf
 (try refine gS ?_);conv=>whnf
 refine aA.subR [] (aA.loop (fun (k:Nat)=>[(1,.ptr 0 0),(3,.buf 1),(4,.v (.int .i64 k))]) (fun (k:Nat)=>[(0,vC vU vI vP vM vO vF vR vS),(1,.ro 4 (L.map Tok.row))]) 2 (fun (k:Nat)=>k≤L.length ∧ ∀t∈L.take k,eE t) (fun (k:Nat)=>L.length - k) ?round2 (0) ?J02) sH sH
 case J02=>exact (⟨Nat.zero_le _,fun t ht=>by simp at ht⟩)
 rintro k hJ back
 conv=>whnf
 refine gS ?_;conv=>whnf
 refine ⟨fun hk=>?_,fun hk=>?_⟩<;>conv=>whnf
 ·have hk:k<L.length:=by omega
  by_cases hv:eE L[k]
  ·have hall:∀t∈L.take (k+1),eE t:=fun t ht=>by
    rw [dC hk] at ht
    rcases List.mem_append.1 ht with ht|ht
    ·exact hJ.2 t ht
    rw [List.mem_singleton.1 ht];exact hv
   conv=>whnf
   repeat ((first|(guard_target=_∧_;(first|refine oL ?_|refine oR ?_))|(guard_target=Exists _;refine oM ?_));(try intro _);conv=>whnf)
   refine ⟨_,(aK (f:=Tok.row) hk),?_⟩;conv=>whnf
   try (refine oN ?_;conv=>whnf)
   refine aA.callV (fun Ez Hz Az Sz K=>xU L[k]) ?_
   conv=>whnf
   rw [decide_eq_true hv]
   (try refine gS ?_);conv=>whnf
   repeat ((first|(guard_target=_∧_;(first|refine oL ?_|refine oR ?_))|(guard_target=Exists _;refine oM ?_));(try intro _);conv=>whnf)
   refine aA.subR [] (back (k+1) (by exact (⟨hk,hall⟩)) (by (try dsimp only);omega)) sH sH
  conv=>whnf
  repeat ((first|(guard_target=_∧_;(first|refine oL ?_|refine oR ?_))|(guard_target=Exists _;refine oM ?_));(try intro _);conv=>whnf)
  refine ⟨_,(aK (f:=Tok.row) hk),?_⟩;conv=>whnf
  try (refine oN ?_;conv=>whnf)
  refine aA.callV (fun Ez Hz Az Sz K=>xU L[k]) ?_
  conv=>whnf
  rw [decide_eq_false hv]
  (try refine gS ?_);conv=>whnf
  have:b=false:=Bool.eq_false_iff.2 fun h=>hv (hV (hb.1 h) _ (List.getElem_mem hk))
  rw [this]
  try refine aA.retU ?_
  exact aE.ret tab Tryz.func32 rfl (eX (N1) (()) (fun _ _=>trivial))
 have hall:AllV L:=fun t ht=>hJ.2 t (by rw [List.take_of_length_le (by omega)];exact ht)
 clear back
 conv=>whnf
 refine aA.subR (nx':=2) (l':=[(1,.ptr 0 0),(23,.agg [.buf 1,.v (.int .i64 0),.v (.int .i64 0),.v (.int .i64 0),.v (.int .i64 0)])]) (H':=[(0,vC vU vI vP vM vO vF vR vS),(1,.ro 4 (L.map Tok.row))]) [] ?_ sH sH
 refine aA.callY (N1.gsub) (aXK L 0 hl) (fun _ _=>trivial) [1] sH ?CNa4 ?_
 case CNa4=>rfl
 rintro _ ⟨x2,t2⟩ G2 h2 N2 J2
 conv=>whnf
 refine aA.subR (nx':=10) (l':=[(1,.ptr 0 0),(24,.tup [.agg [.buf 2,.buf 3,.buf 4,.buf 5,.buf 6,.buf 7,.buf 8,.buf 9],.agg [.buf 1,.v (.int .i64 (t2.n:Int)),.v (.int .i64 0),.v (.int .i64 t2.e),.v (.int .i64 t2.pl)]])]) (H':=[(0,vC vU vI vP vM vO vF vR vS),(1,.ro 4 (L.map Tok.row)),(2,.own 81 8 (rws Un.row x2.units)),(3,.own 83 6 (rws It.row x2.items)),(4,.own 9 1 (rws iG x2.plants)),(5,.own 85 4 (rws Mc.row x2.machines)),(6,.own 50 2 (rws OpV.row x2.options)),(7,.own 53 1 (rws FbV.row x2.forbids)),(8,.own 61 17 (rws RcV.row x2.recipes)),(9,.own 89 4 (rws Sw.row x2.swaps))]) [] ?_ sH sH
 have hN:=aWM hall
 refine aA.concY (n:=x2.units.length) (N2.gsub) 2 ?_ (hlen:=aG _ _)
 intro F3 a3 c3 G3 k3 N3 R3
 conv=>whnf
 refine aA.concY (n:=x2.items.length) (N3.gsub) 3 ?_ (hlen:=aG _ _)
 intro F4 a4 c4 G4 k4 N4 R4
 conv=>whnf
 refine aA.concY (n:=x2.plants.length) (N4.gsub) 4 ?_ (hlen:=aG _ _)
 intro F5 a5 c5 G5 k5 N5 R5
 conv=>whnf
 refine aA.concY (n:=x2.machines.length) (N5.gsub) 5 ?_ (hlen:=aG _ _)
 intro F6 a6 c6 G6 k6 N6 R6
 conv=>whnf
 refine aA.concY (n:=x2.options.length) (N6.gsub) 6 ?_ (hlen:=aG _ _)
 intro F7 a7 c7 G7 k7 N7 R7
 conv=>whnf
 refine aA.concY (n:=x2.forbids.length) (N7.gsub) 7 ?_ (hlen:=aG _ _)
 intro F8 a8 c8 G8 k8 N8 R8
 conv=>whnf
 refine aA.concY (n:=x2.recipes.length) (N8.gsub) 8 ?_ (hlen:=aG _ _)
 intro F9 a9 c9 G9 k9 N9 R9
 conv=>whnf
 refine aA.concY (n:=x2.swaps.length) (N9.gsub) 9 ?_ (hlen:=aG _ _)
 intro F10 a10 c10 G10 k10 N10 R10
 conv=>whnf
 have T9:gX G10 k10 (.slice a3 x2.units.length c3) (.slice a4 x2.items.length c4) (.slice a5 x2.plants.length c5) (.slice a6 x2.machines.length c6) (.slice a7 x2.options.length c7) (.slice a8 x2.forbids.length c8) (.slice a9 x2.recipes.length c9) (.slice a10 x2.swaps.length c10) x2:=⟨(((((((R3).up (Now.step N3.gsub N4)).up (Now.step N4.gsub N5)).up (Now.step N5.gsub N6)).up (Now.step N6.gsub N7)).up (Now.step N7.gsub N8)).up (Now.step N8.gsub N9)).up (Now.step N9.gsub N10),((((((R4).up (Now.step N4.gsub N5)).up (Now.step N5.gsub N6)).up (Now.step N6.gsub N7)).up (Now.step N7.gsub N8)).up (Now.step N8.gsub N9)).up (Now.step N9.gsub N10),(((((R5).up (Now.step N5.gsub N6)).up (Now.step N6.gsub N7)).up (Now.step N7.gsub N8)).up (Now.step N8.gsub N9)).up (Now.step N9.gsub N10),((((R6).up (Now.step N6.gsub N7)).up (Now.step N7.gsub N8)).up (Now.step N8.gsub N9)).up (Now.step N9.gsub N10),(((R7).up (Now.step N7.gsub N8)).up (Now.step N8.gsub N9)).up (Now.step N9.gsub N10),((R8).up (Now.step N8.gsub N9)).up (Now.step N9.gsub N10),(R9).up (Now.step N9.gsub N10),R10,((((((((J2.sub).up (Now.step N2.gsub N3)).up (Now.step N3.gsub N4)).up (Now.step N4.gsub N5)).up (Now.step N5.gsub N6)).up (Now.step N6.gsub N7)).up (Now.step N7.gsub N8)).up (Now.step N8.gsub N9)).up (Now.step N9.gsub N10)⟩
 have V10:=((((((((V1.trans (Now.step N1.gsub N2)).trans (Now.step N2.gsub N3)).trans (Now.step N3.gsub N4)).trans (Now.step N4.gsub N5)).trans (Now.step N5.gsub N6)).trans (Now.step N6.gsub N7)).trans (Now.step N7.gsub N8)).trans (Now.step N8.gsub N9)).trans (Now.step N9.gsub N10)
 have M10:=((((((((N1.trans N2).trans N3).trans N4).trans N5).trans N6).trans N7).trans N8).trans N9).trans N10
 refine aA.subR (nx':=2) (l':=[(1,.ptr 0 0),(24,.tup [.agg [.v (.slice a3 x2.units.length c3),.v (.slice a4 x2.items.length c4),.v (.slice a5 x2.plants.length c5),.v (.slice a6 x2.machines.length c6),.v (.slice a7 x2.options.length c7),.v (.slice a8 x2.forbids.length c8),.v (.slice a9 x2.recipes.length c9),.v (.slice a10 x2.swaps.length c10)],.agg [.buf 1,.v (.int .i64 (t2.n:Int)),.v (.int .i64 0),.v (.int .i64 t2.e),.v (.int .i64 t2.pl)]])]) (H':=[(0,vC vU vI vP vM vO vF vR vS),(1,.ro 4 (L.map Tok.row))]) [] ?_ sH sH
 cases hr:aAK L with
 |bad r e=>
  have hq:=sim_bad (en:=0) hN hr
  rw [J2.eq] at hq
  have hq:Bad 0 t2 r e:=hq
  have nz:=hq.nz
  (try refine gS ?_);conv=>whnf
  refine aA.held tab (.fl 0 (.fl 1 (.fl 2 (.fl 3 (.fl 4 (.fl 5 (.e1 6 [4] (.e1 7 [] (.fl 8 (.fl 9 .done)))))))))) (by kernel_rfl) ?_;conv=>whnf
  (try refine gR ?_);conv=>whnf
  repeat ((first|(guard_target=_∧_;(first|refine oL ?_|refine oR ?_|refine oB ?_))|(guard_target=Exists _;refine oM ?_));(try intro _);conv=>whnf)
  (try refine gS ?_);conv=>whnf
  rw [show b=false from Bool.eq_false_iff.2 fun h=>by rw [hR (hb.1 h)] at hr;cases hr]
  try refine aA.retU ?_
  exact aE.ret tab Tryz.func32 rfl (eX (M10) (()) (fun _ _=>trivial))
 |ok x r=>
  have hq:=sim_ok (en:=0) hN hr
  rw [J2.eq] at hq
  have hq1:x2.bare=x:=hq.1
  have he:t2.e=0:=hq.2
  by_cases hx:x2.bare=s.un.bare
  ·have hgood:s.good NmP:=hG x r hall hr (by rw [←hq1,aTA];exact hx)
   (try refine gS ?_);conv=>whnf
   refine aA.held tab (.fl 0 (.fl 1 (.fl 2 (.fl 3 (.fl 4 (.fl 5 (.e1 6 [4] (.e1 7 [] (.fl 8 (.fl 9 .done)))))))))) (by kernel_rfl) ?_;conv=>whnf
   (try refine gR ?_);conv=>whnf
   repeat ((first|(guard_target=_∧_;(first|refine oL ?_|refine oR ?_|refine oB ?_))|(guard_target=Exists _;refine oM ?_));(try intro _);conv=>whnf)
   conv=>whnf
   refine aV.callY (N10.gsub) (aYQ (vU:=vU) (vI:=vI) (vP:=vP) (vM:=vM) (vO:=vO) (vF:=vF) (vR:=vR) (vS:=vS) s hL) (fun h U=>hP.up (V10.trans U)) [] sH ?CNa5 ?_
   case CNa5=>rfl
   rintro _ ⟨t5,u1,u2,u3,u4,u5,u6,u7,u8⟩ Ga ha Na Ja
   conv=>whnf
   try refine oB ?_
   (try refine gR ?_);conv=>whnf
   refine aV.callT (nT.tok _ _ _ _ _ _ _ _ _ _ _ _ _ _ _ _ _ _) (⟨T9.up ((Now.step N10.gsub Na).trans ⟨Na.gsub,fun _ _=>rfl⟩),Ja.top.up ⟨Na.gsub,fun _ _=>rfl⟩⟩) (aTX (hx.trans Ja.t.symm)) [] ?_ sH ?CNa6
   case CNa6=>rfl
   intro _ _
   conv=>whnf
   try refine oB ?_
   (try refine gR ?_);conv=>whnf
   (try refine gS ?_);conv=>whnf
   rw [show b=true from hb.2 hgood]
   try refine aA.retU ?_
   exact aE.ret tab Tryz.func32 rfl (eX (M10.trans Na) (()) (fun _ _=>trivial))
  have hno:¬s.good NmP:=fun h=>by
   have h1:=hR h
   rw [hr] at h1
   injection h1 with h2
   exact hx (by rw [hq1,h2,un_bare])
  (try refine gS ?_);conv=>whnf
  refine aA.held tab (.fl 0 (.fl 1 (.fl 2 (.fl 3 (.fl 4 (.fl 5 (.e1 6 [4] (.e1 7 [] (.fl 8 (.fl 9 .done)))))))))) (by kernel_rfl) ?_;conv=>whnf
  (try refine gR ?_);conv=>whnf
  repeat ((first|(guard_target=_∧_;(first|refine oL ?_|refine oR ?_|refine oB ?_))|(guard_target=Exists _;refine oM ?_));(try intro _);conv=>whnf)
  conv=>whnf
  refine aV.callY (N10.gsub) (aYQ (vU:=vU) (vI:=vI) (vP:=vP) (vM:=vM) (vO:=vO) (vF:=vF) (vR:=vR) (vS:=vS) s hL) (fun h U=>hP.up (V10.trans U)) [] sH ?CNa7 ?_
  case CNa7=>rfl
  rintro _ ⟨t5,u1,u2,u3,u4,u5,u6,u7,u8⟩ Ga ha Na Ja
  conv=>whnf
  try refine oB ?_
  (try refine gR ?_);conv=>whnf
  refine aV.callT (nT.tok _ _ _ _ _ _ _ _ _ _ _ _ _ _ _ _ _ _) (⟨T9.up ((Now.step N10.gsub Na).trans ⟨Na.gsub,fun _ _=>rfl⟩),Ja.top.up ⟨Na.gsub,fun _ _=>rfl⟩⟩) (aUB (fun h=>hx (h.trans Ja.t))) [] ?_ sH ?CNa8
  case CNa8=>rfl
  intro _ _
  conv=>whnf
  try refine oB ?_
  (try refine gR ?_);conv=>whnf
  (try refine gS ?_);conv=>whnf
  rw [show b=false from Bool.eq_false_iff.2 fun h=>hno (hb.1 h)]
  try refine aA.retU ?_
  exact aE.ret tab Tryz.func32 rfl (eX (M10.trans Na) (()) (fun _ _=>trivial))
end
end Go.Proofs.YtgbeechjghajcaaGreatDoor

namespace Go.Proofs.YtgbeechjghajcaaGreatDoor
open Go Go.Fw Go.NatM Go.RatM Go.SrcM Go.SynM
set_option maxRecDepth 100000
set_option maxHeartbeats 99999999
section
variable {vU vI vP vM vO vF vR vS:Value}
theorem aTY (s:aJ) (hl:(jI s).length≤65536) (hL:Lens s):FnX Tryz.prog 16 0 [sK vU vI vP vM vO vF vR vS] [] (gX · · vU vI vP vM vO vF vR vS s) (fun (_:Unit) _ _=>True) (fun _=>.ret (.tup [.v (.string (rA s).1),.v (.int .i64 (rA s).2)]) 0 []):=by
 by_cases hg:s.good NmP
 ·rw [aFF hg]
  have ht:aCT (jI s)=.tuple #[.string (joinB (jI s)),.int .i64 0]:=if_pos (aBU hg)
  refine FnX.of Tryz.func16 (by kernel_rfl) rfl Tryz.ntmps16 rfl fun E0 F G h N hP w0 cs=>?_
  conv=>whnf
  refine gS ?_;conv=>whnf
  refine aA.callY (N.gsub) (yC s (b:=true) (iff_of_true rfl hg) hl hL) (fun h U=>hP.up U) [] sH ?CNa1 ?_
  case CNa1=>rfl
  rintro _ _ G1 h1 N1 J1
  conv=>whnf
  (try refine gS ?_);conv=>whnf
  refine aA.callY (N1.gsub) (aFI s (by omega)) (fun h U=>hP.up ((Now.step N.gsub N1).trans U)) [] sH ?CNa2 ?_
  case CNa2=>rfl
  rintro _ x2 G2 h2 N2 J2
  conv=>whnf
  (try refine gS ?_);conv=>whnf
  refine aA.subR (nx':=1) (l':=[(1,.ptr 0 0),(8,.v (x2.v (jI s).length))]) (H':=[(0,vC vU vI vP vM vO vF vR vS)]) [] ?_ sH sH
  refine aA.nameAt (fun _ x=>x) 8 (by exact RoF.up ⟨N2.gsub,fun _ _=>rfl⟩ J2) ?_
  conv=>whnf
  (try refine gS ?_);conv=>whnf
  refine aA.callV (fun Ez Hz Az Sz K=>aXC (jI s) hl (Sz.ro (b:=1) rfl)) ?_
  conv=>whnf
  rw [ht]
  try dsimp only
  (try refine gS ?_);conv=>whnf
  try refine aA.retU ?_
  exact aE.ret tab Tryz.func16 rfl (eX (N1.trans N2) (()) (fun _ _=>trivial))
 rw [zU hg]
 refine FnX.of Tryz.func16 (by kernel_rfl) rfl Tryz.ntmps16 rfl fun E0 F G h N hP w0 cs=>?_
 conv=>whnf
 refine gS ?_;conv=>whnf
 refine aA.callY (N.gsub) (yC s (b:=false) (iff_of_false Bool.false_ne_true hg) hl hL) (fun h U=>hP.up U) [] sH ?CNa3 ?_
 case CNa3=>rfl
 rintro _ _ G1 h1 N1 J1
 conv=>whnf
 (try refine gS ?_);conv=>whnf
 try refine aA.retU ?_
 exact aE.ret tab Tryz.func16 rfl (eX (N1) (()) (fun _ _=>trivial))
end
end Go.Proofs.YtgbeechjghajcaaGreatDoor

namespace Go.Proofs.YtgbeechjghajcaaGreatDoor
open Go Go.Fw Go.NatM Go.RatM Go.SrcM Go.SynM
set_option maxRecDepth 100000
set_option maxHeartbeats 99999999
section
variable {vU vI vP vM vO vF vR vS wU wI wP wM wO wF wR wS:Value}
theorem aDF (s t:aJ) (hB:SrcM.fewN s≤4000000000000000000) (hB2:SrcM.fewN t≤4000000000000000000):FnX Tryz.prog 4 0 [sK vU vI vP vM vO vF vR vS,sK wU wI wP wM wO wF wR wS] [] (fun G h=>gX G h vU vI vP vM vO vF vR vS s∧gX G h wU wI wP wM wO wF wR wS t∧aKD G h) (fun (_:Unit) _ _=>True) (fun _=>.ret (.v (.bool true)) 0 []):=by
 refine FnX.of Tryz.func4 (by kernel_rfl) rfl Tryz.ntmps4 rfl fun E0 F G h N hP w0 cs=>?_
 conv=>whnf
 refine gS ?_;conv=>whnf
 refine aA.callY (N.gsub) (aND) (fun h U=>hP.2.2.up U) [] sH ?CNa1 ?_
 case CNa1=>rfl
 rintro _ _ G1 h1 N1 J1
 conv=>whnf
 (try refine gS ?_);conv=>whnf
 have V1:=Now.step N.gsub N1
 have V0:=V1.trans ⟨N1.gsub,fun _ _=>rfl⟩
 refine aA.callT (gX.tok _ _ _ _ _ _ _ _ _) (hP.1.up V0) (aRQ s hB) [] sH ?CNa2 ?_
 case CNa2=>rfl
 rintro _ _
 by_cases hf:SrcM.fewN s≤160
 rotate_left
 ·rw [decide_eq_false hf]
  conv=>whnf
  (try refine gS ?_);conv=>whnf
  try refine aA.retU ?_
  exact aE.ret tab Tryz.func4 rfl (eX (N1) (()) (fun _ _=>trivial))
 rw [decide_eq_true hf]
 conv=>whnf
 (try refine gS ?_);conv=>whnf
 refine aA.callT (gX.tok _ _ _ _ _ _ _ _ _) (hP.2.1.up V0) (aRQ t hB2) [] sH ?CNa3 ?_
 case CNa3=>rfl
 rintro _ _
 by_cases hf2:SrcM.fewN t≤160
 rotate_left
 ·rw [decide_eq_false hf2]
  conv=>whnf
  (try refine gS ?_);conv=>whnf
  try refine aA.retU ?_
  exact aE.ret tab Tryz.func4 rfl (eX (N1) (()) (fun _ _=>trivial))
 rw [decide_eq_true hf2]
 conv=>whnf
 (try refine gS ?_);conv=>whnf
 have hL:=aTL hf (by decide)
 have hT:=few_ttl s
 have hl:=aYS s
 have C:=aGQ (vU:=vU) (vI:=vI) (vP:=vP) (vM:=vM) (vO:=vO) (vF:=vF) (vR:=vR) (vS:=vS) s (by omega)
 have CR:=aTY (vU:=vU) (vI:=vI) (vP:=vP) (vM:=vM) (vO:=vO) (vF:=vF) (vR:=vR) (vS:=vS) s (by omega) hL
 obtain ⟨p1,hp1⟩:∃x,x=(rA s).1:=⟨_,rfl⟩
 obtain ⟨p2,hp2⟩:∃x,x=(rA s).2:=⟨_,rfl⟩
 rw [←hp1,←hp2] at C CR
 refine aA.callT (TopW.tok _ _ _ _ _ _ _ _ _) (⟨hP.1.up V0,hP.2.2.up V0⟩) (C) [] sH ?CNa4 ?_
 case CNa4=>rfl
 intro _ _
 conv=>whnf
 (try refine gS ?_);conv=>whnf
 refine aA.subR (nx':=2) (l':=[(2,.ptr 0 0),(3,.ptr 1 0),(5,.v (.string p1)),(6,.v (.int .i64 p2)),(25,sK vU vI vP vM vO vF vR vS)]) (H':=[(0,vC vU vI vP vM vO vF vR vS),(1,.cells 32 [.v wU,.v wI,.v wP,.v wM,.v wO,.v wF,.v wR,.v wS])]) [] ?_ sH sH
 refine aA.callY (N1.gsub) (CR) (fun h U=>hP.1.up (V1.trans U)) [] sH ?CNa5 ?_
 case CNa5=>rfl
 rintro _ _ G2 h2 N2 J2
 conv=>whnf
 (try refine gS ?_);conv=>whnf
 have V2:=V1.trans (Now.step N1.gsub N2)
 have V3:=V2.trans ⟨N2.gsub,fun _ _=>rfl⟩
 refine aA.subR (nx':=2) (l':=[(2,.ptr 0 0),(3,.ptr 1 0),(5,.v (.string p1)),(6,.v (.int .i64 p2)),(7,.v (.string p1)),(8,.v (.int .i64 p2))]) (H':=[(0,vC vU vI vP vM vO vF vR vS),(1,.cells 32 [.v wU,.v wI,.v wP,.v wM,.v wO,.v wF,.v wR,.v wS])]) [] ?_ sH sH
 have D3:=zQ (vU:=vU) (vI:=vI) (vP:=vP) (vM:=vM) (vO:=vO) (vF:=vF) (vR:=vR) (vS:=vS) (wU:=vU) (wI:=vI) (wP:=vP) (wM:=vM) (wO:=vO) (wF:=vF) (wR:=vR) (wS:=vS) s s
 rw [bL rfl] at D3
 by_cases e:s.bare=t.bare
 ·have D1:=zQ (vU:=vU) (vI:=vI) (vP:=vP) (vM:=vM) (vO:=vO) (vF:=vF) (vR:=vR) (vS:=vS) (wU:=wU) (wI:=wI) (wP:=wP) (wM:=wM) (wO:=wO) (wF:=wF) (wR:=wR) (wS:=wS) s t
  have D2:=sX (vU:=vU) (vI:=vI) (vP:=vP) (vM:=vM) (vO:=vO) (vF:=vF) (vR:=vR) (vS:=vS) (wU:=wU) (wI:=wI) (wP:=wP) (wM:=wM) (wO:=wO) (wF:=wF) (wR:=wR) (wS:=wS) s t
  rw [bL e] at D1 D2
  refine aA.held tab (.fl 0 (.fl 1 (.fl 2 (.fl 3 (.fl 4 (.fl 5 (.fl 6 (.fl 7 (.fl 8 (.fl 9 (.fl 10 (.fl 12 (.fl 13 (.e1 11 [12,13] (.e1 14 [] (.fl 15 (.fl 16 (.fl 17 (.fl 18 (.fl 19 (.e1 20 [] (.fl 21 (.fl 22 .done))))))))))))))))))))))) (by kernel_rfl) ?_;conv=>whnf
  (try refine gR ?_);conv=>whnf
  refine ⟨fun _=>?_,fun h=>absurd rfl h⟩
  conv=>whnf
  repeat ((first|(guard_target=_∧_;(first|refine oL ?_|refine oR ?_|refine oB ?_))|(guard_target=Exists _;refine oM ?_));(try intro _);conv=>whnf)
  conv=>whnf
  refine aV.callT (nT.tok _ _ _ _ _ _ _ _ _ _ _ _ _ _ _ _ _ _) (⟨hP.1.up V3,hP.2.1.up V3⟩) (D1) [] ?_ sH ?CNa6
  case CNa6=>rfl
  intro _ _
  conv=>whnf
  try refine oB ?_
  (try refine gR ?_);conv=>whnf
  refine aV.callT (nT.tok _ _ _ _ _ _ _ _ _ _ _ _ _ _ _ _ _ _) (⟨hP.1.up V3,hP.2.1.up V3⟩) (D2) [] ?_ sH ?CNa7
  case CNa7=>rfl
  intro _ _
  conv=>whnf
  try refine oB ?_
  (try refine gR ?_);conv=>whnf
  refine aV.callT (nT.tok _ _ _ _ _ _ _ _ _ _ _ _ _ _ _ _ _ _) (⟨hP.1.up V3,hP.1.up V3⟩) (D3) [] ?_ sH ?CNa8
  case CNa8=>rfl
  intro _ _
  conv=>whnf
  try refine oB ?_
  (try refine gR ?_);conv=>whnf
  (try refine gS ?_);conv=>whnf
  try refine aA.retU ?_
  exact aE.ret tab Tryz.func4 rfl (eX (N1.trans N2) (()) (fun _ _=>trivial))
 have D1:=zQ (vU:=vU) (vI:=vI) (vP:=vP) (vM:=vM) (vO:=vO) (vF:=vF) (vR:=vR) (vS:=vS) (wU:=wU) (wI:=wI) (wP:=wP) (wM:=wM) (wO:=wO) (wF:=wF) (wR:=wR) (wS:=wS) s t
 have D2:=sX (vU:=vU) (vI:=vI) (vP:=vP) (vM:=vM) (vO:=vO) (vF:=vF) (vR:=vR) (vS:=vS) (wU:=wU) (wI:=wI) (wP:=wP) (wM:=wM) (wO:=wO) (wF:=wF) (wR:=wR) (wS:=wS) s t
 rw [bH e] at D1 D2
 refine aA.held tab (.fl 0 (.fl 1 (.fl 2 (.fl 3 (.fl 4 (.fl 5 (.fl 6 (.fl 7 (.fl 8 (.fl 9 (.fl 10 (.fl 12 (.fl 13 (.e1 11 [12,13] (.e1 14 [] (.fl 15 (.fl 16 (.fl 17 (.fl 18 (.fl 19 (.e1 20 [] (.fl 21 (.fl 22 .done))))))))))))))))))))))) (by kernel_rfl) ?_;conv=>whnf
 (try refine gR ?_);conv=>whnf
 refine ⟨fun _=>?_,fun h=>absurd rfl h⟩
 conv=>whnf
 repeat ((first|(guard_target=_∧_;(first|refine oL ?_|refine oR ?_|refine oB ?_))|(guard_target=Exists _;refine oM ?_));(try intro _);conv=>whnf)
 conv=>whnf
 refine aV.callT (nT.tok _ _ _ _ _ _ _ _ _ _ _ _ _ _ _ _ _ _) (⟨hP.1.up V3,hP.2.1.up V3⟩) (D1) [] ?_ sH ?CNa9
 case CNa9=>rfl
 intro _ _
 conv=>whnf
 try refine oB ?_
 (try refine gR ?_);conv=>whnf
 refine aV.callT (nT.tok _ _ _ _ _ _ _ _ _ _ _ _ _ _ _ _ _ _) (⟨hP.1.up V3,hP.2.1.up V3⟩) (D2) [] ?_ sH ?CNa10
 case CNa10=>rfl
 intro _ _
 conv=>whnf
 try refine oB ?_
 (try refine gR ?_);conv=>whnf
 refine aV.callT (nT.tok _ _ _ _ _ _ _ _ _ _ _ _ _ _ _ _ _ _) (⟨hP.1.up V3,hP.1.up V3⟩) (D3) [] ?_ sH ?CNa11
 case CNa11=>rfl
 intro _ _
 conv=>whnf
 try refine oB ?_
 (try refine gR ?_);conv=>whnf
 (try refine gS ?_);conv=>whnf
 try refine aA.retU ?_
 exact aE.ret tab Tryz.func4 rfl (eX (N1.trans N2) (()) (fun _ _=>trivial))
end
end Go.Proofs.YtgbeechjghajcaaGreatDoor

namespace Go.Proofs.YtgbeechjghajcaaGreatDoor
open Go Go.Fw Go.NatM Go.RatM Go.SrcM
set_option maxRecDepth 100000
theorem lawG {f:FuncId} {args:List SV} {Pre:(Nat→Prop)→Array Obj→Prop} (C:FnX Tryz.prog f 0 args [] Pre (fun (_:Unit) _ _=>True) (fun _=>.ret (.v (.bool true)) 0 [])) {h:Array Obj} (hp:Pre (fun k=>k<h.size) h) {vs:Array Value} (e:(SV.gs (fun _=>undef) args).toArray=vs):
  FnV Tryz.prog f vs h fun r h'=>r=.bool true∧bW h.size h h':=by
 subst e
 refine Fn.mono (C.call (fun _=>undef) (fun k=>k<h.size) (fun k=>k<h.size) h (fun _ x=>x) (fun _ x=>x) hp Sat.nil) fun e h' hx=>?_
 obtain ⟨x,E',F',G',N,_,_,_,he⟩:=hx
 exact ⟨.bool true,he,rfl,N.kp.keeps⟩
theorem powT_of {h:Array Obj} (hT:uC h):aKD (fun k=>k<h.size) h:=⟨hT,hT.lt⟩
end Go.Proofs.YtgbeechjghajcaaGreatDoor

namespace Go.Proofs.YtgbeechjghajcaaGreatDoor
open Go Go.Fw Go.NatM Go.RatM Go.SrcM
section
variable {vU vI vP vM vO vF vR vS wU wI wP wM wO wF wR wS:Value}
theorem aNP {h:Array Obj} {s:aJ} (hs:Top h vU vI vP vM vO vF vR vS s):gX (fun k=>k<h.size) h vU vI vP vM vO vF vR vS s:=
 ⟨Ro.rof hs.U,Ro.rof hs.I,Ro.rof hs.P,Ro.rof hs.M,Ro.rof hs.O,Ro.rof hs.F,Ro.rof hs.R,Ro.rof hs.S,hs.below⟩
theorem yA {h:Array Obj} (s:aJ) (hs:Top h vU vI vP vM vO vF vR vS s) (hw:s.wf) (hB:SrcM.fewN s≤4000000000000000000) (t:aJ) (ht:Top h wU wI wP wM wO wF wR wS t) (hw2:t.wf) (hB2:SrcM.fewN t≤4000000000000000000) (hT:uC h):FnV Tryz.prog 4 #[srcV vU vI vP vM vO vF vR vS,srcV wU wI wP wM wO wF wR wS] h fun r h'=>r=.bool true∧bW h.size h h':=
 lawG (aDF s t hB hB2) ⟨aNP hs,aNP ht,powT_of hT⟩ rfl
end
end Go.Proofs.YtgbeechjghajcaaGreatDoor
