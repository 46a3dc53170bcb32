/- Texts of this seat, joined: The reference of syntax: definitions without lists (printed by gen_synr2.py). The reference of syntax: lists. The referenc -/
import Derived.Test.YtgbeechjghajcaaGreatDoorJoinD
set_option linter.unusedVariables false
set_option linter.unusedSimpArgs false
namespace Go.Proofs.YtgbeechjghajcaaGreatDoor
open Go Go.Fw Go.NatM Go.RatM Go.SrcM Go.SynM
set_option maxRecDepth 100000
set_option maxHeartbeats 99999999
abbrev aggR {α:Type} (row:α→List Value) (a:α):SV:=.agg (toV (row a))
section
variable (L:List Tok) (en:Int) (hL:L.length≤65536) (s:St)
include hL
theorem aYT:FnS Tryz.prog 135 1 [stV en s] [roL L] (fun y=>y=aED L en s) (aMH en (aggR Un.row)):=by
 refine FnS.of Tryz.func135 (by kernel_rfl) rfl Tryz.ntmps135 rfl fun E0 F h w0 cs=>?_
 conv=>whnf
 refine gS ?_;conv=>whnf
 refine aA.callN (cK L en hL s (B gE)) [0] ?_ sH ?CNa1
 case CNa1=>rfl
 rintro s1 h1<;>conv=>whnf
 (try refine gS ?_);conv=>whnf
 refine aA.callN (eD L en hL s1) [0] ?_ sH ?CNa2
 case CNa2=>rfl
 rintro ⟨nm,s2⟩ h2<;>conv=>whnf
 (try refine gS ?_);conv=>whnf
 refine aA.callN (yX L en s2 (B [61])) [0] ?_ sH ?CNa3
 case CNa3=>rfl
 intro _ _
 conv=>whnf
 (try refine gS ?_);conv=>whnf
 cases hb:cL L 3 (B [61]) s2 with
 |false=>
  (try refine gS ?_);conv=>whnf
  refine aA.held tab (.fl 0 (.fl 1 (.e1 2 [0] (.e1 3 [] (.e1 4 [] .done))))) (by kernel_rfl) ?_;conv=>whnf
  (try refine gR ?_);conv=>whnf
  refine aV.callN (dH L en hL s2 (B [59])) [0] ?_ sH ?CNa4
  case CNa4=>rfl
  rintro s3 h3<;>conv=>whnf
  conv=>whnf
  try refine oB ?_
  (try refine gR ?_);conv=>whnf
  repeat ((first|(guard_target=_∧_;(first|refine oL ?_|refine oR ?_|refine oB ?_))|(guard_target=Exists _;refine oM ?_));(try intro _);conv=>whnf)
  (try refine gS ?_);conv=>whnf
  try refine aA.retU ?_
  exact aE.ret tab Tryz.func135 rfl (aL.mk (((⟨nm,SynM.e0,0,0,0,zr⟩:Un),s3)) (by simp only [aED,sb,rt,pE,←h1,←h2,hb,Bool.false_eq_true,if_false,←h3]) [] sH rfl rfl (aY rfl rfl))
 |true=>
  (try refine gS ?_);conv=>whnf
  refine aA.callN (dH L en hL s2 (B [61])) [0] ?_ sH ?CNa5
  case CNa5=>rfl
  rintro s3 h3<;>conv=>whnf
  (try refine gS ?_);conv=>whnf
  refine aA.callN (qL L en hL s3) [0] ?_ sH ?CNa6
  case CNa6=>rfl
  rintro ⟨⟨n,d⟩,s4⟩ h4<;>conv=>whnf
  (try refine gS ?_);conv=>whnf
  refine aA.callN (eD L en hL s4) [0] ?_ sH ?CNa7
  case CNa7=>rfl
  rintro ⟨o,s5⟩ h5<;>conv=>whnf
  (try refine gS ?_);conv=>whnf
  refine aA.held tab (.fl 0 (.fl 1 (.e1 2 [0] (.e1 3 [] (.e1 4 [] .done))))) (by kernel_rfl) ?_;conv=>whnf
  (try refine gR ?_);conv=>whnf
  refine aV.callN (dH L en hL s5 (B [59])) [0] ?_ sH ?CNa8
  case CNa8=>rfl
  rintro s6 h6<;>conv=>whnf
  conv=>whnf
  try refine oB ?_
  (try refine gR ?_);conv=>whnf
  repeat ((first|(guard_target=_∧_;(first|refine oL ?_|refine oR ?_|refine oB ?_))|(guard_target=Exists _;refine oM ?_));(try intro _);conv=>whnf)
  (try refine gS ?_);conv=>whnf
  try refine aA.retU ?_
  exact aE.ret tab Tryz.func135 rfl (aL.mk (((⟨nm,o,n,d,0,zr⟩:Un),s6)) (by simp only [aED,sb,rt,pE,←h1,←h2,hb,if_true,←h3,←h4,←h5,←h6]) [] sH rfl rfl (aY rfl rfl))
theorem aYP:FnS Tryz.prog 137 1 [stV en s] [roL L] (fun y=>y=aFT L en s) (aMH en (aggR It.row)):=by
 refine FnS.of Tryz.func137 (by kernel_rfl) rfl Tryz.ntmps137 rfl fun E0 F h w0 cs=>?_
 conv=>whnf
 refine gS ?_;conv=>whnf
 refine aA.callN (cK L en hL s (B iI)) [0] ?_ sH ?CNa9
 case CNa9=>rfl
 rintro s1 h1<;>conv=>whnf
 (try refine gS ?_);conv=>whnf
 refine aA.callN (eD L en hL s1) [0] ?_ sH ?CNa10
 case CNa10=>rfl
 rintro ⟨nm,s2⟩ h2<;>conv=>whnf
 (try refine gS ?_);conv=>whnf
 refine aA.callN (cK L en hL s2 (B wIn)) [0] ?_ sH ?CNa11
 case CNa11=>rfl
 rintro s3 h3<;>conv=>whnf
 (try refine gS ?_);conv=>whnf
 refine aA.callN (eD L en hL s3) [0] ?_ sH ?CNa12
 case CNa12=>rfl
 rintro ⟨u,s4⟩ h4<;>conv=>whnf
 (try refine gS ?_);conv=>whnf
 refine aA.callN (cK L en hL s4 (B rV)) [0] ?_ sH ?CNa13
 case CNa13=>rfl
 rintro s5 h5<;>conv=>whnf
 (try refine gS ?_);conv=>whnf
 refine aA.callN (qL L en hL s5) [0] ?_ sH ?CNa14
 case CNa14=>rfl
 rintro ⟨⟨mn,md⟩,s6⟩ h6<;>conv=>whnf
 (try refine gS ?_);conv=>whnf
 refine aA.callN (eB L en s6 (B gW)) [0] ?_ sH ?CNa15
 case CNa15=>rfl
 intro _ _
 conv=>whnf
 (try refine gS ?_);conv=>whnf
 cases hb:cL L 1 (B gW) s6 with
 |false=>
  (try refine gS ?_);conv=>whnf
  refine aA.held tab (.fl 0 (.fl 1 (.e1 2 [0] (.e1 3 [] (.e1 4 [] .done))))) (by kernel_rfl) ?_;conv=>whnf
  (try refine gR ?_);conv=>whnf
  refine aV.callN (dH L en hL s6 (B [59])) [0] ?_ sH ?CNa16
  case CNa16=>rfl
  rintro s7 h7<;>conv=>whnf
  conv=>whnf
  try refine oB ?_
  (try refine gR ?_);conv=>whnf
  repeat ((first|(guard_target=_∧_;(first|refine oL ?_|refine oR ?_|refine oB ?_))|(guard_target=Exists _;refine oM ?_));(try intro _);conv=>whnf)
  (try refine gS ?_);conv=>whnf
  try refine aA.retU ?_
  exact aE.ret tab Tryz.func137 rfl (aL.mk (((⟨nm,u,mn,md,0,0⟩:It),s7)) (by simp only [aFT,sb,rt,pE,←h1,←h2,←h3,←h4,←h5,←h6,hb,Bool.false_eq_true,if_false,←h7]) [] sH rfl rfl (aY rfl rfl))
 |true=>
  (try refine gS ?_);conv=>whnf
  refine aA.callN (cK L en hL s6 (B gW)) [0] ?_ sH ?CNa17
  case CNa17=>rfl
  rintro s7 h7<;>conv=>whnf
  (try refine gS ?_);conv=>whnf
  refine aA.callN (rL L en hL s7) [0] ?_ sH ?CNa18
  case CNa18=>rfl
  rintro ⟨sh,s8⟩ h8<;>conv=>whnf
  (try refine gS ?_);conv=>whnf
  refine aA.held tab (.fl 0 (.fl 1 (.e1 2 [0] (.e1 3 [] (.e1 4 [] .done))))) (by kernel_rfl) ?_;conv=>whnf
  (try refine gR ?_);conv=>whnf
  refine aV.callN (dH L en hL s8 (B [59])) [0] ?_ sH ?CNa19
  case CNa19=>rfl
  rintro s9 h9<;>conv=>whnf
  conv=>whnf
  try refine oB ?_
  (try refine gR ?_);conv=>whnf
  repeat ((first|(guard_target=_∧_;(first|refine oL ?_|refine oR ?_|refine oB ?_))|(guard_target=Exists _;refine oM ?_));(try intro _);conv=>whnf)
  (try refine gS ?_);conv=>whnf
  try refine aA.retU ?_
  exact aE.ret tab Tryz.func137 rfl (aL.mk (((⟨nm,u,mn,md,sh,0⟩:It),s9)) (by simp only [aFT,sb,rt,pE,←h1,←h2,←h3,←h4,←h5,←h6,hb,if_true,←h7,←h8,←h9]) [] sH rfl rfl (aY rfl rfl))
theorem aYL:FnS Tryz.prog 141 1 [stV en s] [roL L] (fun y=>y=aIP L en s) (aMH en (aggR Mc.row)):=by
 refine FnS.of Tryz.func141 (by kernel_rfl) rfl Tryz.ntmps141 rfl fun E0 F h w0 cs=>?_
 conv=>whnf
 refine gS ?_;conv=>whnf
 refine aA.callN (cK L en hL s (B cE)) [0] ?_ sH ?CNa20
 case CNa20=>rfl
 rintro s1 h1<;>conv=>whnf
 (try refine gS ?_);conv=>whnf
 refine aA.callN (eD L en hL s1) [0] ?_ sH ?CNa21
 case CNa21=>rfl
 rintro ⟨nm,s2⟩ h2<;>conv=>whnf
 (try refine gS ?_);conv=>whnf
 refine aA.callN (cK L en hL s2 (B wAt)) [0] ?_ sH ?CNa22
 case CNa22=>rfl
 rintro s3 h3<;>conv=>whnf
 (try refine gS ?_);conv=>whnf
 refine aA.callN (eD L en hL s3) [0] ?_ sH ?CNa23
 case CNa23=>rfl
 rintro ⟨pl,s4⟩ h4<;>conv=>whnf
 (try refine gS ?_);conv=>whnf
 refine aA.callN (cK L en hL s4 (B oA)) [0] ?_ sH ?CNa24
 case CNa24=>rfl
 rintro s5 h5<;>conv=>whnf
 (try refine gS ?_);conv=>whnf
 refine aA.callN (rL L en hL s5) [0] ?_ sH ?CNa25
 case CNa25=>rfl
 rintro ⟨cl,s6⟩ h6<;>conv=>whnf
 (try refine gS ?_);conv=>whnf
 refine aA.held tab (.fl 0 (.fl 1 (.e1 2 [0] (.e1 3 [] (.e1 4 [] .done))))) (by kernel_rfl) ?_;conv=>whnf
 (try refine gR ?_);conv=>whnf
 refine aV.callN (dH L en hL s6 (B [59])) [0] ?_ sH ?CNa26
 case CNa26=>rfl
 rintro s7 h7<;>conv=>whnf
 conv=>whnf
 try refine oB ?_
 (try refine gR ?_);conv=>whnf
 repeat ((first|(guard_target=_∧_;(first|refine oL ?_|refine oR ?_|refine oB ?_))|(guard_target=Exists _;refine oM ?_));(try intro _);conv=>whnf)
 (try refine gS ?_);conv=>whnf
 try refine aA.retU ?_
 exact aE.ret tab Tryz.func141 rfl (aL.mk (((⟨nm,pl,cl,0⟩:Mc),s7)) (by simp only [aIP,sb,rt,pE,←h1,←h2,←h3,←h4,←h5,←h6,←h7]) [] sH rfl rfl (aY rfl rfl))
theorem aNB:FnS Tryz.prog 174 1 [stV en s] [roL L] (fun y=>y=wX L en s) (aMH en (aggR Cd.row)):=by
 refine FnS.of Tryz.func174 (by kernel_rfl) rfl Tryz.ntmps174 rfl fun E0 F h w0 cs=>?_
 conv=>whnf
 refine gS ?_;conv=>whnf
 refine aA.callN (eD L en hL s) [0] ?_ sH ?CNa27
 case CNa27=>rfl
 rintro ⟨o,s1⟩ h1<;>conv=>whnf
 (try refine gS ?_);conv=>whnf
 refine aA.callN (dH L en hL s1 (B [61])) [0] ?_ sH ?CNa28
 case CNa28=>rfl
 rintro s2 h2<;>conv=>whnf
 (try refine gS ?_);conv=>whnf
 refine aA.callN (eD L en hL s2) [0] ?_ sH ?CNa29
 case CNa29=>rfl
 rintro ⟨c,s3⟩ h3<;>conv=>whnf
 (try refine gS ?_);conv=>whnf
 refine aA.held tab (.fl 0 (.fl 1 (.e1 2 [1] (.e1 3 [] .done)))) (by kernel_rfl) ?_;conv=>whnf
 (try refine gR ?_);conv=>whnf
 repeat ((first|(guard_target=_∧_;(first|refine oL ?_|refine oR ?_|refine oB ?_))|(guard_target=Exists _;refine oM ?_));(try intro _);conv=>whnf)
 (try refine gS ?_);conv=>whnf
 try refine aA.retU ?_
 exact aE.ret tab Tryz.func174 rfl (aL.mk (((⟨o,c,0,0⟩:Cd),s3)) (by simp only [wX,sb,rt,pE,←h1,←h2,←h3]) [] sH rfl rfl (aY rfl rfl))
theorem zD:FnS Tryz.prog 166 1 [stV en s] [roL L] (fun y=>y=lT L en s) (aMH en (aggR Am.row)):=by
 refine FnS.of Tryz.func166 (by kernel_rfl) rfl Tryz.ntmps166 rfl fun E0 F h w0 cs=>?_
 conv=>whnf
 refine gS ?_;conv=>whnf
 refine aA.callN (qL L en hL s) [0] ?_ sH ?CNa30
 case CNa30=>rfl
 rintro ⟨⟨n,d⟩,s1⟩ h1<;>conv=>whnf
 (try refine gS ?_);conv=>whnf
 refine aA.callN (eD L en hL s1) [0] ?_ sH ?CNa31
 case CNa31=>rfl
 rintro ⟨u,s2⟩ h2<;>conv=>whnf
 (try refine gS ?_);conv=>whnf
 refine aA.callN (eD L en hL s2) [0] ?_ sH ?CNa32
 case CNa32=>rfl
 rintro ⟨i,s3⟩ h3<;>conv=>whnf
 (try refine gS ?_);conv=>whnf
 refine aA.held tab (.fl 0 (.fl 1 (.e1 2 [0] (.e1 3 [] (.e1 4 [] .done))))) (by kernel_rfl) ?_;conv=>whnf
 (try refine gR ?_);conv=>whnf
 refine aV.callN (dH L en hL s3 (B [59])) [0] ?_ sH ?CNa33
 case CNa33=>rfl
 rintro s4 h4<;>conv=>whnf
 conv=>whnf
 try refine oB ?_
 (try refine gR ?_);conv=>whnf
 repeat ((first|(guard_target=_∧_;(first|refine oL ?_|refine oR ?_|refine oB ?_))|(guard_target=Exists _;refine oM ?_));(try intro _);conv=>whnf)
 (try refine gS ?_);conv=>whnf
 try refine aA.retU ?_
 exact aE.ret tab Tryz.func166 rfl (aL.mk (((⟨n,d,u,i,false,0,0⟩:Am),s4)) (by simp only [lT,sb,rt,pE,←h1,←h2,←h3,←h4]) [] sH rfl rfl (aY rfl rfl))
theorem aNC:FnS Tryz.prog 145 1 [stV en s] [roL L] (fun y=>y=aCX L en s) (aMH en (aggR Sw.row)):=by
 refine FnS.of Tryz.func145 (by kernel_rfl) rfl Tryz.ntmps145 rfl fun E0 F h w0 cs=>?_
 conv=>whnf
 refine gS ?_;conv=>whnf
 refine aA.callN (cK L en hL s (B iC)) [0] ?_ sH ?CNa34
 case CNa34=>rfl
 rintro s1 h1<;>conv=>whnf
 (try refine gS ?_);conv=>whnf
 refine aA.callN (eD L en hL s1) [0] ?_ sH ?CNa35
 case CNa35=>rfl
 rintro ⟨a,s2⟩ h2<;>conv=>whnf
 (try refine gS ?_);conv=>whnf
 refine aA.callN (cK L en hL s2 (B aAU)) [0] ?_ sH ?CNa36
 case CNa36=>rfl
 rintro s3 h3<;>conv=>whnf
 (try refine gS ?_);conv=>whnf
 refine aA.callN (eD L en hL s3) [0] ?_ sH ?CNa37
 case CNa37=>rfl
 rintro ⟨b,s4⟩ h4<;>conv=>whnf
 (try refine gS ?_);conv=>whnf
 refine aA.held tab (.fl 0 (.fl 1 (.e1 2 [0] (.e1 3 [] (.e1 4 [] .done))))) (by kernel_rfl) ?_;conv=>whnf
 (try refine gR ?_);conv=>whnf
 refine aV.callN (dH L en hL s4 (B [59])) [0] ?_ sH ?CNa38
 case CNa38=>rfl
 rintro s5 h5<;>conv=>whnf
 conv=>whnf
 try refine oB ?_
 (try refine gR ?_);conv=>whnf
 repeat ((first|(guard_target=_∧_;(first|refine oL ?_|refine oR ?_|refine oB ?_))|(guard_target=Exists _;refine oM ?_));(try intro _);conv=>whnf)
 (try refine gS ?_);conv=>whnf
 try refine aA.retU ?_
 exact aE.ret tab Tryz.func145 rfl (aL.mk (((⟨a,b,0,0⟩:Sw),s5)) (by simp only [aCX,sb,rt,pE,←h1,←h2,←h3,←h4,←h5]) [] sH rfl rfl (aY rfl rfl))
end
end Go.Proofs.YtgbeechjghajcaaGreatDoor

namespace Go.SynM
open Go Go.Fw Go.RatM Go.SrcM
open Go.Proofs.YtgbeechjghajcaaGreatDoor (Tok)
section
variable {L:List Tok} {en:Int} {α β:Type}
def Adv (m:M α):Prop:=∀s,(m s).2.e=0→s.e=0∧s.n≤(m s).2.n
def oE (m:M α):Prop:=∀s,(m s).2.e=0→s.e=0∧s.n<(m s).2.n
theorem oE.a {m:M α} (h:oE m):Adv m:=fun s hs=>⟨(h s hs).1,Nat.le_of_lt (h s hs).2⟩
theorem fV {a:α}:Adv (rt a):=fun _ h=>⟨h,Nat.le_refl _⟩
theorem bC {m:M α} {f:α→M β} (h1:Adv m) (h2:∀a,Adv (f a)):Adv (sb m f):=fun s h=>by
 have a:=h2 (m s).1 (m s).2 h
 have b:=h1 s a.1
 exact ⟨b.1,Nat.le_trans b.2 a.2⟩
theorem dO {m:M α} {f:α→M β} (h1:oE m) (h2:∀a,Adv (f a)):oE (sb m f):=fun s h=>by
 have a:=h2 (m s).1 (m s).2 h
 have b:=h1 s a.1
 exact ⟨b.1,Nat.lt_of_lt_of_le b.2 a.2⟩
theorem tJ {m:M α} {f:α→M β} (h1:Adv m) (h2:∀a,oE (f a)):oE (sb m f):=fun s h=>by
 have a:=h2 (m s).1 (m s).2 h
 have b:=h1 s a.1
 exact ⟨b.1,Nat.lt_of_le_of_lt b.2 a.2⟩
theorem rI {c:Int} (hc:c≠0) (s:St):(mE L en c s).2.e≠0:=by
 unfold mE
 by_cases h:s.e=0
 ·simp only [h,if_true]
  cases L[s.n]? with
  |none=>exact (by decide:(100:Int)≠0)
  |some x=>exact hc
 simp only [if_neg h];exact h
theorem bJ {k:Int} {t:ByteArray}:oE (oZ L en k t):=fun s h=>by
 unfold oZ at h ⊢
 cases hb:cL L k t s with
 |true=>
  simp only [hb,if_true] at h ⊢
  exact ⟨h,Nat.lt_succ_self _⟩
 |false=>
  rw [hb] at h
  exact absurd h (rI (by decide) s)
theorem dV:oE (eV L en):=fun s h=>by
 unfold eV at h ⊢
 by_cases h0:s.e=0
 ·rw [if_pos h0] at h ⊢
  cases hx:L[s.n]? with
  |none=>rw [hx] at h;exact absurd h (rI (by decide) s)
  |some x=>
   rw [hx] at h
   by_cases hk:x.kind=1
   ·simp only [if_pos hk];exact ⟨h0,Nat.lt_succ_self _⟩
   simp only [if_neg hk] at h;exact absurd h (rI (by decide) s)
 rw [if_neg h0] at h
 exact absurd h (rI (by decide) s)
theorem rJ:oE (sJ L en):=fun s h=>by
 unfold sJ at h ⊢
 by_cases h0:s.e=0
 ·rw [if_pos h0] at h ⊢
  cases hx:L[s.n]? with
  |none=>rw [hx] at h;exact absurd h (rI (by decide) s)
  |some x=>
   rw [hx] at h
   by_cases hk:x.kind=2∧0≤x.n∧x.n≤1048576
   ·simp only [if_pos hk];exact ⟨h0,Nat.lt_succ_self _⟩
   simp only [if_neg hk] at h;exact absurd h (rI (by decide) s)
 rw [if_neg h0] at h
 exact absurd h (rI (by decide) s)
theorem qT {n m:Nat}:Adv (bX L en n m):=fun s h=>by
 unfold bX at h ⊢
 by_cases hm:m≤n
 ·rw [if_pos hm] at h;exact absurd h (rI (by decide) s)
 rw [if_neg hm] at h ⊢;exact ⟨h,Nat.le_refl _⟩
theorem aDO {k:Int} {t:ByteArray} {a:α} {m:M α} (h:Adv m):Adv (pE L k t a m):=fun s hs=>by
 unfold pE at hs ⊢
 cases hb:cL L k t s with
 |true=>rw [hb] at hs;exact h s hs
 |false=>rw [hb] at hs;exact ⟨hs,Nat.le_refl _⟩
theorem qI:oE (pT L en):=dO rJ fun _=>bC bJ.a fun _=>bC rJ.a fun _=>fV
theorem aGR:oE (wX L en):=dO dV fun _=>bC bJ.a fun _=>bC dV.a fun _=>fV
theorem yP:oE (lT L en):=dO qI fun _=>bC dV.a fun _=>bC dV.a fun _=>bC bJ.a fun _=>fV
theorem aRU:oE (wN L en):=dO bJ fun _=>bC (aDO (bC bJ.a fun _=>fV)) fun _=>bC yP.a fun _=>fV
theorem aSC:oE (aAN L en):=dO bJ fun _=>bC dV.a fun _=>bC rJ.a fun _=>bC bJ.a fun _=>fV
def mu (L:List Tok) (s:St):Nat:=if s.e=0 then L.length+1 - s.n else 0
theorem aHT (s:St):mu L s≤L.length+1:=by unfold mu;split<;>omega
theorem xF {k:Int} {t:ByteArray} {s:St} (h:cL L k t s=true):s.e=0∧s.n<L.length∧2≤mu L s:=by
 have h0:s.e=0:=by
  unfold cL at h
  simp only [Bool.and_eq_true,decide_eq_true_eq] at h
  exact h.1
 have h1:s.n<L.length:=by
  unfold cL at h
  by_cases hn:s.n<L.length
  ·exact hn
  rw [List.getElem?_eq_none (Nat.le_of_not_lt hn)] at h
  simp at h
 refine ⟨h0,h1,?_⟩
 unfold mu
 rw [if_pos h0]
 omega
theorem aML {m:M α} (hm:oE m) {k:Int} {t:ByteArray} {s:St} (h:cL L k t s=true):mu L (m s).2<mu L s:=by
 obtain ⟨h0,h1,h2⟩:=xF h
 unfold mu at h2 ⊢
 rw [if_pos h0] at h2 ⊢
 by_cases he:(m s).2.e=0
 ·have:=(hm s he).2
  rw [if_pos he]
  omega
 rw [if_neg he];omega
theorem wH {k:Int} {t:ByteArray} {most f:Nat} {m:M α} {l:List α} {s:St} (h:cL L k t s=false):dZ L en k t most m f l s=(l,s):=by
 cases f with
 |zero=>rfl
 |succ f=>unfold dZ;rw [h];rfl
theorem tB {k:Int} {t:ByteArray} {most f:Nat} {m:M α} {l:List α} {s:St} (h:cL L k t s=true):dZ L en k t most m (f+1) l s=sb (sb (bX L en l.length most) fun _=>m) (fun x=>dZ L en k t most m f (l++[x])) s:=by
 conv=>lhs;unfold dZ
 rw [h];rfl
end
end Go.SynM
namespace Go.Proofs.YtgbeechjghajcaaGreatDoor
open Go Go.Fw Go.NatM Go.RatM Go.SrcM Go.SynM
set_option maxRecDepth 100000
set_option maxHeartbeats 99999999
abbrev stC (en:Int) (s:St):List SV:=[.buf 0,.v (.int .i64 (s.n:Int)),.v (.int .i64 en),.v (.int .i64 s.e),.v (.int .i64 s.pl)]
section
variable (L:List Tok) (en:Int) (hL:L.length≤65536) (s:St)
include hL
theorem aHO:FnS Tryz.prog 165 1 [stV en s] [roL L] (fun y=>y=uT L en s) (fun y=>.ret (.tup [.buf 1,stV en y.2]) 2 [(1,.own 52 4 (rws Cd.row y.1))]):=by
 refine FnS.of Tryz.func165 (by kernel_rfl) rfl Tryz.ntmps165 rfl fun E0 F h w0 cs=>?_
 conv=>whnf
 refine gS ?_;conv=>whnf
 refine aA.callN (aNB L en hL s) [0] ?_ sH ?CNa1
 case CNa1=>rfl
 rintro ⟨c,s1⟩ h1<;>conv=>whnf
 (try refine gS ?_);conv=>whnf
 refine aA.subR (nx':=6) (l':=[(3,.ptr 2 0),(4,.ptr 3 0),(5,.ptr 4 0),(6,.buf 5)]) (H':=[roL L,(2,.cells 74 [.v aD,aC 0,aC 0,aC 0,aC 0]),(3,.cells 52 (toV (Cd.row c))),(4,.cells 74 (stC en s1)),(5,.own 52 4 (rws Cd.row [c]))]) [] ?_ sH sH
 refine aA.subR [] (aA.loop (fun (⟨f,l,c,s2⟩:Nat×List Cd×Cd×St)=>[(3,.ptr 2 0),(4,.ptr 3 0),(5,.ptr 4 0),(6,.buf 5)]) (fun (⟨f,l,c,s2⟩:Nat×List Cd×Cd×St)=>[roL L,(2,.cells 74 [.v aD,aC 0,aC 0,aC 0,aC 0]),(3,.cells 52 (toV (Cd.row c))),(4,.cells 74 (stC en s2)),(5,.own 52 4 (rws Cd.row l))]) 6 (fun (⟨f,l,c,s2⟩:Nat×List Cd×Cd×St)=>(mu L s2≤f∧l.length+f≤L.length+2)∧uT L en s=dZ L en 3 (B [44]) 6 (sb (rsg L en 44) fun _=>wX L en) f l s2) (fun (⟨f,l,c,s2⟩:Nat×List Cd×Cd×St)=>f) ?round2 ((L.length+1,[c],c,s1)) ?J02) sH sH
 case J02=>exact (⟨⟨aHT _,by show 1+(L.length+1)≤_;omega⟩,by unfold uT sb;rw [←h1]⟩)
 rintro ⟨f,l,c,s2⟩ hJ back
 try dsimp only at hJ back
 conv=>whnf
 try dsimp only
 refine gS ?_;conv=>whnf
 obtain ⟨⟨hm,hf⟩,hJ⟩:=hJ
 have ll:=aG Cd.row l
 refine aA.callN (yX L en s2 (B [44])) [0] ?_ sH ?CNa3
 case CNa3=>rfl
 intro _ _
 conv=>whnf
 (try refine gS ?_);conv=>whnf
 cases hb:cL L 3 (B [44]) s2 with
 |false=>
  (try refine gS ?_);conv=>whnf
  refine aA.held tab (.fl 0 (.fl 1 (.fl 2 (.e1 3 [] .done)))) (by kernel_rfl) ?_;conv=>whnf
  (try refine gR ?_);conv=>whnf
  repeat ((first|(guard_target=_∧_;(first|refine oL ?_|refine oR ?_|refine oB ?_))|(guard_target=Exists _;refine oM ?_));(try intro _);conv=>whnf)
  (try refine gS ?_);conv=>whnf
  try refine aA.retU ?_
  exact aE.ret tab Tryz.func165 rfl (aL.mk ((l,s2)) ((hJ.trans (wH hb)).symm) [(1,5)] sH rfl rfl (aY rfl rfl))
 |true=>
  have hmu:=aML (m:=sb (bX L en l.length 6) fun _=>sb (rsg L en 44) fun _=>wX L en) (tJ qT fun _=>dO bJ fun _=>aGR.a) hb
  have h2:=(xF hb).2.2
  obtain ⟨f,rfl⟩:∃g,f=g+1:=⟨f - 1,by omega⟩
  rw [tB hb] at hJ
  (try refine gS ?_);conv=>whnf
  refine aA.callN (iT L en s2 (rws Cd.row l).length 6) [0] ?_ sH ?CNa4
  case CNa4=>rfl
  rintro s3 h3<;>conv=>whnf
  (try refine gS ?_);conv=>whnf
  refine aA.callN (dH L en hL s3 (B [44])) [0] ?_ sH ?CNa5
  case CNa5=>rfl
  rintro s4 h4<;>conv=>whnf
  (try refine gS ?_);conv=>whnf
  refine aA.callN (aNB L en hL s4) [0] ?_ sH ?CNa6
  case CNa6=>rfl
  rintro ⟨c2,s5⟩ h5<;>conv=>whnf
  rw [ll] at h3
  have e:sb (bX L en l.length 6) (fun _=>sb (rsg L en 44) fun _=>wX L en) s2=(c2,s5):=by simp only [sb,←h3,←h4,←h5]
  (try refine gS ?_);conv=>whnf
  refine And.intro (gG (by omega)) ?_;conv=>whnf
  (try refine gS ?_);conv=>whnf
  refine aA.rowsEq (7) ((List.map_append (f:=Cd.row) (l₁:=l) (l₂:=[c2])).symm) ?_;conv=>whnf
  refine aA.subR [(5,7)] (back ((f,l++[c2],c2,s5)) (by exact (⟨⟨by rw [e] at hmu;show mu L s5≤f;have:mu L s5<mu L s2:=hmu;omega,by rw [List.length_append];show l.length+1+f≤_;omega⟩,hJ.trans (by show (dZ L en 3 (B [44]) 6 _ f (l++[(sb (bX L en l.length 6) (fun _=>sb (rsg L en 44) fun _=>wX L en) s2).1])) (sb (bX L en l.length 6) (fun _=>sb (rsg L en 44) fun _=>wX L en) s2).2=_;rw [e])⟩)) (by (try dsimp only);omega)) sH sH
abbrev iG (x:ByteArray):List Value:=[.string x]
theorem aXP:FnS Tryz.prog 142 1 [stV en s] [roL L] (fun y=>y=aFO L en s) (fun y=>.ret (.tup [.agg [bN y.1.name,.buf 1],stV en y.2]) 2 [(1,.own 9 1 (rws iG y.1.ch))]):=by
 refine FnS.of Tryz.func142 (by kernel_rfl) rfl Tryz.ntmps142 rfl fun E0 F h w0 cs=>?_
 conv=>whnf
 refine gS ?_;conv=>whnf
 refine aA.callN (cK L en hL s (B dA)) [0] ?_ sH ?CNa8
 case CNa8=>rfl
 rintro s1 h1<;>conv=>whnf
 (try refine gS ?_);conv=>whnf
 refine aA.callN (eD L en hL s1) [0] ?_ sH ?CNa9
 case CNa9=>rfl
 rintro ⟨nm,s2⟩ h2<;>conv=>whnf
 (try refine gS ?_);conv=>whnf
 refine aA.callN (dH L en hL s2 (B [123])) [0] ?_ sH ?CNa10
 case CNa10=>rfl
 rintro s3 h3<;>conv=>whnf
 (try refine gS ?_);conv=>whnf
 refine aA.callN (eD L en hL s3) [0] ?_ sH ?CNa11
 case CNa11=>rfl
 rintro ⟨c,s4⟩ h4<;>conv=>whnf
 (try refine gS ?_);conv=>whnf
 refine aA.subR (nx':=7) (l':=[(2,.ptr 2 0),(3,.ptr 3 0),(4,.ptr 4 0),(5,bN c),(6,.ptr 5 0)]) (H':=[roL L,(2,.cells 50 [bN SynM.e0,.v aD]),(3,.cells 74 [.v aD,aC 0,aC 0,aC 0,aC 0]),(4,.cells 50 [bN nm,.buf 6]),(5,.cells 74 (stC en s4)),(6,.own 9 1 (rws iG [c]))]) [] ?_ sH sH
 refine aA.subR [] (aA.loop (fun (⟨f,l,c,s2⟩:Nat×List ByteArray×ByteArray×St)=>[(2,.ptr 2 0),(3,.ptr 3 0),(4,.ptr 4 0),(5,bN c),(6,.ptr 5 0)]) (fun (⟨f,l,c,s2⟩:Nat×List ByteArray×ByteArray×St)=>[roL L,(2,.cells 50 [bN SynM.e0,.v aD]),(3,.cells 74 [.v aD,aC 0,aC 0,aC 0,aC 0]),(4,.cells 50 [bN nm,.buf 6]),(5,.cells 74 (stC en s2)),(6,.own 9 1 (rws iG l))]) 7 (fun (⟨f,l,c,s2⟩:Nat×List ByteArray×ByteArray×St)=>(mu L s2≤f∧l.length+f≤L.length+2)∧rchs L en s3=dZ L en 3 (B [44]) 4 (sb (rsg L en 44) fun _=>eV L en) f l s2) (fun (⟨f,l,c,s2⟩:Nat×List ByteArray×ByteArray×St)=>f) ?round12 ((L.length+1,[c],c,s4)) ?J012) sH sH
 case J012=>exact (⟨⟨aHT _,by show 1+(L.length+1)≤_;omega⟩,by unfold rchs sb;rw [←h4]⟩)
 rintro ⟨f,l,c,s2⟩ hJ back
 try dsimp only at hJ back
 conv=>whnf
 try dsimp only
 refine gS ?_;conv=>whnf
 obtain ⟨⟨hm,hf⟩,hJ⟩:=hJ
 have ll:=aG iG l
 refine aA.callN (yX L en s2 (B [44])) [0] ?_ sH ?CNa13
 case CNa13=>rfl
 intro _ _
 conv=>whnf
 (try refine gS ?_);conv=>whnf
 cases hb:cL L 3 (B [44]) s2 with
 |false=>
  have hJ:=hJ.trans (wH hb)
  (try refine gS ?_);conv=>whnf
  refine aA.held tab (.fl 0 (.fl 1 (.e1 2 [0] (.e1 3 [0] (.e1 4 [] (.e1 5 [] .done)))))) (by kernel_rfl) ?_;conv=>whnf
  (try refine gR ?_);conv=>whnf
  refine aV.callN (dH L en hL s2 (B [125])) [0] ?_ sH ?CNa14
  case CNa14=>rfl
  rintro s5 h5<;>conv=>whnf
  conv=>whnf
  try refine oB ?_
  (try refine gR ?_);conv=>whnf
  refine aV.callN (dH L en hL s5 (B [59])) [0] ?_ sH ?CNa15
  case CNa15=>rfl
  rintro s6 h6<;>conv=>whnf
  conv=>whnf
  try refine oB ?_
  (try refine gR ?_);conv=>whnf
  repeat ((first|(guard_target=_∧_;(first|refine oL ?_|refine oR ?_|refine oB ?_))|(guard_target=Exists _;refine oM ?_));(try intro _);conv=>whnf)
  (try refine gS ?_);conv=>whnf
  try refine aA.retU ?_
  exact aE.ret tab Tryz.func142 rfl (aL.mk (((⟨nm,hd0,l⟩:OpV),s6)) (by simp only [aFO,sb,rt,←h1,←h2,←h3,hJ,←h5,←h6]) [(1,6)] sH rfl rfl (aY rfl rfl))
 |true=>
  have hmu:=aML (m:=sb (bX L en l.length 4) fun _=>sb (rsg L en 44) fun _=>eV L en) (tJ qT fun _=>dO bJ fun _=>dV.a) hb
  have h2':=(xF hb).2.2
  obtain ⟨f,rfl⟩:∃g,f=g+1:=⟨f - 1,by omega⟩
  rw [tB hb] at hJ
  (try refine gS ?_);conv=>whnf
  refine aA.callN (iT L en s2 (rws iG l).length 4) [0] ?_ sH ?CNa16
  case CNa16=>rfl
  rintro s5 h5<;>conv=>whnf
  (try refine gS ?_);conv=>whnf
  refine aA.callN (dH L en hL s5 (B [44])) [0] ?_ sH ?CNa17
  case CNa17=>rfl
  rintro s6 h6<;>conv=>whnf
  (try refine gS ?_);conv=>whnf
  refine aA.callN (eD L en hL s6) [0] ?_ sH ?CNa18
  case CNa18=>rfl
  rintro ⟨c2,s7⟩ h7<;>conv=>whnf
  rw [ll] at h5
  have e:sb (bX L en l.length 4) (fun _=>sb (rsg L en 44) fun _=>eV L en) s2=(c2,s7):=by simp only [sb,←h5,←h6,←h7]
  (try refine gS ?_);conv=>whnf
  refine And.intro (gG (by omega)) ?_;conv=>whnf
  (try refine gS ?_);conv=>whnf
  refine aA.rowsEq (8) ((List.map_append (f:=iG) (l₁:=l) (l₂:=[c2])).symm) ?_;conv=>whnf
  refine aA.subR [(6,8)] (back ((f,l++[c2],c2,s7)) (by exact (⟨⟨by rw [e] at hmu;show mu L s7≤f;have:mu L s7<mu L s2:=hmu;omega,by rw [List.length_append];show l.length+1+f≤_;omega⟩,hJ.trans (by show (dZ L en 3 (B [44]) 4 _ f (l++[(sb (bX L en l.length 4) (fun _=>sb (rsg L en 44) fun _=>eV L en) s2).1])) (sb (bX L en l.length 4) (fun _=>sb (rsg L en 44) fun _=>eV L en) s2).2=_;rw [e])⟩)) (by (try dsimp only);omega)) sH sH
theorem aXU:FnS Tryz.prog 143 1 [stV en s] [roL L] (fun y=>y=aFZ L en s) (fun y=>.ret (.tup [.buf 1,stV en y.2]) 2 [(1,.own 52 4 (rws Cd.row y.1.cs))]):=by
 refine FnS.of Tryz.func143 (by kernel_rfl) rfl Tryz.ntmps143 rfl fun E0 F h w0 cs=>?_
 conv=>whnf
 refine gS ?_;conv=>whnf
 refine aA.callN (cK L en hL s (B dK)) [0] ?_ sH ?CNa20
 case CNa20=>rfl
 rintro s1 h1<;>conv=>whnf
 (try refine gS ?_);conv=>whnf
 refine aA.callN (aHO L en hL s1) [0] ?_ sH ?CNa21
 case CNa21=>rfl
 rintro ⟨l,s2⟩ h2<;>conv=>whnf
 (try refine gS ?_);conv=>whnf
 refine aA.callN (dH L en hL s2 (B [59])) [0] ?_ sH ?CNa22
 case CNa22=>rfl
 rintro s3 h3<;>conv=>whnf
 (try refine gS ?_);conv=>whnf
 try refine aA.retU ?_
 exact aE.ret tab Tryz.func143 rfl (aL.mk (((⟨hd0,l⟩:FbV),s3)) (by simp only [aFZ,sb,rt,←h1,←h2,←h3]) [(1,3)] sH rfl rfl (aY rfl rfl))
end
end Go.Proofs.YtgbeechjghajcaaGreatDoor

namespace Go.Proofs.YtgbeechjghajcaaGreatDoor
open Go Go.Fw Go.NatM Go.RatM Go.SrcM Go.SynM
set_option maxRecDepth 100000
set_option maxHeartbeats 99999999
def outRR (en:Int) (y:RcV×St):gK:=.ret (.tup [.agg [bN y.1.item,bN y.1.plant,aC y.1.fr,aC y.1.to,.buf 1,.buf 2,.buf 3,aC y.1.rwN,aC y.1.rwD,aC y.1.yN,aC y.1.yD,aC y.1.tN,aC y.1.tD,aC y.1.lead,.buf 4,aC y.1.inum,aC y.1.pnum],stV en y.2]) 5
 [(1,.own 52 4 (rws Cd.row y.1.cs)),(2,.own 55 7 (rws Am.row y.1.inn)),(3,.own 55 7 (rws Am.row y.1.out)),(4,.own 58 3 (rws Rn.row y.1.runs))]
section
variable (L:List Tok) (en:Int) (hL:L.length≤65536) (s:St)
include hL
theorem rrec_fn:FnS Tryz.prog 144 1 [stV en s] [roL L] (fun y=>y=aOP L en s) (outRR en):=by
 refine FnS.of Tryz.func144 (by kernel_rfl) rfl Tryz.ntmps144 rfl fun E0 F h w0 cs=>?_
 conv=>whnf
 refine gS ?_;conv=>whnf
 refine aA.callN (cK L en hL s (B iD)) [0] ?_ sH ?CNa1
 case CNa1=>rfl
 rintro s1 h1<;>conv=>whnf
 (try refine gS ?_);conv=>whnf
 refine aA.callN (eD L en hL s1) [0] ?_ sH ?CNa2
 case CNa2=>rfl
 rintro ⟨it,s2⟩ h2<;>conv=>whnf
 refine aA.subR (nx':=5) (l':=[(1,.ptr 1 0),(2,.ptr 2 0),(3,.ptr 3 0),(4,.ptr 4 0),(15,.tup [bN it,stV en s2])]) (H':=[roL L,(1,.cells 74 (stC en s)),(2,.cells 61 [bN SynM.e0,bN SynM.e0,aC 0,aC 0,.v aD,.v aD,.v aD,aC 0,aC 0,aC 0,aC 0,aC 0,aC 0,aC 0,.v aD,aC 0,aC 0]),(3,.cells 74 [.v aD,aC 0,aC 0,aC 0,aC 0]),(4,.cells 61 [bN SynM.e0,bN SynM.e0,aC 0,aC 0,.v aD,.v aD,.v aD,aC 0,aC 0,aC 0,aC 0,aC 0,aC 0,aC 0,.v aD,aC 0,aC 0])]) [] ?_ sH sH
 refine aA.nilOwn (l':=[(1,.ptr 1 0),(2,.ptr 2 0),(3,.ptr 3 0),(4,.ptr 4 0),(15,.tup [bN it,stV en s2])]) (H':=[roL L,(1,.cells 74 (stC en s)),(2,.cells 61 [bN SynM.e0,bN SynM.e0,aC 0,aC 0,.v aD,.v aD,.v aD,aC 0,aC 0,aC 0,aC 0,aC 0,aC 0,aC 0,.v aD,aC 0,aC 0]),(3,.cells 74 [.v aD,aC 0,aC 0,aC 0,aC 0]),(4,.cells 61 [bN SynM.e0,bN SynM.e0,aC 0,aC 0,.buf 5,.v aD,.v aD,aC 0,aC 0,aC 0,aC 0,aC 0,aC 0,aC 0,.v aD,aC 0,aC 0])]) 52 4 ?_ (by rfl) (by rfl) (by rfl)
 refine aA.nilOwn (l':=[(1,.ptr 1 0),(2,.ptr 2 0),(3,.ptr 3 0),(4,.ptr 4 0),(15,.tup [bN it,stV en s2])]) (H':=[(5,.own 52 4 []),roL L,(1,.cells 74 (stC en s)),(2,.cells 61 [bN SynM.e0,bN SynM.e0,aC 0,aC 0,.v aD,.v aD,.v aD,aC 0,aC 0,aC 0,aC 0,aC 0,aC 0,aC 0,.v aD,aC 0,aC 0]),(3,.cells 74 [.v aD,aC 0,aC 0,aC 0,aC 0]),(4,.cells 61 [bN SynM.e0,bN SynM.e0,aC 0,aC 0,.buf 5,.buf 6,.v aD,aC 0,aC 0,aC 0,aC 0,aC 0,aC 0,aC 0,.v aD,aC 0,aC 0])]) 55 7 ?_ (by rfl) (by rfl) (by rfl)
 refine aA.nilOwn (l':=[(1,.ptr 1 0),(2,.ptr 2 0),(3,.ptr 3 0),(4,.ptr 4 0),(15,.tup [bN it,stV en s2])]) (H':=[(6,.own 55 7 []),(5,.own 52 4 []),roL L,(1,.cells 74 (stC en s)),(2,.cells 61 [bN SynM.e0,bN SynM.e0,aC 0,aC 0,.v aD,.v aD,.v aD,aC 0,aC 0,aC 0,aC 0,aC 0,aC 0,aC 0,.v aD,aC 0,aC 0]),(3,.cells 74 [.v aD,aC 0,aC 0,aC 0,aC 0]),(4,.cells 61 [bN SynM.e0,bN SynM.e0,aC 0,aC 0,.buf 5,.buf 6,.buf 7,aC 0,aC 0,aC 0,aC 0,aC 0,aC 0,aC 0,.v aD,aC 0,aC 0])]) 55 7 ?_ (by rfl) (by rfl) (by rfl)
 refine aA.nilOwn (l':=[(1,.ptr 1 0),(2,.ptr 2 0),(3,.ptr 3 0),(4,.ptr 4 0),(15,.tup [bN it,stV en s2])]) (H':=[(7,.own 55 7 []),(6,.own 55 7 []),(5,.own 52 4 []),roL L,(1,.cells 74 (stC en s)),(2,.cells 61 [bN SynM.e0,bN SynM.e0,aC 0,aC 0,.v aD,.v aD,.v aD,aC 0,aC 0,aC 0,aC 0,aC 0,aC 0,aC 0,.v aD,aC 0,aC 0]),(3,.cells 74 [.v aD,aC 0,aC 0,aC 0,aC 0]),(4,.cells 61 [bN SynM.e0,bN SynM.e0,aC 0,aC 0,.buf 5,.buf 6,.buf 7,aC 0,aC 0,aC 0,aC 0,aC 0,aC 0,aC 0,.buf 8,aC 0,aC 0])]) 58 3 ?_ (by rfl) (by rfl) (by rfl)
 (try refine gS ?_);conv=>whnf
 refine aA.callN (cK L en hL s2 (B wAt)) [0] ?_ sH ?CNa3
 case CNa3=>rfl
 rintro s3 h3<;>conv=>whnf
 (try refine gS ?_);conv=>whnf
 refine aA.callN (eD L en hL s3) [0] ?_ sH ?CNa4
 case CNa4=>rfl
 rintro ⟨pl,s4⟩ h4<;>conv=>whnf
 refine aA.subR (nx':=9) (l':=[(1,.ptr 1 0),(2,.ptr 2 0),(3,.ptr 3 0),(4,.ptr 4 0),(22,.tup [bN pl,stV en s4])]) (H':=[roL L,(1,.cells 74 (stC en s2)),(2,.cells 61 [bN SynM.e0,bN SynM.e0,aC 0,aC 0,.v aD,.v aD,.v aD,aC 0,aC 0,aC 0,aC 0,aC 0,aC 0,aC 0,.v aD,aC 0,aC 0]),(3,.cells 74 [.v aD,aC 0,aC 0,aC 0,aC 0]),(4,.cells 61 [bN it,bN SynM.e0,aC 0,aC 0,.buf 5,.buf 6,.buf 7,aC 0,aC 0,aC 0,aC 0,aC 0,aC 0,aC 0,.buf 8,aC 0,aC 0]),(5,.own 52 4 (rws Cd.row [])),(6,.own 55 7 (rws Am.row [])),(7,.own 55 7 (rws Am.row [])),(8,.own 58 3 (rws Rn.row []))]) [] ?_ sH sH
 (try refine gS ?_);conv=>whnf
 refine aA.callN (cK L en hL s4 (B qO)) [0] ?_ sH ?CNa5
 case CNa5=>rfl
 rintro s5 h5<;>conv=>whnf
 (try refine gS ?_);conv=>whnf
 refine aA.callN (rL L en hL s5) [0] ?_ sH ?CNa6
 case CNa6=>rfl
 rintro ⟨fr,s6⟩ h6<;>conv=>whnf
 refine aA.subR (nx':=9) (l':=[(1,.ptr 1 0),(2,.ptr 2 0),(3,.ptr 3 0),(4,.ptr 4 0),(29,.tup [aC fr,stV en s6])]) (H':=[roL L,(1,.cells 74 (stC en s4)),(2,.cells 61 [bN SynM.e0,bN SynM.e0,aC 0,aC 0,.v aD,.v aD,.v aD,aC 0,aC 0,aC 0,aC 0,aC 0,aC 0,aC 0,.v aD,aC 0,aC 0]),(3,.cells 74 [.v aD,aC 0,aC 0,aC 0,aC 0]),(4,.cells 61 [bN it,bN pl,aC 0,aC 0,.buf 5,.buf 6,.buf 7,aC 0,aC 0,aC 0,aC 0,aC 0,aC 0,aC 0,.buf 8,aC 0,aC 0]),(5,.own 52 4 (rws Cd.row [])),(6,.own 55 7 (rws Am.row [])),(7,.own 55 7 (rws Am.row [])),(8,.own 58 3 (rws Rn.row []))]) [] ?_ sH sH
 (try refine gS ?_);conv=>whnf
 refine aA.callN (cK L en hL s6 (B wTo)) [0] ?_ sH ?CNa7
 case CNa7=>rfl
 rintro s7 h7<;>conv=>whnf
 (try refine gS ?_);conv=>whnf
 refine aA.callN (rL L en hL s7) [0] ?_ sH ?CNa8
 case CNa8=>rfl
 rintro ⟨to,s8⟩ h8<;>conv=>whnf
 refine aA.subR (nx':=9) (l':=[(1,.ptr 1 0),(2,.ptr 2 0),(3,.ptr 3 0),(4,.ptr 4 0),(36,.tup [aC to,stV en s8])]) (H':=[roL L,(1,.cells 74 (stC en s6)),(2,.cells 61 [bN SynM.e0,bN SynM.e0,aC 0,aC 0,.v aD,.v aD,.v aD,aC 0,aC 0,aC 0,aC 0,aC 0,aC 0,aC 0,.v aD,aC 0,aC 0]),(3,.cells 74 [.v aD,aC 0,aC 0,aC 0,aC 0]),(4,.cells 61 [bN it,bN pl,aC fr,aC 0,.buf 5,.buf 6,.buf 7,aC 0,aC 0,aC 0,aC 0,aC 0,aC 0,aC 0,.buf 8,aC 0,aC 0]),(5,.own 52 4 (rws Cd.row [])),(6,.own 55 7 (rws Am.row [])),(7,.own 55 7 (rws Am.row [])),(8,.own 58 3 (rws Rn.row []))]) [] ?_ sH sH
 refine jA tab 8 _ _ _ _ ?_;conv=>whnf
 refine aA.subR (nx':=9) (l':=[(1,.ptr 1 0),(2,.ptr 2 0),(3,.ptr 3 0),(4,.ptr 4 0)]) (H':=[roL L,(1,.cells 74 (stC en s8)),(2,.cells 61 [bN SynM.e0,bN SynM.e0,aC 0,aC 0,.v aD,.v aD,.v aD,aC 0,aC 0,aC 0,aC 0,aC 0,aC 0,aC 0,.v aD,aC 0,aC 0]),(3,.cells 74 [.v aD,aC 0,aC 0,aC 0,aC 0]),(4,.cells 61 [bN it,bN pl,aC fr,aC to,.buf 5,.buf 6,.buf 7,aC 0,aC 0,aC 0,aC 0,aC 0,aC 0,aC 0,.buf 8,aC 0,aC 0]),(5,.own 52 4 (rws Cd.row [])),(6,.own 55 7 (rws Am.row [])),(7,.own 55 7 (rws Am.row [])),(8,.own 58 3 (rws Rn.row []))]) [] ?_ sH sH
 refine aA.join (fun (⟨cs,s9⟩:List Cd×St)=>[(1,.ptr 1 0),(2,.ptr 2 0),(3,.ptr 3 0),(4,.ptr 4 0)]) (fun (⟨cs,s9⟩:List Cd×St)=>[roL L,(1,.cells 74 (stC en s9)),(2,.cells 61 [bN SynM.e0,bN SynM.e0,aC 0,aC 0,.v aD,.v aD,.v aD,aC 0,aC 0,aC 0,aC 0,aC 0,aC 0,aC 0,.v aD,aC 0,aC 0]),(3,.cells 74 [.v aD,aC 0,aC 0,aC 0,aC 0]),(4,.cells 61 [bN it,bN pl,aC fr,aC to,.buf 5,.buf 6,.buf 7,aC 0,aC 0,aC 0,aC 0,aC 0,aC 0,aC 0,.buf 8,aC 0,aC 0]),(5,.own 52 4 (rws Cd.row cs)),(6,.own 55 7 (rws Am.row [])),(7,.own 55 7 (rws Am.row [])),(8,.own 58 3 (rws Rn.row []))]) 9 (fun (⟨cs,s9⟩:List Cd×St)=>(cs,s9)=pE L 1 (B wIf) [] (sb (rwd L en wIf) fun _=>uT L en) s8) ?_ (fun meet=>?_)
 rotate_left
 ·try refine gS ?_
  conv=>whnf
  refine aA.callN (eB L en s8 (B wIf)) [0] ?_ sH ?CNa9
  case CNa9=>rfl
  intro _ _
  conv=>whnf
  (try refine gS ?_);conv=>whnf
  cases hb:cL L 1 (B wIf) s8 with
  |false=>
   (try refine gS ?_);conv=>whnf
   refine aA.subR [] (meet (([],s8)) (by exact (by unfold pE;rw [hb];rfl))) sH sH
  |true=>
   (try refine gS ?_);conv=>whnf
   refine aA.callN (cK L en hL s8 (B wIf)) [0] ?_ sH ?CNa11
   case CNa11=>rfl
   rintro q1 g1<;>conv=>whnf
   (try refine gS ?_);conv=>whnf
   refine aA.callN (aHO L en hL q1) [0] ?_ sH ?CNa12
   case CNa12=>rfl
   rintro ⟨cs,q2⟩ g2<;>conv=>whnf
   (try refine gS ?_);conv=>whnf
   refine aA.subR [(5,9)] (meet ((cs,q2)) (by exact (by unfold pE;rw [hb];simp only [if_true,sb,←g1,←g2]))) sH sH
 rintro ⟨cs,s9⟩ h9
 (try refine gS ?_);conv=>whnf
 refine aA.callN (dH L en hL s9 (B [123])) [0] ?_ sH ?CNa14
 case CNa14=>rfl
 rintro s10 h10<;>conv=>whnf
 refine aA.subR (nx':=9) (l':=[(1,.ptr 1 0),(2,.ptr 2 0),(3,.ptr 3 0),(4,.ptr 4 0),(50,stV en s10)]) (H':=[roL L,(1,.cells 74 (stC en s9)),(2,.cells 61 [bN SynM.e0,bN SynM.e0,aC 0,aC 0,.v aD,.v aD,.v aD,aC 0,aC 0,aC 0,aC 0,aC 0,aC 0,aC 0,.v aD,aC 0,aC 0]),(3,.cells 74 [.v aD,aC 0,aC 0,aC 0,aC 0]),(4,.cells 61 [bN it,bN pl,aC fr,aC to,.buf 5,.buf 6,.buf 7,aC 0,aC 0,aC 0,aC 0,aC 0,aC 0,aC 0,.buf 8,aC 0,aC 0]),(5,.own 52 4 (rws Cd.row cs)),(6,.own 55 7 (rws Am.row [])),(7,.own 55 7 (rws Am.row [])),(8,.own 58 3 (rws Rn.row []))]) [] ?_ sH sH
 (try refine gS ?_);conv=>whnf
 refine aA.subR [] (aA.loop (fun (⟨f,l,q⟩:Nat×List Am×St)=>[(1,.ptr 1 0),(2,.ptr 2 0),(3,.ptr 3 0),(4,.ptr 4 0)]) (fun (⟨f,l,q⟩:Nat×List Am×St)=>[roL L,(1,.cells 74 (stC en q)),(2,.cells 61 [bN SynM.e0,bN SynM.e0,aC 0,aC 0,.v aD,.v aD,.v aD,aC 0,aC 0,aC 0,aC 0,aC 0,aC 0,aC 0,.v aD,aC 0,aC 0]),(3,.cells 74 [.v aD,aC 0,aC 0,aC 0,aC 0]),(4,.cells 61 [bN it,bN pl,aC fr,aC to,.buf 5,.buf 6,.buf 7,aC 0,aC 0,aC 0,aC 0,aC 0,aC 0,aC 0,.buf 8,aC 0,aC 0]),(5,.own 52 4 (rws Cd.row cs)),(6,.own 55 7 (rws Am.row l)),(7,.own 55 7 (rws Am.row [])),(8,.own 58 3 (rws Rn.row []))]) 9 (fun (⟨f,l,q⟩:Nat×List Am×St)=>(mu L q≤f∧l.length+f≤L.length+1)∧dZ L en 1 (B wIn) 8 (wN L en) (L.length+1) [] s10=dZ L en 1 (B wIn) 8 (wN L en) f l q) (fun (⟨f,l,q⟩:Nat×List Am×St)=>f) ?round15 ((L.length+1,[],s10)) ?J015) sH sH
 case J015=>exact (⟨⟨aHT _,by show 0+(L.length+1)≤_;omega⟩,rfl⟩)
 rintro ⟨f,l,q⟩ hJ back
 try dsimp only at hJ back
 conv=>whnf
 try dsimp only
 refine gS ?_;conv=>whnf
 obtain ⟨⟨hm,hf⟩,hJ⟩:=hJ
 have ll:=aG Am.row l
 refine aA.callN (eB L en q (B wIn)) [0] ?_ sH ?CNa16
 case CNa16=>rfl
 intro _ _
 conv=>whnf
 (try refine gS ?_);conv=>whnf
 cases hb:cL L 1 (B wIn) q with
 |true=>
  have hmu:=aML (m:=sb (bX L en l.length 8) fun _=>wN L en) (tJ qT fun _=>aRU) hb
  have h2':=(xF hb).2.2
  obtain ⟨f,rfl⟩:∃g,f=g+1:=⟨f - 1,by omega⟩
  rw [tB hb] at hJ
  (try refine gS ?_);conv=>whnf
  refine aA.callN (iT L en q (rws Am.row l).length 8) [0] ?_ sH ?CNa17
  case CNa17=>rfl
  rintro q1 g1<;>conv=>whnf
  rw [ll] at g1
  (try refine gS ?_);conv=>whnf
  refine aA.callN (cK L en hL q1 (B wIn)) [0] ?_ sH ?CNa18
  case CNa18=>rfl
  rintro q2 g2<;>conv=>whnf
  (try refine gS ?_);conv=>whnf
  refine aA.callN (eB L en q2 (B kP)) [0] ?_ sH ?CNa19
  case CNa19=>rfl
  intro _ _
  conv=>whnf
  (try refine gS ?_);conv=>whnf
  cases hb2:cL L 1 (B kP) q2 with
  |false=>
   (try refine gS ?_);conv=>whnf
   refine aA.callN (zD L en hL q2) [0] ?_ sH ?CNa20
   case CNa20=>rfl
   rintro ⟨a,q3⟩ g3<;>conv=>whnf
   (try refine gS ?_);conv=>whnf
   have e:sb (bX L en l.length 8) (fun _=>wN L en) q=({a with back:=false},q3):=by simp only [sb,rt,pE,wN,aAN,←g1,←g2,hb2,Bool.false_eq_true,if_false,←g3]
   refine And.intro (gG (by omega)) ?_;conv=>whnf
   (try refine gS ?_);conv=>whnf
   refine aA.rowsEq (12) ((List.map_append (f:=Am.row) (l₁:=l) (l₂:=[{a with back:=false}])).symm) ?_;conv=>whnf
   refine aA.subR [(6,12)] (back ((f,l++[{a with back:=false}],q3)) (by exact (⟨⟨by rw [e] at hmu;show mu L q3≤f;have:mu L q3<mu L q:=hmu;omega,by rw [List.length_append];show l.length+1+f≤_;omega⟩,hJ.trans (by show (dZ L en 1 _ 8 _ f (l++[(sb (bX L en l.length 8) (fun _=>wN L en) q).1])) (sb (bX L en l.length 8) (fun _=>wN L en) q).2=_;rw [e])⟩)) (by (try dsimp only);omega)) sH sH
  |true=>
   (try refine gS ?_);conv=>whnf
   refine aA.callN (cK L en hL q2 (B kP)) [0] ?_ sH ?CNa22
   case CNa22=>rfl
   rintro q3 g3<;>conv=>whnf
   (try refine gS ?_);conv=>whnf
   refine aA.callN (zD L en hL q3) [0] ?_ sH ?CNa23
   case CNa23=>rfl
   rintro ⟨a,q4⟩ g4<;>conv=>whnf
   (try refine gS ?_);conv=>whnf
   have e:sb (bX L en l.length 8) (fun _=>wN L en) q=({a with back:=true},q4):=by simp only [sb,rt,pE,wN,aAN,←g1,←g2,hb2,if_true,←g3,←g4]
   refine And.intro (gG (by omega)) ?_;conv=>whnf
   (try refine gS ?_);conv=>whnf
   refine aA.rowsEq (12) ((List.map_append (f:=Am.row) (l₁:=l) (l₂:=[{a with back:=true}])).symm) ?_;conv=>whnf
   refine aA.subR [(6,12)] (back ((f,l++[{a with back:=true}],q4)) (by exact (⟨⟨by rw [e] at hmu;show mu L q4≤f;have:mu L q4<mu L q:=hmu;omega,by rw [List.length_append];show l.length+1+f≤_;omega⟩,hJ.trans (by show (dZ L en 1 _ 8 _ f (l++[(sb (bX L en l.length 8) (fun _=>wN L en) q).1])) (sb (bX L en l.length 8) (fun _=>wN L en) q).2=_;rw [e])⟩)) (by (try dsimp only);omega)) sH sH
 |false=>
  (try refine gS ?_);conv=>whnf
  have kins:=hJ.trans (wH hb)
  clear back hJ hb
  obtain ⟨ins,gins⟩:∃z,z=l:=⟨_,rfl⟩
  obtain ⟨t1,gt1⟩:∃z,z=q:=⟨_,rfl⟩
  rw [←gins,←gt1] at kins ⊢
  clear gins gt1 hm hf ll
  refine aA.subR (nx':=9) (l':=[(1,.ptr 1 0),(2,.ptr 2 0),(3,.ptr 3 0),(4,.ptr 4 0)]) (H':=[roL L,(1,.cells 74 (stC en t1)),(2,.cells 61 [bN SynM.e0,bN SynM.e0,aC 0,aC 0,.v aD,.v aD,.v aD,aC 0,aC 0,aC 0,aC 0,aC 0,aC 0,aC 0,.v aD,aC 0,aC 0]),(3,.cells 74 [.v aD,aC 0,aC 0,aC 0,aC 0]),(4,.cells 61 [bN it,bN pl,aC fr,aC to,.buf 5,.buf 6,.buf 7,aC 0,aC 0,aC 0,aC 0,aC 0,aC 0,aC 0,.buf 8,aC 0,aC 0]),(5,.own 52 4 (rws Cd.row cs)),(6,.own 55 7 (rws Am.row ins)),(7,.own 55 7 (rws Am.row [])),(8,.own 58 3 (rws Rn.row []))]) [] ?_ sH sH
  refine aA.subR [] (aA.loop (fun (⟨f,l,q⟩:Nat×List Am×St)=>[(1,.ptr 1 0),(2,.ptr 2 0),(3,.ptr 3 0),(4,.ptr 4 0)]) (fun (⟨f,l,q⟩:Nat×List Am×St)=>[roL L,(1,.cells 74 (stC en q)),(2,.cells 61 [bN SynM.e0,bN SynM.e0,aC 0,aC 0,.v aD,.v aD,.v aD,aC 0,aC 0,aC 0,aC 0,aC 0,aC 0,aC 0,.v aD,aC 0,aC 0]),(3,.cells 74 [.v aD,aC 0,aC 0,aC 0,aC 0]),(4,.cells 61 [bN it,bN pl,aC fr,aC to,.buf 5,.buf 6,.buf 7,aC 0,aC 0,aC 0,aC 0,aC 0,aC 0,aC 0,.buf 8,aC 0,aC 0]),(5,.own 52 4 (rws Cd.row cs)),(6,.own 55 7 (rws Am.row ins)),(7,.own 55 7 (rws Am.row l)),(8,.own 58 3 (rws Rn.row []))]) 9 (fun (⟨f,l,q⟩:Nat×List Am×St)=>(mu L q≤f∧l.length+f≤L.length+1)∧dZ L en 1 (B lB) 8 (sb (rwd L en lB) fun _=>lT L en) (L.length+1) [] t1=dZ L en 1 (B lB) 8 (sb (rwd L en lB) fun _=>lT L en) f l q) (fun (⟨f,l,q⟩:Nat×List Am×St)=>f) ?round25 ((L.length+1,[],t1)) ?J025) sH sH
  case J025=>exact (⟨⟨aHT _,by show 0+(L.length+1)≤_;omega⟩,rfl⟩)
  rintro ⟨f,l,q⟩ hJ back
  try dsimp only at hJ back
  conv=>whnf
  try dsimp only
  refine gS ?_;conv=>whnf
  obtain ⟨⟨hm,hf⟩,hJ⟩:=hJ
  have ll:=aG Am.row l
  refine aA.callN (eB L en q (B lB)) [0] ?_ sH ?CNa26
  case CNa26=>rfl
  intro _ _
  conv=>whnf
  (try refine gS ?_);conv=>whnf
  cases hb:cL L 1 (B lB) q with
  |true=>
   have hmu:=aML (m:=sb (bX L en l.length 8) fun _=>sb (rwd L en lB) fun _=>lT L en) (tJ qT fun _=>dO bJ fun _=>yP.a) hb
   have h2':=(xF hb).2.2
   obtain ⟨f,rfl⟩:∃g,f=g+1:=⟨f - 1,by omega⟩
   rw [tB hb] at hJ
   (try refine gS ?_);conv=>whnf
   refine aA.callN (iT L en q (rws Am.row l).length 8) [0] ?_ sH ?CNa27
   case CNa27=>rfl
   rintro q1 g1<;>conv=>whnf
   rw [ll] at g1
   (try refine gS ?_);conv=>whnf
   refine aA.callN (cK L en hL q1 (B lB)) [0] ?_ sH ?CNa28
   case CNa28=>rfl
   rintro q2 g2<;>conv=>whnf
   (try refine gS ?_);conv=>whnf
   refine aA.callN (zD L en hL q2) [0] ?_ sH ?CNa29
   case CNa29=>rfl
   rintro ⟨a,q3⟩ g3<;>conv=>whnf
   (try refine gS ?_);conv=>whnf
   have e:sb (bX L en l.length 8) (fun _=>sb (rwd L en lB) fun _=>lT L en) q=(a,q3):=by simp only [sb,rt,pE,wN,aAN,←g1,←g2,←g3]
   refine And.intro (gG (by omega)) ?_;conv=>whnf
   (try refine gS ?_);conv=>whnf
   refine aA.rowsEq (12) ((List.map_append (f:=Am.row) (l₁:=l) (l₂:=[a])).symm) ?_;conv=>whnf
   refine aA.subR [(7,12)] (back ((f,l++[a],q3)) (by exact (⟨⟨by rw [e] at hmu;show mu L q3≤f;have:mu L q3<mu L q:=hmu;omega,by rw [List.length_append];show l.length+1+f≤_;omega⟩,hJ.trans (by show (dZ L en 1 _ 8 _ f (l++[(sb (bX L en l.length 8) (fun _=>sb (rwd L en lB) fun _=>lT L en) q).1])) (sb (bX L en l.length 8) (fun _=>sb (rwd L en lB) fun _=>lT L en) q).2=_;rw [e])⟩)) (by (try dsimp only);omega)) sH sH
  |false=>
   (try refine gS ?_);conv=>whnf
   have kouts:=hJ.trans (wH hb)
   clear back hJ hb
   obtain ⟨outs,gouts⟩:∃z,z=l:=⟨_,rfl⟩
   obtain ⟨t2,gt2⟩:∃z,z=q:=⟨_,rfl⟩
   rw [←gouts,←gt2] at kouts ⊢
   clear gouts gt2 hm hf ll
   refine aA.subR (nx':=9) (l':=[(1,.ptr 1 0),(2,.ptr 2 0),(3,.ptr 3 0),(4,.ptr 4 0),(98,stV en t2)]) (H':=[roL L,(1,.cells 74 (stC en t2)),(2,.cells 61 [bN SynM.e0,bN SynM.e0,aC 0,aC 0,.v aD,.v aD,.v aD,aC 0,aC 0,aC 0,aC 0,aC 0,aC 0,aC 0,.v aD,aC 0,aC 0]),(3,.cells 74 [.v aD,aC 0,aC 0,aC 0,aC 0]),(4,.cells 61 [bN it,bN pl,aC fr,aC to,.buf 5,.buf 6,.buf 7,aC 0,aC 0,aC 0,aC 0,aC 0,aC 0,aC 0,.buf 8,aC 0,aC 0]),(5,.own 52 4 (rws Cd.row cs)),(6,.own 55 7 (rws Am.row ins)),(7,.own 55 7 (rws Am.row outs)),(8,.own 58 3 (rws Rn.row []))]) [] ?_ sH sH
   refine aA.callN (cK L en hL t2 (B gQ)) [0] ?_ sH ?CNa31
   case CNa31=>rfl
   rintro s21 h21<;>conv=>whnf
   (try refine gS ?_);conv=>whnf
   refine aA.callN (qL L en hL s21) [0] ?_ sH ?CNa32
   case CNa32=>rfl
   rintro ⟨⟨rwN,rwD⟩,s22⟩ h22<;>conv=>whnf
   refine aA.subR (nx':=9) (l':=[(1,.ptr 1 0),(2,.ptr 2 0),(3,.ptr 3 0),(4,.ptr 4 0),(100,.tup [aC rwN,aC rwD,stV en s22])]) (H':=[roL L,(1,.cells 74 (stC en t2)),(2,.cells 61 [bN SynM.e0,bN SynM.e0,aC 0,aC 0,.v aD,.v aD,.v aD,aC 0,aC 0,aC 0,aC 0,aC 0,aC 0,aC 0,.v aD,aC 0,aC 0]),(3,.cells 74 [.v aD,aC 0,aC 0,aC 0,aC 0]),(4,.cells 61 [bN it,bN pl,aC fr,aC to,.buf 5,.buf 6,.buf 7,aC 0,aC 0,aC 0,aC 0,aC 0,aC 0,aC 0,.buf 8,aC 0,aC 0]),(5,.own 52 4 (rws Cd.row cs)),(6,.own 55 7 (rws Am.row ins)),(7,.own 55 7 (rws Am.row outs)),(8,.own 58 3 (rws Rn.row []))]) [] ?_ sH sH
   (try refine gS ?_);conv=>whnf
   refine aA.callN (dH L en hL s22 (B [59])) [0] ?_ sH ?CNa33
   case CNa33=>rfl
   rintro s23 h23<;>conv=>whnf
   (try refine gS ?_);conv=>whnf
   refine aA.callN (cK L en hL s23 (B jQ)) [0] ?_ sH ?CNa34
   case CNa34=>rfl
   rintro s24 h24<;>conv=>whnf
   (try refine gS ?_);conv=>whnf
   refine aA.callN (qL L en hL s24) [0] ?_ sH ?CNa35
   case CNa35=>rfl
   rintro ⟨⟨yN,yD⟩,s25⟩ h25<;>conv=>whnf
   refine aA.subR (nx':=9) (l':=[(1,.ptr 1 0),(2,.ptr 2 0),(3,.ptr 3 0),(4,.ptr 4 0),(110,.tup [aC yN,aC yD,stV en s25])]) (H':=[roL L,(1,.cells 74 (stC en s22)),(2,.cells 61 [bN SynM.e0,bN SynM.e0,aC 0,aC 0,.v aD,.v aD,.v aD,aC 0,aC 0,aC 0,aC 0,aC 0,aC 0,aC 0,.v aD,aC 0,aC 0]),(3,.cells 74 [.v aD,aC 0,aC 0,aC 0,aC 0]),(4,.cells 61 [bN it,bN pl,aC fr,aC to,.buf 5,.buf 6,.buf 7,aC rwN,aC rwD,aC 0,aC 0,aC 0,aC 0,aC 0,.buf 8,aC 0,aC 0]),(5,.own 52 4 (rws Cd.row cs)),(6,.own 55 7 (rws Am.row ins)),(7,.own 55 7 (rws Am.row outs)),(8,.own 58 3 (rws Rn.row []))]) [] ?_ sH sH
   (try refine gS ?_);conv=>whnf
   refine aA.callN (cK L en hL s25 (B gN)) [0] ?_ sH ?CNa36
   case CNa36=>rfl
   rintro s26 h26<;>conv=>whnf
   (try refine gS ?_);conv=>whnf
   refine aA.callN (qL L en hL s26) [0] ?_ sH ?CNa37
   case CNa37=>rfl
   rintro ⟨⟨tN,tD⟩,s27⟩ h27<;>conv=>whnf
   refine aA.subR (nx':=9) (l':=[(1,.ptr 1 0),(2,.ptr 2 0),(3,.ptr 3 0),(4,.ptr 4 0),(119,.tup [aC tN,aC tD,stV en s27])]) (H':=[roL L,(1,.cells 74 (stC en s25)),(2,.cells 61 [bN SynM.e0,bN SynM.e0,aC 0,aC 0,.v aD,.v aD,.v aD,aC 0,aC 0,aC 0,aC 0,aC 0,aC 0,aC 0,.v aD,aC 0,aC 0]),(3,.cells 74 [.v aD,aC 0,aC 0,aC 0,aC 0]),(4,.cells 61 [bN it,bN pl,aC fr,aC to,.buf 5,.buf 6,.buf 7,aC rwN,aC rwD,aC yN,aC yD,aC 0,aC 0,aC 0,.buf 8,aC 0,aC 0]),(5,.own 52 4 (rws Cd.row cs)),(6,.own 55 7 (rws Am.row ins)),(7,.own 55 7 (rws Am.row outs)),(8,.own 58 3 (rws Rn.row []))]) [] ?_ sH sH
   (try refine gS ?_);conv=>whnf
   refine aA.callN (dH L en hL s27 (B [59])) [0] ?_ sH ?CNa38
   case CNa38=>rfl
   rintro s28 h28<;>conv=>whnf
   (try refine gS ?_);conv=>whnf
   refine aA.callN (cK L en hL s28 (B nY)) [0] ?_ sH ?CNa39
   case CNa39=>rfl
   rintro s29 h29<;>conv=>whnf
   (try refine gS ?_);conv=>whnf
   refine aA.callN (rL L en hL s29) [0] ?_ sH ?CNa40
   case CNa40=>rfl
   rintro ⟨ld,s30⟩ h30<;>conv=>whnf
   refine aA.subR (nx':=9) (l':=[(1,.ptr 1 0),(2,.ptr 2 0),(3,.ptr 3 0),(4,.ptr 4 0),(129,.tup [aC ld,stV en s30])]) (H':=[roL L,(1,.cells 74 (stC en s27)),(2,.cells 61 [bN SynM.e0,bN SynM.e0,aC 0,aC 0,.v aD,.v aD,.v aD,aC 0,aC 0,aC 0,aC 0,aC 0,aC 0,aC 0,.v aD,aC 0,aC 0]),(3,.cells 74 [.v aD,aC 0,aC 0,aC 0,aC 0]),(4,.cells 61 [bN it,bN pl,aC fr,aC to,.buf 5,.buf 6,.buf 7,aC rwN,aC rwD,aC yN,aC yD,aC tN,aC tD,aC 0,.buf 8,aC 0,aC 0]),(5,.own 52 4 (rws Cd.row cs)),(6,.own 55 7 (rws Am.row ins)),(7,.own 55 7 (rws Am.row outs)),(8,.own 58 3 (rws Rn.row []))]) [] ?_ sH sH
   (try refine gS ?_);conv=>whnf
   refine aA.callN (dH L en hL s30 (B [59])) [0] ?_ sH ?CNa41
   case CNa41=>rfl
   rintro s31 h31<;>conv=>whnf
   refine aA.subR (nx':=9) (l':=[(1,.ptr 1 0),(2,.ptr 2 0),(3,.ptr 3 0),(4,.ptr 4 0),(134,stV en s31)]) (H':=[roL L,(1,.cells 74 (stC en s30)),(2,.cells 61 [bN SynM.e0,bN SynM.e0,aC 0,aC 0,.v aD,.v aD,.v aD,aC 0,aC 0,aC 0,aC 0,aC 0,aC 0,aC 0,.v aD,aC 0,aC 0]),(3,.cells 74 [.v aD,aC 0,aC 0,aC 0,aC 0]),(4,.cells 61 [bN it,bN pl,aC fr,aC to,.buf 5,.buf 6,.buf 7,aC rwN,aC rwD,aC yN,aC yD,aC tN,aC tD,aC ld,.buf 8,aC 0,aC 0]),(5,.own 52 4 (rws Cd.row cs)),(6,.own 55 7 (rws Am.row ins)),(7,.own 55 7 (rws Am.row outs)),(8,.own 58 3 (rws Rn.row []))]) [] ?_ sH sH
   (try refine gS ?_);conv=>whnf
   refine aA.subR [] (aA.loop (fun (⟨f,l,q⟩:Nat×List Rn×St)=>[(1,.ptr 1 0),(2,.ptr 2 0),(3,.ptr 3 0),(4,.ptr 4 0)]) (fun (⟨f,l,q⟩:Nat×List Rn×St)=>[roL L,(1,.cells 74 (stC en q)),(2,.cells 61 [bN SynM.e0,bN SynM.e0,aC 0,aC 0,.v aD,.v aD,.v aD,aC 0,aC 0,aC 0,aC 0,aC 0,aC 0,aC 0,.v aD,aC 0,aC 0]),(3,.cells 74 [.v aD,aC 0,aC 0,aC 0,aC 0]),(4,.cells 61 [bN it,bN pl,aC fr,aC to,.buf 5,.buf 6,.buf 7,aC rwN,aC rwD,aC yN,aC yD,aC tN,aC tD,aC ld,.buf 8,aC 0,aC 0]),(5,.own 52 4 (rws Cd.row cs)),(6,.own 55 7 (rws Am.row ins)),(7,.own 55 7 (rws Am.row outs)),(8,.own 58 3 (rws Rn.row l))]) 9 (fun (⟨f,l,q⟩:Nat×List Rn×St)=>(mu L q≤f∧l.length+f≤L.length+1)∧dZ L en 1 (B oD) 8 (aAN L en) (L.length+1) [] s31=dZ L en 1 (B oD) 8 (aAN L en) f l q) (fun (⟨f,l,q⟩:Nat×List Rn×St)=>f) ?round42 ((L.length+1,[],s31)) ?J042) sH sH
   case J042=>exact (⟨⟨aHT _,by show 0+(L.length+1)≤_;omega⟩,rfl⟩)
   rintro ⟨f,l,q⟩ hJ back
   try dsimp only at hJ back
   conv=>whnf
   try dsimp only
   refine gS ?_;conv=>whnf
   obtain ⟨⟨hm,hf⟩,hJ⟩:=hJ
   have ll:=aG Rn.row l
   refine aA.callN (eB L en q (B oD)) [0] ?_ sH ?CNa43
   case CNa43=>rfl
   intro _ _
   conv=>whnf
   (try refine gS ?_);conv=>whnf
   cases hb:cL L 1 (B oD) q with
   |true=>
    have hmu:=aML (m:=sb (bX L en l.length 8) fun _=>aAN L en) (tJ qT fun _=>aSC) hb
    have h2':=(xF hb).2.2
    obtain ⟨f,rfl⟩:∃g,f=g+1:=⟨f - 1,by omega⟩
    rw [tB hb] at hJ
    (try refine gS ?_);conv=>whnf
    refine aA.callN (iT L en q (rws Rn.row l).length 8) [0] ?_ sH ?CNa44
    case CNa44=>rfl
    rintro q1 g1<;>conv=>whnf
    rw [ll] at g1
    (try refine gS ?_);conv=>whnf
    refine aA.callN (cK L en hL q1 (B oD)) [0] ?_ sH ?CNa45
    case CNa45=>rfl
    rintro q2 g2<;>conv=>whnf
    (try refine gS ?_);conv=>whnf
    refine aA.callN (eD L en hL q2) [0] ?_ sH ?CNa46
    case CNa46=>rfl
    rintro ⟨m,q3⟩ g3<;>conv=>whnf
    (try refine gS ?_);conv=>whnf
    refine aA.callN (rL L en hL q3) [0] ?_ sH ?CNa47
    case CNa47=>rfl
    rintro ⟨sl,q4⟩ g4<;>conv=>whnf
    (try refine gS ?_);conv=>whnf
    refine aA.callN (dH L en hL q4 (B [59])) [0] ?_ sH ?CNa48
    case CNa48=>rfl
    rintro q5 g5<;>conv=>whnf
    (try refine gS ?_);conv=>whnf
    have e:sb (bX L en l.length 8) (fun _=>aAN L en) q=(⟨m,sl,0⟩,q5):=by simp only [sb,rt,pE,wN,aAN,←g1,←g2,←g3,←g4,←g5]
    refine And.intro (gG (by omega)) ?_;conv=>whnf
    (try refine gS ?_);conv=>whnf
    refine aA.rowsEq (11) ((List.map_append (f:=Rn.row) (l₁:=l) (l₂:=[⟨m,sl,0⟩])).symm) ?_;conv=>whnf
    refine aA.subR [(8,11)] (back ((f,l++[⟨m,sl,0⟩],q5)) (by exact (⟨⟨by rw [e] at hmu;show mu L q5≤f;have:mu L q5<mu L q:=hmu;omega,by rw [List.length_append];show l.length+1+f≤_;omega⟩,hJ.trans (by show (dZ L en 1 _ 8 _ f (l++[(sb (bX L en l.length 8) (fun _=>aAN L en) q).1])) (sb (bX L en l.length 8) (fun _=>aAN L en) q).2=_;rw [e])⟩)) (by (try dsimp only);omega)) sH sH
   |false=>
    (try refine gS ?_);conv=>whnf
    have kruns:=hJ.trans (wH hb)
    clear back hJ hb
    obtain ⟨runs,gruns⟩:∃z,z=l:=⟨_,rfl⟩
    obtain ⟨t3,gt3⟩:∃z,z=q:=⟨_,rfl⟩
    rw [←gruns,←gt3] at kruns ⊢
    clear gruns gt3 hm hf ll
    refine aA.subR (nx':=9) (l':=[(1,.ptr 1 0),(2,.ptr 2 0),(3,.ptr 3 0),(4,.ptr 4 0)]) (H':=[roL L,(1,.cells 74 (stC en t3)),(2,.cells 61 [bN SynM.e0,bN SynM.e0,aC 0,aC 0,.v aD,.v aD,.v aD,aC 0,aC 0,aC 0,aC 0,aC 0,aC 0,aC 0,.v aD,aC 0,aC 0]),(3,.cells 74 [.v aD,aC 0,aC 0,aC 0,aC 0]),(4,.cells 61 [bN it,bN pl,aC fr,aC to,.buf 5,.buf 6,.buf 7,aC rwN,aC rwD,aC yN,aC yD,aC tN,aC tD,aC ld,.buf 8,aC 0,aC 0]),(5,.own 52 4 (rws Cd.row cs)),(6,.own 55 7 (rws Am.row ins)),(7,.own 55 7 (rws Am.row outs)),(8,.own 58 3 (rws Rn.row runs))]) [] ?_ sH sH
    refine aA.held tab (.fl 0 (.fl 1 (.e1 2 [0] (.e1 3 [] (.e1 4 [] .done))))) (by kernel_rfl) ?_;conv=>whnf
    (try refine gR ?_);conv=>whnf
    refine aV.callN (dH L en hL t3 (B [125])) [0] ?_ sH ?CNa50
    case CNa50=>rfl
    rintro t4 h40<;>conv=>whnf
    conv=>whnf
    try refine oB ?_
    (try refine gR ?_);conv=>whnf
    repeat ((first|(guard_target=_∧_;(first|refine oL ?_|refine oR ?_|refine oB ?_))|(guard_target=Exists _;refine oM ?_));(try intro _);conv=>whnf)
    (try refine gS ?_);conv=>whnf
    try refine aA.retU ?_
    exact aE.ret tab Tryz.func144 rfl (aL.mk (((⟨it,pl,fr,to,hd0,cs,hd0,ins,hd0,outs,rwN,rwD,yN,yD,tN,tD,ld,hd0,runs,0,0⟩:RcV),t4)) ((by simp only [aOP,sb,rt,←h1,←h2,←h3,←h4,←h5,←h6,←h7,←h8,←h9,←h10,kins,kouts,←h21,←h22,←h23,←h24,←h25,←h26,←h27,←h28,←h29,←h30,←h31,kruns,←h40])) [(1,5),(2,6),(3,7),(4,8)] sH rfl rfl (aY rfl rfl))
end
end Go.Proofs.YtgbeechjghajcaaGreatDoor

namespace Go.SrcM
open Go Go.Fw Go.RatM
structure aJW (n:Nat) (s:aJ):Prop where
 U:s.units.length≤n
 I:s.items.length≤n
 P:s.plants.length≤n
 M:s.machines.length≤n
 O:s.options.length≤n
 F:s.forbids.length≤n
 R:s.recipes.length≤n
 S:s.swaps.length≤n
end Go.SrcM
namespace Go.Proofs.YtgbeechjghajcaaGreatDoor
open Go Go.Fw Go.NatM Go.RatM Go.SrcM Go.SynM
set_option maxRecDepth 100000
set_option maxHeartbeats 99999999
abbrev srcH (b:Nat) (s:aJ):SH:=[(b,.own 81 8 (rws Un.row s.units)),(b+1,.own 83 6 (rws It.row s.items)),(b+2,.own 9 1 (rws iG s.plants)),(b+3,.own 85 4 (rws Mc.row s.machines)),
 (b+4,.own 50 2 (rws OpV.row s.options)),(b+5,.own 53 1 (rws FbV.row s.forbids)),(b+6,.own 61 17 (rws RcV.row s.recipes)),(b+7,.own 89 4 (rws Sw.row s.swaps))]
abbrev srcS (b:Nat):SV:=.agg [.buf b,.buf (b+1),.buf (b+2),.buf (b+3),.buf (b+4),.buf (b+5),.buf (b+6),.buf (b+7)]
structure DefJ (L:List Tok) (en:Int) (src:aJ) (s:St) (n:Nat) (y:aJ×St) (G:Nat→Prop) (h:Array Obj):Prop where
 eq:uV L en src.bare s=(y.1.bare,y.2)
 sub:y.1.sub G h
 len:aJW (n+1) y.1
theorem nK {α:Type} {l:List α} {a:α} {n:Nat} (h:l.length≤n):(l++[a]).length≤n+1:=by rw [List.length_append];exact Nat.succ_le_succ h
theorem aGB {α:Type} {l:List α} {a:α} {Q:α→Prop} (h:∀x∈l,Q x) (ha:Q a):∀x∈l++[a],Q x:=jM h ha
section
variable (L:List Tok) (en:Int) (hL:L.length≤65536) (s:St)
include hL
theorem rdef_fn (src:aJ) (n:Nat) (hn:aJW n src) (hN:n≤900000):FnX Tryz.prog 89 9 [srcS 1,stV en s] (roL L::srcH 1 src) (fun G h=>src.sub G h) (DefJ L en src s n) (fun y=>.ret (.tup [srcS 9,stV en y.2]) 17 (srcH 9 y.1)):=by
 have lU:=aG Un.row src.units
 have lI:=aG It.row src.items
 have lP:=aG iG src.plants
 have lM:=aG Mc.row src.machines
 have lO:=aG OpV.row src.options
 have lF:=aG FbV.row src.forbids
 have lR:=aG RcV.row src.recipes
 have lS:=aG Sw.row src.swaps
 obtain ⟨hU,hI,hP',hM,hO,hF,hR,hS⟩:=hn
 have hn:aJW (n+1) src:=⟨Nat.le_succ_of_le hU,Nat.le_succ_of_le hI,Nat.le_succ_of_le hP',Nat.le_succ_of_le hM,Nat.le_succ_of_le hO,Nat.le_succ_of_le hF,Nat.le_succ_of_le hR,Nat.le_succ_of_le hS⟩
 refine FnX.of Tryz.func89 (by kernel_rfl) rfl Tryz.ntmps89 rfl fun E0 F G h N hP w0 cs=>?_
 conv=>whnf
 refine gS ?_;conv=>whnf
 refine aA.callN (eB L en s (B gE)) [0] ?_ sH ?CNa1
 case CNa1=>rfl
 intro _ _
 conv=>whnf
 (try refine jA tab 0 _ _ _ _ ?_);conv=>whnf
 refine aA.subR (nx':=13) (l':=[(2,.ptr 9 0),(3,.ptr 10 0),(4,.ptr 11 0),(5,.ptr 12 0),(23,.v (.bool (cL L 1 (B gE) s)))]) (H':=[roL L,(9,.cells 32 [.buf 1,.buf 2,.buf 3,.buf 4,.buf 5,.buf 6,.buf 7,.buf 8]),(10,.cells 74 (stC en s)),(11,.cells 32 [.v aD,.v aD,.v aD,.v aD,.v aD,.v aD,.v aD,.v aD]),(12,.cells 74 [.v aD,aC 0,aC 0,aC 0,aC 0]),(1,.own 81 8 (rws Un.row src.units)),(2,.own 83 6 (rws It.row src.items)),(3,.own 9 1 (rws iG src.plants)),(4,.own 85 4 (rws Mc.row src.machines)),(5,.own 50 2 (rws OpV.row src.options)),(6,.own 53 1 (rws FbV.row src.forbids)),(7,.own 61 17 (rws RcV.row src.recipes)),(8,.own 89 4 (rws Sw.row src.swaps))]) [] ?_ sH sH
 cases hbU:cL L 1 (B gE) s with
 |true=>
  (try refine gS ?_);conv=>whnf
  refine aA.callN (iT L en s (rws Un.row src.units).length 32) [0] ?_ sH ?CNa2
  case CNa2=>rfl
  rintro s1 h1<;>conv=>whnf
  rw [lU] at h1
  (try refine gS ?_);conv=>whnf
  refine aA.callN (aYT L en hL s1) [0] ?_ sH ?CNa3
  case CNa3=>rfl
  rintro ⟨a,s2⟩ h2<;>conv=>whnf
  (try refine gS ?_);conv=>whnf
  refine And.intro (gG (by omega)) ?_;conv=>whnf
  (try refine gS ?_);conv=>whnf
  refine aA.rowsEq (16) ((List.map_append (f:=Un.row) (l₁:=src.units) (l₂:=[a])).symm) ?_;conv=>whnf
  refine aA.held tab (.fl 0 (.fl 1 (.e1 2 [1] (.e1 3 [] .done)))) (by kernel_rfl) ?_;conv=>whnf
  (try refine gR ?_);conv=>whnf
  repeat ((first|(guard_target=_∧_;(first|refine oL ?_|refine oR ?_|refine oB ?_))|(guard_target=Exists _;refine oM ?_));(try intro _);conv=>whnf)
  (try refine gS ?_);conv=>whnf
  try refine aA.retU ?_
  exact aE.ret tab Tryz.func89 rfl (iK.mk (N) ((({src with units:=src.units++[a]},s2):aJ×St)) (fun h U=>⟨(by simp only [uV,rbr,hbU,Bool.false_eq_true,if_true,if_false];show (sb (bX L en src.units.length 32) _) s=_;simp only [sb,rt,←h1,←h2,aJ.bare]),aJ.sub.up ⟨hP.o,hP.f,hP.r⟩ U,⟨nK hU,hn.I,hn.P,hn.M,hn.O,hn.F,hn.R,hn.S⟩⟩) [(9,16),(10,2),(11,3),(12,4),(13,5),(14,6),(15,7),(16,8)] sH rfl rfl (aY rfl rfl))
 |false=>
  (try refine gS ?_);conv=>whnf
  refine aA.callN (eB L en s (B iI)) [0] ?_ sH ?CNa4
  case CNa4=>rfl
  intro _ _
  conv=>whnf
  (try refine jA tab 0 _ _ _ _ ?_);conv=>whnf
  refine aA.subR (nx':=13) (l':=[(2,.ptr 9 0),(3,.ptr 10 0),(4,.ptr 11 0),(5,.ptr 12 0),(42,.v (.bool (cL L 1 (B iI) s)))]) (H':=[roL L,(9,.cells 32 [.buf 1,.buf 2,.buf 3,.buf 4,.buf 5,.buf 6,.buf 7,.buf 8]),(10,.cells 74 (stC en s)),(11,.cells 32 [.v aD,.v aD,.v aD,.v aD,.v aD,.v aD,.v aD,.v aD]),(12,.cells 74 [.v aD,aC 0,aC 0,aC 0,aC 0]),(1,.own 81 8 (rws Un.row src.units)),(2,.own 83 6 (rws It.row src.items)),(3,.own 9 1 (rws iG src.plants)),(4,.own 85 4 (rws Mc.row src.machines)),(5,.own 50 2 (rws OpV.row src.options)),(6,.own 53 1 (rws FbV.row src.forbids)),(7,.own 61 17 (rws RcV.row src.recipes)),(8,.own 89 4 (rws Sw.row src.swaps))]) [] ?_ sH sH
  cases hbI:cL L 1 (B iI) s with
  |true=>
   (try refine gS ?_);conv=>whnf
   refine aA.callN (iT L en s (rws It.row src.items).length 32) [0] ?_ sH ?CNa5
   case CNa5=>rfl
   rintro s1 h1<;>conv=>whnf
   rw [lI] at h1
   (try refine gS ?_);conv=>whnf
   refine aA.callN (aYP L en hL s1) [0] ?_ sH ?CNa6
   case CNa6=>rfl
   rintro ⟨a,s2⟩ h2<;>conv=>whnf
   (try refine gS ?_);conv=>whnf
   refine And.intro (gG (by omega)) ?_;conv=>whnf
   (try refine gS ?_);conv=>whnf
   refine aA.rowsEq (16) ((List.map_append (f:=It.row) (l₁:=src.items) (l₂:=[a])).symm) ?_;conv=>whnf
   refine aA.held tab (.fl 0 (.fl 1 (.e1 2 [1] (.e1 3 [] .done)))) (by kernel_rfl) ?_;conv=>whnf
   (try refine gR ?_);conv=>whnf
   repeat ((first|(guard_target=_∧_;(first|refine oL ?_|refine oR ?_|refine oB ?_))|(guard_target=Exists _;refine oM ?_));(try intro _);conv=>whnf)
   (try refine gS ?_);conv=>whnf
   try refine aA.retU ?_
   exact aE.ret tab Tryz.func89 rfl (iK.mk (N) ((({src with items:=src.items++[a]},s2):aJ×St)) (fun h U=>⟨(by simp only [uV,rbr,hbU,hbI,Bool.false_eq_true,if_true,if_false];show (sb (bX L en src.items.length 32) _) s=_;simp only [sb,rt,←h1,←h2,aJ.bare]),aJ.sub.up ⟨hP.o,hP.f,hP.r⟩ U,⟨hn.U,nK hI,hn.P,hn.M,hn.O,hn.F,hn.R,hn.S⟩⟩) [(9,1),(10,16),(11,3),(12,4),(13,5),(14,6),(15,7),(16,8)] sH rfl rfl (aY rfl rfl))
  |false=>
   (try refine gS ?_);conv=>whnf
   refine aA.callN (eB L en s (B fD)) [0] ?_ sH ?CNa7
   case CNa7=>rfl
   intro _ _
   conv=>whnf
   (try refine jA tab 0 _ _ _ _ ?_);conv=>whnf
   refine aA.subR (nx':=13) (l':=[(2,.ptr 9 0),(3,.ptr 10 0),(4,.ptr 11 0),(5,.ptr 12 0),(61,.v (.bool (cL L 1 (B fD) s)))]) (H':=[roL L,(9,.cells 32 [.buf 1,.buf 2,.buf 3,.buf 4,.buf 5,.buf 6,.buf 7,.buf 8]),(10,.cells 74 (stC en s)),(11,.cells 32 [.v aD,.v aD,.v aD,.v aD,.v aD,.v aD,.v aD,.v aD]),(12,.cells 74 [.v aD,aC 0,aC 0,aC 0,aC 0]),(1,.own 81 8 (rws Un.row src.units)),(2,.own 83 6 (rws It.row src.items)),(3,.own 9 1 (rws iG src.plants)),(4,.own 85 4 (rws Mc.row src.machines)),(5,.own 50 2 (rws OpV.row src.options)),(6,.own 53 1 (rws FbV.row src.forbids)),(7,.own 61 17 (rws RcV.row src.recipes)),(8,.own 89 4 (rws Sw.row src.swaps))]) [] ?_ sH sH
   cases hbP:cL L 1 (B fD) s with
   |true=>
    (try refine gS ?_);conv=>whnf
    refine aA.callN (iT L en s (rws iG src.plants).length 8) [0] ?_ sH ?CNa8
    case CNa8=>rfl
    rintro s1 h1<;>conv=>whnf
    rw [lP] at h1
    (try refine gS ?_);conv=>whnf
    refine aA.callN (cK L en hL s1 (B fD)) [0] ?_ sH ?CNa9
    case CNa9=>rfl
    rintro s2 h2<;>conv=>whnf
    (try refine gS ?_);conv=>whnf
    refine aA.callN (eD L en hL s2) [0] ?_ sH ?CNa10
    case CNa10=>rfl
    rintro ⟨a,s3⟩ h3<;>conv=>whnf
    (try refine gS ?_);conv=>whnf
    refine And.intro (gG (by omega)) ?_;conv=>whnf
    (try refine gS ?_);conv=>whnf
    refine aA.rowsEq (15) ((List.map_append (f:=iG) (l₁:=src.plants) (l₂:=[a])).symm) ?_;conv=>whnf
    refine aA.held tab (.fl 0 (.fl 1 (.e1 2 [0] (.e1 3 [] (.e1 4 [] .done))))) (by kernel_rfl) ?_;conv=>whnf
    (try refine gR ?_);conv=>whnf
    refine aV.callN (dH L en hL s3 (B [59])) [0] ?_ sH ?CNa11
    case CNa11=>rfl
    rintro s4 h4<;>conv=>whnf
    conv=>whnf
    try refine oB ?_
    (try refine gR ?_);conv=>whnf
    repeat ((first|(guard_target=_∧_;(first|refine oL ?_|refine oR ?_|refine oB ?_))|(guard_target=Exists _;refine oM ?_));(try intro _);conv=>whnf)
    (try refine gS ?_);conv=>whnf
    try refine aA.retU ?_
    exact aE.ret tab Tryz.func89 rfl (iK.mk (N) ((({src with plants:=src.plants++[a]},s4):aJ×St)) (fun h U=>⟨(by simp only [uV,rbr,hbU,hbI,hbP,Bool.false_eq_true,if_true,if_false];show (sb (bX L en src.plants.length 8) _) s=_;simp only [sb,rt,aEP,←h1,←h2,←h3,←h4,aJ.bare]),aJ.sub.up ⟨hP.o,hP.f,hP.r⟩ U,⟨hn.U,hn.I,nK hP',hn.M,hn.O,hn.F,hn.R,hn.S⟩⟩) [(9,1),(10,2),(11,15),(12,4),(13,5),(14,6),(15,7),(16,8)] sH rfl rfl (aY rfl rfl))
   |false=>
    (try refine gS ?_);conv=>whnf
    refine aA.callN (eB L en s (B cE)) [0] ?_ sH ?CNa12
    case CNa12=>rfl
    intro _ _
    conv=>whnf
    (try refine jA tab 0 _ _ _ _ ?_);conv=>whnf
    refine aA.subR (nx':=13) (l':=[(2,.ptr 9 0),(3,.ptr 10 0),(4,.ptr 11 0),(5,.ptr 12 0),(82,.v (.bool (cL L 1 (B cE) s)))]) (H':=[roL L,(9,.cells 32 [.buf 1,.buf 2,.buf 3,.buf 4,.buf 5,.buf 6,.buf 7,.buf 8]),(10,.cells 74 (stC en s)),(11,.cells 32 [.v aD,.v aD,.v aD,.v aD,.v aD,.v aD,.v aD,.v aD]),(12,.cells 74 [.v aD,aC 0,aC 0,aC 0,aC 0]),(1,.own 81 8 (rws Un.row src.units)),(2,.own 83 6 (rws It.row src.items)),(3,.own 9 1 (rws iG src.plants)),(4,.own 85 4 (rws Mc.row src.machines)),(5,.own 50 2 (rws OpV.row src.options)),(6,.own 53 1 (rws FbV.row src.forbids)),(7,.own 61 17 (rws RcV.row src.recipes)),(8,.own 89 4 (rws Sw.row src.swaps))]) [] ?_ sH sH
    cases hbM:cL L 1 (B cE) s with
    |true=>
     (try refine gS ?_);conv=>whnf
     refine aA.callN (iT L en s (rws Mc.row src.machines).length 16) [0] ?_ sH ?CNa13
     case CNa13=>rfl
     rintro s1 h1<;>conv=>whnf
     rw [lM] at h1
     (try refine gS ?_);conv=>whnf
     refine aA.callN (aYL L en hL s1) [0] ?_ sH ?CNa14
     case CNa14=>rfl
     rintro ⟨a,s2⟩ h2<;>conv=>whnf
     (try refine gS ?_);conv=>whnf
     refine And.intro (gG (by omega)) ?_;conv=>whnf
     (try refine gS ?_);conv=>whnf
     refine aA.rowsEq (16) ((List.map_append (f:=Mc.row) (l₁:=src.machines) (l₂:=[a])).symm) ?_;conv=>whnf
     refine aA.held tab (.fl 0 (.fl 1 (.e1 2 [1] (.e1 3 [] .done)))) (by kernel_rfl) ?_;conv=>whnf
     (try refine gR ?_);conv=>whnf
     repeat ((first|(guard_target=_∧_;(first|refine oL ?_|refine oR ?_|refine oB ?_))|(guard_target=Exists _;refine oM ?_));(try intro _);conv=>whnf)
     (try refine gS ?_);conv=>whnf
     try refine aA.retU ?_
     exact aE.ret tab Tryz.func89 rfl (iK.mk (N) ((({src with machines:=src.machines++[a]},s2):aJ×St)) (fun h U=>⟨(by simp only [uV,rbr,hbU,hbI,hbP,hbM,Bool.false_eq_true,if_true,if_false];show (sb (bX L en src.machines.length 16) _) s=_;simp only [sb,rt,←h1,←h2,aJ.bare]),aJ.sub.up ⟨hP.o,hP.f,hP.r⟩ U,⟨hn.U,hn.I,hn.P,nK hM,hn.O,hn.F,hn.R,hn.S⟩⟩) [(9,1),(10,2),(11,3),(12,16),(13,5),(14,6),(15,7),(16,8)] sH rfl rfl (aY rfl rfl))
    |false=>
     (try refine gS ?_);conv=>whnf
     refine aA.callN (eB L en s (B dA)) [0] ?_ sH ?CNa15
     case CNa15=>rfl
     intro _ _
     conv=>whnf
     (try refine jA tab 0 _ _ _ _ ?_);conv=>whnf
     refine aA.subR (nx':=13) (l':=[(2,.ptr 9 0),(3,.ptr 10 0),(4,.ptr 11 0),(5,.ptr 12 0),(101,.v (.bool (cL L 1 (B dA) s)))]) (H':=[roL L,(9,.cells 32 [.buf 1,.buf 2,.buf 3,.buf 4,.buf 5,.buf 6,.buf 7,.buf 8]),(10,.cells 74 (stC en s)),(11,.cells 32 [.v aD,.v aD,.v aD,.v aD,.v aD,.v aD,.v aD,.v aD]),(12,.cells 74 [.v aD,aC 0,aC 0,aC 0,aC 0]),(1,.own 81 8 (rws Un.row src.units)),(2,.own 83 6 (rws It.row src.items)),(3,.own 9 1 (rws iG src.plants)),(4,.own 85 4 (rws Mc.row src.machines)),(5,.own 50 2 (rws OpV.row src.options)),(6,.own 53 1 (rws FbV.row src.forbids)),(7,.own 61 17 (rws RcV.row src.recipes)),(8,.own 89 4 (rws Sw.row src.swaps))]) [] ?_ sH sH
     cases hbO:cL L 1 (B dA) s with
     |true=>
      (try refine gS ?_);conv=>whnf
      refine aA.callN (iT L en s (rws OpV.row src.options).length 6) [0] ?_ sH ?CNa16
      case CNa16=>rfl
      rintro s1 h1<;>conv=>whnf
      rw [lO] at h1
      (try refine gS ?_);conv=>whnf
      refine aA.callN (aXP L en hL s1) [0] ?_ sH ?CNa17
      case CNa17=>rfl
      rintro ⟨a,s2⟩ h2<;>conv=>whnf
      have ha:a=(aFO L en s1).1:=congrArg Prod.fst h2
      refine aA.concY (n:=a.ch.length) (N.gsub) 13 ?_ (hlen:=aG _ _)
      intro F1 a1 c1 G1 k1 N1 R1
      conv=>whnf
      have hs:=hP.up (Now.step N.gsub N1)
      have hb0:(⟨a.name,⟨a1,c1⟩,a.ch⟩:OpV).bare=a:=by rw [ha];rfl
      (try refine gS ?_);conv=>whnf
      refine And.intro (gG (by omega)) ?_;conv=>whnf
      (try refine gS ?_);conv=>whnf
      refine aA.rowsEq (17) ((List.map_append (f:=OpV.row) (l₁:=src.options) (l₂:=[⟨a.name,⟨a1,c1⟩,a.ch⟩])).symm) ?_;conv=>whnf
      refine aA.held tab (.fl 0 (.fl 1 (.e1 2 [1] (.e1 3 [] .done)))) (by kernel_rfl) ?_;conv=>whnf
      (try refine gR ?_);conv=>whnf
      repeat ((first|(guard_target=_∧_;(first|refine oL ?_|refine oR ?_|refine oB ?_))|(guard_target=Exists _;refine oM ?_));(try intro _);conv=>whnf)
      (try refine gS ?_);conv=>whnf
      try refine aA.retU ?_
      exact aE.ret tab Tryz.func89 rfl (iK.mk (N.trans N1) ((({src with options:=src.options++[⟨a.name,⟨a1,c1⟩,a.ch⟩]},s2):aJ×St)) (fun h U=>⟨(by simp only [uV,rbr,hbU,hbI,hbP,hbM,hbO,Bool.false_eq_true,if_true,if_false];show (sb (bX L en src.bare.options.length 6) _) s=_;rw [show src.bare.options.length=src.options.length from List.length_map _];simp only [sb,rt,←h1,←h2,aJ.bare,List.map_append,List.map_cons,List.map_nil,hb0]),aJ.sub.up ⟨aGB hs.o (R1),hs.f,hs.r⟩ U,⟨hn.U,hn.I,hn.P,hn.M,nK hO,hn.F,hn.R,hn.S⟩⟩) [(9,1),(10,2),(11,3),(12,4),(13,17),(14,6),(15,7),(16,8)] sH rfl rfl (aY rfl rfl))
     |false=>
      (try refine gS ?_);conv=>whnf
      refine aA.callN (eB L en s (B dK)) [0] ?_ sH ?CNa18
      case CNa18=>rfl
      intro _ _
      conv=>whnf
      (try refine jA tab 0 _ _ _ _ ?_);conv=>whnf
      refine aA.subR (nx':=13) (l':=[(2,.ptr 9 0),(3,.ptr 10 0),(4,.ptr 11 0),(5,.ptr 12 0),(120,.v (.bool (cL L 1 (B dK) s)))]) (H':=[roL L,(9,.cells 32 [.buf 1,.buf 2,.buf 3,.buf 4,.buf 5,.buf 6,.buf 7,.buf 8]),(10,.cells 74 (stC en s)),(11,.cells 32 [.v aD,.v aD,.v aD,.v aD,.v aD,.v aD,.v aD,.v aD]),(12,.cells 74 [.v aD,aC 0,aC 0,aC 0,aC 0]),(1,.own 81 8 (rws Un.row src.units)),(2,.own 83 6 (rws It.row src.items)),(3,.own 9 1 (rws iG src.plants)),(4,.own 85 4 (rws Mc.row src.machines)),(5,.own 50 2 (rws OpV.row src.options)),(6,.own 53 1 (rws FbV.row src.forbids)),(7,.own 61 17 (rws RcV.row src.recipes)),(8,.own 89 4 (rws Sw.row src.swaps))]) [] ?_ sH sH
      cases hbF:cL L 1 (B dK) s with
      |true=>
       (try refine gS ?_);conv=>whnf
       refine aA.callN (iT L en s (rws FbV.row src.forbids).length 16) [0] ?_ sH ?CNa19
       case CNa19=>rfl
       rintro s1 h1<;>conv=>whnf
       rw [lF] at h1
       (try refine gS ?_);conv=>whnf
       refine aA.callN (aXU L en hL s1) [0] ?_ sH ?CNa20
       case CNa20=>rfl
       rintro ⟨a,s2⟩ h2<;>conv=>whnf
       have ha:a=(aFZ L en s1).1:=congrArg Prod.fst h2
       refine aA.concY (n:=a.cs.length) (N.gsub) 13 ?_ (hlen:=aG _ _)
       intro F1 a1 c1 G1 k1 N1 R1
       conv=>whnf
       have hs:=hP.up (Now.step N.gsub N1)
       have hb0:(⟨⟨a1,c1⟩,a.cs⟩:FbV).bare=a:=by rw [ha];rfl
       (try refine gS ?_);conv=>whnf
       refine And.intro (gG (by omega)) ?_;conv=>whnf
       (try refine gS ?_);conv=>whnf
       refine aA.rowsEq (16) ((List.map_append (f:=FbV.row) (l₁:=src.forbids) (l₂:=[⟨⟨a1,c1⟩,a.cs⟩])).symm) ?_;conv=>whnf
       refine aA.held tab (.fl 0 (.fl 1 (.e1 2 [1] (.e1 3 [] .done)))) (by kernel_rfl) ?_;conv=>whnf
       (try refine gR ?_);conv=>whnf
       repeat ((first|(guard_target=_∧_;(first|refine oL ?_|refine oR ?_|refine oB ?_))|(guard_target=Exists _;refine oM ?_));(try intro _);conv=>whnf)
       (try refine gS ?_);conv=>whnf
       try refine aA.retU ?_
       exact aE.ret tab Tryz.func89 rfl (iK.mk (N.trans N1) ((({src with forbids:=src.forbids++[⟨⟨a1,c1⟩,a.cs⟩]},s2):aJ×St)) (fun h U=>⟨(by simp only [uV,rbr,hbU,hbI,hbP,hbM,hbO,hbF,Bool.false_eq_true,if_true,if_false];show (sb (bX L en src.bare.forbids.length 16) _) s=_;rw [show src.bare.forbids.length=src.forbids.length from List.length_map _];simp only [sb,rt,←h1,←h2,aJ.bare,List.map_append,List.map_cons,List.map_nil,hb0]),aJ.sub.up ⟨hs.o,aGB hs.f (R1),hs.r⟩ U,⟨hn.U,hn.I,hn.P,hn.M,hn.O,nK hF,hn.R,hn.S⟩⟩) [(9,1),(10,2),(11,3),(12,4),(13,5),(14,16),(15,7),(16,8)] sH rfl rfl (aY rfl rfl))
      |false=>
       (try refine gS ?_);conv=>whnf
       refine aA.callN (eB L en s (B iD)) [0] ?_ sH ?CNa21
       case CNa21=>rfl
       intro _ _
       conv=>whnf
       (try refine jA tab 0 _ _ _ _ ?_);conv=>whnf
       refine aA.subR (nx':=13) (l':=[(2,.ptr 9 0),(3,.ptr 10 0),(4,.ptr 11 0),(5,.ptr 12 0),(139,.v (.bool (cL L 1 (B iD) s)))]) (H':=[roL L,(9,.cells 32 [.buf 1,.buf 2,.buf 3,.buf 4,.buf 5,.buf 6,.buf 7,.buf 8]),(10,.cells 74 (stC en s)),(11,.cells 32 [.v aD,.v aD,.v aD,.v aD,.v aD,.v aD,.v aD,.v aD]),(12,.cells 74 [.v aD,aC 0,aC 0,aC 0,aC 0]),(1,.own 81 8 (rws Un.row src.units)),(2,.own 83 6 (rws It.row src.items)),(3,.own 9 1 (rws iG src.plants)),(4,.own 85 4 (rws Mc.row src.machines)),(5,.own 50 2 (rws OpV.row src.options)),(6,.own 53 1 (rws FbV.row src.forbids)),(7,.own 61 17 (rws RcV.row src.recipes)),(8,.own 89 4 (rws Sw.row src.swaps))]) [] ?_ sH sH
       cases hbR:cL L 1 (B iD) s with
       |true=>
        (try refine gS ?_);conv=>whnf
        refine aA.callN (iT L en s (rws RcV.row src.recipes).length 64) [0] ?_ sH ?CNa22
        case CNa22=>rfl
        rintro s1 h1<;>conv=>whnf
        rw [lR] at h1
        (try refine gS ?_);conv=>whnf
        refine aA.callN (rrec_fn L en hL s1) [0] ?_ sH ?CNa23
        case CNa23=>rfl
        rintro ⟨a,s2⟩ h2<;>conv=>whnf
        have ha:a=(aOP L en s1).1:=congrArg Prod.fst h2
        refine aA.concY (n:=a.cs.length) (N.gsub) 13 ?_ (hlen:=aG _ _)
        intro F1 a1 c1 G1 k1 N1 R1
        conv=>whnf
        refine aA.concY (n:=a.inn.length) (N1.gsub) 14 ?_ (hlen:=aG _ _)
        intro F2 a2 c2 G2 k2 N2 R2
        conv=>whnf
        refine aA.concY (n:=a.out.length) (N2.gsub) 15 ?_ (hlen:=aG _ _)
        intro F3 a3 c3 G3 k3 N3 R3
        conv=>whnf
        refine aA.concY (n:=a.runs.length) (N3.gsub) 16 ?_ (hlen:=aG _ _)
        intro F4 a4 c4 G4 k4 N4 R4
        conv=>whnf
        have hs:=hP.up (((Now.step N.gsub N1).trans (Now.step N1.gsub N2)).trans ((Now.step N2.gsub N3).trans (Now.step N3.gsub N4)))
        have hb0:(⟨a.item,a.plant,a.fr,a.to,⟨a1,c1⟩,a.cs,⟨a2,c2⟩,a.inn,⟨a3,c3⟩,a.out,a.rwN,a.rwD,a.yN,a.yD,a.tN,a.tD,a.lead,⟨a4,c4⟩,a.runs,a.inum,a.pnum⟩:RcV).bare=a:=by rw [ha];rfl
        (try refine gS ?_);conv=>whnf
        refine And.intro (gG (by omega)) ?_;conv=>whnf
        (try refine gS ?_);conv=>whnf
        refine aA.rowsEq (20) ((List.map_append (f:=RcV.row) (l₁:=src.recipes) (l₂:=[⟨a.item,a.plant,a.fr,a.to,⟨a1,c1⟩,a.cs,⟨a2,c2⟩,a.inn,⟨a3,c3⟩,a.out,a.rwN,a.rwD,a.yN,a.yD,a.tN,a.tD,a.lead,⟨a4,c4⟩,a.runs,a.inum,a.pnum⟩])).symm) ?_;conv=>whnf
        refine aA.held tab (.fl 0 (.fl 1 (.e1 2 [1] (.e1 3 [] .done)))) (by kernel_rfl) ?_;conv=>whnf
        (try refine gR ?_);conv=>whnf
        repeat ((first|(guard_target=_∧_;(first|refine oL ?_|refine oR ?_|refine oB ?_))|(guard_target=Exists _;refine oM ?_));(try intro _);conv=>whnf)
        (try refine gS ?_);conv=>whnf
        try refine aA.retU ?_
        exact aE.ret tab Tryz.func89 rfl (iK.mk (((N.trans N1).trans N2).trans (N3.trans N4)) ((({src with recipes:=src.recipes++[⟨a.item,a.plant,a.fr,a.to,⟨a1,c1⟩,a.cs,⟨a2,c2⟩,a.inn,⟨a3,c3⟩,a.out,a.rwN,a.rwD,a.yN,a.yD,a.tN,a.tD,a.lead,⟨a4,c4⟩,a.runs,a.inum,a.pnum⟩]},s2):aJ×St)) (fun h U=>⟨(by simp only [uV,rbr,hbU,hbI,hbP,hbM,hbO,hbF,hbR,Bool.false_eq_true,if_true,if_false];show (sb (bX L en src.bare.recipes.length 64) _) s=_;rw [show src.bare.recipes.length=src.recipes.length from List.length_map _];simp only [sb,rt,←h1,←h2,aJ.bare,List.map_append,List.map_cons,List.map_nil,hb0]),aJ.sub.up ⟨hs.o,hs.f,aGB hs.r (⟨R1.up ((Now.step N1.gsub N2).trans ((Now.step N2.gsub N3).trans (Now.step N3.gsub N4))),R2.up ((Now.step N2.gsub N3).trans (Now.step N3.gsub N4)),R3.up (Now.step N3.gsub N4),R4⟩)⟩ U,⟨hn.U,hn.I,hn.P,hn.M,hn.O,hn.F,nK hR,hn.S⟩⟩) [(9,1),(10,2),(11,3),(12,4),(13,5),(14,6),(15,20),(16,8)] sH rfl rfl (aY rfl rfl))
       |false=>
        (try refine gS ?_);conv=>whnf
        refine aA.callN (eB L en s (B iC)) [0] ?_ sH ?CNa24
        case CNa24=>rfl
        intro _ _
        conv=>whnf
        (try refine jA tab 0 _ _ _ _ ?_);conv=>whnf
        refine aA.subR (nx':=13) (l':=[(2,.ptr 9 0),(3,.ptr 10 0),(4,.ptr 11 0),(5,.ptr 12 0),(158,.v (.bool (cL L 1 (B iC) s)))]) (H':=[roL L,(9,.cells 32 [.buf 1,.buf 2,.buf 3,.buf 4,.buf 5,.buf 6,.buf 7,.buf 8]),(10,.cells 74 (stC en s)),(11,.cells 32 [.v aD,.v aD,.v aD,.v aD,.v aD,.v aD,.v aD,.v aD]),(12,.cells 74 [.v aD,aC 0,aC 0,aC 0,aC 0]),(1,.own 81 8 (rws Un.row src.units)),(2,.own 83 6 (rws It.row src.items)),(3,.own 9 1 (rws iG src.plants)),(4,.own 85 4 (rws Mc.row src.machines)),(5,.own 50 2 (rws OpV.row src.options)),(6,.own 53 1 (rws FbV.row src.forbids)),(7,.own 61 17 (rws RcV.row src.recipes)),(8,.own 89 4 (rws Sw.row src.swaps))]) [] ?_ sH sH
        cases hbS:cL L 1 (B iC) s with
        |true=>
         (try refine gS ?_);conv=>whnf
         refine aA.callN (iT L en s (rws Sw.row src.swaps).length 32) [0] ?_ sH ?CNa25
         case CNa25=>rfl
         rintro s1 h1<;>conv=>whnf
         rw [lS] at h1
         (try refine gS ?_);conv=>whnf
         refine aA.callN (aNC L en hL s1) [0] ?_ sH ?CNa26
         case CNa26=>rfl
         rintro ⟨a,s2⟩ h2<;>conv=>whnf
         (try refine gS ?_);conv=>whnf
         refine And.intro (gG (by omega)) ?_;conv=>whnf
         (try refine gS ?_);conv=>whnf
         refine aA.rowsEq (16) ((List.map_append (f:=Sw.row) (l₁:=src.swaps) (l₂:=[a])).symm) ?_;conv=>whnf
         refine aA.held tab (.fl 0 (.fl 1 (.e1 2 [1] (.e1 3 [] .done)))) (by kernel_rfl) ?_;conv=>whnf
         (try refine gR ?_);conv=>whnf
         repeat ((first|(guard_target=_∧_;(first|refine oL ?_|refine oR ?_|refine oB ?_))|(guard_target=Exists _;refine oM ?_));(try intro _);conv=>whnf)
         (try refine gS ?_);conv=>whnf
         try refine aA.retU ?_
         exact aE.ret tab Tryz.func89 rfl (iK.mk (N) ((({src with swaps:=src.swaps++[a]},s2):aJ×St)) (fun h U=>⟨(by simp only [uV,rbr,hbU,hbI,hbP,hbM,hbO,hbF,hbR,hbS,Bool.false_eq_true,if_true,if_false];show (sb (bX L en src.swaps.length 32) _) s=_;simp only [sb,rt,←h1,←h2,aJ.bare]),aJ.sub.up ⟨hP.o,hP.f,hP.r⟩ U,⟨hn.U,hn.I,hn.P,hn.M,hn.O,hn.F,hn.R,nK hS⟩⟩) [(9,1),(10,2),(11,3),(12,4),(13,5),(14,6),(15,7),(16,16)] sH rfl rfl (aY rfl rfl))
        |false=>
         (try refine gS ?_);conv=>whnf
         refine aA.callN (aNC L en hL s) [0] ?_ sH ?CNa27
         case CNa27=>rfl
         rintro ⟨a,s2⟩ h2<;>conv=>whnf
         (try refine gS ?_);conv=>whnf
         refine And.intro (gG (by omega)) ?_;conv=>whnf
         (try refine gS ?_);conv=>whnf
         refine aA.rowsEq (16) ((List.map_append (f:=Sw.row) (l₁:=src.swaps) (l₂:=[a])).symm) ?_;conv=>whnf
         refine aA.held tab (.fl 0 (.fl 1 (.e1 2 [1] (.e1 3 [] .done)))) (by kernel_rfl) ?_;conv=>whnf
         (try refine gR ?_);conv=>whnf
         repeat ((first|(guard_target=_∧_;(first|refine oL ?_|refine oR ?_|refine oB ?_))|(guard_target=Exists _;refine oM ?_));(try intro _);conv=>whnf)
         (try refine gS ?_);conv=>whnf
         try refine aA.retU ?_
         exact aE.ret tab Tryz.func89 rfl (iK.mk (N) ((({src with swaps:=src.swaps++[a]},s2):aJ×St)) (fun h U=>⟨(by simp only [uV,rbr,hbU,hbI,hbP,hbM,hbO,hbF,hbR,hbS,Bool.false_eq_true,if_true,if_false];simp only [sb,rt,←h2,aJ.bare]),aJ.sub.up ⟨hP.o,hP.f,hP.r⟩ U,⟨hn.U,hn.I,hn.P,hn.M,hn.O,hn.F,hn.R,nK hS⟩⟩) [(9,1),(10,2),(11,3),(12,4),(13,5),(14,6),(15,7),(16,16)] sH rfl rfl (aY rfl rfl))
end
end Go.Proofs.YtgbeechjghajcaaGreatDoor

namespace Go.SynM
open Go Go.Fw Go.RatM Go.SrcM
open Go.Proofs.YtgbeechjghajcaaGreatDoor (Tok)
section
variable {L:List Tok} {en:Int} {α β:Type}
theorem sW {k:Int} {t:ByteArray} {most:Nat} {m:M α} (hm:Adv m):∀(f:Nat) (l:List α),Adv (dZ L en k t most m f l)
 |0,_=>fV
 |f+1,l=>fun s h=>by
  unfold dZ at h ⊢
  cases hb:cL L k t s with
  |false=>rw [hb] at h;exact ⟨h,Nat.le_refl _⟩
  |true=>
   rw [hb] at h
   exact (bC (bC qT fun _=>hm) fun x=>sW hm f (l++[x])) s h
theorem uW {w:List UInt8} {n most:Nat} {m q:M α} (hm:oE m) (hq:oE q):oE (rbr L en w n most m q):=fun s h=>by
 unfold rbr at h ⊢
 cases hb:cL L 1 (B w) s with
 |false=>rw [hb] at h;exact hq s h
 |true=>rw [hb] at h;exact (tJ qT fun _=>hm) s h
theorem adv_chs:Adv (rchs L en):=bC dV.a fun _=>sW (bC bJ.a fun _=>dV.a) _ _
theorem aIU:Adv (uT L en):=bC aGR.a fun _=>sW (bC bJ.a fun _=>aGR.a) _ _
theorem aYM:oE (aED L en):=dO bJ fun _=>bC dV.a fun _=>bC (aDO (bC bJ.a fun _=>bC qI.a fun _=>bC dV.a fun _=>fV)) fun _=>bC bJ.a fun _=>fV
theorem aXB:oE (aFT L en):=dO bJ fun _=>bC dV.a fun _=>bC bJ.a fun _=>bC dV.a fun _=>bC bJ.a fun _=>bC qI.a fun _=>bC (aDO (bC bJ.a fun _=>rJ.a)) fun _=>bC bJ.a fun _=>fV
theorem aUN:oE (aEP L en):=dO bJ fun _=>bC dV.a fun _=>bC bJ.a fun _=>fV
theorem aWL:oE (aIP L en):=dO bJ fun _=>bC dV.a fun _=>bC bJ.a fun _=>bC dV.a fun _=>bC bJ.a fun _=>bC rJ.a fun _=>bC bJ.a fun _=>fV
theorem aWB:oE (aFO L en):=dO bJ fun _=>bC dV.a fun _=>bC bJ.a fun _=>bC adv_chs fun _=>bC bJ.a fun _=>bC bJ.a fun _=>fV
theorem aUV:oE (aFZ L en):=dO bJ fun _=>bC aIU fun _=>bC bJ.a fun _=>fV
theorem aNZ:oE (aCX L en):=dO bJ fun _=>bC dV.a fun _=>bC bJ.a fun _=>bC dV.a fun _=>bC bJ.a fun _=>fV
theorem adv_rec:oE (aOP L en):=by
 unfold aOP
 refine dO bJ fun _=>bC dV.a fun _=>bC bJ.a fun _=>bC dV.a fun _=>bC bJ.a fun _=>bC rJ.a fun _=>bC bJ.a fun _=>bC rJ.a fun _=>?_
 refine bC (aDO (bC bJ.a fun _=>aIU)) fun _=>bC bJ.a fun _=>bC (sW aRU.a _ _) fun _=>bC (sW (bC bJ.a fun _=>yP.a) _ _) fun _=>?_
 refine bC bJ.a fun _=>bC qI.a fun _=>bC bJ.a fun _=>bC bJ.a fun _=>bC qI.a fun _=>bC bJ.a fun _=>bC qI.a fun _=>?_
 exact bC bJ.a fun _=>bC bJ.a fun _=>bC rJ.a fun _=>bC bJ.a fun _=>bC (sW aSC.a _ _) fun _=>bC bJ.a fun _=>fV
theorem adv_def (s:aJ):oE (uV L en s):=
 uW (dO aYM fun _=>fV)<|uW (dO aXB fun _=>fV)<|uW (dO aUN fun _=>fV)<|uW (dO aWL fun _=>fV) <|
 uW (dO aWB fun _=>fV)<|uW (dO aUV fun _=>fV)<|uW (dO adv_rec fun _=>fV)<|uW (dO aNZ fun _=>fV)<|dO aNZ fun _=>fV
theorem mu_def {s:St} (src:aJ) (h0:s.e=0) (h1:s.n<L.length):mu L (uV L en src s).2<mu L s:=by
 unfold mu
 rw [if_pos h0]
 by_cases he:(uV L en src s).2.e=0
 ·have:=(adv_def src s he).2
  rw [if_pos he]
  omega
 rw [if_neg he];omega
theorem aRK {f:Nat} {src:aJ} {s:St} (h:¬(s.e=0∧s.n<L.length)):qA L en f src s=(src,s):=by
 cases f with
 |zero=>rfl
 |succ f=>simp only [qA];rw [if_neg h]
theorem aYV {f:Nat} {src:aJ} {s:St} (h:s.e=0∧s.n<L.length):qA L en (f+1) src s=sb (uV L en src) (qA L en f) s:=by
 simp only [qA]
 rw [if_pos h]
end
end Go.SynM
namespace Go.Proofs.YtgbeechjghajcaaGreatDoor
open Go Go.Fw Go.NatM Go.RatM Go.SrcM Go.SynM
set_option maxRecDepth 100000
set_option maxHeartbeats 99999999
structure ReadJ (L:List Tok) (en:Int) (y:aJ×St) (G:Nat→Prop) (h:Array Obj):Prop where
 eq:qA L en (L.length+1) noS ⟨0,0,0⟩=(y.1.bare,y.2)
 sub:y.1.sub G h
section
variable (L:List Tok) (en:Int) (hL:L.length≤65536)
include hL
theorem aXK:FnX Tryz.prog 26 1 [stV en ⟨0,0,0⟩] [roL L] (fun _ _=>True) (ReadJ L en) (fun y=>.ret (.tup [srcS 1,stV en y.2]) 9 (srcH 1 y.1)):=by
 have lm:(L.map Tok.row).length=L.length:=List.length_map _
 refine FnX.of Tryz.func26 (by kernel_rfl) rfl Tryz.ntmps26 rfl fun E0 F G h N hP w0 cs=>?_
 conv=>whnf
 refine gS ?_;conv=>whnf
 refine aA.subR (nx':=5) (l':=[(1,.ptr 1 0),(2,.ptr 2 0),(3,.ptr 3 0),(4,.ptr 4 0)]) (H':=[roL L,(1,.cells 74 (stC en ⟨0,0,0⟩)),(2,.cells 32 [.v aD,.v aD,.v aD,.v aD,.v aD,.v aD,.v aD,.v aD]),(3,.cells 74 [.v aD,aC 0,aC 0,aC 0,aC 0]),(4,.cells 32 [.v aD,.v aD,.v aD,.v aD,.v aD,.v aD,.v aD,.v aD])]) [] ?_ sH sH
 refine aA.nilOwn (l':=[(1,.ptr 1 0),(2,.ptr 2 0),(3,.ptr 3 0),(4,.ptr 4 0)]) (H':=[roL L,(1,.cells 74 (stC en ⟨0,0,0⟩)),(2,.cells 32 [.v aD,.v aD,.v aD,.v aD,.v aD,.v aD,.v aD,.v aD]),(3,.cells 74 [.v aD,aC 0,aC 0,aC 0,aC 0]),(4,.cells 32 [.buf 5,.v aD,.v aD,.v aD,.v aD,.v aD,.v aD,.v aD])]) 81 8 ?_ (by rfl) (by rfl) (by rfl)
 refine aA.nilOwn (l':=[(1,.ptr 1 0),(2,.ptr 2 0),(3,.ptr 3 0),(4,.ptr 4 0)]) (H':=[(5,.own 81 8 []),roL L,(1,.cells 74 (stC en ⟨0,0,0⟩)),(2,.cells 32 [.v aD,.v aD,.v aD,.v aD,.v aD,.v aD,.v aD,.v aD]),(3,.cells 74 [.v aD,aC 0,aC 0,aC 0,aC 0]),(4,.cells 32 [.buf 5,.buf 6,.v aD,.v aD,.v aD,.v aD,.v aD,.v aD])]) 83 6 ?_ (by rfl) (by rfl) (by rfl)
 refine aA.nilOwn (l':=[(1,.ptr 1 0),(2,.ptr 2 0),(3,.ptr 3 0),(4,.ptr 4 0)]) (H':=[(6,.own 83 6 []),(5,.own 81 8 []),roL L,(1,.cells 74 (stC en ⟨0,0,0⟩)),(2,.cells 32 [.v aD,.v aD,.v aD,.v aD,.v aD,.v aD,.v aD,.v aD]),(3,.cells 74 [.v aD,aC 0,aC 0,aC 0,aC 0]),(4,.cells 32 [.buf 5,.buf 6,.buf 7,.v aD,.v aD,.v aD,.v aD,.v aD])]) 9 1 ?_ (by rfl) (by rfl) (by rfl)
 refine aA.nilOwn (l':=[(1,.ptr 1 0),(2,.ptr 2 0),(3,.ptr 3 0),(4,.ptr 4 0)]) (H':=[(7,.own 9 1 []),(6,.own 83 6 []),(5,.own 81 8 []),roL L,(1,.cells 74 (stC en ⟨0,0,0⟩)),(2,.cells 32 [.v aD,.v aD,.v aD,.v aD,.v aD,.v aD,.v aD,.v aD]),(3,.cells 74 [.v aD,aC 0,aC 0,aC 0,aC 0]),(4,.cells 32 [.buf 5,.buf 6,.buf 7,.buf 8,.v aD,.v aD,.v aD,.v aD])]) 85 4 ?_ (by rfl) (by rfl) (by rfl)
 refine aA.nilOwn (l':=[(1,.ptr 1 0),(2,.ptr 2 0),(3,.ptr 3 0),(4,.ptr 4 0)]) (H':=[(8,.own 85 4 []),(7,.own 9 1 []),(6,.own 83 6 []),(5,.own 81 8 []),roL L,(1,.cells 74 (stC en ⟨0,0,0⟩)),(2,.cells 32 [.v aD,.v aD,.v aD,.v aD,.v aD,.v aD,.v aD,.v aD]),(3,.cells 74 [.v aD,aC 0,aC 0,aC 0,aC 0]),(4,.cells 32 [.buf 5,.buf 6,.buf 7,.buf 8,.buf 9,.v aD,.v aD,.v aD])]) 50 2 ?_ (by rfl) (by rfl) (by rfl)
 refine aA.nilOwn (l':=[(1,.ptr 1 0),(2,.ptr 2 0),(3,.ptr 3 0),(4,.ptr 4 0)]) (H':=[(9,.own 50 2 []),(8,.own 85 4 []),(7,.own 9 1 []),(6,.own 83 6 []),(5,.own 81 8 []),roL L,(1,.cells 74 (stC en ⟨0,0,0⟩)),(2,.cells 32 [.v aD,.v aD,.v aD,.v aD,.v aD,.v aD,.v aD,.v aD]),(3,.cells 74 [.v aD,aC 0,aC 0,aC 0,aC 0]),(4,.cells 32 [.buf 5,.buf 6,.buf 7,.buf 8,.buf 9,.buf 10,.v aD,.v aD])]) 53 1 ?_ (by rfl) (by rfl) (by rfl)
 refine aA.nilOwn (l':=[(1,.ptr 1 0),(2,.ptr 2 0),(3,.ptr 3 0),(4,.ptr 4 0)]) (H':=[(10,.own 53 1 []),(9,.own 50 2 []),(8,.own 85 4 []),(7,.own 9 1 []),(6,.own 83 6 []),(5,.own 81 8 []),roL L,(1,.cells 74 (stC en ⟨0,0,0⟩)),(2,.cells 32 [.v aD,.v aD,.v aD,.v aD,.v aD,.v aD,.v aD,.v aD]),(3,.cells 74 [.v aD,aC 0,aC 0,aC 0,aC 0]),(4,.cells 32 [.buf 5,.buf 6,.buf 7,.buf 8,.buf 9,.buf 10,.buf 11,.v aD])]) 61 17 ?_ (by rfl) (by rfl) (by rfl)
 refine aA.nilOwn (l':=[(1,.ptr 1 0),(2,.ptr 2 0),(3,.ptr 3 0),(4,.ptr 4 0)]) (H':=[(11,.own 61 17 []),(10,.own 53 1 []),(9,.own 50 2 []),(8,.own 85 4 []),(7,.own 9 1 []),(6,.own 83 6 []),(5,.own 81 8 []),roL L,(1,.cells 74 (stC en ⟨0,0,0⟩)),(2,.cells 32 [.v aD,.v aD,.v aD,.v aD,.v aD,.v aD,.v aD,.v aD]),(3,.cells 74 [.v aD,aC 0,aC 0,aC 0,aC 0]),(4,.cells 32 [.buf 5,.buf 6,.buf 7,.buf 8,.buf 9,.buf 10,.buf 11,.buf 12])]) 89 4 ?_ (by rfl) (by rfl) (by rfl)
 refine aA.subR [] (aA.loopB (fun (⟨f,src,s,F',G',h'⟩:Nat×aJ×St×(Nat→Prop)×(Nat→Prop)×Array Obj)=>(F',h')) (fun (⟨f,src,s,F',G',h'⟩:Nat×aJ×St×(Nat→Prop)×(Nat→Prop)×Array Obj)=>[(1,.ptr 1 0),(2,.ptr 2 0),(3,.ptr 3 0),(4,.ptr 4 0)]) (fun (⟨f,src,s,F',G',h'⟩:Nat×aJ×St×(Nat→Prop)×(Nat→Prop)×Array Obj)=>[roL L,(1,.cells 74 (stC en s)),(2,.cells 32 [.v aD,.v aD,.v aD,.v aD,.v aD,.v aD,.v aD,.v aD]),(3,.cells 74 [.v aD,aC 0,aC 0,aC 0,aC 0]),(4,.cells 32 [.buf 5,.buf 6,.buf 7,.buf 8,.buf 9,.buf 10,.buf 11,.buf 12]),(5,.own 81 8 (rws Un.row src.units)),(6,.own 83 6 (rws It.row src.items)),(7,.own 9 1 (rws iG src.plants)),(8,.own 85 4 (rws Mc.row src.machines)),(9,.own 50 2 (rws OpV.row src.options)),(10,.own 53 1 (rws FbV.row src.forbids)),(11,.own 61 17 (rws RcV.row src.recipes)),(12,.own 89 4 (rws Sw.row src.swaps))]) 13 (fun (⟨f,src,s,F',G',h'⟩:Nat×aJ×St×(Nat→Prop)×(Nat→Prop)×Array Obj)=>((Now F G h F' G' h'∧src.sub G' h')∧mu L s≤f∧f≤L.length+1∧aJW (L.length+1 - f) src)∧qA L en (L.length+1) noS ⟨0,0,0⟩=qA L en f src.bare s) (fun (⟨f,src,s,F',G',h'⟩:Nat×aJ×St×(Nat→Prop)×(Nat→Prop)×Array Obj)=>f) ?round1 (⟨L.length+1,noS,⟨0,0,0⟩,F,G,h⟩) ?J01) sH sH
 case J01=>exact (⟨⟨⟨N,fun _ h=>absurd h List.not_mem_nil,fun _ h=>absurd h List.not_mem_nil,fun _ h=>absurd h List.not_mem_nil⟩,aHT _,Nat.le_refl _,⟨Nat.zero_le _,Nat.zero_le _,Nat.zero_le _,Nat.zero_le _,Nat.zero_le _,Nat.zero_le _,Nat.zero_le _,Nat.zero_le _⟩⟩,rfl⟩)
 rintro ⟨f,src,s,F',G',h'⟩ hJ back
 try dsimp only at hJ back
 conv=>whnf
 try dsimp only
 refine gS ?_;conv=>whnf
 obtain ⟨⟨⟨N1,hsub⟩,hm,hf,hT⟩,hJ⟩:=hJ
 refine ⟨fun h0=>?_,fun h0=>?_⟩<;>conv=>whnf
 ·try refine gS ?_
  conv=>whnf
  refine ⟨fun h1=>?_,fun h1=>?_⟩<;>conv=>whnf
  ·have h1:s.n<L.length:=by omega
   have hmu:=mu_def (en:=en) src.bare h0 h1
   have hm2:2≤mu L s:=by unfold mu;rw [if_pos h0];omega
   obtain ⟨g,rfl⟩:∃g,f=g+1:=⟨f - 1,by omega⟩
   rw [aYV ⟨h0,h1⟩] at hJ
   (try refine gS ?_);conv=>whnf
   refine aA.callY (N1.gsub) (rdef_fn L en hL s src _ hT (by omega)) (fun h U=>hsub.up U) [0,5,6,7,8,9,10,11,12] sH ?CNa2 ?_
   case CNa2=>rfl
   rintro _ ⟨src2,s2⟩ G2 h2 N2 J2
   have e:uV L en src.bare s=(src2.bare,s2):=J2.eq
   rw [e] at hmu
   conv=>whnf
   refine aA.subR (nx':=21) (l':=[(1,.ptr 1 0),(2,.ptr 2 0),(3,.ptr 3 0),(4,.ptr 4 0),(20,.tup [.agg [.buf 13,.buf 14,.buf 15,.buf 16,.buf 17,.buf 18,.buf 19,.buf 20],stV en s2])]) (H':=[roL L,(1,.cells 74 (stC en s)),(2,.cells 32 [.v aD,.v aD,.v aD,.v aD,.v aD,.v aD,.v aD,.v aD]),(3,.cells 74 [.v aD,aC 0,aC 0,aC 0,aC 0]),(4,.cells 32 [.buf 5,.buf 6,.buf 7,.buf 8,.buf 9,.buf 10,.buf 11,.buf 12]),(13,.own 81 8 (rws Un.row src2.units)),(14,.own 83 6 (rws It.row src2.items)),(15,.own 9 1 (rws iG src2.plants)),(16,.own 85 4 (rws Mc.row src2.machines)),(17,.own 50 2 (rws OpV.row src2.options)),(18,.own 53 1 (rws FbV.row src2.forbids)),(19,.own 61 17 (rws RcV.row src2.recipes)),(20,.own 89 4 (rws Sw.row src2.swaps))]) [] ?_ sH sH
   (try refine gS ?_);conv=>whnf
   refine aA.subR [(5,13),(6,14),(7,15),(8,16),(9,17),(10,18),(11,19),(12,20)] (back ((g,src2,s2,_,G2,h2)) (by exact (⟨⟨⟨N1.trans N2,J2.sub⟩,by show mu L s2≤g;have:mu L s2<mu L s:=hmu;omega,by show g≤_;omega,by have:=J2.len;rwa [show L.length+1 - (g+1)+1=L.length+1 - g by omega] at this⟩,hJ.trans (by simp only [sb,e])⟩)) (by (try dsimp only);omega)) sH sH
  have h1:¬(s.e=0∧s.n<L.length):=by omega
  (try refine gS ?_);conv=>whnf
  refine aA.held tab (.fl 0 (.fl 1 (.e1 2 [1] (.e1 3 [] .done)))) (by kernel_rfl) ?_;conv=>whnf
  (try refine gR ?_);conv=>whnf
  repeat ((first|(guard_target=_∧_;(first|refine oL ?_|refine oR ?_|refine oB ?_))|(guard_target=Exists _;refine oM ?_));(try intro _);conv=>whnf)
  (try refine gS ?_);conv=>whnf
  try refine aA.retU ?_
  exact aE.ret tab Tryz.func26 rfl (iK.mk (N1) (((src,s):aJ×St)) (fun h U=>⟨hJ.trans (aRK h1),hsub.up U⟩) [(1,5),(2,6),(3,7),(4,8),(5,9),(6,10),(7,11),(8,12)] sH rfl rfl (aY rfl rfl))
 have h1:¬(s.e=0∧s.n<L.length):=fun h=>h0 h.1
 (try refine gS ?_);conv=>whnf
 refine aA.held tab (.fl 0 (.fl 1 (.e1 2 [1] (.e1 3 [] .done)))) (by kernel_rfl) ?_;conv=>whnf
 (try refine gR ?_);conv=>whnf
 repeat ((first|(guard_target=_∧_;(first|refine oL ?_|refine oR ?_|refine oB ?_))|(guard_target=Exists _;refine oM ?_));(try intro _);conv=>whnf)
 (try refine gS ?_);conv=>whnf
 try refine aA.retU ?_
 exact aE.ret tab Tryz.func26 rfl (iK.mk (N1) (((src,s):aJ×St)) (fun h U=>⟨hJ.trans (aRK h1),hsub.up U⟩) [(1,5),(2,6),(3,7),(4,8),(5,9),(6,10),(7,11),(8,12)] sH rfl rfl (aY rfl rfl))
end
end Go.Proofs.YtgbeechjghajcaaGreatDoor

namespace Go.SynM
open Go Go.Fw Go.RatM Go.SrcM
open Go.Proofs.YtgbeechjghajcaaGreatDoor (Tok)
abbrev ix (L r:List Tok):Int:=((L.length - r.length:Nat):Int)
section
variable {L r:List Tok} {x:Tok}
theorem cC (h:x::r <:+ L):r <:+ L:=(List.suffix_cons x r).trans h
theorem rW (h:x::r <:+ L):ix L (x::r)+1=ix L r:=by
 have:=qE h
 simp only [List.length_cons] at this
 show ((L.length - (r.length+1):Nat):Int)+1=((L.length - r.length:Nat):Int)
 omega
theorem uD (h:x::r <:+ L):0≤ix L (x::r)∧ix L (x::r)<L.length:=by
 have:=qE h
 simp only [List.length_cons] at this
 show (0:Int)≤((L.length - (r.length+1):Nat):Int)∧((L.length - (r.length+1):Nat):Int)<L.length
 omega
theorem aEO:ix L []=L.length:=by
 show ((L.length - 0:Nat):Int)=_
 rw [Nat.sub_zero]
theorem drop_ix (h:r <:+ L):L.drop (L.length - r.length)=r:=by
 obtain ⟨a,rfl⟩:=h
 rw [List.length_append,Nat.add_sub_cancel,List.drop_left]
theorem tX (h:x::r <:+ L):(L.map Tok.row)[(ix L (x::r)).toNat]? = some x.row:=by
 have e:(ix L (x::r)).toNat=L.length - (x::r).length:=Int.toNat_natCast _
 have:=drop_ix h
 rw [e,List.getElem?_map,←List.head?_drop,this];rfl
end
def isA (t:ByteArray):List Tok→Bool
 | []=>false
 |x::_=>decide (x.kind≠2∧x.text=t)
def vD (t:ByteArray):P Unit:=fun r=>if isA t r then .ok () r.tail else .bad r 100
theorem lG {t:ByteArray} {r:List Tok} (h:isA t r=true):∃x r',r=x::r':=by
 cases r with
 |nil=>cases h
 |cons x r=>exact ⟨x,r,rfl⟩
def nE:List ByteArray→P Unit
 | []=>pur ()
 |t::l=>bnd (vD t) fun _=>nE l
end Go.SynM
namespace Go.Proofs.YtgbeechjghajcaaGreatDoor
open Go Go.Fw Go.NatM Go.RatM Go.SrcM Go.SynM
set_option maxRecDepth 100000
set_option maxHeartbeats 99999999
abbrev psB (src:ByteArray) (i:Int):Nat×Fw.Blk:=(0,.cells 67 [.v (.string src),.buf 1,.v (.int .i64 i),.buf 2,.buf 3,.buf 4,.buf 5,.buf 6,.buf 7,.buf 8,.buf 9])
abbrev tkB (L:List Tok):Nat×Fw.Blk:=(1,.own 47 4 (L.map Tok.row))
def yG (q:Int×Nat):List PanicEntry:=[{v:=.iface 63 (.agg #[.int .i64 q.1,.int .i64 (q.2:Int)]),recovered:=false}]
def outP {α:Type} (src:ByteArray) (L:List Tok) (f:α→SV) (n:Nat:=10):Rs α→gK
 | .ok a r=>.ret (f a) n [psB src (ix L r),tkB L]
 | .bad r e=>.pan (yG (dI src.size e r)) n [psB src (ix L r),tkB L]
section
variable (src:ByteArray) (L r:List Tok) (hr:r <:+ L)
include hr
theorem pR (e:Nat):FnS Tryz.prog 24 10 [.ptr 0 0,.v (.int .i64 (e:Int))] [psB src (ix L r),tkB L] (fun _:Unit=>True) (fun _=>.pan (yG (dI src.size e r)) 10 [psB src (ix L r),tkB L]):=by
 have lm:(L.map Tok.row).length=L.length:=List.length_map _
 refine FnS.of Tryz.func24 (by kernel_rfl) rfl Tryz.ntmps24 rfl fun E0 F h w0 cs=>?_
 conv=>whnf
 refine gS ?_;conv=>whnf
 refine aA.held tab (.fl 0 (.fl 1 (.fl 2 (.fl 3 (.fl 4 (.fl 5 (.fl 6 (.fl 7 (.fl 8 (.fl 9 .done)))))))))) (by kernel_rfl) ?_;conv=>whnf
 (try refine gR ?_);conv=>whnf
 cases r with
 |nil=>
  have e1:ix L []=L.length:=aEO
  refine ⟨fun h1=>?_,fun h1=>?_⟩<;>conv=>whnf
  ·try refine gR ?_
   conv=>whnf
   (try refine gS ?_);conv=>whnf
   refine aA.panicX (v:=.agg #[.int .i64 src.size,.int .i64 100]) ?_ (fun _=>rfl)
   exact aE.pan Tryz.func24 (aL.mk (()) (trivial) [] sH rfl rfl (aT rfl))
  exact absurd (by rw [e1,lm]) h1
 |cons x r=>
  have h2:=uD hr
  refine ⟨fun h1=>?_,fun h1=>?_⟩<;>conv=>whnf
  ·omega
  (try refine gR ?_);conv=>whnf
  (try refine gS ?_);conv=>whnf
  refine aA.held tab (.fl 0 (.fl 1 (.fl 2 (.fl 3 (.fl 4 (.fl 5 (.fl 6 (.fl 7 (.fl 8 (.fl 9 (.fl 10 (.fl 11 (.fl 12 (.fl 13 (.e1 14 [] .done))))))))))))))) (by kernel_rfl) ?_;conv=>whnf
  (try refine gR ?_);conv=>whnf
  repeat ((first|(guard_target=_∧_;(first|refine oL ?_|refine oR ?_|refine oB ?_))|(guard_target=Exists _;refine oM ?_));(try intro _);conv=>whnf)
  conv=>whnf
  refine ⟨_,tX hr,?_⟩;conv=>whnf
  refine aV.panicX (v:=.agg #[.int .i64 x.pos,.int .i64 (e:Int)]) ?_ (fun _=>rfl)
  exact aE.pan Tryz.func24 (aL.mk (()) (trivial) [] sH rfl rfl (aT rfl))
theorem rX (t:ByteArray):FnS Tryz.prog 122 10 [.ptr 0 0,.v (.string t)] [psB src (ix L r),tkB L] (fun _:Unit=>True) (fun _=>.ret (.v (.bool (isA t r))) 10 [psB src (ix L r),tkB L]):=by
 have lm:(L.map Tok.row).length=L.length:=List.length_map _
 refine FnS.of Tryz.func122 (by kernel_rfl) rfl Tryz.ntmps122 rfl fun E0 F h w0 cs=>?_
 conv=>whnf
 refine gS ?_;conv=>whnf
 refine aA.held tab (.fl 0 (.fl 1 (.fl 2 (.fl 3 (.fl 4 (.fl 5 (.fl 6 (.fl 7 (.fl 8 (.fl 9 (.fl 10 (.fl 11 (.fl 12 (.fl 13 (.fl 14 (.fl 15 (.fl 16 (.fl 17 (.fl 18 (.fl 19 (.fl 20 (.fl 21 (.fl 22 (.fl 23 (.fl 24 (.fl 25 (.fl 26 (.fl 27 (.fl 28 (.fl 29 (.fl 30 (.fl 31 (.fl 32 (.fl 33 (.fl 34 (.fl 35 (.fl 36 (.fl 37 (.fl 38 (.fl 39 .done)))))))))))))))))))))))))))))))))))))))) (by kernel_rfl) ?_;conv=>whnf
 (try refine gR ?_);conv=>whnf
 cases r with
 |nil=>
  have e1:ix L []=L.length:=aEO
  refine And.intro (fun hp=>absurd hp ((by rw [e1,lm];omega))) (fun _=>?_)
  conv=>whnf
  (try refine gS ?_);conv=>whnf
  try refine aA.retU ?_
  exact aE.ret tab Tryz.func122 rfl (eN () trivial)
 |cons x r=>
  have h2:=uD hr
  refine And.intro (fun _=>?_) (fun hn=>absurd ((by rw [lm];exact h2.2)) hn)
  conv=>whnf
  repeat ((first|(guard_target=_∧_;(first|refine oL ?_|refine oR ?_|refine oB ?_))|(guard_target=Exists _;refine oM ?_));(try intro _);conv=>whnf)
  conv=>whnf
  refine ⟨_,tX hr,?_⟩;conv=>whnf
  refine ⟨fun hk=>?_,fun hk=>?_⟩<;>conv=>whnf
  ·try refine gR ?_
   conv=>whnf
   (try refine gS ?_);conv=>whnf
   try refine aA.retU ?_
   exact aE.ret tab Tryz.func122 rfl (aL.mk (()) (trivial) [] sH rfl rfl (aY rfl (congrArg (fun b=>SV.v (Value.bool b)) ((decide_eq_false fun h=>h.1 hk).symm))))
  (try refine gR ?_);conv=>whnf
  repeat ((first|(guard_target=_∧_;(first|refine oL ?_|refine oR ?_|refine oB ?_))|(guard_target=Exists _;refine oM ?_));(try intro _);conv=>whnf)
  conv=>whnf
  refine ⟨_,tX hr,?_⟩;conv=>whnf
  (try refine gS ?_);conv=>whnf
  (try refine gS ?_);conv=>whnf
  try refine aA.retU ?_
  exact aE.ret tab Tryz.func122 rfl (aL.mk (()) (trivial) [] sH rfl rfl (aY rfl (congrArg (fun b=>SV.v (Value.bool b)) ((decide_eq_decide.2 ⟨fun h=>⟨hk,h⟩,fun h=>h.2⟩:decide (x.text=t)=decide (x.kind≠2∧x.text=t))))))
theorem eG (hL:L.length≤65536):FnS Tryz.prog 121 10 [.ptr 0 0] [psB src (ix L r),tkB L] (fun x:Rs ByteArray=>x=dP r) (outP src L fun a=>.v (.string a)):=by
 have lm:(L.map Tok.row).length=L.length:=List.length_map _
 refine FnS.of Tryz.func121 (by kernel_rfl) rfl Tryz.ntmps121 rfl fun E0 F h w0 cs=>?_
 conv=>whnf
 refine gS ?_;conv=>whnf
 refine aA.held tab (.fl 0 (.fl 1 (.fl 2 (.fl 3 (.fl 4 (.fl 5 (.fl 6 (.fl 7 (.fl 8 (.fl 9 (.fl 10 (.fl 11 (.fl 12 (.fl 13 (.fl 14 (.fl 15 (.fl 16 (.fl 17 (.fl 18 (.fl 19 (.fl 20 (.fl 21 (.fl 22 (.fl 23 .done)))))))))))))))))))))))) (by kernel_rfl) ?_;conv=>whnf
 (try refine gR ?_);conv=>whnf
 cases r with
 |nil=>
  have e1:ix L []=L.length:=aEO
  refine And.intro (fun _=>?_) (fun hn=>absurd ((by rw [e1,lm])) hn)
  conv=>whnf
  (try refine gS ?_);conv=>whnf
  refine aA.callN (pR src L [] hr 100) [0,1,2,3,4,5,6,7,8,9] ?_ sH ?CNa1
  case CNa1=>rfl
  intro _ _
  conv=>whnf
  exact aE.pan Tryz.func121 (aL.mk ((Rs.bad [] 100:Rs ByteArray)) ((by rfl)) [] sH rfl rfl (aT rfl))
 |cons x r=>
  have h2:=uD hr
  refine And.intro (fun hp=>absurd hp ((by rw [lm];omega))) (fun _=>?_)
  conv=>whnf
  repeat ((first|(guard_target=_∧_;(first|refine oL ?_|refine oR ?_|refine oB ?_))|(guard_target=Exists _;refine oM ?_));(try intro _);conv=>whnf)
  conv=>whnf
  refine ⟨_,tX hr,?_⟩;conv=>whnf
  refine ⟨fun hk=>?_,fun hk=>?_⟩<;>conv=>whnf
  ·try refine gR ?_
   conv=>whnf
   (try refine gS ?_);conv=>whnf
   repeat ((first|(guard_target=_∧_;(first|refine oL ?_|refine oR ?_))|(guard_target=Exists _;refine oM ?_));(try intro _);conv=>whnf)
   refine aA.held tab (.fl 0 (.fl 1 (.fl 2 (.fl 3 (.fl 4 (.fl 5 (.fl 6 (.fl 7 (.fl 8 (.fl 9 (.fl 10 (.fl 11 (.fl 12 .done))))))))))))) (by kernel_rfl) ?_;conv=>whnf
   (try refine gR ?_);conv=>whnf
   repeat ((first|(guard_target=_∧_;(first|refine oL ?_|refine oR ?_|refine oB ?_))|(guard_target=Exists _;refine oM ?_));(try intro _);conv=>whnf)
   conv=>whnf
   refine ⟨_,(by rw [Int.add_sub_cancel];exact tX hr),?_⟩;conv=>whnf
   (try refine gS ?_);conv=>whnf
   rw [rW hr]
   conv=>whnf
   (try refine gS ?_);conv=>whnf
   try refine aA.retU ?_
   exact aE.ret tab Tryz.func121 rfl (aL.mk ((Rs.ok x.text r)) ((by simp only [dP,if_pos hk])) [] sH rfl rfl (aY rfl rfl))
  (try refine gR ?_);conv=>whnf
  (try refine gS ?_);conv=>whnf
  refine aA.callN (pR src L (x::r) hr 100) [0,1,2,3,4,5,6,7,8,9] ?_ sH ?CNa2
  case CNa2=>rfl
  intro _ _
  conv=>whnf
  exact aE.pan Tryz.func121 (aL.mk ((Rs.bad (x::r) 100:Rs ByteArray)) ((by simp only [dP,if_neg hk])) [] sH rfl rfl (aT rfl))
theorem jD (hL:L.length≤65536):FnS Tryz.prog 125 10 [.ptr 0 0] [psB src (ix L r),tkB L] (fun x:Rs Int=>x=oC r) (outP src L fun a=>.v (.int .i64 a)):=by
 have lm:(L.map Tok.row).length=L.length:=List.length_map _
 refine FnS.of Tryz.func125 (by kernel_rfl) rfl Tryz.ntmps125 rfl fun E0 F h w0 cs=>?_
 conv=>whnf
 refine gS ?_;conv=>whnf
 refine aA.held tab (.fl 0 (.fl 1 (.fl 2 (.fl 3 (.fl 4 (.fl 5 (.fl 6 (.fl 7 (.fl 8 (.fl 9 (.fl 10 (.fl 11 (.fl 12 (.fl 13 (.fl 14 (.fl 15 (.fl 16 (.fl 17 (.fl 18 (.fl 19 (.fl 20 (.fl 21 (.fl 22 (.fl 23 (.fl 24 (.fl 25 (.fl 26 (.fl 27 (.fl 28 (.fl 29 (.fl 30 (.fl 31 (.fl 32 (.fl 33 (.fl 34 (.fl 35 (.fl 36 (.fl 37 .done)))))))))))))))))))))))))))))))))))))) (by kernel_rfl) ?_;conv=>whnf
 (try refine gR ?_);conv=>whnf
 cases r with
 |nil=>
  have e1:ix L []=L.length:=aEO
  refine And.intro (fun _=>?_) (fun hn=>absurd ((by rw [e1,lm])) hn)
  conv=>whnf
  (try refine gS ?_);conv=>whnf
  refine aA.callN (pR src L [] hr 100) [0,1,2,3,4,5,6,7,8,9] ?_ sH ?CNa3
  case CNa3=>rfl
  intro _ _
  conv=>whnf
  exact aE.pan Tryz.func125 (aL.mk ((Rs.bad [] 100:Rs Int)) ((by rfl)) [] sH rfl rfl (aT rfl))
 |cons x r=>
  have h2:=uD hr
  refine And.intro (fun hp=>absurd hp ((by rw [lm];omega))) (fun _=>?_)
  conv=>whnf
  repeat ((first|(guard_target=_∧_;(first|refine oL ?_|refine oR ?_|refine oB ?_))|(guard_target=Exists _;refine oM ?_));(try intro _);conv=>whnf)
  conv=>whnf
  refine ⟨_,tX hr,?_⟩;conv=>whnf
  refine ⟨fun hk=>?_,fun hk=>?_⟩<;>conv=>whnf
  ·try refine gR ?_
   conv=>whnf
   repeat ((first|(guard_target=_∧_;(first|refine oL ?_|refine oR ?_|refine oB ?_))|(guard_target=Exists _;refine oM ?_));(try intro _);conv=>whnf)
   conv=>whnf
   refine ⟨_,tX hr,?_⟩;conv=>whnf
   refine ⟨fun hn=>?_,fun hn=>?_⟩<;>conv=>whnf
   ·try refine gR ?_
    conv=>whnf
    (try refine gS ?_);conv=>whnf
    refine aA.callN (pR src L (x::r) hr 100) [0,1,2,3,4,5,6,7,8,9] ?_ sH ?CNa4
    case CNa4=>rfl
    intro _ _
    conv=>whnf
    exact aE.pan Tryz.func125 (aL.mk ((Rs.bad (x::r) 100:Rs Int)) ((by simp only [oC];rw [if_neg fun h=>by have:=h.2;omega])) [] sH rfl rfl (aT rfl))
   (try refine gR ?_);conv=>whnf
   (try refine gS ?_);conv=>whnf
   repeat ((first|(guard_target=_∧_;(first|refine oL ?_|refine oR ?_))|(guard_target=Exists _;refine oM ?_));(try intro _);conv=>whnf)
   refine aA.held tab (.fl 0 (.fl 1 (.fl 2 (.fl 3 (.fl 4 (.fl 5 (.fl 6 (.fl 7 (.fl 8 (.fl 9 (.fl 10 (.fl 11 (.fl 12 .done))))))))))))) (by kernel_rfl) ?_;conv=>whnf
   (try refine gR ?_);conv=>whnf
   repeat ((first|(guard_target=_∧_;(first|refine oL ?_|refine oR ?_|refine oB ?_))|(guard_target=Exists _;refine oM ?_));(try intro _);conv=>whnf)
   conv=>whnf
   refine ⟨_,(by rw [Int.add_sub_cancel];exact tX hr),?_⟩;conv=>whnf
   (try refine gS ?_);conv=>whnf
   rw [rW hr]
   conv=>whnf
   (try refine gS ?_);conv=>whnf
   try refine aA.retU ?_
   exact aE.ret tab Tryz.func125 rfl (aL.mk ((Rs.ok x.n r)) ((by simp only [oC];rw [if_pos ⟨hk,by omega⟩])) [] sH rfl rfl (aY rfl rfl))
  (try refine gR ?_);conv=>whnf
  (try refine gS ?_);conv=>whnf
  refine aA.callN (pR src L (x::r) hr 100) [0,1,2,3,4,5,6,7,8,9] ?_ sH ?CNa5
  case CNa5=>rfl
  intro _ _
  conv=>whnf
  exact aE.pan Tryz.func125 (aL.mk ((Rs.bad (x::r) 100:Rs Int)) ((by simp only [oC];rw [if_neg fun h=>hk h.1])) [] sH rfl rfl (aT rfl))
theorem dU (hL:L.length≤65536) (n m:Int) (hne:r ≠ []):FnS Tryz.prog 120 10 [.ptr 0 0,.v (.int .i64 n),.v (.int .i64 m)] [psB src (ix L r),tkB L] (fun x:Rs Unit=>x=if m≤n then .bad r 2 else .ok () r.tail) (outP src L fun _=>.tup []):=by
 refine FnS.of Tryz.func120 (by kernel_rfl) rfl Tryz.ntmps120 rfl fun E0 F h w0 cs=>?_
 conv=>whnf
 refine gS ?_;conv=>whnf
 obtain ⟨x,r,rfl⟩:∃x r',r=x::r':=by cases r with|nil=>exact absurd rfl hne|cons x r=>exact ⟨x,r,rfl⟩
 have h2:=uD hr
 refine ⟨fun hk=>?_,fun hk=>?_⟩<;>conv=>whnf
 ·try refine gS ?_
  conv=>whnf
  refine aA.callN (pR src L (x::r) hr 2) [0,1,2,3,4,5,6,7,8,9] ?_ sH ?CNa6
  case CNa6=>rfl
  intro _ _
  conv=>whnf
  exact aE.pan Tryz.func120 (aL.mk ((Rs.bad (x::r) 2:Rs Unit)) ((by rw [if_pos (by omega)])) [] sH rfl rfl (aT rfl))
 (try refine gS ?_);conv=>whnf
 repeat ((first|(guard_target=_∧_;(first|refine oL ?_|refine oR ?_))|(guard_target=Exists _;refine oM ?_));(try intro _);conv=>whnf)
 rw [rW hr]
 try refine aA.finU ?_
 exact aE.ret tab Tryz.func120 rfl (aL.mk ((Rs.ok () r:Rs Unit)) ((by rw [if_neg (by omega)];rfl)) [] sH rfl rfl (aY rfl rfl))
end
end Go.Proofs.YtgbeechjghajcaaGreatDoor

namespace Go.SynM
open Go Go.Fw Go.RatM Go.SrcM
open Go.Proofs.YtgbeechjghajcaaGreatDoor (Tok)
structure KL (N:ByteArray→Prop) (L:List Tok):Prop where
 k:∀x∈L,(x.kind=1∧N x.text)∨(x.kind=2∧0≤x.n)∨(x.kind=3 ∧ ¬N x.text)
section
variable {N:ByteArray→Prop} {L r:List Tok} (K:KL N L) (hr:r <:+ L)
include K hr
theorem tA {t:ByteArray} (h:N t):isA t r=isT 1 t r:=by
 cases r with
 |nil=>rfl
 |cons x r=>
  show decide _=decide _
  rw [decide_eq_decide]
  rcases K.k x (hr.subset (List.mem_cons_self ..)) with h1|h1|h1
  ·exact ⟨fun h2=>⟨h1.1,h2.2⟩,fun h2=>⟨by omega,h2.2⟩⟩
  ·exact ⟨fun h2=>absurd h1.1 h2.1,fun h2=>by omega⟩
  exact ⟨fun h2=>absurd (h2.2▸h) h1.2,fun h2=>by omega⟩
theorem aGY {t:ByteArray} (h:¬N t):isA t r=isT 3 t r:=by
 cases r with
 |nil=>rfl
 |cons x r=>
  show decide _=decide _
  rw [decide_eq_decide]
  rcases K.k x (hr.subset (List.mem_cons_self ..)) with h1|h1|h1
  ·exact ⟨fun h2=>absurd (h2.2▸h1.2) h,fun h2=>by omega⟩
  ·exact ⟨fun h2=>absurd h1.1 h2.1,fun h2=>by omega⟩
  exact ⟨fun h2=>⟨h1.1,h2.2⟩,fun h2=>⟨by omega,h2.2⟩⟩
theorem skipA_w {t:ByteArray} (h:N t):vD t r=skip 1 t r:=by unfold vD skip;rw [tA K hr h]
theorem aKO {t:ByteArray} (h:¬N t):vD t r=skip 3 t r:=by unfold vD skip;rw [aGY K hr h]
theorem kR {t:ByteArray} (h:N t):nE [t] r=skip 1 t r:=by
 rw [←skipA_w K hr h]
 simp only [nE,bnd,pur]
 cases vD t r<;>rfl
theorem fO {t:ByteArray} (h:¬N t):nE [t] r=skip 3 t r:=by
 rw [←aKO K hr h]
 simp only [nE,bnd,pur]
 cases vD t r<;>rfl
end
end Go.SynM
namespace Go.Proofs.YtgbeechjghajcaaGreatDoor
open Go Go.Fw Go.NatM Go.RatM Go.SrcM Go.SynM
set_option maxRecDepth 100000
set_option maxHeartbeats 99999999
section
variable (src:ByteArray) (L r:List Tok) (hr:r <:+ L) (hL:L.length≤65536)
include hr hL
theorem bE (ts:List ByteArray) (h2:ts.length≤2):FnS Tryz.prog 124 11 [.ptr 0 0,.buf 10] [psB src (ix L r),tkB L,(10,.own 9 1 (jY ts))] (fun x:Rs Unit=>x=nE ts r) (outP src L (fun _=>.tup []) 11):=by
 have lt:=pG ts
 refine FnS.of Tryz.func124 (by kernel_rfl) rfl Tryz.ntmps124 rfl fun E0 F h w0 cs=>?_
 conv=>whnf
 refine gS ?_;conv=>whnf
 refine aA.subR [] (aA.loop (fun (⟨i,q⟩:Nat×List Tok)=>[(0,.ptr 0 0),(6,.buf 10),(7,.v (.int .i64 (jY ts).length)),(8,.v (.int .i64 i))]) (fun (⟨i,q⟩:Nat×List Tok)=>[psB src (ix L q),tkB L,(10,.own 9 1 (jY ts))]) 11 (fun (⟨i,q⟩:Nat×List Tok)=>(i≤ts.length∧q <:+ L)∧nE ts r=nE (ts.drop i) q) (fun (⟨i,q⟩:Nat×List Tok)=>ts.length - i) ?round1 ((0,r)) ?J01) sH sH
 case J01=>exact (⟨⟨Nat.zero_le _,hr⟩,rfl⟩)
 rintro ⟨i,q⟩ hJ back
 try dsimp only at hJ back
 conv=>whnf
 try dsimp only
 refine gS ?_;conv=>whnf
 obtain ⟨⟨hi,hq⟩,hJ⟩:=hJ
 refine ⟨fun hk=>?_,fun hk=>?_⟩<;>conv=>whnf
 ·have hk:i<ts.length:=by omega
  conv=>whnf
  repeat ((first|(guard_target=_∧_;(first|refine oL ?_|refine oR ?_))|(guard_target=Exists _;refine oM ?_));(try intro _);conv=>whnf)
  refine ⟨_,aK hk,?_⟩;conv=>whnf
  refine aA.callN (rX src L q hq ts[i]) [0,1,2,3,4,5,6,7,8,9] ?_ sH ?CNa2
  case CNa2=>rfl
  intro _ _
  conv=>whnf
  (try refine gS ?_);conv=>whnf
  have hd:ts.drop i=ts[i]::ts.drop (i+1):=List.drop_eq_getElem_cons hk
  cases hA:isA ts[i] q with
  |false=>
   (try refine gS ?_);conv=>whnf
   refine aA.callN (pR src L q hq 100) [0,1,2,3,4,5,6,7,8,9] ?_ sH ?CNa3
   case CNa3=>rfl
   intro _ _
   conv=>whnf
   exact aE.pan Tryz.func124 (aL.mk ((Rs.bad q 100:Rs Unit)) ((by rw [hJ,hd];simp only [nE,bnd,vD,hA];rfl)) [] sH rfl rfl (aT rfl))
  |true=>
   obtain ⟨x,q',rfl⟩:=lG hA
   have h3:=uD hq
   conv=>whnf
   repeat ((first|(guard_target=_∧_;(first|refine oL ?_|refine oR ?_))|(guard_target=Exists _;refine oM ?_));(try intro _);conv=>whnf)
   rw [rW hq]
   refine aA.subR [] (back ((i+1,q')) (by exact (⟨⟨hk,cC hq⟩,by rw [hJ,hd];simp only [nE,bnd,vD,hA];rfl⟩)) (by (try dsimp only);omega)) sH sH
 (try refine gS ?_);conv=>whnf
 have e:ts.drop i=[]:=List.drop_eq_nil_of_le (by omega)
 try refine aA.finU ?_
 exact aE.ret tab Tryz.func124 rfl (aL.mk ((Rs.ok () q:Rs Unit)) ((by rw [hJ,e];rfl)) [] sH rfl rfl (aY rfl rfl))
variable {N:ByteArray→Prop} (K:KL N L) (V:aBS N)
include K V
theorem nA:FnS Tryz.prog 123 10 [.ptr 0 0] [psB src (ix L r),tkB L] (fun x:Rs (Int×Int)=>x=lJ r) (outP src L fun q=>.tup [.v (.int .i64 q.1),.v (.int .i64 q.2)]):=by
 refine FnS.of Tryz.func123 (by kernel_rfl) rfl Tryz.ntmps123 rfl fun E0 F h w0 cs=>?_
 conv=>whnf
 refine gS ?_;conv=>whnf
 refine aA.callN (jD src L r hr hL) [0,1,2,3,4,5,6,7,8,9] ?_ sH ?CNa5
 case CNa5=>rfl
 rintro (⟨n,r1⟩|⟨r1,e1⟩) h1<;>conv=>whnf
 rotate_left
 ·try refine aA.panicU ?_
  exact aE.pan Tryz.func123 (aL.mk ((Rs.bad r1 e1:Rs (Int×Int))) ((by unfold lJ;rw [aH h1.symm])) [] sH rfl rfl (aT rfl))
 have s1:=(tU.1.suf _ _ _ h1.symm).trans hr
 refine aA.subR (nx':=10) (l':=[(5,.v (.int .i64 n)),(0,.ptr 0 0)]) (H':=[psB src (ix L r1),tkB L]) [] ?_ sH sH
 (try refine gS ?_);conv=>whnf
 refine aA.callN (bE src L r1 s1 hL [B [47]] (by decide)) [0,1,2,3,4,5,6,7,8,9,10] ?_ sH ?CNa6
 case CNa6=>rfl
 rintro (⟨_,r2⟩|⟨r2,e2⟩) h2<;>conv=>whnf
 all_goals rw [fO K s1 (V.s 47 (by decide))] at h2
 rotate_left
 ·try refine aA.panicU ?_
  exact aE.pan Tryz.func123 (aL.mk ((Rs.bad r2 e2:Rs (Int×Int))) ((by unfold lJ;rw [aB h1.symm,aH h2.symm])) [] sH rfl rfl (aT rfl))
 have s2:=((bI _ _).1.suf _ _ _ h2.symm).trans s1
 refine aA.subR (nx':=10) (l':=[(2,.v (.int .i64 n)),(0,.ptr 0 0)]) (H':=[psB src (ix L r2),tkB L]) [] ?_ sH sH
 (try refine gS ?_);conv=>whnf
 refine aA.callN (jD src L r2 s2 hL) [0,1,2,3,4,5,6,7,8,9] ?_ sH ?CNa7
 case CNa7=>rfl
 rintro (⟨d,r3⟩|⟨r3,e3⟩) h3<;>conv=>whnf
 rotate_left
 ·try refine aA.panicU ?_
  exact aE.pan Tryz.func123 (aL.mk ((Rs.bad r3 e3:Rs (Int×Int))) ((by unfold lJ;rw [aB h1.symm,aB h2.symm,aH h3.symm])) [] sH rfl rfl (aT rfl))
 refine aA.subR (nx':=10) (l':=[(9,.v (.int .i64 n)),(11,.v (.int .i64 d)),(0,.ptr 0 0)]) (H':=[psB src (ix L r3),tkB L]) [] ?_ sH sH
 (try refine gS ?_);conv=>whnf
 try refine aA.retU ?_
 exact aE.ret tab Tryz.func123 rfl (aL.mk ((Rs.ok (n,d) r3:Rs (Int×Int))) ((by unfold lJ;rw [aB h1.symm,aB h2.symm,aB h3.symm];rfl)) [] sH rfl rfl (aY rfl rfl))
end
end Go.Proofs.YtgbeechjghajcaaGreatDoor

namespace Go.Proofs.YtgbeechjghajcaaGreatDoor
open Go Go.Fw Go.NatM Go.RatM Go.SrcM Go.SynM
set_option maxRecDepth 100000
set_option maxHeartbeats 99999999
section
variable (src:ByteArray) (L r:List Tok) (hr:r <:+ L) (hL:L.length≤65536) {N:ByteArray→Prop} (K:KL N L) (V:aBS N)
include hr hL K V
theorem aLX:FnS Tryz.prog 128 10 [.ptr 0 0] [psB src (ix L r),tkB L] (fun x:Rs Cd=>x=lA r) (outP src L (fun x=>.agg (toV x.row)) 11):=by
 refine FnS.of Tryz.func128 (by kernel_rfl) rfl Tryz.ntmps128 rfl fun E0 F h w0 cs=>?_
 conv=>whnf
 refine gS ?_;conv=>whnf
 refine aA.callN (eG src L r hr hL) [0,1,2,3,4,5,6,7,8,9] ?_ sH ?CNa1
 case CNa1=>rfl
 rintro (⟨a1,r1⟩|⟨r1,e1⟩) h1<;>conv=>whnf
 rotate_left
 ·try refine aA.panicU ?_
  exact aE.pan Tryz.func128 (aL.mk ((Rs.bad r1 e1:Rs Cd)) ((by unfold lA;rw [aH h1.symm])) [] sH rfl rfl (aT rfl))
 have s1:=(fI.1.suf _ _ _ h1.symm).trans hr
 refine aA.subR (nx':=11) (l':=[(4,.v (.string a1)),(0,.ptr 0 0),(2,.ptr 10 0)]) (H':=[psB src (ix L r1),tkB L,(10,.cells 52 [.v (.string ⟨#[]⟩),.v (.string ⟨#[]⟩),.v (.int .i64 0),.v (.int .i64 0)])]) [] ?_ sH sH
 (try refine gS ?_);conv=>whnf
 refine aA.callN (bE src L r1 s1 hL [B [61]] (by decide)) [0,1,2,3,4,5,6,7,8,9,11] ?_ sH ?CNa2
 case CNa2=>rfl
 rintro (⟨_,r2⟩|⟨r2,e2⟩) h2<;>conv=>whnf
 all_goals rw [fO K s1 (V.s 61 (by decide))] at h2
 rotate_left
 ·try refine aA.panicU ?_
  exact aE.pan Tryz.func128 (aL.mk ((Rs.bad r2 e2:Rs Cd)) ((by unfold lA;rw [aB h1.symm,aH h2.symm])) [] sH rfl rfl (aT rfl))
 have s2:=((bI _ _).1.suf _ _ _ h2.symm).trans s1
 refine aA.subR (nx':=11) (l':=[(0,.ptr 0 0),(2,.ptr 10 0)]) (H':=[psB src (ix L r2),tkB L,(10,.cells 52 [.v (.string a1),.v (.string ⟨#[]⟩),.v (.int .i64 0),.v (.int .i64 0)])]) [] ?_ sH sH
 (try refine gS ?_);conv=>whnf
 refine aA.callN (eG src L r2 s2 hL) [0,1,2,3,4,5,6,7,8,9] ?_ sH ?CNa3
 case CNa3=>rfl
 rintro (⟨a3,r3⟩|⟨r3,e3⟩) h3<;>conv=>whnf
 rotate_left
 ·try refine aA.panicU ?_
  exact aE.pan Tryz.func128 (aL.mk ((Rs.bad r3 e3:Rs Cd)) ((by unfold lA;rw [aB h1.symm,aB h2.symm,aH h3.symm])) [] sH rfl rfl (aT rfl))
 have s3:=(fI.1.suf _ _ _ h3.symm).trans s2
 refine aA.subR (nx':=11) (l':=[(10,.v (.string a3)),(0,.ptr 0 0),(2,.ptr 10 0)]) (H':=[psB src (ix L r3),tkB L,(10,.cells 52 [.v (.string a1),.v (.string ⟨#[]⟩),.v (.int .i64 0),.v (.int .i64 0)])]) [] ?_ sH sH
 (try refine gS ?_);conv=>whnf
 try refine aA.retU ?_
 exact aE.ret tab Tryz.func128 rfl (aL.mk ((Rs.ok ⟨a1,a3,0,0⟩ r3:Rs Cd)) ((by unfold lA;rw [aB h1.symm,aB h2.symm,aB h3.symm];rfl)) [] sH rfl rfl (aY rfl rfl))
theorem aWX:FnS Tryz.prog 81 10 [.ptr 0 0] [psB src (ix L r),tkB L] (fun x:Rs Sw=>x=qQ r) (outP src L (fun x=>.agg (toV x.row)) 11):=by
 refine FnS.of Tryz.func81 (by kernel_rfl) rfl Tryz.ntmps81 rfl fun E0 F h w0 cs=>?_
 conv=>whnf
 refine gS ?_;conv=>whnf
 refine aA.callN (eG src L r hr hL) [0,1,2,3,4,5,6,7,8,9] ?_ sH ?CNa4
 case CNa4=>rfl
 rintro (⟨a1,r1⟩|⟨r1,e1⟩) h1<;>conv=>whnf
 rotate_left
 ·try refine aA.panicU ?_
  exact aE.pan Tryz.func81 (aL.mk ((Rs.bad r1 e1:Rs Sw)) ((by unfold qQ;rw [aH h1.symm])) [] sH rfl rfl (aT rfl))
 have s1:=(fI.1.suf _ _ _ h1.symm).trans hr
 refine aA.subR (nx':=11) (l':=[(4,.v (.string a1)),(0,.ptr 0 0),(2,.ptr 10 0)]) (H':=[psB src (ix L r1),tkB L,(10,.cells 89 [.v (.string ⟨#[]⟩),.v (.string ⟨#[]⟩),.v (.int .i64 0),.v (.int .i64 0)])]) [] ?_ sH sH
 (try refine gS ?_);conv=>whnf
 refine aA.callN (bE src L r1 s1 hL [B aAU] (by decide)) [0,1,2,3,4,5,6,7,8,9,11] ?_ sH ?CNa5
 case CNa5=>rfl
 rintro (⟨_,r2⟩|⟨r2,e2⟩) h2<;>conv=>whnf
 all_goals rw [kR K s1 (V.w aAU (by simp))] at h2
 rotate_left
 ·try refine aA.panicU ?_
  exact aE.pan Tryz.func81 (aL.mk ((Rs.bad r2 e2:Rs Sw)) ((by unfold qQ;rw [aB h1.symm,aH h2.symm])) [] sH rfl rfl (aT rfl))
 have s2:=((bI _ _).1.suf _ _ _ h2.symm).trans s1
 refine aA.subR (nx':=11) (l':=[(0,.ptr 0 0),(2,.ptr 10 0)]) (H':=[psB src (ix L r2),tkB L,(10,.cells 89 [.v (.string a1),.v (.string ⟨#[]⟩),.v (.int .i64 0),.v (.int .i64 0)])]) [] ?_ sH sH
 (try refine gS ?_);conv=>whnf
 refine aA.callN (eG src L r2 s2 hL) [0,1,2,3,4,5,6,7,8,9] ?_ sH ?CNa6
 case CNa6=>rfl
 rintro (⟨a3,r3⟩|⟨r3,e3⟩) h3<;>conv=>whnf
 rotate_left
 ·try refine aA.panicU ?_
  exact aE.pan Tryz.func81 (aL.mk ((Rs.bad r3 e3:Rs Sw)) ((by unfold qQ;rw [aB h1.symm,aB h2.symm,aH h3.symm])) [] sH rfl rfl (aT rfl))
 have s3:=(fI.1.suf _ _ _ h3.symm).trans s2
 refine aA.subR (nx':=11) (l':=[(10,.v (.string a3)),(0,.ptr 0 0),(2,.ptr 10 0)]) (H':=[psB src (ix L r3),tkB L,(10,.cells 89 [.v (.string a1),.v (.string ⟨#[]⟩),.v (.int .i64 0),.v (.int .i64 0)])]) [] ?_ sH sH
 (try refine gS ?_);conv=>whnf
 refine aA.callN (bE src L r3 s3 hL [B [59]] (by decide)) [0,1,2,3,4,5,6,7,8,9,11] ?_ sH ?CNa7
 case CNa7=>rfl
 rintro (⟨_,r4⟩|⟨r4,e4⟩) h4<;>conv=>whnf
 all_goals rw [fO K s3 (V.s 59 (by decide))] at h4
 rotate_left
 ·try refine aA.panicU ?_
  exact aE.pan Tryz.func81 (aL.mk ((Rs.bad r4 e4:Rs Sw)) ((by unfold qQ;rw [aB h1.symm,aB h2.symm,aB h3.symm,aH h4.symm])) [] sH rfl rfl (aT rfl))
 have s4:=((bI _ _).1.suf _ _ _ h4.symm).trans s3
 refine aA.subR (nx':=11) (l':=[(0,.ptr 0 0),(2,.ptr 10 0)]) (H':=[psB src (ix L r4),tkB L,(10,.cells 89 [.v (.string a1),.v (.string a3),.v (.int .i64 0),.v (.int .i64 0)])]) [] ?_ sH sH
 (try refine gS ?_);conv=>whnf
 try refine aA.retU ?_
 exact aE.ret tab Tryz.func81 rfl (aL.mk ((Rs.ok ⟨a1,a3,0,0⟩ r4:Rs Sw)) ((by unfold qQ;rw [aB h1.symm,aB h2.symm,aB h3.symm,aB h4.symm];rfl)) [] sH rfl rfl (aY rfl rfl))
theorem aXQ:FnS Tryz.prog 69 10 [.ptr 0 0] [psB src (ix L r),tkB L] (fun x:Rs Mc=>x=pC r) (outP src L (fun x=>.agg (toV x.row)) 11):=by
 refine FnS.of Tryz.func69 (by kernel_rfl) rfl Tryz.ntmps69 rfl fun E0 F h w0 cs=>?_
 conv=>whnf
 refine gS ?_;conv=>whnf
 refine aA.callN (eG src L r hr hL) [0,1,2,3,4,5,6,7,8,9] ?_ sH ?CNa8
 case CNa8=>rfl
 rintro (⟨a1,r1⟩|⟨r1,e1⟩) h1<;>conv=>whnf
 rotate_left
 ·try refine aA.panicU ?_
  exact aE.pan Tryz.func69 (aL.mk ((Rs.bad r1 e1:Rs Mc)) ((by unfold pC;rw [aH h1.symm])) [] sH rfl rfl (aT rfl))
 have s1:=(fI.1.suf _ _ _ h1.symm).trans hr
 refine aA.subR (nx':=11) (l':=[(4,.v (.string a1)),(0,.ptr 0 0),(2,.ptr 10 0)]) (H':=[psB src (ix L r1),tkB L,(10,.cells 85 [.v (.string ⟨#[]⟩),.v (.string ⟨#[]⟩),.v (.int .i64 0),.v (.int .i64 0)])]) [] ?_ sH sH
 (try refine gS ?_);conv=>whnf
 refine aA.callN (bE src L r1 s1 hL [B wAt] (by decide)) [0,1,2,3,4,5,6,7,8,9,11] ?_ sH ?CNa9
 case CNa9=>rfl
 rintro (⟨_,r2⟩|⟨r2,e2⟩) h2<;>conv=>whnf
 all_goals rw [kR K s1 (V.w wAt (by simp))] at h2
 rotate_left
 ·try refine aA.panicU ?_
  exact aE.pan Tryz.func69 (aL.mk ((Rs.bad r2 e2:Rs Mc)) ((by unfold pC;rw [aB h1.symm,aH h2.symm])) [] sH rfl rfl (aT rfl))
 have s2:=((bI _ _).1.suf _ _ _ h2.symm).trans s1
 refine aA.subR (nx':=11) (l':=[(0,.ptr 0 0),(2,.ptr 10 0)]) (H':=[psB src (ix L r2),tkB L,(10,.cells 85 [.v (.string a1),.v (.string ⟨#[]⟩),.v (.int .i64 0),.v (.int .i64 0)])]) [] ?_ sH sH
 (try refine gS ?_);conv=>whnf
 refine aA.callN (eG src L r2 s2 hL) [0,1,2,3,4,5,6,7,8,9] ?_ sH ?CNa10
 case CNa10=>rfl
 rintro (⟨a3,r3⟩|⟨r3,e3⟩) h3<;>conv=>whnf
 rotate_left
 ·try refine aA.panicU ?_
  exact aE.pan Tryz.func69 (aL.mk ((Rs.bad r3 e3:Rs Mc)) ((by unfold pC;rw [aB h1.symm,aB h2.symm,aH h3.symm])) [] sH rfl rfl (aT rfl))
 have s3:=(fI.1.suf _ _ _ h3.symm).trans s2
 refine aA.subR (nx':=11) (l':=[(10,.v (.string a3)),(0,.ptr 0 0),(2,.ptr 10 0)]) (H':=[psB src (ix L r3),tkB L,(10,.cells 85 [.v (.string a1),.v (.string ⟨#[]⟩),.v (.int .i64 0),.v (.int .i64 0)])]) [] ?_ sH sH
 (try refine gS ?_);conv=>whnf
 refine aA.callN (bE src L r3 s3 hL [B oA] (by decide)) [0,1,2,3,4,5,6,7,8,9,11] ?_ sH ?CNa11
 case CNa11=>rfl
 rintro (⟨_,r4⟩|⟨r4,e4⟩) h4<;>conv=>whnf
 all_goals rw [kR K s3 (V.w oA (by simp))] at h4
 rotate_left
 ·try refine aA.panicU ?_
  exact aE.pan Tryz.func69 (aL.mk ((Rs.bad r4 e4:Rs Mc)) ((by unfold pC;rw [aB h1.symm,aB h2.symm,aB h3.symm,aH h4.symm])) [] sH rfl rfl (aT rfl))
 have s4:=((bI _ _).1.suf _ _ _ h4.symm).trans s3
 refine aA.subR (nx':=11) (l':=[(0,.ptr 0 0),(2,.ptr 10 0)]) (H':=[psB src (ix L r4),tkB L,(10,.cells 85 [.v (.string a1),.v (.string a3),.v (.int .i64 0),.v (.int .i64 0)])]) [] ?_ sH sH
 (try refine gS ?_);conv=>whnf
 refine aA.callN (jD src L r4 s4 hL) [0,1,2,3,4,5,6,7,8,9] ?_ sH ?CNa12
 case CNa12=>rfl
 rintro (⟨a5,r5⟩|⟨r5,e5⟩) h5<;>conv=>whnf
 rotate_left
 ·try refine aA.panicU ?_
  exact aE.pan Tryz.func69 (aL.mk ((Rs.bad r5 e5:Rs Mc)) ((by unfold pC;rw [aB h1.symm,aB h2.symm,aB h3.symm,aB h4.symm,aH h5.symm])) [] sH rfl rfl (aT rfl))
 have s5:=(tU.1.suf _ _ _ h5.symm).trans s4
 refine aA.subR (nx':=11) (l':=[(16,.v (.int .i64 a5)),(0,.ptr 0 0),(2,.ptr 10 0)]) (H':=[psB src (ix L r5),tkB L,(10,.cells 85 [.v (.string a1),.v (.string a3),.v (.int .i64 0),.v (.int .i64 0)])]) [] ?_ sH sH
 (try refine gS ?_);conv=>whnf
 refine aA.callN (bE src L r5 s5 hL [B [59]] (by decide)) [0,1,2,3,4,5,6,7,8,9,11] ?_ sH ?CNa13
 case CNa13=>rfl
 rintro (⟨_,r6⟩|⟨r6,e6⟩) h6<;>conv=>whnf
 all_goals rw [fO K s5 (V.s 59 (by decide))] at h6
 rotate_left
 ·try refine aA.panicU ?_
  exact aE.pan Tryz.func69 (aL.mk ((Rs.bad r6 e6:Rs Mc)) ((by unfold pC;rw [aB h1.symm,aB h2.symm,aB h3.symm,aB h4.symm,aB h5.symm,aH h6.symm])) [] sH rfl rfl (aT rfl))
 have s6:=((bI _ _).1.suf _ _ _ h6.symm).trans s5
 refine aA.subR (nx':=11) (l':=[(0,.ptr 0 0),(2,.ptr 10 0)]) (H':=[psB src (ix L r6),tkB L,(10,.cells 85 [.v (.string a1),.v (.string a3),.v (.int .i64 a5),.v (.int .i64 0)])]) [] ?_ sH sH
 (try refine gS ?_);conv=>whnf
 try refine aA.retU ?_
 exact aE.ret tab Tryz.func69 rfl (aL.mk ((Rs.ok ⟨a1,a3,a5,0⟩ r6:Rs Mc)) ((by unfold pC;rw [aB h1.symm,aB h2.symm,aB h3.symm,aB h4.symm,aB h5.symm,aB h6.symm];rfl)) [] sH rfl rfl (aY rfl rfl))
theorem prun_fn:FnS Tryz.prog 133 10 [.ptr 0 0] [psB src (ix L r),tkB L] (fun x:Rs Rn=>x=yS r) (outP src L (fun x=>.agg (toV x.row)) 11):=by
 refine FnS.of Tryz.func133 (by kernel_rfl) rfl Tryz.ntmps133 rfl fun E0 F h w0 cs=>?_
 conv=>whnf
 refine gS ?_;conv=>whnf
 refine aA.callN (eG src L r hr hL) [0,1,2,3,4,5,6,7,8,9] ?_ sH ?CNa14
 case CNa14=>rfl
 rintro (⟨a1,r1⟩|⟨r1,e1⟩) h1<;>conv=>whnf
 rotate_left
 ·try refine aA.panicU ?_
  exact aE.pan Tryz.func133 (aL.mk ((Rs.bad r1 e1:Rs Rn)) ((by unfold yS;rw [aH h1.symm])) [] sH rfl rfl (aT rfl))
 have s1:=(fI.1.suf _ _ _ h1.symm).trans hr
 refine aA.subR (nx':=11) (l':=[(4,.v (.string a1)),(0,.ptr 0 0),(2,.ptr 10 0)]) (H':=[psB src (ix L r1),tkB L,(10,.cells 58 [.v (.string ⟨#[]⟩),.v (.int .i64 0),.v (.int .i64 0)])]) [] ?_ sH sH
 (try refine gS ?_);conv=>whnf
 refine aA.callN (jD src L r1 s1 hL) [0,1,2,3,4,5,6,7,8,9] ?_ sH ?CNa15
 case CNa15=>rfl
 rintro (⟨a2,r2⟩|⟨r2,e2⟩) h2<;>conv=>whnf
 rotate_left
 ·try refine aA.panicU ?_
  exact aE.pan Tryz.func133 (aL.mk ((Rs.bad r2 e2:Rs Rn)) ((by unfold yS;rw [aB h1.symm,aH h2.symm])) [] sH rfl rfl (aT rfl))
 have s2:=(tU.1.suf _ _ _ h2.symm).trans s1
 refine aA.subR (nx':=11) (l':=[(7,.v (.int .i64 a2)),(0,.ptr 0 0),(2,.ptr 10 0)]) (H':=[psB src (ix L r2),tkB L,(10,.cells 58 [.v (.string a1),.v (.int .i64 0),.v (.int .i64 0)])]) [] ?_ sH sH
 (try refine gS ?_);conv=>whnf
 refine aA.callN (bE src L r2 s2 hL [B [59]] (by decide)) [0,1,2,3,4,5,6,7,8,9,11] ?_ sH ?CNa16
 case CNa16=>rfl
 rintro (⟨_,r3⟩|⟨r3,e3⟩) h3<;>conv=>whnf
 all_goals rw [fO K s2 (V.s 59 (by decide))] at h3
 rotate_left
 ·try refine aA.panicU ?_
  exact aE.pan Tryz.func133 (aL.mk ((Rs.bad r3 e3:Rs Rn)) ((by unfold yS;rw [aB h1.symm,aB h2.symm,aH h3.symm])) [] sH rfl rfl (aT rfl))
 have s3:=((bI _ _).1.suf _ _ _ h3.symm).trans s2
 refine aA.subR (nx':=11) (l':=[(0,.ptr 0 0),(2,.ptr 10 0)]) (H':=[psB src (ix L r3),tkB L,(10,.cells 58 [.v (.string a1),.v (.int .i64 a2),.v (.int .i64 0)])]) [] ?_ sH sH
 (try refine gS ?_);conv=>whnf
 try refine aA.retU ?_
 exact aE.ret tab Tryz.func133 rfl (aL.mk ((Rs.ok ⟨a1,a2,0⟩ r3:Rs Rn)) ((by unfold yS;rw [aB h1.symm,aB h2.symm,aB h3.symm];rfl)) [] sH rfl rfl (aY rfl rfl))
theorem aKL:FnS Tryz.prog 131 10 [.ptr 0 0] [psB src (ix L r),tkB L] (fun x:Rs Am=>x=SynM.outP r) (outP src L (fun x=>.agg (toV x.row)) 11):=by
 refine FnS.of Tryz.func131 (by kernel_rfl) rfl Tryz.ntmps131 rfl fun E0 F h w0 cs=>?_
 conv=>whnf
 refine gS ?_;conv=>whnf
 refine aA.callN (nA src L r hr hL K V) [0,1,2,3,4,5,6,7,8,9] ?_ sH ?CNa17
 case CNa17=>rfl
 rintro (⟨⟨a1,b1⟩,r1⟩|⟨r1,e1⟩) h1<;>conv=>whnf
 rotate_left
 ·try refine aA.panicU ?_
  exact aE.pan Tryz.func131 (aL.mk ((Rs.bad r1 e1:Rs Am)) ((by unfold SynM.outP;rw [aH h1.symm])) [] sH rfl rfl (aT rfl))
 have s1:=(gY.g.suf _ _ _ h1.symm).trans hr
 refine aA.subR (nx':=11) (l':=[(5,.tup [.v (.int .i64 a1),.v (.int .i64 b1)]),(0,.ptr 0 0),(2,.ptr 10 0)]) (H':=[psB src (ix L r1),tkB L,(10,.cells 55 [.v (.int .i64 0),.v (.int .i64 0),.v (.string ⟨#[]⟩),.v (.string ⟨#[]⟩),.v (.bool false),.v (.int .i64 0),.v (.int .i64 0)])]) [] ?_ sH sH
 (try refine gS ?_);conv=>whnf
 refine aA.callN (eG src L r1 s1 hL) [0,1,2,3,4,5,6,7,8,9] ?_ sH ?CNa18
 case CNa18=>rfl
 rintro (⟨a2,r2⟩|⟨r2,e2⟩) h2<;>conv=>whnf
 rotate_left
 ·try refine aA.panicU ?_
  exact aE.pan Tryz.func131 (aL.mk ((Rs.bad r2 e2:Rs Am)) ((by unfold SynM.outP;rw [aB h1.symm,aH h2.symm])) [] sH rfl rfl (aT rfl))
 have s2:=(fI.1.suf _ _ _ h2.symm).trans s1
 refine aA.subR (nx':=11) (l':=[(11,.v (.string a2)),(0,.ptr 0 0),(2,.ptr 10 0)]) (H':=[psB src (ix L r2),tkB L,(10,.cells 55 [.v (.int .i64 a1),.v (.int .i64 b1),.v (.string ⟨#[]⟩),.v (.string ⟨#[]⟩),.v (.bool false),.v (.int .i64 0),.v (.int .i64 0)])]) [] ?_ sH sH
 (try refine gS ?_);conv=>whnf
 refine aA.callN (eG src L r2 s2 hL) [0,1,2,3,4,5,6,7,8,9] ?_ sH ?CNa19
 case CNa19=>rfl
 rintro (⟨a3,r3⟩|⟨r3,e3⟩) h3<;>conv=>whnf
 rotate_left
 ·try refine aA.panicU ?_
  exact aE.pan Tryz.func131 (aL.mk ((Rs.bad r3 e3:Rs Am)) ((by unfold SynM.outP;rw [aB h1.symm,aB h2.symm,aH h3.symm])) [] sH rfl rfl (aT rfl))
 have s3:=(fI.1.suf _ _ _ h3.symm).trans s2
 refine aA.subR (nx':=11) (l':=[(14,.v (.string a3)),(0,.ptr 0 0),(2,.ptr 10 0)]) (H':=[psB src (ix L r3),tkB L,(10,.cells 55 [.v (.int .i64 a1),.v (.int .i64 b1),.v (.string a2),.v (.string ⟨#[]⟩),.v (.bool false),.v (.int .i64 0),.v (.int .i64 0)])]) [] ?_ sH sH
 (try refine gS ?_);conv=>whnf
 refine aA.callN (bE src L r3 s3 hL [B [59]] (by decide)) [0,1,2,3,4,5,6,7,8,9,11] ?_ sH ?CNa20
 case CNa20=>rfl
 rintro (⟨_,r4⟩|⟨r4,e4⟩) h4<;>conv=>whnf
 all_goals rw [fO K s3 (V.s 59 (by decide))] at h4
 rotate_left
 ·try refine aA.panicU ?_
  exact aE.pan Tryz.func131 (aL.mk ((Rs.bad r4 e4:Rs Am)) ((by unfold SynM.outP;rw [aB h1.symm,aB h2.symm,aB h3.symm,aH h4.symm])) [] sH rfl rfl (aT rfl))
 have s4:=((bI _ _).1.suf _ _ _ h4.symm).trans s3
 refine aA.subR (nx':=11) (l':=[(0,.ptr 0 0),(2,.ptr 10 0)]) (H':=[psB src (ix L r4),tkB L,(10,.cells 55 [.v (.int .i64 a1),.v (.int .i64 b1),.v (.string a2),.v (.string a3),.v (.bool false),.v (.int .i64 0),.v (.int .i64 0)])]) [] ?_ sH sH
 (try refine gS ?_);conv=>whnf
 try refine aA.retU ?_
 exact aE.ret tab Tryz.func131 rfl (aL.mk ((Rs.ok ⟨a1,b1,a2,a3,false,0,0⟩ r4:Rs Am)) ((by unfold SynM.outP;rw [aB h1.symm,aB h2.symm,aB h3.symm,aB h4.symm];rfl)) [] sH rfl rfl (aY rfl rfl))
end
end Go.Proofs.YtgbeechjghajcaaGreatDoor

namespace Go.SynM
open Go Go.Fw Go.RatM Go.SrcM
open Go.Proofs.YtgbeechjghajcaaGreatDoor (Tok)
theorem aDQ {α:Type} {k:Int} {t:ByteArray} {a:α} {p:P α} {r:List Tok} (h:isT k t r=false):lD k t a p r=.ok a r:=if_neg (by rw [h];exact Bool.false_ne_true)
theorem pA {α:Type} {k:Int} {t:ByteArray} {a:α} {p:P α} {x:Tok} {r:List Tok} {s:Rs α} (h:isT k t (x::r)=true) (hp:p r=s):lD k t a p (x::r)=s:=by rw [←hp];exact if_pos h
end Go.SynM
namespace Go.Proofs.YtgbeechjghajcaaGreatDoor
open Go Go.Fw Go.NatM Go.RatM Go.SrcM Go.SynM
set_option maxRecDepth 100000
set_option maxHeartbeats 99999999
section
variable (src:ByteArray) (L r:List Tok) (hr:r <:+ L) (hL:L.length≤65536) {N:ByteArray→Prop} (K:KL N L) (V:aBS N)
include hr hL K V
theorem aTC:FnS Tryz.prog 66 10 [.ptr 0 0] [psB src (ix L r),tkB L] (fun x:Rs ByteArray=>x=oV r) (outP src L (fun x=>.v (.string x)) 11):=by
 refine FnS.of Tryz.func66 (by kernel_rfl) rfl Tryz.ntmps66 rfl fun E0 F h w0 cs=>?_
 conv=>whnf
 refine gS ?_;conv=>whnf
 refine aA.callN (eG src L r hr hL) [0,1,2,3,4,5,6,7,8,9] ?_ sH ?CNa1
 case CNa1=>rfl
 rintro (⟨a1,r1⟩|⟨r1,e1⟩) h1<;>conv=>whnf
 rotate_left
 ·try refine aA.panicU ?_
  exact aE.pan Tryz.func66 (aL.mk ((Rs.bad r1 e1:Rs ByteArray)) ((by unfold oV;rw [aH h1.symm])) [] sH rfl rfl (aT rfl))
 have s1:=(fI.1.suf _ _ _ h1.symm).trans hr
 refine aA.subR (nx':=10) (l':=[(5,.v (.string a1)),(0,.ptr 0 0)]) (H':=[psB src (ix L r1),tkB L]) [] ?_ sH sH
 (try refine gS ?_);conv=>whnf
 refine aA.callN (bE src L r1 s1 hL [B [59]] (by decide)) [0,1,2,3,4,5,6,7,8,9,10] ?_ sH ?CNa2
 case CNa2=>rfl
 rintro (⟨_,r2⟩|⟨r2,e2⟩) h2<;>conv=>whnf
 all_goals rw [fO K s1 (V.s 59 (by decide))] at h2
 rotate_left
 ·try refine aA.panicU ?_
  exact aE.pan Tryz.func66 (aL.mk ((Rs.bad r2 e2:Rs ByteArray)) ((by unfold oV;rw [aB h1.symm,aH h2.symm])) [] sH rfl rfl (aT rfl))
 (try refine gS ?_);conv=>whnf
 try refine aA.retU ?_
 exact aE.ret tab Tryz.func66 rfl (aL.mk ((Rs.ok a1 r2:Rs ByteArray)) ((by unfold oV;rw [aB h1.symm,aB h2.symm];rfl)) [] sH rfl rfl (aY rfl rfl))
theorem aVL:FnS Tryz.prog 63 10 [.ptr 0 0] [psB src (ix L r),tkB L] (fun x:Rs It=>x=mG r) (outP src L (fun x=>.agg (toV x.row)) 11):=by
 refine FnS.of Tryz.func63 (by kernel_rfl) rfl Tryz.ntmps63 rfl fun E0 F h w0 cs=>?_
 conv=>whnf
 refine gS ?_;conv=>whnf
 refine aA.callN (eG src L r hr hL) [0,1,2,3,4,5,6,7,8,9] ?_ sH ?CNa3
 case CNa3=>rfl
 rintro (⟨a1,r1⟩|⟨r1,e1⟩) h1<;>conv=>whnf
 rotate_left
 ·try refine aA.panicU ?_
  exact aE.pan Tryz.func63 (aL.mk ((Rs.bad r1 e1:Rs It)) ((by unfold mG;rw [aH h1.symm])) [] sH rfl rfl (aT rfl))
 have s1:=(fI.1.suf _ _ _ h1.symm).trans hr
 refine aA.subR (nx':=11) (l':=[(4,.v (.string a1)),(0,.ptr 0 0),(2,.ptr 10 0)]) (H':=[psB src (ix L r1),tkB L,(10,.cells 83 [.v (.string ⟨#[]⟩),.v (.string ⟨#[]⟩),.v (.int .i64 0),.v (.int .i64 0),.v (.int .i64 0),.v (.int .i64 0)])]) [] ?_ sH sH
 (try refine gS ?_);conv=>whnf
 refine aA.callN (bE src L r1 s1 hL [B wIn] (by decide)) [0,1,2,3,4,5,6,7,8,9,11] ?_ sH ?CNa4
 case CNa4=>rfl
 rintro (⟨_,r2⟩|⟨r2,e2⟩) h2<;>conv=>whnf
 all_goals rw [kR K s1 (V.w wIn (by simp))] at h2
 rotate_left
 ·try refine aA.panicU ?_
  exact aE.pan Tryz.func63 (aL.mk ((Rs.bad r2 e2:Rs It)) ((by unfold mG;rw [aB h1.symm,aH h2.symm])) [] sH rfl rfl (aT rfl))
 have s2:=((bI _ _).1.suf _ _ _ h2.symm).trans s1
 refine aA.subR (nx':=11) (l':=[(0,.ptr 0 0),(2,.ptr 10 0)]) (H':=[psB src (ix L r2),tkB L,(10,.cells 83 [.v (.string a1),.v (.string ⟨#[]⟩),.v (.int .i64 0),.v (.int .i64 0),.v (.int .i64 0),.v (.int .i64 0)])]) [] ?_ sH sH
 (try refine gS ?_);conv=>whnf
 refine aA.callN (eG src L r2 s2 hL) [0,1,2,3,4,5,6,7,8,9] ?_ sH ?CNa5
 case CNa5=>rfl
 rintro (⟨a3,r3⟩|⟨r3,e3⟩) h3<;>conv=>whnf
 rotate_left
 ·try refine aA.panicU ?_
  exact aE.pan Tryz.func63 (aL.mk ((Rs.bad r3 e3:Rs It)) ((by unfold mG;rw [aB h1.symm,aB h2.symm,aH h3.symm])) [] sH rfl rfl (aT rfl))
 have s3:=(fI.1.suf _ _ _ h3.symm).trans s2
 refine aA.subR (nx':=11) (l':=[(10,.v (.string a3)),(0,.ptr 0 0),(2,.ptr 10 0)]) (H':=[psB src (ix L r3),tkB L,(10,.cells 83 [.v (.string a1),.v (.string ⟨#[]⟩),.v (.int .i64 0),.v (.int .i64 0),.v (.int .i64 0),.v (.int .i64 0)])]) [] ?_ sH sH
 (try refine gS ?_);conv=>whnf
 refine aA.callN (bE src L r3 s3 hL [B rV] (by decide)) [0,1,2,3,4,5,6,7,8,9,11] ?_ sH ?CNa6
 case CNa6=>rfl
 rintro (⟨_,r4⟩|⟨r4,e4⟩) h4<;>conv=>whnf
 all_goals rw [kR K s3 (V.w rV (by simp))] at h4
 rotate_left
 ·try refine aA.panicU ?_
  exact aE.pan Tryz.func63 (aL.mk ((Rs.bad r4 e4:Rs It)) ((by unfold mG;rw [aB h1.symm,aB h2.symm,aB h3.symm,aH h4.symm])) [] sH rfl rfl (aT rfl))
 have s4:=((bI _ _).1.suf _ _ _ h4.symm).trans s3
 refine aA.subR (nx':=11) (l':=[(0,.ptr 0 0),(2,.ptr 10 0)]) (H':=[psB src (ix L r4),tkB L,(10,.cells 83 [.v (.string a1),.v (.string a3),.v (.int .i64 0),.v (.int .i64 0),.v (.int .i64 0),.v (.int .i64 0)])]) [] ?_ sH sH
 (try refine gS ?_);conv=>whnf
 refine aA.callN (nA src L r4 s4 hL K V) [0,1,2,3,4,5,6,7,8,9] ?_ sH ?CNa7
 case CNa7=>rfl
 rintro (⟨⟨a5,b5⟩,r5⟩|⟨r5,e5⟩) h5<;>conv=>whnf
 rotate_left
 ·try refine aA.panicU ?_
  exact aE.pan Tryz.func63 (aL.mk ((Rs.bad r5 e5:Rs It)) ((by unfold mG;rw [aB h1.symm,aB h2.symm,aB h3.symm,aB h4.symm,aH h5.symm])) [] sH rfl rfl (aT rfl))
 have s5:=(gY.g.suf _ _ _ h5.symm).trans s4
 refine aA.subR (nx':=11) (l':=[(17,.tup [.v (.int .i64 a5),.v (.int .i64 b5)]),(0,.ptr 0 0),(2,.ptr 10 0)]) (H':=[psB src (ix L r5),tkB L,(10,.cells 83 [.v (.string a1),.v (.string a3),.v (.int .i64 0),.v (.int .i64 0),.v (.int .i64 0),.v (.int .i64 0)])]) [] ?_ sH sH
 (try refine gS ?_);conv=>whnf
 refine aA.callN (rX src L r5 s5 (B gW)) [0,1,2,3,4,5,6,7,8,9] ?_ sH ?CNa8
 case CNa8=>rfl
 intro _ _
 conv=>whnf
 (try refine gS ?_);conv=>whnf
 cases hA:isA (B gW) r5 with
 |false=>
  have b6:lD 1 (B gW) 0 oC r5=.ok 0 r5:=aDQ (by rw [←tA K s5 (V.w gW (by simp)),hA])
  (try refine gS ?_);conv=>whnf
  refine aA.callN (bE src L r5 s5 hL [B [59]] (by decide)) [0,1,2,3,4,5,6,7,8,9,11] ?_ sH ?CNa9
  case CNa9=>rfl
  rintro (⟨_,r7⟩|⟨r7,e7⟩) h7<;>conv=>whnf
  all_goals rw [fO K s5 (V.s 59 (by decide))] at h7
  rotate_left
  ·try refine aA.panicU ?_
   exact aE.pan Tryz.func63 (aL.mk ((Rs.bad r7 e7:Rs It)) ((by unfold mG;rw [aB h1.symm,aB h2.symm,aB h3.symm,aB h4.symm,aB h5.symm,aB b6,aH h7.symm])) [] sH rfl rfl (aT rfl))
  have s7:=((bI _ _).1.suf _ _ _ h7.symm).trans s5
  refine aA.subR (nx':=11) (l':=[(0,.ptr 0 0),(2,.ptr 10 0)]) (H':=[psB src (ix L r7),tkB L,(10,.cells 83 [.v (.string a1),.v (.string a3),.v (.int .i64 a5),.v (.int .i64 b5),.v (.int .i64 0),.v (.int .i64 0)])]) [] ?_ sH sH
  (try refine gS ?_);conv=>whnf
  try refine aA.retU ?_
  exact aE.ret tab Tryz.func63 rfl (aL.mk ((Rs.ok ⟨a1,a3,a5,b5,0,0⟩ r7:Rs It)) ((by unfold mG;rw [aB h1.symm,aB h2.symm,aB h3.symm,aB h4.symm,aB h5.symm,aB b6,aB h7.symm];rfl)) [] sH rfl rfl (aY rfl rfl))
 |true=>
  obtain ⟨x,q,rfl⟩:=lG hA
  have hT:isT 1 (B gW) (x::q)=true:=by rw [←tA K s5 (V.w gW (by simp)),hA]
  have hx5:=uD s5
  conv=>whnf
  repeat ((first|(guard_target=_∧_;(first|refine oL ?_|refine oR ?_))|(guard_target=Exists _;refine oM ?_));(try intro _);conv=>whnf)
  rw [rW s5]
  refine aA.callN (jD src L q (cC s5) hL) [0,1,2,3,4,5,6,7,8,9] ?_ sH ?CNa10
  case CNa10=>rfl
  rintro (⟨a6,r6⟩|⟨r6,e6⟩) h6<;>conv=>whnf
  rotate_left
  ·have b6:lD 1 (B gW) 0 oC (x::q)=.bad r6 e6:=pA hT h6.symm
   exact aE.pan Tryz.func63 (aL.mk ((Rs.bad r6 e6:Rs It)) ((by unfold mG;rw [aB h1.symm,aB h2.symm,aB h3.symm,aB h4.symm,aB h5.symm,aH b6])) [] sH rfl rfl (aT rfl))
  have s6:=(tU.1.suf _ _ _ h6.symm).trans (cC s5)
  have b6:lD 1 (B gW) 0 oC (x::q)=.ok a6 r6:=pA hT h6.symm
  refine aA.subR (nx':=11) (l':=[(32,.v (.int .i64 a6)),(0,.ptr 0 0),(2,.ptr 10 0)]) (H':=[psB src (ix L r6),tkB L,(10,.cells 83 [.v (.string a1),.v (.string a3),.v (.int .i64 a5),.v (.int .i64 b5),.v (.int .i64 0),.v (.int .i64 0)])]) [] ?_ sH sH
  (try refine gS ?_);conv=>whnf
  refine aA.callN (bE src L r6 s6 hL [B [59]] (by decide)) [0,1,2,3,4,5,6,7,8,9,11] ?_ sH ?CNa11
  case CNa11=>rfl
  rintro (⟨_,r7⟩|⟨r7,e7⟩) h7<;>conv=>whnf
  all_goals rw [fO K s6 (V.s 59 (by decide))] at h7
  rotate_left
  ·try refine aA.panicU ?_
   exact aE.pan Tryz.func63 (aL.mk ((Rs.bad r7 e7:Rs It)) ((by unfold mG;rw [aB h1.symm,aB h2.symm,aB h3.symm,aB h4.symm,aB h5.symm,aB b6,aH h7.symm])) [] sH rfl rfl (aT rfl))
  have s7:=((bI _ _).1.suf _ _ _ h7.symm).trans s6
  refine aA.subR (nx':=11) (l':=[(0,.ptr 0 0),(2,.ptr 10 0)]) (H':=[psB src (ix L r7),tkB L,(10,.cells 83 [.v (.string a1),.v (.string a3),.v (.int .i64 a5),.v (.int .i64 b5),.v (.int .i64 a6),.v (.int .i64 0)])]) [] ?_ sH sH
  (try refine gS ?_);conv=>whnf
  try refine aA.retU ?_
  exact aE.ret tab Tryz.func63 rfl (aL.mk ((Rs.ok ⟨a1,a3,a5,b5,a6,0⟩ r7:Rs It)) ((by unfold mG;rw [aB h1.symm,aB h2.symm,aB h3.symm,aB h4.symm,aB h5.symm,aB b6,aB h7.symm];rfl)) [] sH rfl rfl (aY rfl rfl))
theorem aVT:FnS Tryz.prog 60 10 [.ptr 0 0] [psB src (ix L r),tkB L] (fun x:Rs Un=>x=pP r) (outP src L (fun x=>.agg (toV (Un.row x))) 11):=by
 refine FnS.of Tryz.func60 (by kernel_rfl) rfl Tryz.ntmps60 rfl fun E0 F h w0 cs=>?_
 conv=>whnf
 refine gS ?_;conv=>whnf
 refine aA.callN (eG src L r hr hL) [0,1,2,3,4,5,6,7,8,9] ?_ sH ?CNa12
 case CNa12=>rfl
 rintro (⟨a1,r1⟩|⟨r1,e1⟩) h1<;>conv=>whnf
 rotate_left
 ·try refine aA.panicU ?_
  exact aE.pan Tryz.func60 (aL.mk ((Rs.bad r1 e1:Rs Un)) ((by unfold pP;rw [aH h1.symm])) [] sH rfl rfl (aT rfl))
 have s1:=(fI.1.suf _ _ _ h1.symm).trans hr
 refine aA.subR (nx':=11) (l':=[(4,.v (.string a1)),(0,.ptr 0 0),(2,.ptr 10 0)]) (H':=[psB src (ix L r1),tkB L,(10,.cells 81 [.v (.string ⟨#[]⟩),.v (.string ⟨#[]⟩),.v (.int .i64 0),.v (.int .i64 0),.v (.int .i64 0),.v (.bool false),.v (.string ⟨#[]⟩),.v (.string ⟨#[]⟩)])]) [] ?_ sH sH
 (try refine gS ?_);conv=>whnf
 refine aA.callN (rX src L r1 s1 (B [61])) [0,1,2,3,4,5,6,7,8,9] ?_ sH ?CNa13
 case CNa13=>rfl
 intro _ _
 conv=>whnf
 (try refine gS ?_);conv=>whnf
 cases hA:isA (B [61]) r1 with
 |false=>
  have b2:lD 3 (B [61]) (0,0,e0) (bnd lJ fun q=>bnd dP fun o=>pur (q.1,q.2,o)) r1=.ok (0,0,e0) r1:=aDQ (by rw [←aGY K s1 (V.s 61 (by decide)),hA])
  (try refine gS ?_);conv=>whnf
  refine aA.callN (bE src L r1 s1 hL [B [59]] (by decide)) [0,1,2,3,4,5,6,7,8,9,11] ?_ sH ?CNa14
  case CNa14=>rfl
  rintro (⟨_,r3⟩|⟨r3,e3⟩) h3<;>conv=>whnf
  all_goals rw [fO K s1 (V.s 59 (by decide))] at h3
  rotate_left
  ·try refine aA.panicU ?_
   exact aE.pan Tryz.func60 (aL.mk ((Rs.bad r3 e3:Rs Un)) ((by unfold pP;rw [aB h1.symm,aB b2,aH h3.symm])) [] sH rfl rfl (aT rfl))
  have s3:=((bI _ _).1.suf _ _ _ h3.symm).trans s1
  refine aA.subR (nx':=11) (l':=[(0,.ptr 0 0),(2,.ptr 10 0)]) (H':=[psB src (ix L r3),tkB L,(10,.cells 81 [.v (.string a1),.v (.string ⟨#[]⟩),.v (.int .i64 0),.v (.int .i64 0),.v (.int .i64 0),.v (.bool false),.v (.string ⟨#[]⟩),.v (.string ⟨#[]⟩)])]) [] ?_ sH sH
  (try refine gS ?_);conv=>whnf
  try refine aA.retU ?_
  exact aE.ret tab Tryz.func60 rfl (aL.mk ((Rs.ok ⟨a1,e0,0,0,0,zr⟩ r3:Rs Un)) ((by unfold pP;rw [aB h1.symm,aB b2,aB h3.symm];rfl)) [] sH rfl rfl (aY rfl rfl))
 |true=>
  obtain ⟨x,q,rfl⟩:=lG hA
  have hT:isT 3 (B [61]) (x::q)=true:=by rw [←aGY K s1 (V.s 61 (by decide)),hA]
  have hx1:=uD s1
  conv=>whnf
  repeat ((first|(guard_target=_∧_;(first|refine oL ?_|refine oR ?_))|(guard_target=Exists _;refine oM ?_));(try intro _);conv=>whnf)
  rw [rW s1]
  refine aA.callN (nA src L q (cC s1) hL K V) [0,1,2,3,4,5,6,7,8,9] ?_ sH ?CNa15
  case CNa15=>rfl
  rintro (⟨⟨n,d⟩,r2⟩|⟨r2,e2⟩) h2<;>conv=>whnf
  rotate_left
  ·have b2:lD 3 (B [61]) ((0,0,e0):Int×Int×ByteArray) (bnd lJ fun q=>bnd dP fun o=>pur (q.1,q.2,o)) (x::q)=.bad r2 e2:=pA hT (aH h2.symm)
   exact aE.pan Tryz.func60 (aL.mk ((Rs.bad r2 e2:Rs Un)) ((by unfold pP;rw [aB h1.symm,aH b2])) [] sH rfl rfl (aT rfl))
  have s2:=(gY.g.suf _ _ _ h2.symm).trans (cC s1)
  refine aA.subR (nx':=11) (l':=[(17,.tup [.v (.int .i64 n),.v (.int .i64 d)]),(0,.ptr 0 0),(2,.ptr 10 0)]) (H':=[psB src (ix L r2),tkB L,(10,.cells 81 [.v (.string a1),.v (.string ⟨#[]⟩),.v (.int .i64 0),.v (.int .i64 0),.v (.int .i64 0),.v (.bool false),.v (.string ⟨#[]⟩),.v (.string ⟨#[]⟩)])]) [] ?_ sH sH
  (try refine gS ?_);conv=>whnf
  refine aA.callN (eG src L r2 s2 hL) [0,1,2,3,4,5,6,7,8,9] ?_ sH ?CNa16
  case CNa16=>rfl
  rintro (⟨o,r3⟩|⟨r3,e3⟩) h3'<;>conv=>whnf
  rotate_left
  ·have b2:lD 3 (B [61]) ((0,0,e0):Int×Int×ByteArray) (bnd lJ fun q=>bnd dP fun o=>pur (q.1,q.2,o)) (x::q)=.bad r3 e3:=pA hT (by rw [aB h2.symm,aH h3'.symm])
   exact aE.pan Tryz.func60 (aL.mk ((Rs.bad r3 e3:Rs Un)) ((by unfold pP;rw [aB h1.symm,aH b2])) [] sH rfl rfl (aT rfl))
  have s3:=(fI.1.suf _ _ _ h3'.symm).trans s2
  have b2:lD 3 (B [61]) ((0,0,e0):Int×Int×ByteArray) (bnd lJ fun q=>bnd dP fun o=>pur (q.1,q.2,o)) (x::q)=.ok (n,d,o) r3:=pA hT (by rw [aB h2.symm,aB h3'.symm];rfl)
  refine aA.subR (nx':=11) (l':=[(23,.v (.string o)),(0,.ptr 0 0),(2,.ptr 10 0)]) (H':=[psB src (ix L r3),tkB L,(10,.cells 81 [.v (.string a1),.v (.string ⟨#[]⟩),.v (.int .i64 n),.v (.int .i64 d),.v (.int .i64 0),.v (.bool false),.v (.string ⟨#[]⟩),.v (.string ⟨#[]⟩)])]) [] ?_ sH sH
  (try refine gS ?_);conv=>whnf
  refine aA.callN (bE src L r3 s3 hL [B [59]] (by decide)) [0,1,2,3,4,5,6,7,8,9,11] ?_ sH ?CNa17
  case CNa17=>rfl
  rintro (⟨_,r4⟩|⟨r4,e4⟩) h4<;>conv=>whnf
  all_goals rw [fO K s3 (V.s 59 (by decide))] at h4
  rotate_left
  ·try refine aA.panicU ?_
   exact aE.pan Tryz.func60 (aL.mk ((Rs.bad r4 e4:Rs Un)) ((by unfold pP;rw [aB h1.symm,aB b2,aH h4.symm])) [] sH rfl rfl (aT rfl))
  have s4:=((bI _ _).1.suf _ _ _ h4.symm).trans s3
  refine aA.subR (nx':=11) (l':=[(0,.ptr 0 0),(2,.ptr 10 0)]) (H':=[psB src (ix L r4),tkB L,(10,.cells 81 [.v (.string a1),.v (.string o),.v (.int .i64 n),.v (.int .i64 d),.v (.int .i64 0),.v (.bool false),.v (.string ⟨#[]⟩),.v (.string ⟨#[]⟩)])]) [] ?_ sH sH
  (try refine gS ?_);conv=>whnf
  try refine aA.retU ?_
  exact aE.ret tab Tryz.func60 rfl (aL.mk ((Rs.ok ⟨a1,o,n,d,0,zr⟩ r4:Rs Un)) ((by unfold pP;rw [aB h1.symm,aB b2,aB h4.symm];rfl)) [] sH rfl rfl (aY rfl rfl))
end
end Go.Proofs.YtgbeechjghajcaaGreatDoor

namespace Go.Proofs.YtgbeechjghajcaaGreatDoor
open Go Go.Fw Go.NatM Go.RatM Go.SrcM Go.SynM
set_option maxRecDepth 100000
set_option maxHeartbeats 99999999
section
variable (src:ByteArray) (L r:List Tok) (hr:r <:+ L) (hL:L.length≤65536) {N:ByteArray→Prop} (K:KL N L) (V:aBS N)
include hr hL K V
theorem pin_fn:FnS Tryz.prog 130 10 [.ptr 0 0] [psB src (ix L r),tkB L] (fun x:Rs Am=>x=inP r) (outP src L (fun x=>.agg (toV x.row)) 11):=by
 refine FnS.of Tryz.func130 (by kernel_rfl) rfl Tryz.ntmps130 rfl fun E0 F h w0 cs=>?_
 conv=>whnf
 refine gS ?_;conv=>whnf
 refine aA.callN (rX src L r hr (B kP)) [0,1,2,3,4,5,6,7,8,9] ?_ sH ?CNa1
 case CNa1=>rfl
 intro _ _
 conv=>whnf
 (try refine gS ?_);conv=>whnf
 cases hA:isA (B kP) r with
 |false=>
  have b1:lD 1 (B kP) false (pur true) r=.ok false r:=aDQ (by rw [←tA K hr (V.w kP (by simp)),hA])
  (try refine gS ?_);conv=>whnf
  refine aA.callN (aKL src L r hr hL K V) [0,1,2,3,4,5,6,7,8,9] ?_ sH ?CNa2
  case CNa2=>rfl
  rintro (⟨a,r1⟩|⟨r1,e1⟩) h1<;>conv=>whnf
  rotate_left
  ·try refine aA.panicU ?_
   exact aE.pan Tryz.func130 (aL.mk ((Rs.bad r1 e1:Rs Am)) ((by unfold inP;rw [aB b1,aH h1.symm])) [] sH rfl rfl (aT rfl))
  refine aA.subR (nx':=12) (l':=[(16,.agg (toV a.row)),(3,.v (.bool false)),(0,.ptr 0 0),(2,.ptr 10 0)]) (H':=[psB src (ix L r1),tkB L,(10,.cells 55 [.v (.int .i64 0),.v (.int .i64 0),.v (.string ⟨#[]⟩),.v (.string ⟨#[]⟩),.v (.bool false),.v (.int .i64 0),.v (.int .i64 0)])]) [] ?_ sH sH
  (try refine gS ?_);conv=>whnf
  try refine aA.retU ?_
  exact aE.ret tab Tryz.func130 rfl (aL.mk ((Rs.ok {a with back:=false} r1:Rs Am)) ((by unfold inP;rw [aB b1,aB h1.symm];rfl)) [] sH rfl rfl (aY rfl rfl))
 |true=>
  obtain ⟨x,q,rfl⟩:=lG hA
  have hT:isT 1 (B kP) (x::q)=true:=by rw [←tA K hr (V.w kP (by simp)),hA]
  have b1:lD 1 (B kP) false (pur true) (x::q)=.ok true q:=pA hT rfl
  have hx:=uD hr
  conv=>whnf
  repeat ((first|(guard_target=_∧_;(first|refine oL ?_|refine oR ?_))|(guard_target=Exists _;refine oM ?_));(try intro _);conv=>whnf)
  rw [rW hr]
  refine aA.callN (aKL src L q (cC hr) hL K V) [0,1,2,3,4,5,6,7,8,9] ?_ sH ?CNa3
  case CNa3=>rfl
  rintro (⟨a,r1⟩|⟨r1,e1⟩) h1<;>conv=>whnf
  rotate_left
  ·try refine aA.panicU ?_
   exact aE.pan Tryz.func130 (aL.mk ((Rs.bad r1 e1:Rs Am)) ((by unfold inP;rw [aB b1,aH h1.symm])) [] sH rfl rfl (aT rfl))
  refine aA.subR (nx':=12) (l':=[(16,.agg (toV a.row)),(3,.v (.bool true)),(0,.ptr 0 0),(2,.ptr 10 0)]) (H':=[psB src (ix L r1),tkB L,(10,.cells 55 [.v (.int .i64 0),.v (.int .i64 0),.v (.string ⟨#[]⟩),.v (.string ⟨#[]⟩),.v (.bool false),.v (.int .i64 0),.v (.int .i64 0)])]) [] ?_ sH sH
  (try refine gS ?_);conv=>whnf
  try refine aA.retU ?_
  exact aE.ret tab Tryz.func130 rfl (aL.mk ((Rs.ok {a with back:=true} r1:Rs Am)) ((by unfold inP;rw [aB b1,aB h1.symm];rfl)) [] sH rfl rfl (aY rfl rfl))
end
end Go.Proofs.YtgbeechjghajcaaGreatDoor

namespace Go.SynM
open Go Go.Fw Go.RatM Go.SrcM
open Go.Proofs.YtgbeechjghajcaaGreatDoor (Tok)
def fM {α:Type} (p:P α) (most:Nat) (l:List α):P (List α):=fun r=>if most≤l.length then .bad r 2 else bnd p (fun a=>pur (l++[a])) r.tail
end Go.SynM
namespace Go.Proofs.YtgbeechjghajcaaGreatDoor
open Go Go.Fw Go.NatM Go.RatM Go.SrcM Go.SynM
set_option maxRecDepth 100000
set_option maxHeartbeats 99999999
def outL {α:Type} (src:ByteArray) (L:List Tok) (t e sz:Nat) (row:α→List Value) (n:Nat):Rs (List α)→gK
 | .ok l r=>.ret (.tup []) (n+1) [psB src (ix L r),tkB L,(10,.cells t [.buf n]),(n,.own e sz (rws row l))]
 | .bad r e=>.pan (yG (dI src.size e r)) (n+1) [psB src (ix L r),tkB L]
abbrev fnV (g:Nat):SV:=.v (.func (.func g) #[] #[])
abbrev kO (x:ByteArray):List Value:=[.string x]
section
variable (src:ByteArray) (L r:List Tok) (hr:r <:+ L) (hL:L.length≤65536) {N:ByteArray→Prop} (K:KL N L) (V:aBS N)
include hr hL K V
theorem aUT (l:List Cd) (most:Nat) (hm:most≤1000) (hne:r ≠ []):FnS Tryz.prog 156 12 [.ptr 0 0,.ptr 10 0,.v (.int .i64 most),fnV 128] [psB src (ix L r),tkB L,(10,.cells 53 [.buf 11]),(11,.own 52 4 (rws Cd.row l))]
  (fun x:Rs (List Cd)=>x=fM lA most l r) (outL src L 53 52 4 Cd.row 12):=by
 have ll:=aG Cd.row l
 obtain ⟨x,r,rfl⟩:∃x r',r=x::r':=by cases r with|nil=>exact absurd rfl hne|cons x r=>exact ⟨x,r,rfl⟩
 refine FnS.of Tryz.func156 (by kernel_rfl) rfl Tryz.ntmps156 rfl fun E0 F h w0 cs=>?_
 conv=>whnf
 refine gS ?_;conv=>whnf
 refine aA.callN (dU src L (x::r) hr hL (rws Cd.row l).length most hne) [0,1,2,3,4,5,6,7,8,9] ?_ sH ?CNa1
 case CNa1=>rfl
 rintro (⟨_,r1⟩|⟨r1,e1⟩) h1<;>conv=>whnf
 rotate_left
 ·by_cases hb:(most:Int)≤((rws Cd.row l).length:Nat)
  ·rw [if_pos hb] at h1
   cases h1
   exact aE.pan Tryz.func156 (aL.mk ((Rs.bad (x::r) 2:Rs (List Cd))) ((by unfold fM;rw [if_pos (by omega)])) [] sH rfl rfl (aT rfl))
  rw [if_neg hb] at h1
  cases h1
 by_cases hb:(most:Int)≤((rws Cd.row l).length:Nat)
 ·rw [if_pos hb] at h1
  cases h1
 rw [if_neg hb] at h1
 cases h1
 refine aA.subR (nx':=12) (l':=[(0,.ptr 0 0),(1,.ptr 10 0),(3,fnV 128)]) (H':=[psB src (ix L r),tkB L,(10,.cells 53 [.buf 11]),(11,.own 52 4 (rws Cd.row l))]) [] ?_ sH sH
 (try refine gS ?_);conv=>whnf
 refine aA.held tab (.fl 0 (.fl 1 (.fl 2 (.fl 3 (.fl 4 (.fl 5 (.e1 6 [3] (.e1 7 [3] (.e1 8 [] (.fl 9 (.e1 10 [] .done))))))))))) (by kernel_rfl) ?_;conv=>whnf
 (try refine gR ?_);conv=>whnf
 refine aV.callN (aLX src L r (cC hr) hL K V) [0,1,2,3,4,5,6,7,8,9] ?_ sH ?CNa2
 case CNa2=>rfl
 rintro (⟨a,r2⟩|⟨r2,e2⟩) h2<;>conv=>whnf
 rotate_left
 ·try refine aA.panicU ?_
  exact aE.pan Tryz.func156 (aL.mk ((Rs.bad r2 e2:Rs (List Cd))) ((by unfold fM;rw [if_neg (by omega)];exact (aH h2.symm).symm)) [] sH rfl rfl (aT rfl))
 conv=>whnf
 try refine oB ?_
 (try refine gR ?_);conv=>whnf
 repeat ((first|(guard_target=_∧_;(first|refine oL ?_|refine oR ?_|refine oB ?_))|(guard_target=Exists _;refine oM ?_));(try intro _);conv=>whnf)
 conv=>whnf
 refine And.intro (fK (by rw [ll];show l.length+1≤1000000;omega)) ?_;conv=>whnf
 repeat ((first|(guard_target=_∧_;(first|refine oL ?_|refine oR ?_|refine oB ?_))|(guard_target=Exists _;refine oM ?_));(try intro _);conv=>whnf)
 (try refine gS ?_);conv=>whnf
 (try refine gS ?_);conv=>whnf
 refine aA.rowsEq (rows':=rws Cd.row (l++[a])) 14 ?e1 ?_
 case e1=>unfold rws;rw [List.map_append];rfl
 conv=>whnf
 try refine aA.finU ?_
 exact aE.ret tab Tryz.func156 rfl (aL.mk ((Rs.ok (l++[a]) r2:Rs (List Cd))) ((by unfold fM;rw [if_neg (by omega)];exact (aB (f:=fun a=>pur (l++[a])) h2.symm).symm)) [(12,14)] sH rfl rfl (aY rfl rfl))
omit K V in
theorem aWG (l:List ByteArray) (most:Nat) (hm:most≤1000) (hne:r ≠ []):FnS Tryz.prog 65 12 [.ptr 0 0,.ptr 10 0,.v (.int .i64 most),fnV 121] [psB src (ix L r),tkB L,(10,.cells 25 [.buf 11]),(11,.own 9 1 (rws kO l))]
  (fun x:Rs (List ByteArray)=>x=fM dP most l r) (outL src L 25 9 1 kO 12):=by
 have ll:=aG kO l
 obtain ⟨x,r,rfl⟩:∃x r',r=x::r':=by cases r with|nil=>exact absurd rfl hne|cons x r=>exact ⟨x,r,rfl⟩
 refine FnS.of Tryz.func65 (by kernel_rfl) rfl Tryz.ntmps65 rfl fun E0 F h w0 cs=>?_
 conv=>whnf
 refine gS ?_;conv=>whnf
 refine aA.callN (dU src L (x::r) hr hL (rws kO l).length most hne) [0,1,2,3,4,5,6,7,8,9] ?_ sH ?CNa3
 case CNa3=>rfl
 rintro (⟨_,r1⟩|⟨r1,e1⟩) h1<;>conv=>whnf
 rotate_left
 ·by_cases hb:(most:Int)≤((rws kO l).length:Nat)
  ·rw [if_pos hb] at h1
   cases h1
   exact aE.pan Tryz.func65 (aL.mk ((Rs.bad (x::r) 2:Rs (List ByteArray))) ((by unfold fM;rw [if_pos (by omega)])) [] sH rfl rfl (aT rfl))
  rw [if_neg hb] at h1
  cases h1
 by_cases hb:(most:Int)≤((rws kO l).length:Nat)
 ·rw [if_pos hb] at h1
  cases h1
 rw [if_neg hb] at h1
 cases h1
 refine aA.subR (nx':=12) (l':=[(0,.ptr 0 0),(1,.ptr 10 0),(3,fnV 121)]) (H':=[psB src (ix L r),tkB L,(10,.cells 25 [.buf 11]),(11,.own 9 1 (rws kO l))]) [] ?_ sH sH
 (try refine gS ?_);conv=>whnf
 refine aA.held tab (.fl 0 (.fl 1 (.fl 2 (.fl 3 (.fl 4 (.fl 5 (.e1 6 [3] (.e1 7 [3] (.e1 8 [] (.fl 9 (.e1 10 [] .done))))))))))) (by kernel_rfl) ?_;conv=>whnf
 (try refine gR ?_);conv=>whnf
 refine aV.callN (eG src L r (cC hr) hL) [0,1,2,3,4,5,6,7,8,9] ?_ sH ?CNa4
 case CNa4=>rfl
 rintro (⟨a,r2⟩|⟨r2,e2⟩) h2<;>conv=>whnf
 rotate_left
 ·try refine aA.panicU ?_
  exact aE.pan Tryz.func65 (aL.mk ((Rs.bad r2 e2:Rs (List ByteArray))) ((by unfold fM;rw [if_neg (by omega)];exact (aH h2.symm).symm)) [] sH rfl rfl (aT rfl))
 conv=>whnf
 try refine oB ?_
 (try refine gR ?_);conv=>whnf
 repeat ((first|(guard_target=_∧_;(first|refine oL ?_|refine oR ?_|refine oB ?_))|(guard_target=Exists _;refine oM ?_));(try intro _);conv=>whnf)
 conv=>whnf
 refine And.intro (fK (by rw [ll];show l.length+1≤1000000;omega)) ?_;conv=>whnf
 repeat ((first|(guard_target=_∧_;(first|refine oL ?_|refine oR ?_|refine oB ?_))|(guard_target=Exists _;refine oM ?_));(try intro _);conv=>whnf)
 (try refine gS ?_);conv=>whnf
 (try refine gS ?_);conv=>whnf
 refine aA.rowsEq (rows':=rws kO (l++[a])) 13 ?e1 ?_
 case e1=>unfold rws;rw [List.map_append];rfl
 conv=>whnf
 try refine aA.finU ?_
 exact aE.ret tab Tryz.func65 rfl (aL.mk ((Rs.ok (l++[a]) r2:Rs (List ByteArray))) ((by unfold fM;rw [if_neg (by omega)];exact (aB (f:=fun a=>pur (l++[a])) h2.symm).symm)) [(12,13)] sH rfl rfl (aY rfl rfl))
theorem aWU (l:List Am) (most:Nat) (hm:most≤1000) (hne:r ≠ []):FnS Tryz.prog 157 12 [.ptr 0 0,.ptr 10 0,.v (.int .i64 most),fnV 130] [psB src (ix L r),tkB L,(10,.cells 56 [.buf 11]),(11,.own 55 7 (rws Am.row l))]
  (fun x:Rs (List Am)=>x=fM inP most l r) (outL src L 56 55 7 Am.row 12):=by
 have ll:=aG Am.row l
 obtain ⟨x,r,rfl⟩:∃x r',r=x::r':=by cases r with|nil=>exact absurd rfl hne|cons x r=>exact ⟨x,r,rfl⟩
 refine FnS.of Tryz.func157 (by kernel_rfl) rfl Tryz.ntmps157 rfl fun E0 F h w0 cs=>?_
 conv=>whnf
 refine gS ?_;conv=>whnf
 refine aA.callN (dU src L (x::r) hr hL (rws Am.row l).length most hne) [0,1,2,3,4,5,6,7,8,9] ?_ sH ?CNa5
 case CNa5=>rfl
 rintro (⟨_,r1⟩|⟨r1,e1⟩) h1<;>conv=>whnf
 rotate_left
 ·by_cases hb:(most:Int)≤((rws Am.row l).length:Nat)
  ·rw [if_pos hb] at h1
   cases h1
   exact aE.pan Tryz.func157 (aL.mk ((Rs.bad (x::r) 2:Rs (List Am))) ((by unfold fM;rw [if_pos (by omega)])) [] sH rfl rfl (aT rfl))
  rw [if_neg hb] at h1
  cases h1
 by_cases hb:(most:Int)≤((rws Am.row l).length:Nat)
 ·rw [if_pos hb] at h1
  cases h1
 rw [if_neg hb] at h1
 cases h1
 refine aA.subR (nx':=12) (l':=[(0,.ptr 0 0),(1,.ptr 10 0),(3,fnV 130)]) (H':=[psB src (ix L r),tkB L,(10,.cells 56 [.buf 11]),(11,.own 55 7 (rws Am.row l))]) [] ?_ sH sH
 (try refine gS ?_);conv=>whnf
 refine aA.held tab (.fl 0 (.fl 1 (.fl 2 (.fl 3 (.fl 4 (.fl 5 (.e1 6 [3] (.e1 7 [3] (.e1 8 [] (.fl 9 (.e1 10 [] .done))))))))))) (by kernel_rfl) ?_;conv=>whnf
 (try refine gR ?_);conv=>whnf
 refine aV.callN (pin_fn src L r (cC hr) hL K V) [0,1,2,3,4,5,6,7,8,9] ?_ sH ?CNa6
 case CNa6=>rfl
 rintro (⟨a,r2⟩|⟨r2,e2⟩) h2<;>conv=>whnf
 rotate_left
 ·try refine aA.panicU ?_
  exact aE.pan Tryz.func157 (aL.mk ((Rs.bad r2 e2:Rs (List Am))) ((by unfold fM;rw [if_neg (by omega)];exact (aH h2.symm).symm)) [] sH rfl rfl (aT rfl))
 conv=>whnf
 try refine oB ?_
 (try refine gR ?_);conv=>whnf
 repeat ((first|(guard_target=_∧_;(first|refine oL ?_|refine oR ?_|refine oB ?_))|(guard_target=Exists _;refine oM ?_));(try intro _);conv=>whnf)
 conv=>whnf
 refine And.intro (fK (by rw [ll];show l.length+1≤1000000;omega)) ?_;conv=>whnf
 repeat ((first|(guard_target=_∧_;(first|refine oL ?_|refine oR ?_|refine oB ?_))|(guard_target=Exists _;refine oM ?_));(try intro _);conv=>whnf)
 (try refine gS ?_);conv=>whnf
 (try refine gS ?_);conv=>whnf
 refine aA.rowsEq (rows':=rws Am.row (l++[a])) 14 ?e1 ?_
 case e1=>unfold rws;rw [List.map_append];rfl
 conv=>whnf
 try refine aA.finU ?_
 exact aE.ret tab Tryz.func157 rfl (aL.mk ((Rs.ok (l++[a]) r2:Rs (List Am))) ((by unfold fM;rw [if_neg (by omega)];exact (aB (f:=fun a=>pur (l++[a])) h2.symm).symm)) [(12,14)] sH rfl rfl (aY rfl rfl))
theorem aUI (l:List Am) (most:Nat) (hm:most≤1000) (hne:r ≠ []):FnS Tryz.prog 157 12 [.ptr 0 0,.ptr 10 0,.v (.int .i64 most),fnV 131] [psB src (ix L r),tkB L,(10,.cells 56 [.buf 11]),(11,.own 55 7 (rws Am.row l))]
  (fun x:Rs (List Am)=>x=fM SynM.outP most l r) (outL src L 56 55 7 Am.row 12):=by
 have ll:=aG Am.row l
 obtain ⟨x,r,rfl⟩:∃x r',r=x::r':=by cases r with|nil=>exact absurd rfl hne|cons x r=>exact ⟨x,r,rfl⟩
 refine FnS.of Tryz.func157 (by kernel_rfl) rfl Tryz.ntmps157 rfl fun E0 F h w0 cs=>?_
 conv=>whnf
 refine gS ?_;conv=>whnf
 refine aA.callN (dU src L (x::r) hr hL (rws Am.row l).length most hne) [0,1,2,3,4,5,6,7,8,9] ?_ sH ?CNa7
 case CNa7=>rfl
 rintro (⟨_,r1⟩|⟨r1,e1⟩) h1<;>conv=>whnf
 rotate_left
 ·by_cases hb:(most:Int)≤((rws Am.row l).length:Nat)
  ·rw [if_pos hb] at h1
   cases h1
   exact aE.pan Tryz.func157 (aL.mk ((Rs.bad (x::r) 2:Rs (List Am))) ((by unfold fM;rw [if_pos (by omega)])) [] sH rfl rfl (aT rfl))
  rw [if_neg hb] at h1
  cases h1
 by_cases hb:(most:Int)≤((rws Am.row l).length:Nat)
 ·rw [if_pos hb] at h1
  cases h1
 rw [if_neg hb] at h1
 cases h1
 refine aA.subR (nx':=12) (l':=[(0,.ptr 0 0),(1,.ptr 10 0),(3,fnV 131)]) (H':=[psB src (ix L r),tkB L,(10,.cells 56 [.buf 11]),(11,.own 55 7 (rws Am.row l))]) [] ?_ sH sH
 (try refine gS ?_);conv=>whnf
 refine aA.held tab (.fl 0 (.fl 1 (.fl 2 (.fl 3 (.fl 4 (.fl 5 (.e1 6 [3] (.e1 7 [3] (.e1 8 [] (.fl 9 (.e1 10 [] .done))))))))))) (by kernel_rfl) ?_;conv=>whnf
 (try refine gR ?_);conv=>whnf
 refine aV.callN (aKL src L r (cC hr) hL K V) [0,1,2,3,4,5,6,7,8,9] ?_ sH ?CNa8
 case CNa8=>rfl
 rintro (⟨a,r2⟩|⟨r2,e2⟩) h2<;>conv=>whnf
 rotate_left
 ·try refine aA.panicU ?_
  exact aE.pan Tryz.func157 (aL.mk ((Rs.bad r2 e2:Rs (List Am))) ((by unfold fM;rw [if_neg (by omega)];exact (aH h2.symm).symm)) [] sH rfl rfl (aT rfl))
 conv=>whnf
 try refine oB ?_
 (try refine gR ?_);conv=>whnf
 repeat ((first|(guard_target=_∧_;(first|refine oL ?_|refine oR ?_|refine oB ?_))|(guard_target=Exists _;refine oM ?_));(try intro _);conv=>whnf)
 conv=>whnf
 refine And.intro (fK (by rw [ll];show l.length+1≤1000000;omega)) ?_;conv=>whnf
 repeat ((first|(guard_target=_∧_;(first|refine oL ?_|refine oR ?_|refine oB ?_))|(guard_target=Exists _;refine oM ?_));(try intro _);conv=>whnf)
 (try refine gS ?_);conv=>whnf
 (try refine gS ?_);conv=>whnf
 refine aA.rowsEq (rows':=rws Am.row (l++[a])) 14 ?e1 ?_
 case e1=>unfold rws;rw [List.map_append];rfl
 conv=>whnf
 try refine aA.finU ?_
 exact aE.ret tab Tryz.func157 rfl (aL.mk ((Rs.ok (l++[a]) r2:Rs (List Am))) ((by unfold fM;rw [if_neg (by omega)];exact (aB (f:=fun a=>pur (l++[a])) h2.symm).symm)) [(12,14)] sH rfl rfl (aY rfl rfl))
theorem aUC (l:List Rn) (most:Nat) (hm:most≤1000) (hne:r ≠ []):FnS Tryz.prog 158 12 [.ptr 0 0,.ptr 10 0,.v (.int .i64 most),fnV 133] [psB src (ix L r),tkB L,(10,.cells 59 [.buf 11]),(11,.own 58 3 (rws Rn.row l))]
  (fun x:Rs (List Rn)=>x=fM yS most l r) (outL src L 59 58 3 Rn.row 12):=by
 have ll:=aG Rn.row l
 obtain ⟨x,r,rfl⟩:∃x r',r=x::r':=by cases r with|nil=>exact absurd rfl hne|cons x r=>exact ⟨x,r,rfl⟩
 refine FnS.of Tryz.func158 (by kernel_rfl) rfl Tryz.ntmps158 rfl fun E0 F h w0 cs=>?_
 conv=>whnf
 refine gS ?_;conv=>whnf
 refine aA.callN (dU src L (x::r) hr hL (rws Rn.row l).length most hne) [0,1,2,3,4,5,6,7,8,9] ?_ sH ?CNa9
 case CNa9=>rfl
 rintro (⟨_,r1⟩|⟨r1,e1⟩) h1<;>conv=>whnf
 rotate_left
 ·by_cases hb:(most:Int)≤((rws Rn.row l).length:Nat)
  ·rw [if_pos hb] at h1
   cases h1
   exact aE.pan Tryz.func158 (aL.mk ((Rs.bad (x::r) 2:Rs (List Rn))) ((by unfold fM;rw [if_pos (by omega)])) [] sH rfl rfl (aT rfl))
  rw [if_neg hb] at h1
  cases h1
 by_cases hb:(most:Int)≤((rws Rn.row l).length:Nat)
 ·rw [if_pos hb] at h1
  cases h1
 rw [if_neg hb] at h1
 cases h1
 refine aA.subR (nx':=12) (l':=[(0,.ptr 0 0),(1,.ptr 10 0),(3,fnV 133)]) (H':=[psB src (ix L r),tkB L,(10,.cells 59 [.buf 11]),(11,.own 58 3 (rws Rn.row l))]) [] ?_ sH sH
 (try refine gS ?_);conv=>whnf
 refine aA.held tab (.fl 0 (.fl 1 (.fl 2 (.fl 3 (.fl 4 (.fl 5 (.e1 6 [3] (.e1 7 [3] (.e1 8 [] (.fl 9 (.e1 10 [] .done))))))))))) (by kernel_rfl) ?_;conv=>whnf
 (try refine gR ?_);conv=>whnf
 refine aV.callN (prun_fn src L r (cC hr) hL K V) [0,1,2,3,4,5,6,7,8,9] ?_ sH ?CNa10
 case CNa10=>rfl
 rintro (⟨a,r2⟩|⟨r2,e2⟩) h2<;>conv=>whnf
 rotate_left
 ·try refine aA.panicU ?_
  exact aE.pan Tryz.func158 (aL.mk ((Rs.bad r2 e2:Rs (List Rn))) ((by unfold fM;rw [if_neg (by omega)];exact (aH h2.symm).symm)) [] sH rfl rfl (aT rfl))
 conv=>whnf
 try refine oB ?_
 (try refine gR ?_);conv=>whnf
 repeat ((first|(guard_target=_∧_;(first|refine oL ?_|refine oR ?_|refine oB ?_))|(guard_target=Exists _;refine oM ?_));(try intro _);conv=>whnf)
 conv=>whnf
 refine And.intro (fK (by rw [ll];show l.length+1≤1000000;omega)) ?_;conv=>whnf
 repeat ((first|(guard_target=_∧_;(first|refine oL ?_|refine oR ?_|refine oB ?_))|(guard_target=Exists _;refine oM ?_));(try intro _);conv=>whnf)
 (try refine gS ?_);conv=>whnf
 (try refine gS ?_);conv=>whnf
 refine aA.rowsEq (rows':=rws Rn.row (l++[a])) 14 ?e1 ?_
 case e1=>unfold rws;rw [List.map_append];rfl
 conv=>whnf
 try refine aA.finU ?_
 exact aE.ret tab Tryz.func158 rfl (aL.mk ((Rs.ok (l++[a]) r2:Rs (List Rn))) ((by unfold fM;rw [if_neg (by omega)];exact (aB (f:=fun a=>pur (l++[a])) h2.symm).symm)) [(12,14)] sH rfl rfl (aY rfl rfl))
end
end Go.Proofs.YtgbeechjghajcaaGreatDoor

namespace Go.SynM
open Go Go.Fw Go.RatM Go.SrcM
open Go.Proofs.YtgbeechjghajcaaGreatDoor (Tok)
section
variable {α:Type} {k:Int} {t:ByteArray} {p:P α} {m c:Nat} {l:List α} {x:Tok} {q:List Tok}
theorem many_no (h:isT k t q=false):eT k t p c q=.ok [] q:=by
 cases c with
 |zero=>exact if_neg (by rw [h];exact Bool.false_ne_true)
 |succ c=>exact if_neg (by rw [h];exact Bool.false_ne_true)
def rM (k:Int) (t:ByteArray) (p:P α) (m:Nat) (l:List α):P (List α):=bnd (eT k t p (m - l.length)) fun l'=>pur (l++l')
theorem aAC (h:isT k t q=false):rM k t p m l q=.ok l q:=by
 unfold rM
 rw [aB (many_no h),List.append_nil];rfl
theorem lC (hl:l.length≤m) (h:isT k t (x::q)=true):rM k t p m l (x::q)=bnd (fM p m l) (fun l2=>rM k t p m l2) (x::q):=by
 unfold rM
 by_cases e:m≤l.length
 ·have:m - l.length=0:=by omega
  simp only [bnd,fM,this,eT,h,if_true,if_pos e]
 obtain ⟨c,hc⟩:∃c,m - l.length=c+1:=⟨m - l.length - 1,by omega⟩
 simp only [bnd,fM,hc,eT,h,if_true,if_neg e,List.tail_cons]
 cases p q with
 |bad r e=>rfl
 |ok a r=>
  have:m - (l++[a]).length=c:=by rw [List.length_append,List.length_singleton];omega
  simp only [pur,this]
  cases eT k t p c r<;>simp [pur]
theorem aBB:eT k t p m q=rM k t p m [] q:=by
 unfold rM
 simp only [bnd,List.length_nil,Nat.sub_zero]
 cases eT k t p m q<;>rfl
theorem aAA (hm:1≤m):sZ p m q=bnd p (fun a=>rM 3 (B [44]) p m [a]) q:=by
 unfold sZ rM
 simp only [bnd]
 cases p q with
 |bad r e=>rfl
 |ok a r=>rfl
theorem aAI {a:List α} {r:List Tok} (hg:mB p) (h:fM p m l (x::q)=.ok a r):r <:+ q∧a.length≤m∧a.length=l.length+1:=by
 unfold fM at h
 split at h
 ·cases h
 rcases jO h with ⟨b,r1,h1,h2⟩|⟨r1,e,_,h2⟩
 ·have h2:(Rs.ok (l++[b]) r1:Rs (List α))=.ok a r:=h2
  cases h2
  exact ⟨hg.suf _ _ _ h1,by rw [List.length_append,List.length_singleton];omega,by rw [List.length_append,List.length_singleton]⟩
 cases h2
end
end Go.SynM
namespace Go.Proofs.YtgbeechjghajcaaGreatDoor
open Go Go.Fw Go.NatM Go.RatM Go.SrcM Go.SynM
set_option maxRecDepth 100000
set_option maxHeartbeats 99999999
def outB {α:Type} (src:ByteArray) (L:List Tok) (e sz:Nat) (row:α→List Value) (n:Nat):Rs (List α)→gK
 | .ok l r=>.ret (.buf n) (n+1) [psB src (ix L r),tkB L,(n,.own e sz (rws row l))]
 | .bad r e=>.pan (yG (dI src.size e r)) (n+1) [psB src (ix L r),tkB L]
section
variable (src:ByteArray) (L r:List Tok) (hr:r <:+ L) (hL:L.length≤65536) {N:ByteArray→Prop} (K:KL N L) (V:aBS N)
include hr hL K V
theorem aNV (most:Nat) (hm:1≤most) (hm2:most≤1000):FnS Tryz.prog 127 10 [.ptr 0 0,.v (.int .i64 most),fnV 128] [psB src (ix L r),tkB L]
  (fun x:Rs (List Cd)=>x=sZ lA most r) (outB src L 52 4 Cd.row 10):=by
 refine FnS.of Tryz.func127 (by kernel_rfl) rfl Tryz.ntmps127 rfl fun E0 F h w0 cs=>?_
 conv=>whnf
 refine gS ?_;conv=>whnf
 refine aA.nilOwn (l':=[(6,.ptr 10 0),(0,.ptr 0 0),(1,.v (.int .i64 most)),(2,fnV 128)]) (H':=[(10,.cells 53 [.buf 11]),psB src (ix L r),tkB L]) 52 4 ?_ (by rfl) (by rfl) (by rfl)
 refine aA.held tab (.fl 0 (.fl 1 (.fl 2 (.e1 3 [0] (.e1 4 [0] (.e1 5 [] (.e1 6 [] .done))))))) (by kernel_rfl) ?_;conv=>whnf
 (try refine gR ?_);conv=>whnf
 refine aV.callN (aLX src L r hr hL K V) [0,1,2,3,4,5,6,7,8,9] ?_ sH ?CNa1
 case CNa1=>rfl
 rintro (⟨a,r1⟩|⟨r1,e1⟩) h1<;>conv=>whnf
 rotate_left
 ·try refine aA.panicU ?_
  exact aE.pan Tryz.func127 (aL.mk ((Rs.bad r1 e1:Rs (List Cd))) ((by rw [aAA hm];exact (aH h1.symm).symm)) [] sH rfl rfl (aT rfl))
 conv=>whnf
 try refine oB ?_
 (try refine gR ?_);conv=>whnf
 repeat ((first|(guard_target=_∧_;(first|refine oL ?_|refine oR ?_|refine oB ?_))|(guard_target=Exists _;refine oM ?_));(try intro _);conv=>whnf)
 conv=>whnf
 refine And.intro (fK (by show 0+1≤1000000;omega)) ?_;conv=>whnf
 repeat ((first|(guard_target=_∧_;(first|refine oL ?_|refine oR ?_|refine oB ?_))|(guard_target=Exists _;refine oM ?_));(try intro _);conv=>whnf)
 (try refine gS ?_);conv=>whnf
 (try refine gS ?_);conv=>whnf
 refine aA.rowsEq (rows':=rws Cd.row [a]) 14 ?e1 ?_
 case e1=>rfl
 conv=>whnf
 refine aA.subR (nx':=15) (l':=[(6,.ptr 10 0),(0,.ptr 0 0),(1,.v (.int .i64 most)),(2,fnV 128)]) (H':=[psB src (ix L r1),tkB L,(10,.cells 53 [.buf 14]),(14,.own 52 4 (rws Cd.row [a]))]) [] ?_ sH sH
 (try refine gS ?_);conv=>whnf
 have hg:=sE.g
 have hs1:=hg.suf _ _ _ h1.symm
 refine aA.subR [] (aA.loop (fun (⟨l,q⟩:List Cd×List Tok)=>[(6,.ptr 10 0),(0,.ptr 0 0),(1,.v (.int .i64 most)),(2,fnV 128)]) (fun (⟨l,q⟩:List Cd×List Tok)=>[psB src (ix L q),tkB L,(10,.cells 53 [.buf 14]),(14,.own 52 4 (rws Cd.row l))]) 15 (fun (⟨l,q⟩:List Cd×List Tok)=>(q <:+ L∧l.length≤most)∧sZ lA most r=rM 3 (B [44]) lA most l q) (fun (⟨l,q⟩:List Cd×List Tok)=>q.length) ?round2 (([a],r1)) ?J02) sH sH
 case J02=>exact (⟨⟨hs1.trans hr,hm⟩,(aAA hm).trans (aB h1.symm)⟩)
 rintro ⟨l,q⟩ hJ back
 try dsimp only at hJ back
 conv=>whnf
 try dsimp only
 refine gS ?_;conv=>whnf
 refine aA.callN (rX src L q hJ.1.1 (B [44])) [0,1,2,3,4,5,6,7,8,9] ?_ sH ?CNa3
 case CNa3=>rfl
 intro _ _
 conv=>whnf
 (try refine gS ?_);conv=>whnf
 cases hA:isA (B [44]) q with
 |false=>
  have hT:isT 3 (B [44]) q=false:=by rw [←aGY K hJ.1.1 (V.s 44 (by decide)),hA]
  (try refine gS ?_);conv=>whnf
  try refine aA.retU ?_
  exact aE.ret tab Tryz.func127 rfl (aL.mk ((Rs.ok l q:Rs (List Cd))) ((hJ.2.trans (aAC hT)).symm) [(10,14)] sH rfl rfl (aY rfl rfl))
 |true=>
  obtain ⟨x,q,rfl⟩:=lG hA
  have hT:isT 3 (B [44]) (x::q)=true:=by rw [←aGY K hJ.1.1 (V.s 44 (by decide)),hA]
  (try refine gS ?_);conv=>whnf
  refine aA.callN (aUT src L (x::q) hJ.1.1 hL K V l most hm2 (List.cons_ne_nil _ _)) [0,1,2,3,4,5,6,7,8,9,10,14] ?_ sH ?CNa4
  case CNa4=>rfl
  rintro (⟨a2,r2⟩|⟨r2,e2⟩) h2<;>conv=>whnf
  rotate_left
  ·try refine aA.panicU ?_
   exact aE.pan Tryz.func127 (aL.mk ((Rs.bad r2 e2:Rs (List Cd))) (((hJ.2.trans (lC hJ.1.2 hT)).trans (aH h2.symm)).symm) [] sH rfl rfl (aT rfl))
  obtain ⟨hs2,hl1,hl2⟩:=aAI hg h2.symm
  refine aA.subR (nx':=16) (l':=[(6,.ptr 10 0),(0,.ptr 0 0),(1,.v (.int .i64 most)),(2,fnV 128)]) (H':=[psB src (ix L r2),tkB L,(10,.cells 53 [.buf 15]),(15,.own 52 4 (rws Cd.row a2))]) [] ?_ sH sH
  (try refine gS ?_);conv=>whnf
  refine aA.subR [(14,15)] (back ((a2,r2)) (by exact (⟨⟨hs2.trans (cC hJ.1.1),hl1⟩,(hJ.2.trans (lC hJ.1.2 hT)).trans (aB h2.symm)⟩)) (by exact (Nat.lt_succ_of_le hs2.length_le))) sH sH
theorem aVC (most:Nat) (hm:1≤most) (hm2:most≤1000):FnS Tryz.prog 126 10 [.ptr 0 0,.v (.int .i64 most),fnV 121] [psB src (ix L r),tkB L]
  (fun x:Rs (List ByteArray)=>x=sZ dP most r) (outB src L 9 1 kO 10):=by
 refine FnS.of Tryz.func126 (by kernel_rfl) rfl Tryz.ntmps126 rfl fun E0 F h w0 cs=>?_
 conv=>whnf
 refine gS ?_;conv=>whnf
 refine aA.nilOwn (l':=[(6,.ptr 10 0),(0,.ptr 0 0),(1,.v (.int .i64 most)),(2,fnV 121)]) (H':=[(10,.cells 25 [.buf 11]),psB src (ix L r),tkB L]) 9 1 ?_ (by rfl) (by rfl) (by rfl)
 refine aA.held tab (.fl 0 (.fl 1 (.fl 2 (.e1 3 [0] (.e1 4 [0] (.e1 5 [] (.e1 6 [] .done))))))) (by kernel_rfl) ?_;conv=>whnf
 (try refine gR ?_);conv=>whnf
 refine aV.callN (eG src L r hr hL) [0,1,2,3,4,5,6,7,8,9] ?_ sH ?CNa6
 case CNa6=>rfl
 rintro (⟨a,r1⟩|⟨r1,e1⟩) h1<;>conv=>whnf
 rotate_left
 ·try refine aA.panicU ?_
  exact aE.pan Tryz.func126 (aL.mk ((Rs.bad r1 e1:Rs (List ByteArray))) ((by rw [aAA hm];exact (aH h1.symm).symm)) [] sH rfl rfl (aT rfl))
 conv=>whnf
 try refine oB ?_
 (try refine gR ?_);conv=>whnf
 repeat ((first|(guard_target=_∧_;(first|refine oL ?_|refine oR ?_|refine oB ?_))|(guard_target=Exists _;refine oM ?_));(try intro _);conv=>whnf)
 conv=>whnf
 refine And.intro (fK (by show 0+1≤1000000;omega)) ?_;conv=>whnf
 repeat ((first|(guard_target=_∧_;(first|refine oL ?_|refine oR ?_|refine oB ?_))|(guard_target=Exists _;refine oM ?_));(try intro _);conv=>whnf)
 (try refine gS ?_);conv=>whnf
 (try refine gS ?_);conv=>whnf
 refine aA.rowsEq (rows':=rws kO [a]) 13 ?e1 ?_
 case e1=>rfl
 conv=>whnf
 refine aA.subR (nx':=14) (l':=[(6,.ptr 10 0),(0,.ptr 0 0),(1,.v (.int .i64 most)),(2,fnV 121)]) (H':=[psB src (ix L r1),tkB L,(10,.cells 25 [.buf 13]),(13,.own 9 1 (rws kO [a]))]) [] ?_ sH sH
 (try refine gS ?_);conv=>whnf
 have hg:=bV.g
 have hs1:=hg.suf _ _ _ h1.symm
 refine aA.subR [] (aA.loop (fun (⟨l,q⟩:List ByteArray×List Tok)=>[(6,.ptr 10 0),(0,.ptr 0 0),(1,.v (.int .i64 most)),(2,fnV 121)]) (fun (⟨l,q⟩:List ByteArray×List Tok)=>[psB src (ix L q),tkB L,(10,.cells 25 [.buf 13]),(13,.own 9 1 (rws kO l))]) 14 (fun (⟨l,q⟩:List ByteArray×List Tok)=>(q <:+ L∧l.length≤most)∧sZ dP most r=rM 3 (B [44]) dP most l q) (fun (⟨l,q⟩:List ByteArray×List Tok)=>q.length) ?round7 (([a],r1)) ?J07) sH sH
 case J07=>exact (⟨⟨hs1.trans hr,hm⟩,(aAA hm).trans (aB h1.symm)⟩)
 rintro ⟨l,q⟩ hJ back
 try dsimp only at hJ back
 conv=>whnf
 try dsimp only
 refine gS ?_;conv=>whnf
 refine aA.callN (rX src L q hJ.1.1 (B [44])) [0,1,2,3,4,5,6,7,8,9] ?_ sH ?CNa8
 case CNa8=>rfl
 intro _ _
 conv=>whnf
 (try refine gS ?_);conv=>whnf
 cases hA:isA (B [44]) q with
 |false=>
  have hT:isT 3 (B [44]) q=false:=by rw [←aGY K hJ.1.1 (V.s 44 (by decide)),hA]
  (try refine gS ?_);conv=>whnf
  try refine aA.retU ?_
  exact aE.ret tab Tryz.func126 rfl (aL.mk ((Rs.ok l q:Rs (List ByteArray))) ((hJ.2.trans (aAC hT)).symm) [(10,13)] sH rfl rfl (aY rfl rfl))
 |true=>
  obtain ⟨x,q,rfl⟩:=lG hA
  have hT:isT 3 (B [44]) (x::q)=true:=by rw [←aGY K hJ.1.1 (V.s 44 (by decide)),hA]
  (try refine gS ?_);conv=>whnf
  refine aA.callN (aWG src L (x::q) hJ.1.1 hL l most hm2 (List.cons_ne_nil _ _)) [0,1,2,3,4,5,6,7,8,9,10,13] ?_ sH ?CNa9
  case CNa9=>rfl
  rintro (⟨a2,r2⟩|⟨r2,e2⟩) h2<;>conv=>whnf
  rotate_left
  ·try refine aA.panicU ?_
   exact aE.pan Tryz.func126 (aL.mk ((Rs.bad r2 e2:Rs (List ByteArray))) (((hJ.2.trans (lC hJ.1.2 hT)).trans (aH h2.symm)).symm) [] sH rfl rfl (aT rfl))
  obtain ⟨hs2,hl1,hl2⟩:=aAI hg h2.symm
  refine aA.subR (nx':=15) (l':=[(6,.ptr 10 0),(0,.ptr 0 0),(1,.v (.int .i64 most)),(2,fnV 121)]) (H':=[psB src (ix L r2),tkB L,(10,.cells 25 [.buf 14]),(14,.own 9 1 (rws kO a2))]) [] ?_ sH sH
  (try refine gS ?_);conv=>whnf
  refine aA.subR [(13,14)] (back ((a2,r2)) (by exact (⟨⟨hs2.trans (cC hJ.1.1),hl1⟩,(hJ.2.trans (lC hJ.1.2 hT)).trans (aB h2.symm)⟩)) (by exact (Nat.lt_succ_of_le hs2.length_le))) sH sH
theorem aMR (w:List UInt8) (hw:N (B w)) (most:Nat) (hm2:most≤1000):FnS Tryz.prog 129 10 [.ptr 0 0,.v (.string (B w)),.v (.int .i64 most),fnV 130] [psB src (ix L r),tkB L]
  (fun x:Rs (List Am)=>x=eT 1 (B w) inP most r) (outB src L 55 7 Am.row 10):=by
 refine FnS.of Tryz.func129 (by kernel_rfl) rfl Tryz.ntmps129 rfl fun E0 F h w0 cs=>?_
 conv=>whnf
 refine gS ?_;conv=>whnf
 refine aA.nilOwn (l':=[(8,.ptr 10 0),(0,.ptr 0 0),(1,.v (.string (B w))),(2,.v (.int .i64 most)),(3,fnV 130)]) (H':=[(10,.cells 56 [.buf 11]),psB src (ix L r),tkB L]) 55 7 ?_ (by rfl) (by rfl) (by rfl)
 have hg:=in_g.g
 refine aA.subR [] (aA.loop (fun (⟨l,q⟩:List Am×List Tok)=>[(8,.ptr 10 0),(0,.ptr 0 0),(1,.v (.string (B w))),(2,.v (.int .i64 most)),(3,fnV 130)]) (fun (⟨l,q⟩:List Am×List Tok)=>[psB src (ix L q),tkB L,(10,.cells 56 [.buf 11]),(11,.own 55 7 (rws Am.row l))]) 12 (fun (⟨l,q⟩:List Am×List Tok)=>(q <:+ L∧l.length≤most)∧eT 1 (B w) inP most r=rM 1 (B w) inP most l q) (fun (⟨l,q⟩:List Am×List Tok)=>q.length) ?round11 (([],r)) ?J011) sH sH
 case J011=>exact (⟨⟨hr,Nat.zero_le _⟩,aBB⟩)
 rintro ⟨l,q⟩ hJ back
 try dsimp only at hJ back
 conv=>whnf
 try dsimp only
 refine gS ?_;conv=>whnf
 refine aA.callN (rX src L q hJ.1.1 (B w)) [0,1,2,3,4,5,6,7,8,9] ?_ sH ?CNa12
 case CNa12=>rfl
 intro _ _
 conv=>whnf
 (try refine gS ?_);conv=>whnf
 cases hA:isA (B w) q with
 |false=>
  have hT:isT 1 (B w) q=false:=by rw [←tA K hJ.1.1 hw,hA]
  (try refine gS ?_);conv=>whnf
  try refine aA.retU ?_
  exact aE.ret tab Tryz.func129 rfl (aL.mk ((Rs.ok l q:Rs (List Am))) ((hJ.2.trans (aAC hT)).symm) [(10,11)] sH rfl rfl (aY rfl rfl))
 |true=>
  obtain ⟨x,q,rfl⟩:=lG hA
  have hT:isT 1 (B w) (x::q)=true:=by rw [←tA K hJ.1.1 hw,hA]
  (try refine gS ?_);conv=>whnf
  refine aA.callN (aWU src L (x::q) hJ.1.1 hL K V l most hm2 (List.cons_ne_nil _ _)) [0,1,2,3,4,5,6,7,8,9,10,11] ?_ sH ?CNa13
  case CNa13=>rfl
  rintro (⟨a2,r2⟩|⟨r2,e2⟩) h2<;>conv=>whnf
  rotate_left
  ·try refine aA.panicU ?_
   exact aE.pan Tryz.func129 (aL.mk ((Rs.bad r2 e2:Rs (List Am))) (((hJ.2.trans (lC hJ.1.2 hT)).trans (aH h2.symm)).symm) [] sH rfl rfl (aT rfl))
  obtain ⟨hs2,hl1,hl2⟩:=aAI hg h2.symm
  refine aA.subR (nx':=13) (l':=[(8,.ptr 10 0),(0,.ptr 0 0),(1,.v (.string (B w))),(2,.v (.int .i64 most)),(3,fnV 130)]) (H':=[psB src (ix L r2),tkB L,(10,.cells 56 [.buf 12]),(12,.own 55 7 (rws Am.row a2))]) [] ?_ sH sH
  (try refine gS ?_);conv=>whnf
  refine aA.subR [(11,12)] (back ((a2,r2)) (by exact (⟨⟨hs2.trans (cC hJ.1.1),hl1⟩,(hJ.2.trans (lC hJ.1.2 hT)).trans (aB h2.symm)⟩)) (by exact (Nat.lt_succ_of_le hs2.length_le))) sH sH
theorem aHN (w:List UInt8) (hw:N (B w)) (most:Nat) (hm2:most≤1000):FnS Tryz.prog 129 10 [.ptr 0 0,.v (.string (B w)),.v (.int .i64 most),fnV 131] [psB src (ix L r),tkB L]
  (fun x:Rs (List Am)=>x=eT 1 (B w) SynM.outP most r) (outB src L 55 7 Am.row 10):=by
 refine FnS.of Tryz.func129 (by kernel_rfl) rfl Tryz.ntmps129 rfl fun E0 F h w0 cs=>?_
 conv=>whnf
 refine gS ?_;conv=>whnf
 refine aA.nilOwn (l':=[(8,.ptr 10 0),(0,.ptr 0 0),(1,.v (.string (B w))),(2,.v (.int .i64 most)),(3,fnV 131)]) (H':=[(10,.cells 56 [.buf 11]),psB src (ix L r),tkB L]) 55 7 ?_ (by rfl) (by rfl) (by rfl)
 have hg:=aAF.g
 refine aA.subR [] (aA.loop (fun (⟨l,q⟩:List Am×List Tok)=>[(8,.ptr 10 0),(0,.ptr 0 0),(1,.v (.string (B w))),(2,.v (.int .i64 most)),(3,fnV 131)]) (fun (⟨l,q⟩:List Am×List Tok)=>[psB src (ix L q),tkB L,(10,.cells 56 [.buf 11]),(11,.own 55 7 (rws Am.row l))]) 12 (fun (⟨l,q⟩:List Am×List Tok)=>(q <:+ L∧l.length≤most)∧eT 1 (B w) SynM.outP most r=rM 1 (B w) SynM.outP most l q) (fun (⟨l,q⟩:List Am×List Tok)=>q.length) ?round15 (([],r)) ?J015) sH sH
 case J015=>exact (⟨⟨hr,Nat.zero_le _⟩,aBB⟩)
 rintro ⟨l,q⟩ hJ back
 try dsimp only at hJ back
 conv=>whnf
 try dsimp only
 refine gS ?_;conv=>whnf
 refine aA.callN (rX src L q hJ.1.1 (B w)) [0,1,2,3,4,5,6,7,8,9] ?_ sH ?CNa16
 case CNa16=>rfl
 intro _ _
 conv=>whnf
 (try refine gS ?_);conv=>whnf
 cases hA:isA (B w) q with
 |false=>
  have hT:isT 1 (B w) q=false:=by rw [←tA K hJ.1.1 hw,hA]
  (try refine gS ?_);conv=>whnf
  try refine aA.retU ?_
  exact aE.ret tab Tryz.func129 rfl (aL.mk ((Rs.ok l q:Rs (List Am))) ((hJ.2.trans (aAC hT)).symm) [(10,11)] sH rfl rfl (aY rfl rfl))
 |true=>
  obtain ⟨x,q,rfl⟩:=lG hA
  have hT:isT 1 (B w) (x::q)=true:=by rw [←tA K hJ.1.1 hw,hA]
  (try refine gS ?_);conv=>whnf
  refine aA.callN (aUI src L (x::q) hJ.1.1 hL K V l most hm2 (List.cons_ne_nil _ _)) [0,1,2,3,4,5,6,7,8,9,10,11] ?_ sH ?CNa17
  case CNa17=>rfl
  rintro (⟨a2,r2⟩|⟨r2,e2⟩) h2<;>conv=>whnf
  rotate_left
  ·try refine aA.panicU ?_
   exact aE.pan Tryz.func129 (aL.mk ((Rs.bad r2 e2:Rs (List Am))) (((hJ.2.trans (lC hJ.1.2 hT)).trans (aH h2.symm)).symm) [] sH rfl rfl (aT rfl))
  obtain ⟨hs2,hl1,hl2⟩:=aAI hg h2.symm
  refine aA.subR (nx':=13) (l':=[(8,.ptr 10 0),(0,.ptr 0 0),(1,.v (.string (B w))),(2,.v (.int .i64 most)),(3,fnV 131)]) (H':=[psB src (ix L r2),tkB L,(10,.cells 56 [.buf 12]),(12,.own 55 7 (rws Am.row a2))]) [] ?_ sH sH
  (try refine gS ?_);conv=>whnf
  refine aA.subR [(11,12)] (back ((a2,r2)) (by exact (⟨⟨hs2.trans (cC hJ.1.1),hl1⟩,(hJ.2.trans (lC hJ.1.2 hT)).trans (aB h2.symm)⟩)) (by exact (Nat.lt_succ_of_le hs2.length_le))) sH sH
theorem aJF (w:List UInt8) (hw:N (B w)) (most:Nat) (hm2:most≤1000):FnS Tryz.prog 132 10 [.ptr 0 0,.v (.string (B w)),.v (.int .i64 most),fnV 133] [psB src (ix L r),tkB L]
  (fun x:Rs (List Rn)=>x=eT 1 (B w) yS most r) (outB src L 58 3 Rn.row 10):=by
 refine FnS.of Tryz.func132 (by kernel_rfl) rfl Tryz.ntmps132 rfl fun E0 F h w0 cs=>?_
 conv=>whnf
 refine gS ?_;conv=>whnf
 refine aA.nilOwn (l':=[(8,.ptr 10 0),(0,.ptr 0 0),(1,.v (.string (B w))),(2,.v (.int .i64 most)),(3,fnV 133)]) (H':=[(10,.cells 59 [.buf 11]),psB src (ix L r),tkB L]) 58 3 ?_ (by rfl) (by rfl) (by rfl)
 have hg:=aFE.g
 refine aA.subR [] (aA.loop (fun (⟨l,q⟩:List Rn×List Tok)=>[(8,.ptr 10 0),(0,.ptr 0 0),(1,.v (.string (B w))),(2,.v (.int .i64 most)),(3,fnV 133)]) (fun (⟨l,q⟩:List Rn×List Tok)=>[psB src (ix L q),tkB L,(10,.cells 59 [.buf 11]),(11,.own 58 3 (rws Rn.row l))]) 12 (fun (⟨l,q⟩:List Rn×List Tok)=>(q <:+ L∧l.length≤most)∧eT 1 (B w) yS most r=rM 1 (B w) yS most l q) (fun (⟨l,q⟩:List Rn×List Tok)=>q.length) ?round19 (([],r)) ?J019) sH sH
 case J019=>exact (⟨⟨hr,Nat.zero_le _⟩,aBB⟩)
 rintro ⟨l,q⟩ hJ back
 try dsimp only at hJ back
 conv=>whnf
 try dsimp only
 refine gS ?_;conv=>whnf
 refine aA.callN (rX src L q hJ.1.1 (B w)) [0,1,2,3,4,5,6,7,8,9] ?_ sH ?CNa20
 case CNa20=>rfl
 intro _ _
 conv=>whnf
 (try refine gS ?_);conv=>whnf
 cases hA:isA (B w) q with
 |false=>
  have hT:isT 1 (B w) q=false:=by rw [←tA K hJ.1.1 hw,hA]
  (try refine gS ?_);conv=>whnf
  try refine aA.retU ?_
  exact aE.ret tab Tryz.func132 rfl (aL.mk ((Rs.ok l q:Rs (List Rn))) ((hJ.2.trans (aAC hT)).symm) [(10,11)] sH rfl rfl (aY rfl rfl))
 |true=>
  obtain ⟨x,q,rfl⟩:=lG hA
  have hT:isT 1 (B w) (x::q)=true:=by rw [←tA K hJ.1.1 hw,hA]
  (try refine gS ?_);conv=>whnf
  refine aA.callN (aUC src L (x::q) hJ.1.1 hL K V l most hm2 (List.cons_ne_nil _ _)) [0,1,2,3,4,5,6,7,8,9,10,11] ?_ sH ?CNa21
  case CNa21=>rfl
  rintro (⟨a2,r2⟩|⟨r2,e2⟩) h2<;>conv=>whnf
  rotate_left
  ·try refine aA.panicU ?_
   exact aE.pan Tryz.func132 (aL.mk ((Rs.bad r2 e2:Rs (List Rn))) (((hJ.2.trans (lC hJ.1.2 hT)).trans (aH h2.symm)).symm) [] sH rfl rfl (aT rfl))
  obtain ⟨hs2,hl1,hl2⟩:=aAI hg h2.symm
  refine aA.subR (nx':=13) (l':=[(8,.ptr 10 0),(0,.ptr 0 0),(1,.v (.string (B w))),(2,.v (.int .i64 most)),(3,fnV 133)]) (H':=[psB src (ix L r2),tkB L,(10,.cells 59 [.buf 12]),(12,.own 58 3 (rws Rn.row a2))]) [] ?_ sH sH
  (try refine gS ?_);conv=>whnf
  refine aA.subR [(11,12)] (back ((a2,r2)) (by exact (⟨⟨hs2.trans (cC hJ.1.1),hl1⟩,(hJ.2.trans (lC hJ.1.2 hT)).trans (aB h2.symm)⟩)) (by exact (Nat.lt_succ_of_le hs2.length_le))) sH sH
end
end Go.Proofs.YtgbeechjghajcaaGreatDoor

namespace Go.SynM
open Go Go.Fw Go.RatM Go.SrcM
open Go.Proofs.YtgbeechjghajcaaGreatDoor (Tok)
section
variable {L r:List Tok} {N:ByteArray→Prop} (K:KL N L) (hr:r <:+ L)
include K hr
theorem aWS {t u:ByteArray} (h:¬N t) (g:¬N u):nE [t,u] r=bnd (skip 3 t) (fun _=>skip 3 u) r:=by
 show bnd (vD t) (fun _=>nE [u]) r=_
 simp only [bnd,aKO K hr h]
 cases e:skip 3 t r with
 |ok a q=>exact fO K (((bI _ _).1.suf _ _ _ e).trans hr) g
 |bad q e=>rfl
theorem aAZ {t u:ByteArray} (h:¬N t) (g:N u):nE [t,u] r=bnd (skip 3 t) (fun _=>skip 1 u) r:=by
 show bnd (vD t) (fun _=>nE [u]) r=_
 simp only [bnd,aKO K hr h]
 cases e:skip 3 t r with
 |ok a q=>exact kR K (((bI _ _).1.suf _ _ _ e).trans hr) g
 |bad q e=>rfl
end
theorem bZ {α β γ:Type} {p:P α} {q:α→P β} {f:β→P γ} {r:List Tok}:bnd p (fun a=>bnd (q a) f) r=bnd (bnd p q) f r:=by
 simp only [bnd]
 cases p r<;>rfl
end Go.SynM
namespace Go.Proofs.YtgbeechjghajcaaGreatDoor
open Go Go.Fw Go.NatM Go.RatM Go.SrcM Go.SynM
set_option maxRecDepth 100000
set_option maxHeartbeats 99999999
def outF (src:ByteArray) (L:List Tok) (n:Nat):Rs FbV→gK
 | .ok x r=>.ret (.buf n) (n+1) [psB src (ix L r),tkB L,(n,.own 52 4 (rws Cd.row x.cs))]
 | .bad r e=>.pan (yG (dI src.size e r)) (n+1) [psB src (ix L r),tkB L]
def outO (src:ByteArray) (L:List Tok) (n:Nat):Rs OpV→gK
 | .ok x r=>.ret (.agg [.v (.string x.name),.buf n]) (n+1) [psB src (ix L r),tkB L,(n,.own 9 1 (rws kO x.ch))]
 | .bad r e=>.pan (yG (dI src.size e r)) (n+1) [psB src (ix L r),tkB L]
section
variable (src:ByteArray) (L r:List Tok) (hr:r <:+ L) (hL:L.length≤65536) {N:ByteArray→Prop} (K:KL N L) (V:aBS N)
include hr hL K V
theorem aWR:FnS Tryz.prog 75 10 [.ptr 0 0] [psB src (ix L r),tkB L] (fun x:Rs FbV=>x=qB r) (outF src L 10):=by
 refine FnS.of Tryz.func75 (by kernel_rfl) rfl Tryz.ntmps75 rfl fun E0 F h w0 cs=>?_
 conv=>whnf
 refine gS ?_;conv=>whnf
 refine aA.callN (aNV src L r hr hL K V 6 (by decide) (by decide)) [0,1,2,3,4,5,6,7,8,9] ?_ sH ?CNa1
 case CNa1=>rfl
 rintro (⟨a1,r1⟩|⟨r1,e1⟩) h1<;>conv=>whnf
 rotate_left
 ·try refine aA.panicU ?_
  exact aE.pan Tryz.func75 (aL.mk ((Rs.bad r1 e1:Rs FbV)) ((by unfold qB;rw [aH h1.symm])) [] sH rfl rfl (aT rfl))
 have s1:=((mX sE.g 6).suf _ _ _ h1.symm).trans hr
 refine aA.subR (nx':=11) (l':=[(5,.buf 10),(0,.ptr 0 0)]) (H':=[psB src (ix L r1),tkB L,(10,.own 52 4 (rws Cd.row a1))]) [] ?_ sH sH
 (try refine gS ?_);conv=>whnf
 refine aA.callN (bE src L r1 s1 hL [B [59]] (by decide)) [0,1,2,3,4,5,6,7,8,9,11] ?_ sH ?CNa2
 case CNa2=>rfl
 rintro (⟨_,r2⟩|⟨r2,e2⟩) h2<;>conv=>whnf
 all_goals rw [fO K s1 (V.s 59 (by decide))] at h2
 rotate_left
 ·try refine aA.panicU ?_
  exact aE.pan Tryz.func75 (aL.mk ((Rs.bad r2 e2:Rs FbV)) ((by unfold qB;rw [aB h1.symm,aH h2.symm])) [] sH rfl rfl (aT rfl))
 refine aA.subR (nx':=12) (l':=[(3,.buf 10),(5,.buf 10),(0,.ptr 0 0)]) (H':=[psB src (ix L r2),tkB L,(10,.own 52 4 (rws Cd.row a1))]) [] ?_ sH sH
 (try refine gS ?_);conv=>whnf
 try refine aA.retU ?_
 exact aE.ret tab Tryz.func75 rfl (aL.mk ((Rs.ok ⟨hd0,a1⟩ r2:Rs FbV)) ((by unfold qB;rw [aB h1.symm,aB h2.symm];rfl)) [] sH rfl rfl (aY rfl rfl))
theorem aVJ:FnS Tryz.prog 72 10 [.ptr 0 0] [psB src (ix L r),tkB L] (fun x:Rs OpV=>x=nX r) (outO src L 10):=by
 refine FnS.of Tryz.func72 (by kernel_rfl) rfl Tryz.ntmps72 rfl fun E0 F h w0 cs=>?_
 conv=>whnf
 refine gS ?_;conv=>whnf
 refine aA.callN (eG src L r hr hL) [0,1,2,3,4,5,6,7,8,9] ?_ sH ?CNa3
 case CNa3=>rfl
 rintro (⟨a1,r1⟩|⟨r1,e1⟩) h1<;>conv=>whnf
 rotate_left
 ·try refine aA.panicU ?_
  exact aE.pan Tryz.func72 (aL.mk ((Rs.bad r1 e1:Rs OpV)) ((by unfold nX;rw [aH h1.symm])) [] sH rfl rfl (aT rfl))
 have s1:=(bV.g.suf _ _ _ h1.symm).trans hr
 refine aA.subR (nx':=11) (l':=[(4,.v (.string a1)),(2,.ptr 10 0),(0,.ptr 0 0)]) (H':=[psB src (ix L r1),tkB L,(10,.cells 50 [.v (.string ⟨#[]⟩),.v (.slice none 0 0)])]) [] ?_ sH sH
 (try refine gS ?_);conv=>whnf
 refine aA.callN (bE src L r1 s1 hL [B [123]] (by decide)) [0,1,2,3,4,5,6,7,8,9,11] ?_ sH ?CNa4
 case CNa4=>rfl
 rintro (⟨_,r2⟩|⟨r2,e2⟩) h2<;>conv=>whnf
 all_goals rw [fO K s1 (V.s 123 (by decide))] at h2
 rotate_left
 ·try refine aA.panicU ?_
  exact aE.pan Tryz.func72 (aL.mk ((Rs.bad r2 e2:Rs OpV)) ((by unfold nX;rw [aB h1.symm,aH h2.symm])) [] sH rfl rfl (aT rfl))
 have s2:=((bI _ _).1.suf _ _ _ h2.symm).trans s1
 refine aA.subR (nx':=12) (l':=[(2,.ptr 10 0),(0,.ptr 0 0)]) (H':=[psB src (ix L r2),tkB L,(10,.cells 50 [.v (.string a1),.v (.slice none 0 0)])]) [] ?_ sH sH
 (try refine gS ?_);conv=>whnf
 refine aA.callN (aVC src L r2 s2 hL K V 4 (by decide) (by decide)) [0,1,2,3,4,5,6,7,8,9] ?_ sH ?CNa5
 case CNa5=>rfl
 rintro (⟨a3,r3⟩|⟨r3,e3⟩) h3<;>conv=>whnf
 rotate_left
 ·try refine aA.panicU ?_
  exact aE.pan Tryz.func72 (aL.mk ((Rs.bad r3 e3:Rs OpV)) ((by unfold nX;rw [aB h1.symm,aB h2.symm,aH h3.symm])) [] sH rfl rfl (aT rfl))
 have s3:=((mX bV.g 4).suf _ _ _ h3.symm).trans s2
 refine aA.subR (nx':=13) (l':=[(10,.buf 12),(2,.ptr 10 0),(0,.ptr 0 0)]) (H':=[psB src (ix L r3),tkB L,(12,.own 9 1 (rws kO a3)),(10,.cells 50 [.v (.string a1),.v (.slice none 0 0)])]) [] ?_ sH sH
 (try refine gS ?_);conv=>whnf
 refine aA.callN (bE src L r3 s3 hL [B [125],B [59]] (by decide)) [0,1,2,3,4,5,6,7,8,9,13] ?_ sH ?CNa6
 case CNa6=>rfl
 rintro (⟨_,r4⟩|⟨r4,e4⟩) h4<;>conv=>whnf
 all_goals rw [aWS K s3 (V.s 125 (by decide)) (V.s 59 (by decide))] at h4
 rotate_left
 ·try refine aA.panicU ?_
  exact aE.pan Tryz.func72 (aL.mk ((Rs.bad r4 e4:Rs OpV)) ((by unfold nX;rw [aB h1.symm,aB h2.symm,aB h3.symm,bZ,aH h4.symm])) [] sH rfl rfl (aT rfl))
 refine aA.subR (nx':=14) (l':=[(2,.ptr 10 0),(0,.ptr 0 0)]) (H':=[psB src (ix L r4),tkB L,(12,.own 9 1 (rws kO a3)),(10,.cells 50 [.v (.string a1),.buf 12])]) [] ?_ sH sH
 (try refine gS ?_);conv=>whnf
 try refine aA.retU ?_
 exact aE.ret tab Tryz.func72 rfl (aL.mk ((Rs.ok ⟨a1,hd0,a3⟩ r4:Rs OpV)) ((by unfold nX;rw [aB h1.symm,aB h2.symm,aB h3.symm,bZ,aB h4.symm];rfl)) [(10,12)] sH rfl rfl (aY rfl rfl))
end
end Go.Proofs.YtgbeechjghajcaaGreatDoor

namespace Go.Proofs.YtgbeechjghajcaaGreatDoor
open Go Go.Fw Go.NatM Go.RatM Go.SrcM Go.SynM
set_option maxRecDepth 100000
set_option maxHeartbeats 99999999
def outR (src:ByteArray) (L:List Tok) (n:Nat):Rs RcV→gK
 | .ok x r=>.ret (.agg [.v (.string x.item),.v (.string x.plant),.v (.int .i64 x.fr),.v (.int .i64 x.to),.buf n,.buf (n+1),.buf (n+2),.v (.int .i64 x.rwN),.v (.int .i64 x.rwD),.v (.int .i64 x.yN),.v (.int .i64 x.yD),.v (.int .i64 x.tN),.v (.int .i64 x.tD),.v (.int .i64 x.lead),.buf (n+3),.v (.int .i64 x.inum),.v (.int .i64 x.pnum)]) (n+4) [psB src (ix L r),tkB L,(n,.own 52 4 (rws Cd.row x.cs)),(n+1,.own 55 7 (rws Am.row x.inn)),(n+2,.own 55 7 (rws Am.row x.out)),(n+3,.own 58 3 (rws Rn.row x.runs))]
 | .bad r e=>.pan (yG (dI src.size e r)) (n+1) [psB src (ix L r),tkB L]
section
variable (src:ByteArray) (L r:List Tok) (hr:r <:+ L) (hL:L.length≤65536) {N:ByteArray→Prop} (K:KL N L) (V:aBS N)
include hr hL K V
theorem prec_fn:FnS Tryz.prog 78 10 [.ptr 0 0] [psB src (ix L r),tkB L] (fun x:Rs RcV=>x=fT r) (outR src L 10):=by
 refine FnS.of Tryz.func78 (by kernel_rfl) rfl Tryz.ntmps78 rfl fun E0 F h w0 cs=>?_
 conv=>whnf
 refine gS ?_;conv=>whnf
 refine aA.callN (eG src L r hr hL) [0,1,2,3,4,5,6,7,8,9] ?_ sH ?CNa1
 case CNa1=>rfl
 rintro (⟨a1,r1⟩|⟨r1,e1⟩) h1<;>conv=>whnf
 rotate_left
 ·try refine aA.panicU ?_
  exact aE.pan Tryz.func78 (aL.mk ((Rs.bad r1 e1:Rs RcV)) ((by unfold fT;rw [aH h1.symm])) [] sH rfl rfl (aT rfl))
 have s1:=((bV.g).suf _ _ _ h1.symm).trans hr
 refine aA.subR (nx':=11) (l':=[(4,.v (.string a1)),(2,.ptr 10 0),(0,.ptr 0 0)]) (H':=[psB src (ix L r1),tkB L,(10,.cells 61 [.v (.string ⟨#[]⟩),.v (.string ⟨#[]⟩),.v (.int .i64 0),.v (.int .i64 0),.v (.slice none 0 0),.v (.slice none 0 0),.v (.slice none 0 0),.v (.int .i64 0),.v (.int .i64 0),.v (.int .i64 0),.v (.int .i64 0),.v (.int .i64 0),.v (.int .i64 0),.v (.int .i64 0),.v (.slice none 0 0),.v (.int .i64 0),.v (.int .i64 0)])]) [] ?_ sH sH
 (try refine gS ?_);conv=>whnf
 refine aA.callN (bE src L r1 s1 hL [B wAt] (by decide)) [0,1,2,3,4,5,6,7,8,9,11] ?_ sH ?CNa2
 case CNa2=>rfl
 rintro (⟨_,r2⟩|⟨r2,e2⟩) h2<;>conv=>whnf
 all_goals rw [kR K s1 (V.w wAt (by simp))] at h2
 rotate_left
 ·try refine aA.panicU ?_
  exact aE.pan Tryz.func78 (aL.mk ((Rs.bad r2 e2:Rs RcV)) ((by unfold fT;rw [aB h1.symm,aH h2.symm])) [] sH rfl rfl (aT rfl))
 have s2:=(((bI _ _).1).suf _ _ _ h2.symm).trans s1
 refine aA.subR (nx':=11) (l':=[(2,.ptr 10 0),(0,.ptr 0 0)]) (H':=[psB src (ix L r2),tkB L,(10,.cells 61 [.v (.string a1),.v (.string ⟨#[]⟩),.v (.int .i64 0),.v (.int .i64 0),.v (.slice none 0 0),.v (.slice none 0 0),.v (.slice none 0 0),.v (.int .i64 0),.v (.int .i64 0),.v (.int .i64 0),.v (.int .i64 0),.v (.int .i64 0),.v (.int .i64 0),.v (.int .i64 0),.v (.slice none 0 0),.v (.int .i64 0),.v (.int .i64 0)])]) [] ?_ sH sH
 (try refine gS ?_);conv=>whnf
 refine aA.callN (eG src L r2 s2 hL) [0,1,2,3,4,5,6,7,8,9] ?_ sH ?CNa3
 case CNa3=>rfl
 rintro (⟨a3,r3⟩|⟨r3,e3⟩) h3<;>conv=>whnf
 rotate_left
 ·try refine aA.panicU ?_
  exact aE.pan Tryz.func78 (aL.mk ((Rs.bad r3 e3:Rs RcV)) ((by unfold fT;rw [aB h1.symm,aB h2.symm,aH h3.symm])) [] sH rfl rfl (aT rfl))
 have s3:=((bV.g).suf _ _ _ h3.symm).trans s2
 refine aA.subR (nx':=11) (l':=[(10,.v (.string a3)),(2,.ptr 10 0),(0,.ptr 0 0)]) (H':=[psB src (ix L r3),tkB L,(10,.cells 61 [.v (.string a1),.v (.string ⟨#[]⟩),.v (.int .i64 0),.v (.int .i64 0),.v (.slice none 0 0),.v (.slice none 0 0),.v (.slice none 0 0),.v (.int .i64 0),.v (.int .i64 0),.v (.int .i64 0),.v (.int .i64 0),.v (.int .i64 0),.v (.int .i64 0),.v (.int .i64 0),.v (.slice none 0 0),.v (.int .i64 0),.v (.int .i64 0)])]) [] ?_ sH sH
 (try refine gS ?_);conv=>whnf
 refine aA.callN (bE src L r3 s3 hL [B qO] (by decide)) [0,1,2,3,4,5,6,7,8,9,11] ?_ sH ?CNa4
 case CNa4=>rfl
 rintro (⟨_,r4⟩|⟨r4,e4⟩) h4<;>conv=>whnf
 all_goals rw [kR K s3 (V.w qO (by simp))] at h4
 rotate_left
 ·try refine aA.panicU ?_
  exact aE.pan Tryz.func78 (aL.mk ((Rs.bad r4 e4:Rs RcV)) ((by unfold fT;rw [aB h1.symm,aB h2.symm,aB h3.symm,aH h4.symm])) [] sH rfl rfl (aT rfl))
 have s4:=(((bI _ _).1).suf _ _ _ h4.symm).trans s3
 refine aA.subR (nx':=11) (l':=[(2,.ptr 10 0),(0,.ptr 0 0)]) (H':=[psB src (ix L r4),tkB L,(10,.cells 61 [.v (.string a1),.v (.string a3),.v (.int .i64 0),.v (.int .i64 0),.v (.slice none 0 0),.v (.slice none 0 0),.v (.slice none 0 0),.v (.int .i64 0),.v (.int .i64 0),.v (.int .i64 0),.v (.int .i64 0),.v (.int .i64 0),.v (.int .i64 0),.v (.int .i64 0),.v (.slice none 0 0),.v (.int .i64 0),.v (.int .i64 0)])]) [] ?_ sH sH
 (try refine gS ?_);conv=>whnf
 refine aA.callN (jD src L r4 s4 hL) [0,1,2,3,4,5,6,7,8,9] ?_ sH ?CNa5
 case CNa5=>rfl
 rintro (⟨a5,r5⟩|⟨r5,e5⟩) h5<;>conv=>whnf
 rotate_left
 ·try refine aA.panicU ?_
  exact aE.pan Tryz.func78 (aL.mk ((Rs.bad r5 e5:Rs RcV)) ((by unfold fT;rw [aB h1.symm,aB h2.symm,aB h3.symm,aB h4.symm,aH h5.symm])) [] sH rfl rfl (aT rfl))
 have s5:=((mD.g).suf _ _ _ h5.symm).trans s4
 refine aA.subR (nx':=11) (l':=[(16,.v (.int .i64 a5)),(2,.ptr 10 0),(0,.ptr 0 0)]) (H':=[psB src (ix L r5),tkB L,(10,.cells 61 [.v (.string a1),.v (.string a3),.v (.int .i64 0),.v (.int .i64 0),.v (.slice none 0 0),.v (.slice none 0 0),.v (.slice none 0 0),.v (.int .i64 0),.v (.int .i64 0),.v (.int .i64 0),.v (.int .i64 0),.v (.int .i64 0),.v (.int .i64 0),.v (.int .i64 0),.v (.slice none 0 0),.v (.int .i64 0),.v (.int .i64 0)])]) [] ?_ sH sH
 (try refine gS ?_);conv=>whnf
 refine aA.callN (bE src L r5 s5 hL [B wTo] (by decide)) [0,1,2,3,4,5,6,7,8,9,11] ?_ sH ?CNa6
 case CNa6=>rfl
 rintro (⟨_,r6⟩|⟨r6,e6⟩) h6<;>conv=>whnf
 all_goals rw [kR K s5 (V.w wTo (by simp))] at h6
 rotate_left
 ·try refine aA.panicU ?_
  exact aE.pan Tryz.func78 (aL.mk ((Rs.bad r6 e6:Rs RcV)) ((by unfold fT;rw [aB h1.symm,aB h2.symm,aB h3.symm,aB h4.symm,aB h5.symm,aH h6.symm])) [] sH rfl rfl (aT rfl))
 have s6:=(((bI _ _).1).suf _ _ _ h6.symm).trans s5
 refine aA.subR (nx':=11) (l':=[(2,.ptr 10 0),(0,.ptr 0 0)]) (H':=[psB src (ix L r6),tkB L,(10,.cells 61 [.v (.string a1),.v (.string a3),.v (.int .i64 a5),.v (.int .i64 0),.v (.slice none 0 0),.v (.slice none 0 0),.v (.slice none 0 0),.v (.int .i64 0),.v (.int .i64 0),.v (.int .i64 0),.v (.int .i64 0),.v (.int .i64 0),.v (.int .i64 0),.v (.int .i64 0),.v (.slice none 0 0),.v (.int .i64 0),.v (.int .i64 0)])]) [] ?_ sH sH
 (try refine gS ?_);conv=>whnf
 refine aA.callN (jD src L r6 s6 hL) [0,1,2,3,4,5,6,7,8,9] ?_ sH ?CNa7
 case CNa7=>rfl
 rintro (⟨a7,r7⟩|⟨r7,e7⟩) h7<;>conv=>whnf
 rotate_left
 ·try refine aA.panicU ?_
  exact aE.pan Tryz.func78 (aL.mk ((Rs.bad r7 e7:Rs RcV)) ((by unfold fT;rw [aB h1.symm,aB h2.symm,aB h3.symm,aB h4.symm,aB h5.symm,aB h6.symm,aH h7.symm])) [] sH rfl rfl (aT rfl))
 have s7:=((mD.g).suf _ _ _ h7.symm).trans s6
 refine aA.subR (nx':=11) (l':=[(22,.v (.int .i64 a7)),(2,.ptr 10 0),(0,.ptr 0 0)]) (H':=[psB src (ix L r7),tkB L,(10,.cells 61 [.v (.string a1),.v (.string a3),.v (.int .i64 a5),.v (.int .i64 0),.v (.slice none 0 0),.v (.slice none 0 0),.v (.slice none 0 0),.v (.int .i64 0),.v (.int .i64 0),.v (.int .i64 0),.v (.int .i64 0),.v (.int .i64 0),.v (.int .i64 0),.v (.int .i64 0),.v (.slice none 0 0),.v (.int .i64 0),.v (.int .i64 0)])]) [] ?_ sH sH
 (try refine gS ?_);conv=>whnf
 refine aA.subR (nx':=11) (l':=[(24,.ptr 0 0),(2,.ptr 10 0),(0,.ptr 0 0)]) (H':=[psB src (ix L r7),tkB L,(10,.cells 61 [.v (.string a1),.v (.string a3),.v (.int .i64 a5),.v (.int .i64 a7),.v (.slice none 0 0),.v (.slice none 0 0),.v (.slice none 0 0),.v (.int .i64 0),.v (.int .i64 0),.v (.int .i64 0),.v (.int .i64 0),.v (.int .i64 0),.v (.int .i64 0),.v (.int .i64 0),.v (.slice none 0 0),.v (.int .i64 0),.v (.int .i64 0)])]) [] ?_ sH sH
 refine aA.nilOwn (l':=[(24,.ptr 0 0),(2,.ptr 10 0),(0,.ptr 0 0)]) (H':=[psB src (ix L r7),tkB L,(10,.cells 61 [.v (.string a1),.v (.string a3),.v (.int .i64 a5),.v (.int .i64 a7),.buf 11,.v (.slice none 0 0),.v (.slice none 0 0),.v (.int .i64 0),.v (.int .i64 0),.v (.int .i64 0),.v (.int .i64 0),.v (.int .i64 0),.v (.int .i64 0),.v (.int .i64 0),.v (.slice none 0 0),.v (.int .i64 0),.v (.int .i64 0)])]) 52 4 ?_ (by rfl) (by rfl) (by rfl)
 refine aA.callN (rX src L r7 s7 (B wIf)) [0,1,2,3,4,5,6,7,8,9] ?_ sH ?CNa8
 case CNa8=>rfl
 intro _ _
 conv=>whnf
 (try refine gS ?_);conv=>whnf
 cases hA:isA (B wIf) r7 with
 |false=>
  have b8:lD 1 (B wIf) [] (sZ lA 6) r7=.ok [] r7:=aDQ (by rw [←tA K s7 (V.w wIf (by simp)),hA])
  (try refine gS ?_);conv=>whnf
  refine aA.callN (bE src L r7 s7 hL [B [123]] (by decide)) [0,1,2,3,4,5,6,7,8,9,12] ?_ sH ?CNa9
  case CNa9=>rfl
  rintro (⟨_,r9⟩|⟨r9,e9⟩) h9<;>conv=>whnf
  all_goals rw [fO K s7 (V.s 123 (by decide))] at h9
  rotate_left
  ·try refine aA.panicU ?_
   exact aE.pan Tryz.func78 (aL.mk ((Rs.bad r9 e9:Rs RcV)) ((by unfold fT;rw [aB h1.symm,aB h2.symm,aB h3.symm,aB h4.symm,aB h5.symm,aB h6.symm,aB h7.symm,aB b8,aH h9.symm])) [] sH rfl rfl (aT rfl))
  have s9:=(((bI _ _).1).suf _ _ _ h9.symm).trans s7
  refine aA.subR (nx':=12) (l':=[(2,.ptr 10 0),(0,.ptr 0 0)]) (H':=[psB src (ix L r9),tkB L,(10,.cells 61 [.v (.string a1),.v (.string a3),.v (.int .i64 a5),.v (.int .i64 a7),.buf 11,.v (.slice none 0 0),.v (.slice none 0 0),.v (.int .i64 0),.v (.int .i64 0),.v (.int .i64 0),.v (.int .i64 0),.v (.int .i64 0),.v (.int .i64 0),.v (.int .i64 0),.v (.slice none 0 0),.v (.int .i64 0),.v (.int .i64 0)]),(11,.own 52 4 (rws Cd.row []))]) [] ?_ sH sH
  (try refine gS ?_);conv=>whnf
  refine aA.callN (aMR src L r9 s9 hL K V wIn (V.w wIn (by simp)) 8 (by decide)) [0,1,2,3,4,5,6,7,8,9] ?_ sH ?CNa10
  case CNa10=>rfl
  rintro (⟨a10,r10⟩|⟨r10,e10⟩) h10<;>conv=>whnf
  rotate_left
  ·try refine aA.panicU ?_
   exact aE.pan Tryz.func78 (aL.mk ((Rs.bad r10 e10:Rs RcV)) ((by unfold fT;rw [aB h1.symm,aB h2.symm,aB h3.symm,aB h4.symm,aB h5.symm,aB h6.symm,aB h7.symm,aB b8,aB h9.symm,aH h10.symm])) [] sH rfl rfl (aT rfl))
  have s10:=((eH in_g.g 8).suf _ _ _ h10.symm).trans s9
  refine aA.subR (nx':=13) (l':=[(40,.buf 12),(2,.ptr 10 0),(0,.ptr 0 0)]) (H':=[psB src (ix L r10),tkB L,(10,.cells 61 [.v (.string a1),.v (.string a3),.v (.int .i64 a5),.v (.int .i64 a7),.buf 11,.v (.slice none 0 0),.v (.slice none 0 0),.v (.int .i64 0),.v (.int .i64 0),.v (.int .i64 0),.v (.int .i64 0),.v (.int .i64 0),.v (.int .i64 0),.v (.int .i64 0),.v (.slice none 0 0),.v (.int .i64 0),.v (.int .i64 0)]),(11,.own 52 4 (rws Cd.row [])),(12,.own 55 7 (rws Am.row a10))]) [] ?_ sH sH
  (try refine gS ?_);conv=>whnf
  refine aA.callN (aHN src L r10 s10 hL K V lB (V.w lB (by simp)) 8 (by decide)) [0,1,2,3,4,5,6,7,8,9] ?_ sH ?CNa11
  case CNa11=>rfl
  rintro (⟨a11,r11⟩|⟨r11,e11⟩) h11<;>conv=>whnf
  rotate_left
  ·try refine aA.panicU ?_
   exact aE.pan Tryz.func78 (aL.mk ((Rs.bad r11 e11:Rs RcV)) ((by unfold fT;rw [aB h1.symm,aB h2.symm,aB h3.symm,aB h4.symm,aB h5.symm,aB h6.symm,aB h7.symm,aB b8,aB h9.symm,aB h10.symm,aH h11.symm])) [] sH rfl rfl (aT rfl))
  have s11:=((eH aAF.g 8).suf _ _ _ h11.symm).trans s10
  refine aA.subR (nx':=14) (l':=[(43,.buf 13),(2,.ptr 10 0),(0,.ptr 0 0)]) (H':=[psB src (ix L r11),tkB L,(10,.cells 61 [.v (.string a1),.v (.string a3),.v (.int .i64 a5),.v (.int .i64 a7),.buf 11,.buf 12,.v (.slice none 0 0),.v (.int .i64 0),.v (.int .i64 0),.v (.int .i64 0),.v (.int .i64 0),.v (.int .i64 0),.v (.int .i64 0),.v (.int .i64 0),.v (.slice none 0 0),.v (.int .i64 0),.v (.int .i64 0)]),(11,.own 52 4 (rws Cd.row [])),(12,.own 55 7 (rws Am.row a10)),(13,.own 55 7 (rws Am.row a11))]) [] ?_ sH sH
  (try refine gS ?_);conv=>whnf
  refine aA.callN (bE src L r11 s11 hL [B gQ] (by decide)) [0,1,2,3,4,5,6,7,8,9,14] ?_ sH ?CNa12
  case CNa12=>rfl
  rintro (⟨_,r12⟩|⟨r12,e12⟩) h12<;>conv=>whnf
  all_goals rw [kR K s11 (V.w gQ (by simp))] at h12
  rotate_left
  ·try refine aA.panicU ?_
   exact aE.pan Tryz.func78 (aL.mk ((Rs.bad r12 e12:Rs RcV)) ((by unfold fT;rw [aB h1.symm,aB h2.symm,aB h3.symm,aB h4.symm,aB h5.symm,aB h6.symm,aB h7.symm,aB b8,aB h9.symm,aB h10.symm,aB h11.symm,aH h12.symm])) [] sH rfl rfl (aT rfl))
  have s12:=(((bI _ _).1).suf _ _ _ h12.symm).trans s11
  refine aA.subR (nx':=14) (l':=[(2,.ptr 10 0),(0,.ptr 0 0)]) (H':=[psB src (ix L r12),tkB L,(10,.cells 61 [.v (.string a1),.v (.string a3),.v (.int .i64 a5),.v (.int .i64 a7),.buf 11,.buf 12,.buf 13,.v (.int .i64 0),.v (.int .i64 0),.v (.int .i64 0),.v (.int .i64 0),.v (.int .i64 0),.v (.int .i64 0),.v (.int .i64 0),.v (.slice none 0 0),.v (.int .i64 0),.v (.int .i64 0)]),(11,.own 52 4 (rws Cd.row [])),(12,.own 55 7 (rws Am.row a10)),(13,.own 55 7 (rws Am.row a11))]) [] ?_ sH sH
  (try refine gS ?_);conv=>whnf
  refine aA.callN (nA src L r12 s12 hL K V) [0,1,2,3,4,5,6,7,8,9] ?_ sH ?CNa13
  case CNa13=>rfl
  rintro (⟨⟨a13,b13⟩,r13⟩|⟨r13,e13⟩) h13<;>conv=>whnf
  rotate_left
  ·try refine aA.panicU ?_
   exact aE.pan Tryz.func78 (aL.mk ((Rs.bad r13 e13:Rs RcV)) ((by unfold fT;rw [aB h1.symm,aB h2.symm,aB h3.symm,aB h4.symm,aB h5.symm,aB h6.symm,aB h7.symm,aB b8,aB h9.symm,aB h10.symm,aB h11.symm,aB h12.symm,aH h13.symm])) [] sH rfl rfl (aT rfl))
  have s13:=((gY.g).suf _ _ _ h13.symm).trans s12
  refine aA.subR (nx':=14) (l':=[(50,.tup [.v (.int .i64 a13),.v (.int .i64 b13)]),(2,.ptr 10 0),(0,.ptr 0 0)]) (H':=[psB src (ix L r13),tkB L,(10,.cells 61 [.v (.string a1),.v (.string a3),.v (.int .i64 a5),.v (.int .i64 a7),.buf 11,.buf 12,.buf 13,.v (.int .i64 0),.v (.int .i64 0),.v (.int .i64 0),.v (.int .i64 0),.v (.int .i64 0),.v (.int .i64 0),.v (.int .i64 0),.v (.slice none 0 0),.v (.int .i64 0),.v (.int .i64 0)]),(11,.own 52 4 (rws Cd.row [])),(12,.own 55 7 (rws Am.row a10)),(13,.own 55 7 (rws Am.row a11))]) [] ?_ sH sH
  (try refine gS ?_);conv=>whnf
  refine aA.callN (bE src L r13 s13 hL [B [59],B jQ] (by decide)) [0,1,2,3,4,5,6,7,8,9,14] ?_ sH ?CNa14
  case CNa14=>rfl
  rintro (⟨_,r14⟩|⟨r14,e14⟩) h14<;>conv=>whnf
  all_goals rw [aAZ K s13 (V.s 59 (by decide)) (V.w jQ (by simp))] at h14
  rotate_left
  ·try refine aA.panicU ?_
   exact aE.pan Tryz.func78 (aL.mk ((Rs.bad r14 e14:Rs RcV)) ((by unfold fT;rw [aB h1.symm,aB h2.symm,aB h3.symm,aB h4.symm,aB h5.symm,aB h6.symm,aB h7.symm,aB b8,aB h9.symm,aB h10.symm,aB h11.symm,aB h12.symm,aB h13.symm,bZ,aH h14.symm])) [] sH rfl rfl (aT rfl))
  have s14:=((hZ (bI _ _).1 fun _=>(bI _ _).1).suf _ _ _ h14.symm).trans s13
  refine aA.subR (nx':=14) (l':=[(2,.ptr 10 0),(0,.ptr 0 0)]) (H':=[psB src (ix L r14),tkB L,(10,.cells 61 [.v (.string a1),.v (.string a3),.v (.int .i64 a5),.v (.int .i64 a7),.buf 11,.buf 12,.buf 13,.v (.int .i64 a13),.v (.int .i64 b13),.v (.int .i64 0),.v (.int .i64 0),.v (.int .i64 0),.v (.int .i64 0),.v (.int .i64 0),.v (.slice none 0 0),.v (.int .i64 0),.v (.int .i64 0)]),(11,.own 52 4 (rws Cd.row [])),(12,.own 55 7 (rws Am.row a10)),(13,.own 55 7 (rws Am.row a11))]) [] ?_ sH sH
  (try refine gS ?_);conv=>whnf
  refine aA.callN (nA src L r14 s14 hL K V) [0,1,2,3,4,5,6,7,8,9] ?_ sH ?CNa15
  case CNa15=>rfl
  rintro (⟨⟨a15,b15⟩,r15⟩|⟨r15,e15⟩) h15<;>conv=>whnf
  rotate_left
  ·try refine aA.panicU ?_
   exact aE.pan Tryz.func78 (aL.mk ((Rs.bad r15 e15:Rs RcV)) ((by unfold fT;rw [aB h1.symm,aB h2.symm,aB h3.symm,aB h4.symm,aB h5.symm,aB h6.symm,aB h7.symm,aB b8,aB h9.symm,aB h10.symm,aB h11.symm,aB h12.symm,aB h13.symm,bZ,aB h14.symm,aH h15.symm])) [] sH rfl rfl (aT rfl))
  have s15:=((gY.g).suf _ _ _ h15.symm).trans s14
  refine aA.subR (nx':=14) (l':=[(60,.tup [.v (.int .i64 a15),.v (.int .i64 b15)]),(2,.ptr 10 0),(0,.ptr 0 0)]) (H':=[psB src (ix L r15),tkB L,(10,.cells 61 [.v (.string a1),.v (.string a3),.v (.int .i64 a5),.v (.int .i64 a7),.buf 11,.buf 12,.buf 13,.v (.int .i64 a13),.v (.int .i64 b13),.v (.int .i64 0),.v (.int .i64 0),.v (.int .i64 0),.v (.int .i64 0),.v (.int .i64 0),.v (.slice none 0 0),.v (.int .i64 0),.v (.int .i64 0)]),(11,.own 52 4 (rws Cd.row [])),(12,.own 55 7 (rws Am.row a10)),(13,.own 55 7 (rws Am.row a11))]) [] ?_ sH sH
  (try refine gS ?_);conv=>whnf
  refine aA.callN (bE src L r15 s15 hL [B gN] (by decide)) [0,1,2,3,4,5,6,7,8,9,14] ?_ sH ?CNa16
  case CNa16=>rfl
  rintro (⟨_,r16⟩|⟨r16,e16⟩) h16<;>conv=>whnf
  all_goals rw [kR K s15 (V.w gN (by simp))] at h16
  rotate_left
  ·try refine aA.panicU ?_
   exact aE.pan Tryz.func78 (aL.mk ((Rs.bad r16 e16:Rs RcV)) ((by unfold fT;rw [aB h1.symm,aB h2.symm,aB h3.symm,aB h4.symm,aB h5.symm,aB h6.symm,aB h7.symm,aB b8,aB h9.symm,aB h10.symm,aB h11.symm,aB h12.symm,aB h13.symm,bZ,aB h14.symm,aB h15.symm,aH h16.symm])) [] sH rfl rfl (aT rfl))
  have s16:=(((bI _ _).1).suf _ _ _ h16.symm).trans s15
  refine aA.subR (nx':=14) (l':=[(2,.ptr 10 0),(0,.ptr 0 0)]) (H':=[psB src (ix L r16),tkB L,(10,.cells 61 [.v (.string a1),.v (.string a3),.v (.int .i64 a5),.v (.int .i64 a7),.buf 11,.buf 12,.buf 13,.v (.int .i64 a13),.v (.int .i64 b13),.v (.int .i64 a15),.v (.int .i64 b15),.v (.int .i64 0),.v (.int .i64 0),.v (.int .i64 0),.v (.slice none 0 0),.v (.int .i64 0),.v (.int .i64 0)]),(11,.own 52 4 (rws Cd.row [])),(12,.own 55 7 (rws Am.row a10)),(13,.own 55 7 (rws Am.row a11))]) [] ?_ sH sH
  (try refine gS ?_);conv=>whnf
  refine aA.callN (nA src L r16 s16 hL K V) [0,1,2,3,4,5,6,7,8,9] ?_ sH ?CNa17
  case CNa17=>rfl
  rintro (⟨⟨a17,b17⟩,r17⟩|⟨r17,e17⟩) h17<;>conv=>whnf
  rotate_left
  ·try refine aA.panicU ?_
   exact aE.pan Tryz.func78 (aL.mk ((Rs.bad r17 e17:Rs RcV)) ((by unfold fT;rw [aB h1.symm,aB h2.symm,aB h3.symm,aB h4.symm,aB h5.symm,aB h6.symm,aB h7.symm,aB b8,aB h9.symm,aB h10.symm,aB h11.symm,aB h12.symm,aB h13.symm,bZ,aB h14.symm,aB h15.symm,aB h16.symm,aH h17.symm])) [] sH rfl rfl (aT rfl))
  have s17:=((gY.g).suf _ _ _ h17.symm).trans s16
  refine aA.subR (nx':=14) (l':=[(70,.tup [.v (.int .i64 a17),.v (.int .i64 b17)]),(2,.ptr 10 0),(0,.ptr 0 0)]) (H':=[psB src (ix L r17),tkB L,(10,.cells 61 [.v (.string a1),.v (.string a3),.v (.int .i64 a5),.v (.int .i64 a7),.buf 11,.buf 12,.buf 13,.v (.int .i64 a13),.v (.int .i64 b13),.v (.int .i64 a15),.v (.int .i64 b15),.v (.int .i64 0),.v (.int .i64 0),.v (.int .i64 0),.v (.slice none 0 0),.v (.int .i64 0),.v (.int .i64 0)]),(11,.own 52 4 (rws Cd.row [])),(12,.own 55 7 (rws Am.row a10)),(13,.own 55 7 (rws Am.row a11))]) [] ?_ sH sH
  (try refine gS ?_);conv=>whnf
  refine aA.callN (bE src L r17 s17 hL [B [59],B nY] (by decide)) [0,1,2,3,4,5,6,7,8,9,14] ?_ sH ?CNa18
  case CNa18=>rfl
  rintro (⟨_,r18⟩|⟨r18,e18⟩) h18<;>conv=>whnf
  all_goals rw [aAZ K s17 (V.s 59 (by decide)) (V.w nY (by simp))] at h18
  rotate_left
  ·try refine aA.panicU ?_
   exact aE.pan Tryz.func78 (aL.mk ((Rs.bad r18 e18:Rs RcV)) ((by unfold fT;rw [aB h1.symm,aB h2.symm,aB h3.symm,aB h4.symm,aB h5.symm,aB h6.symm,aB h7.symm,aB b8,aB h9.symm,aB h10.symm,aB h11.symm,aB h12.symm,aB h13.symm,bZ,aB h14.symm,aB h15.symm,aB h16.symm,aB h17.symm,bZ,aH h18.symm])) [] sH rfl rfl (aT rfl))
  have s18:=((hZ (bI _ _).1 fun _=>(bI _ _).1).suf _ _ _ h18.symm).trans s17
  refine aA.subR (nx':=14) (l':=[(2,.ptr 10 0),(0,.ptr 0 0)]) (H':=[psB src (ix L r18),tkB L,(10,.cells 61 [.v (.string a1),.v (.string a3),.v (.int .i64 a5),.v (.int .i64 a7),.buf 11,.buf 12,.buf 13,.v (.int .i64 a13),.v (.int .i64 b13),.v (.int .i64 a15),.v (.int .i64 b15),.v (.int .i64 a17),.v (.int .i64 b17),.v (.int .i64 0),.v (.slice none 0 0),.v (.int .i64 0),.v (.int .i64 0)]),(11,.own 52 4 (rws Cd.row [])),(12,.own 55 7 (rws Am.row a10)),(13,.own 55 7 (rws Am.row a11))]) [] ?_ sH sH
  (try refine gS ?_);conv=>whnf
  refine aA.callN (jD src L r18 s18 hL) [0,1,2,3,4,5,6,7,8,9] ?_ sH ?CNa19
  case CNa19=>rfl
  rintro (⟨a19,r19⟩|⟨r19,e19⟩) h19<;>conv=>whnf
  rotate_left
  ·try refine aA.panicU ?_
   exact aE.pan Tryz.func78 (aL.mk ((Rs.bad r19 e19:Rs RcV)) ((by unfold fT;rw [aB h1.symm,aB h2.symm,aB h3.symm,aB h4.symm,aB h5.symm,aB h6.symm,aB h7.symm,aB b8,aB h9.symm,aB h10.symm,aB h11.symm,aB h12.symm,aB h13.symm,bZ,aB h14.symm,aB h15.symm,aB h16.symm,aB h17.symm,bZ,aB h18.symm,aH h19.symm])) [] sH rfl rfl (aT rfl))
  have s19:=((mD.g).suf _ _ _ h19.symm).trans s18
  refine aA.subR (nx':=14) (l':=[(79,.v (.int .i64 a19)),(2,.ptr 10 0),(0,.ptr 0 0)]) (H':=[psB src (ix L r19),tkB L,(10,.cells 61 [.v (.string a1),.v (.string a3),.v (.int .i64 a5),.v (.int .i64 a7),.buf 11,.buf 12,.buf 13,.v (.int .i64 a13),.v (.int .i64 b13),.v (.int .i64 a15),.v (.int .i64 b15),.v (.int .i64 a17),.v (.int .i64 b17),.v (.int .i64 0),.v (.slice none 0 0),.v (.int .i64 0),.v (.int .i64 0)]),(11,.own 52 4 (rws Cd.row [])),(12,.own 55 7 (rws Am.row a10)),(13,.own 55 7 (rws Am.row a11))]) [] ?_ sH sH
  (try refine gS ?_);conv=>whnf
  refine aA.callN (bE src L r19 s19 hL [B [59]] (by decide)) [0,1,2,3,4,5,6,7,8,9,14] ?_ sH ?CNa20
  case CNa20=>rfl
  rintro (⟨_,r20⟩|⟨r20,e20⟩) h20<;>conv=>whnf
  all_goals rw [fO K s19 (V.s 59 (by decide))] at h20
  rotate_left
  ·try refine aA.panicU ?_
   exact aE.pan Tryz.func78 (aL.mk ((Rs.bad r20 e20:Rs RcV)) ((by unfold fT;rw [aB h1.symm,aB h2.symm,aB h3.symm,aB h4.symm,aB h5.symm,aB h6.symm,aB h7.symm,aB b8,aB h9.symm,aB h10.symm,aB h11.symm,aB h12.symm,aB h13.symm,bZ,aB h14.symm,aB h15.symm,aB h16.symm,aB h17.symm,bZ,aB h18.symm,aB h19.symm,aH h20.symm])) [] sH rfl rfl (aT rfl))
  have s20:=(((bI _ _).1).suf _ _ _ h20.symm).trans s19
  refine aA.subR (nx':=14) (l':=[(2,.ptr 10 0),(0,.ptr 0 0)]) (H':=[psB src (ix L r20),tkB L,(10,.cells 61 [.v (.string a1),.v (.string a3),.v (.int .i64 a5),.v (.int .i64 a7),.buf 11,.buf 12,.buf 13,.v (.int .i64 a13),.v (.int .i64 b13),.v (.int .i64 a15),.v (.int .i64 b15),.v (.int .i64 a17),.v (.int .i64 b17),.v (.int .i64 a19),.v (.slice none 0 0),.v (.int .i64 0),.v (.int .i64 0)]),(11,.own 52 4 (rws Cd.row [])),(12,.own 55 7 (rws Am.row a10)),(13,.own 55 7 (rws Am.row a11))]) [] ?_ sH sH
  (try refine gS ?_);conv=>whnf
  refine aA.callN (aJF src L r20 s20 hL K V oD (V.w oD (by simp)) 8 (by decide)) [0,1,2,3,4,5,6,7,8,9] ?_ sH ?CNa21
  case CNa21=>rfl
  rintro (⟨a21,r21⟩|⟨r21,e21⟩) h21<;>conv=>whnf
  rotate_left
  ·try refine aA.panicU ?_
   exact aE.pan Tryz.func78 (aL.mk ((Rs.bad r21 e21:Rs RcV)) ((by unfold fT;rw [aB h1.symm,aB h2.symm,aB h3.symm,aB h4.symm,aB h5.symm,aB h6.symm,aB h7.symm,aB b8,aB h9.symm,aB h10.symm,aB h11.symm,aB h12.symm,aB h13.symm,bZ,aB h14.symm,aB h15.symm,aB h16.symm,aB h17.symm,bZ,aB h18.symm,aB h19.symm,aB h20.symm,aH h21.symm])) [] sH rfl rfl (aT rfl))
  have s21:=((eH aFE.g 8).suf _ _ _ h21.symm).trans s20
  refine aA.subR (nx':=15) (l':=[(85,.buf 14),(2,.ptr 10 0),(0,.ptr 0 0)]) (H':=[psB src (ix L r21),tkB L,(10,.cells 61 [.v (.string a1),.v (.string a3),.v (.int .i64 a5),.v (.int .i64 a7),.buf 11,.buf 12,.buf 13,.v (.int .i64 a13),.v (.int .i64 b13),.v (.int .i64 a15),.v (.int .i64 b15),.v (.int .i64 a17),.v (.int .i64 b17),.v (.int .i64 a19),.v (.slice none 0 0),.v (.int .i64 0),.v (.int .i64 0)]),(11,.own 52 4 (rws Cd.row [])),(12,.own 55 7 (rws Am.row a10)),(13,.own 55 7 (rws Am.row a11)),(14,.own 58 3 (rws Rn.row a21))]) [] ?_ sH sH
  (try refine gS ?_);conv=>whnf
  refine aA.callN (bE src L r21 s21 hL [B [125]] (by decide)) [0,1,2,3,4,5,6,7,8,9,15] ?_ sH ?CNa22
  case CNa22=>rfl
  rintro (⟨_,r22⟩|⟨r22,e22⟩) h22<;>conv=>whnf
  all_goals rw [fO K s21 (V.s 125 (by decide))] at h22
  rotate_left
  ·try refine aA.panicU ?_
   exact aE.pan Tryz.func78 (aL.mk ((Rs.bad r22 e22:Rs RcV)) ((by unfold fT;rw [aB h1.symm,aB h2.symm,aB h3.symm,aB h4.symm,aB h5.symm,aB h6.symm,aB h7.symm,aB b8,aB h9.symm,aB h10.symm,aB h11.symm,aB h12.symm,aB h13.symm,bZ,aB h14.symm,aB h15.symm,aB h16.symm,aB h17.symm,bZ,aB h18.symm,aB h19.symm,aB h20.symm,aB h21.symm,aH h22.symm])) [] sH rfl rfl (aT rfl))
  have s22:=(((bI _ _).1).suf _ _ _ h22.symm).trans s21
  refine aA.subR (nx':=15) (l':=[(2,.ptr 10 0),(0,.ptr 0 0)]) (H':=[psB src (ix L r22),tkB L,(10,.cells 61 [.v (.string a1),.v (.string a3),.v (.int .i64 a5),.v (.int .i64 a7),.buf 11,.buf 12,.buf 13,.v (.int .i64 a13),.v (.int .i64 b13),.v (.int .i64 a15),.v (.int .i64 b15),.v (.int .i64 a17),.v (.int .i64 b17),.v (.int .i64 a19),.buf 14,.v (.int .i64 0),.v (.int .i64 0)]),(11,.own 52 4 (rws Cd.row [])),(12,.own 55 7 (rws Am.row a10)),(13,.own 55 7 (rws Am.row a11)),(14,.own 58 3 (rws Rn.row a21))]) [] ?_ sH sH
  (try refine gS ?_);conv=>whnf
  try refine aA.retU ?_
  exact aE.ret tab Tryz.func78 rfl (aL.mk ((Rs.ok ⟨a1,a3,a5,a7,hd0,[],hd0,a10,hd0,a11,a13,b13,a15,b15,a17,b17,a19,hd0,a21,0,0⟩ r22:Rs RcV)) ((by unfold fT;rw [aB h1.symm,aB h2.symm,aB h3.symm,aB h4.symm,aB h5.symm,aB h6.symm,aB h7.symm,aB b8,aB h9.symm,aB h10.symm,aB h11.symm,aB h12.symm,aB h13.symm,bZ,aB h14.symm,aB h15.symm,aB h16.symm,aB h17.symm,bZ,aB h18.symm,aB h19.symm,aB h20.symm,aB h21.symm,aB h22.symm];rfl)) [(10,11),(11,12),(12,13),(13,14)] sH rfl rfl (aY rfl rfl))
 |true=>
  obtain ⟨x,q,rfl⟩:=lG hA
  have hT:isT 1 (B wIf) (x::q)=true:=by rw [←tA K s7 (V.w wIf (by simp)),hA]
  have hx:=uD s7
  conv=>whnf
  repeat ((first|(guard_target=_∧_;(first|refine oL ?_|refine oR ?_))|(guard_target=Exists _;refine oM ?_));(try intro _);conv=>whnf)
  rw [rW s7]
  refine aA.callN (aNV src L q (cC s7) hL K V 6 (by decide) (by decide)) [0,1,2,3,4,5,6,7,8,9] ?_ sH ?CNa23
  case CNa23=>rfl
  rintro (⟨a8,r8⟩|⟨r8,e8⟩) h8<;>conv=>whnf
  rotate_left
  ·have b8:lD 1 (B wIf) [] (sZ lA 6) (x::q)=.bad r8 e8:=pA hT h8.symm
   exact aE.pan Tryz.func78 (aL.mk ((Rs.bad r8 e8:Rs RcV)) ((by unfold fT;rw [aB h1.symm,aB h2.symm,aB h3.symm,aB h4.symm,aB h5.symm,aB h6.symm,aB h7.symm,aH b8])) [] sH rfl rfl (aT rfl))
  have b8:lD 1 (B wIf) [] (sZ lA 6) (x::q)=.ok a8 r8:=pA hT h8.symm
  have s8:=((mX sE.g 6).suf _ _ _ h8.symm).trans (cC s7)
  refine aA.subR (nx':=13) (l':=[(34,.buf 12),(2,.ptr 10 0),(0,.ptr 0 0)]) (H':=[psB src (ix L r8),tkB L,(10,.cells 61 [.v (.string a1),.v (.string a3),.v (.int .i64 a5),.v (.int .i64 a7),.buf 11,.v (.slice none 0 0),.v (.slice none 0 0),.v (.int .i64 0),.v (.int .i64 0),.v (.int .i64 0),.v (.int .i64 0),.v (.int .i64 0),.v (.int .i64 0),.v (.int .i64 0),.v (.slice none 0 0),.v (.int .i64 0),.v (.int .i64 0)]),(12,.own 52 4 (rws Cd.row a8))]) [] ?_ sH sH
  (try refine gS ?_);conv=>whnf
  refine aA.callN (bE src L r8 s8 hL [B [123]] (by decide)) [0,1,2,3,4,5,6,7,8,9,13] ?_ sH ?CNa24
  case CNa24=>rfl
  rintro (⟨_,r9⟩|⟨r9,e9⟩) h9<;>conv=>whnf
  all_goals rw [fO K s8 (V.s 123 (by decide))] at h9
  rotate_left
  ·try refine aA.panicU ?_
   exact aE.pan Tryz.func78 (aL.mk ((Rs.bad r9 e9:Rs RcV)) ((by unfold fT;rw [aB h1.symm,aB h2.symm,aB h3.symm,aB h4.symm,aB h5.symm,aB h6.symm,aB h7.symm,aB b8,aH h9.symm])) [] sH rfl rfl (aT rfl))
  have s9:=(((bI _ _).1).suf _ _ _ h9.symm).trans s8
  refine aA.subR (nx':=13) (l':=[(2,.ptr 10 0),(0,.ptr 0 0)]) (H':=[psB src (ix L r9),tkB L,(10,.cells 61 [.v (.string a1),.v (.string a3),.v (.int .i64 a5),.v (.int .i64 a7),.buf 12,.v (.slice none 0 0),.v (.slice none 0 0),.v (.int .i64 0),.v (.int .i64 0),.v (.int .i64 0),.v (.int .i64 0),.v (.int .i64 0),.v (.int .i64 0),.v (.int .i64 0),.v (.slice none 0 0),.v (.int .i64 0),.v (.int .i64 0)]),(12,.own 52 4 (rws Cd.row a8))]) [] ?_ sH sH
  (try refine gS ?_);conv=>whnf
  refine aA.callN (aMR src L r9 s9 hL K V wIn (V.w wIn (by simp)) 8 (by decide)) [0,1,2,3,4,5,6,7,8,9] ?_ sH ?CNa25
  case CNa25=>rfl
  rintro (⟨a10,r10⟩|⟨r10,e10⟩) h10<;>conv=>whnf
  rotate_left
  ·try refine aA.panicU ?_
   exact aE.pan Tryz.func78 (aL.mk ((Rs.bad r10 e10:Rs RcV)) ((by unfold fT;rw [aB h1.symm,aB h2.symm,aB h3.symm,aB h4.symm,aB h5.symm,aB h6.symm,aB h7.symm,aB b8,aB h9.symm,aH h10.symm])) [] sH rfl rfl (aT rfl))
  have s10:=((eH in_g.g 8).suf _ _ _ h10.symm).trans s9
  refine aA.subR (nx':=14) (l':=[(40,.buf 13),(2,.ptr 10 0),(0,.ptr 0 0)]) (H':=[psB src (ix L r10),tkB L,(10,.cells 61 [.v (.string a1),.v (.string a3),.v (.int .i64 a5),.v (.int .i64 a7),.buf 12,.v (.slice none 0 0),.v (.slice none 0 0),.v (.int .i64 0),.v (.int .i64 0),.v (.int .i64 0),.v (.int .i64 0),.v (.int .i64 0),.v (.int .i64 0),.v (.int .i64 0),.v (.slice none 0 0),.v (.int .i64 0),.v (.int .i64 0)]),(12,.own 52 4 (rws Cd.row a8)),(13,.own 55 7 (rws Am.row a10))]) [] ?_ sH sH
  (try refine gS ?_);conv=>whnf
  refine aA.callN (aHN src L r10 s10 hL K V lB (V.w lB (by simp)) 8 (by decide)) [0,1,2,3,4,5,6,7,8,9] ?_ sH ?CNa26
  case CNa26=>rfl
  rintro (⟨a11,r11⟩|⟨r11,e11⟩) h11<;>conv=>whnf
  rotate_left
  ·try refine aA.panicU ?_
   exact aE.pan Tryz.func78 (aL.mk ((Rs.bad r11 e11:Rs RcV)) ((by unfold fT;rw [aB h1.symm,aB h2.symm,aB h3.symm,aB h4.symm,aB h5.symm,aB h6.symm,aB h7.symm,aB b8,aB h9.symm,aB h10.symm,aH h11.symm])) [] sH rfl rfl (aT rfl))
  have s11:=((eH aAF.g 8).suf _ _ _ h11.symm).trans s10
  refine aA.subR (nx':=15) (l':=[(43,.buf 14),(2,.ptr 10 0),(0,.ptr 0 0)]) (H':=[psB src (ix L r11),tkB L,(10,.cells 61 [.v (.string a1),.v (.string a3),.v (.int .i64 a5),.v (.int .i64 a7),.buf 12,.buf 13,.v (.slice none 0 0),.v (.int .i64 0),.v (.int .i64 0),.v (.int .i64 0),.v (.int .i64 0),.v (.int .i64 0),.v (.int .i64 0),.v (.int .i64 0),.v (.slice none 0 0),.v (.int .i64 0),.v (.int .i64 0)]),(12,.own 52 4 (rws Cd.row a8)),(13,.own 55 7 (rws Am.row a10)),(14,.own 55 7 (rws Am.row a11))]) [] ?_ sH sH
  (try refine gS ?_);conv=>whnf
  refine aA.callN (bE src L r11 s11 hL [B gQ] (by decide)) [0,1,2,3,4,5,6,7,8,9,15] ?_ sH ?CNa27
  case CNa27=>rfl
  rintro (⟨_,r12⟩|⟨r12,e12⟩) h12<;>conv=>whnf
  all_goals rw [kR K s11 (V.w gQ (by simp))] at h12
  rotate_left
  ·try refine aA.panicU ?_
   exact aE.pan Tryz.func78 (aL.mk ((Rs.bad r12 e12:Rs RcV)) ((by unfold fT;rw [aB h1.symm,aB h2.symm,aB h3.symm,aB h4.symm,aB h5.symm,aB h6.symm,aB h7.symm,aB b8,aB h9.symm,aB h10.symm,aB h11.symm,aH h12.symm])) [] sH rfl rfl (aT rfl))
  have s12:=(((bI _ _).1).suf _ _ _ h12.symm).trans s11
  refine aA.subR (nx':=15) (l':=[(2,.ptr 10 0),(0,.ptr 0 0)]) (H':=[psB src (ix L r12),tkB L,(10,.cells 61 [.v (.string a1),.v (.string a3),.v (.int .i64 a5),.v (.int .i64 a7),.buf 12,.buf 13,.buf 14,.v (.int .i64 0),.v (.int .i64 0),.v (.int .i64 0),.v (.int .i64 0),.v (.int .i64 0),.v (.int .i64 0),.v (.int .i64 0),.v (.slice none 0 0),.v (.int .i64 0),.v (.int .i64 0)]),(12,.own 52 4 (rws Cd.row a8)),(13,.own 55 7 (rws Am.row a10)),(14,.own 55 7 (rws Am.row a11))]) [] ?_ sH sH
  (try refine gS ?_);conv=>whnf
  refine aA.callN (nA src L r12 s12 hL K V) [0,1,2,3,4,5,6,7,8,9] ?_ sH ?CNa28
  case CNa28=>rfl
  rintro (⟨⟨a13,b13⟩,r13⟩|⟨r13,e13⟩) h13<;>conv=>whnf
  rotate_left
  ·try refine aA.panicU ?_
   exact aE.pan Tryz.func78 (aL.mk ((Rs.bad r13 e13:Rs RcV)) ((by unfold fT;rw [aB h1.symm,aB h2.symm,aB h3.symm,aB h4.symm,aB h5.symm,aB h6.symm,aB h7.symm,aB b8,aB h9.symm,aB h10.symm,aB h11.symm,aB h12.symm,aH h13.symm])) [] sH rfl rfl (aT rfl))
  have s13:=((gY.g).suf _ _ _ h13.symm).trans s12
  refine aA.subR (nx':=15) (l':=[(50,.tup [.v (.int .i64 a13),.v (.int .i64 b13)]),(2,.ptr 10 0),(0,.ptr 0 0)]) (H':=[psB src (ix L r13),tkB L,(10,.cells 61 [.v (.string a1),.v (.string a3),.v (.int .i64 a5),.v (.int .i64 a7),.buf 12,.buf 13,.buf 14,.v (.int .i64 0),.v (.int .i64 0),.v (.int .i64 0),.v (.int .i64 0),.v (.int .i64 0),.v (.int .i64 0),.v (.int .i64 0),.v (.slice none 0 0),.v (.int .i64 0),.v (.int .i64 0)]),(12,.own 52 4 (rws Cd.row a8)),(13,.own 55 7 (rws Am.row a10)),(14,.own 55 7 (rws Am.row a11))]) [] ?_ sH sH
  (try refine gS ?_);conv=>whnf
  refine aA.callN (bE src L r13 s13 hL [B [59],B jQ] (by decide)) [0,1,2,3,4,5,6,7,8,9,15] ?_ sH ?CNa29
  case CNa29=>rfl
  rintro (⟨_,r14⟩|⟨r14,e14⟩) h14<;>conv=>whnf
  all_goals rw [aAZ K s13 (V.s 59 (by decide)) (V.w jQ (by simp))] at h14
  rotate_left
  ·try refine aA.panicU ?_
   exact aE.pan Tryz.func78 (aL.mk ((Rs.bad r14 e14:Rs RcV)) ((by unfold fT;rw [aB h1.symm,aB h2.symm,aB h3.symm,aB h4.symm,aB h5.symm,aB h6.symm,aB h7.symm,aB b8,aB h9.symm,aB h10.symm,aB h11.symm,aB h12.symm,aB h13.symm,bZ,aH h14.symm])) [] sH rfl rfl (aT rfl))
  have s14:=((hZ (bI _ _).1 fun _=>(bI _ _).1).suf _ _ _ h14.symm).trans s13
  refine aA.subR (nx':=15) (l':=[(2,.ptr 10 0),(0,.ptr 0 0)]) (H':=[psB src (ix L r14),tkB L,(10,.cells 61 [.v (.string a1),.v (.string a3),.v (.int .i64 a5),.v (.int .i64 a7),.buf 12,.buf 13,.buf 14,.v (.int .i64 a13),.v (.int .i64 b13),.v (.int .i64 0),.v (.int .i64 0),.v (.int .i64 0),.v (.int .i64 0),.v (.int .i64 0),.v (.slice none 0 0),.v (.int .i64 0),.v (.int .i64 0)]),(12,.own 52 4 (rws Cd.row a8)),(13,.own 55 7 (rws Am.row a10)),(14,.own 55 7 (rws Am.row a11))]) [] ?_ sH sH
  (try refine gS ?_);conv=>whnf
  refine aA.callN (nA src L r14 s14 hL K V) [0,1,2,3,4,5,6,7,8,9] ?_ sH ?CNa30
  case CNa30=>rfl
  rintro (⟨⟨a15,b15⟩,r15⟩|⟨r15,e15⟩) h15<;>conv=>whnf
  rotate_left
  ·try refine aA.panicU ?_
   exact aE.pan Tryz.func78 (aL.mk ((Rs.bad r15 e15:Rs RcV)) ((by unfold fT;rw [aB h1.symm,aB h2.symm,aB h3.symm,aB h4.symm,aB h5.symm,aB h6.symm,aB h7.symm,aB b8,aB h9.symm,aB h10.symm,aB h11.symm,aB h12.symm,aB h13.symm,bZ,aB h14.symm,aH h15.symm])) [] sH rfl rfl (aT rfl))
  have s15:=((gY.g).suf _ _ _ h15.symm).trans s14
  refine aA.subR (nx':=15) (l':=[(60,.tup [.v (.int .i64 a15),.v (.int .i64 b15)]),(2,.ptr 10 0),(0,.ptr 0 0)]) (H':=[psB src (ix L r15),tkB L,(10,.cells 61 [.v (.string a1),.v (.string a3),.v (.int .i64 a5),.v (.int .i64 a7),.buf 12,.buf 13,.buf 14,.v (.int .i64 a13),.v (.int .i64 b13),.v (.int .i64 0),.v (.int .i64 0),.v (.int .i64 0),.v (.int .i64 0),.v (.int .i64 0),.v (.slice none 0 0),.v (.int .i64 0),.v (.int .i64 0)]),(12,.own 52 4 (rws Cd.row a8)),(13,.own 55 7 (rws Am.row a10)),(14,.own 55 7 (rws Am.row a11))]) [] ?_ sH sH
  (try refine gS ?_);conv=>whnf
  refine aA.callN (bE src L r15 s15 hL [B gN] (by decide)) [0,1,2,3,4,5,6,7,8,9,15] ?_ sH ?CNa31
  case CNa31=>rfl
  rintro (⟨_,r16⟩|⟨r16,e16⟩) h16<;>conv=>whnf
  all_goals rw [kR K s15 (V.w gN (by simp))] at h16
  rotate_left
  ·try refine aA.panicU ?_
   exact aE.pan Tryz.func78 (aL.mk ((Rs.bad r16 e16:Rs RcV)) ((by unfold fT;rw [aB h1.symm,aB h2.symm,aB h3.symm,aB h4.symm,aB h5.symm,aB h6.symm,aB h7.symm,aB b8,aB h9.symm,aB h10.symm,aB h11.symm,aB h12.symm,aB h13.symm,bZ,aB h14.symm,aB h15.symm,aH h16.symm])) [] sH rfl rfl (aT rfl))
  have s16:=(((bI _ _).1).suf _ _ _ h16.symm).trans s15
  refine aA.subR (nx':=15) (l':=[(2,.ptr 10 0),(0,.ptr 0 0)]) (H':=[psB src (ix L r16),tkB L,(10,.cells 61 [.v (.string a1),.v (.string a3),.v (.int .i64 a5),.v (.int .i64 a7),.buf 12,.buf 13,.buf 14,.v (.int .i64 a13),.v (.int .i64 b13),.v (.int .i64 a15),.v (.int .i64 b15),.v (.int .i64 0),.v (.int .i64 0),.v (.int .i64 0),.v (.slice none 0 0),.v (.int .i64 0),.v (.int .i64 0)]),(12,.own 52 4 (rws Cd.row a8)),(13,.own 55 7 (rws Am.row a10)),(14,.own 55 7 (rws Am.row a11))]) [] ?_ sH sH
  (try refine gS ?_);conv=>whnf
  refine aA.callN (nA src L r16 s16 hL K V) [0,1,2,3,4,5,6,7,8,9] ?_ sH ?CNa32
  case CNa32=>rfl
  rintro (⟨⟨a17,b17⟩,r17⟩|⟨r17,e17⟩) h17<;>conv=>whnf
  rotate_left
  ·try refine aA.panicU ?_
   exact aE.pan Tryz.func78 (aL.mk ((Rs.bad r17 e17:Rs RcV)) ((by unfold fT;rw [aB h1.symm,aB h2.symm,aB h3.symm,aB h4.symm,aB h5.symm,aB h6.symm,aB h7.symm,aB b8,aB h9.symm,aB h10.symm,aB h11.symm,aB h12.symm,aB h13.symm,bZ,aB h14.symm,aB h15.symm,aB h16.symm,aH h17.symm])) [] sH rfl rfl (aT rfl))
  have s17:=((gY.g).suf _ _ _ h17.symm).trans s16
  refine aA.subR (nx':=15) (l':=[(70,.tup [.v (.int .i64 a17),.v (.int .i64 b17)]),(2,.ptr 10 0),(0,.ptr 0 0)]) (H':=[psB src (ix L r17),tkB L,(10,.cells 61 [.v (.string a1),.v (.string a3),.v (.int .i64 a5),.v (.int .i64 a7),.buf 12,.buf 13,.buf 14,.v (.int .i64 a13),.v (.int .i64 b13),.v (.int .i64 a15),.v (.int .i64 b15),.v (.int .i64 0),.v (.int .i64 0),.v (.int .i64 0),.v (.slice none 0 0),.v (.int .i64 0),.v (.int .i64 0)]),(12,.own 52 4 (rws Cd.row a8)),(13,.own 55 7 (rws Am.row a10)),(14,.own 55 7 (rws Am.row a11))]) [] ?_ sH sH
  (try refine gS ?_);conv=>whnf
  refine aA.callN (bE src L r17 s17 hL [B [59],B nY] (by decide)) [0,1,2,3,4,5,6,7,8,9,15] ?_ sH ?CNa33
  case CNa33=>rfl
  rintro (⟨_,r18⟩|⟨r18,e18⟩) h18<;>conv=>whnf
  all_goals rw [aAZ K s17 (V.s 59 (by decide)) (V.w nY (by simp))] at h18
  rotate_left
  ·try refine aA.panicU ?_
   exact aE.pan Tryz.func78 (aL.mk ((Rs.bad r18 e18:Rs RcV)) ((by unfold fT;rw [aB h1.symm,aB h2.symm,aB h3.symm,aB h4.symm,aB h5.symm,aB h6.symm,aB h7.symm,aB b8,aB h9.symm,aB h10.symm,aB h11.symm,aB h12.symm,aB h13.symm,bZ,aB h14.symm,aB h15.symm,aB h16.symm,aB h17.symm,bZ,aH h18.symm])) [] sH rfl rfl (aT rfl))
  have s18:=((hZ (bI _ _).1 fun _=>(bI _ _).1).suf _ _ _ h18.symm).trans s17
  refine aA.subR (nx':=15) (l':=[(2,.ptr 10 0),(0,.ptr 0 0)]) (H':=[psB src (ix L r18),tkB L,(10,.cells 61 [.v (.string a1),.v (.string a3),.v (.int .i64 a5),.v (.int .i64 a7),.buf 12,.buf 13,.buf 14,.v (.int .i64 a13),.v (.int .i64 b13),.v (.int .i64 a15),.v (.int .i64 b15),.v (.int .i64 a17),.v (.int .i64 b17),.v (.int .i64 0),.v (.slice none 0 0),.v (.int .i64 0),.v (.int .i64 0)]),(12,.own 52 4 (rws Cd.row a8)),(13,.own 55 7 (rws Am.row a10)),(14,.own 55 7 (rws Am.row a11))]) [] ?_ sH sH
  (try refine gS ?_);conv=>whnf
  refine aA.callN (jD src L r18 s18 hL) [0,1,2,3,4,5,6,7,8,9] ?_ sH ?CNa34
  case CNa34=>rfl
  rintro (⟨a19,r19⟩|⟨r19,e19⟩) h19<;>conv=>whnf
  rotate_left
  ·try refine aA.panicU ?_
   exact aE.pan Tryz.func78 (aL.mk ((Rs.bad r19 e19:Rs RcV)) ((by unfold fT;rw [aB h1.symm,aB h2.symm,aB h3.symm,aB h4.symm,aB h5.symm,aB h6.symm,aB h7.symm,aB b8,aB h9.symm,aB h10.symm,aB h11.symm,aB h12.symm,aB h13.symm,bZ,aB h14.symm,aB h15.symm,aB h16.symm,aB h17.symm,bZ,aB h18.symm,aH h19.symm])) [] sH rfl rfl (aT rfl))
  have s19:=((mD.g).suf _ _ _ h19.symm).trans s18
  refine aA.subR (nx':=15) (l':=[(79,.v (.int .i64 a19)),(2,.ptr 10 0),(0,.ptr 0 0)]) (H':=[psB src (ix L r19),tkB L,(10,.cells 61 [.v (.string a1),.v (.string a3),.v (.int .i64 a5),.v (.int .i64 a7),.buf 12,.buf 13,.buf 14,.v (.int .i64 a13),.v (.int .i64 b13),.v (.int .i64 a15),.v (.int .i64 b15),.v (.int .i64 a17),.v (.int .i64 b17),.v (.int .i64 0),.v (.slice none 0 0),.v (.int .i64 0),.v (.int .i64 0)]),(12,.own 52 4 (rws Cd.row a8)),(13,.own 55 7 (rws Am.row a10)),(14,.own 55 7 (rws Am.row a11))]) [] ?_ sH sH
  (try refine gS ?_);conv=>whnf
  refine aA.callN (bE src L r19 s19 hL [B [59]] (by decide)) [0,1,2,3,4,5,6,7,8,9,15] ?_ sH ?CNa35
  case CNa35=>rfl
  rintro (⟨_,r20⟩|⟨r20,e20⟩) h20<;>conv=>whnf
  all_goals rw [fO K s19 (V.s 59 (by decide))] at h20
  rotate_left
  ·try refine aA.panicU ?_
   exact aE.pan Tryz.func78 (aL.mk ((Rs.bad r20 e20:Rs RcV)) ((by unfold fT;rw [aB h1.symm,aB h2.symm,aB h3.symm,aB h4.symm,aB h5.symm,aB h6.symm,aB h7.symm,aB b8,aB h9.symm,aB h10.symm,aB h11.symm,aB h12.symm,aB h13.symm,bZ,aB h14.symm,aB h15.symm,aB h16.symm,aB h17.symm,bZ,aB h18.symm,aB h19.symm,aH h20.symm])) [] sH rfl rfl (aT rfl))
  have s20:=(((bI _ _).1).suf _ _ _ h20.symm).trans s19
  refine aA.subR (nx':=15) (l':=[(2,.ptr 10 0),(0,.ptr 0 0)]) (H':=[psB src (ix L r20),tkB L,(10,.cells 61 [.v (.string a1),.v (.string a3),.v (.int .i64 a5),.v (.int .i64 a7),.buf 12,.buf 13,.buf 14,.v (.int .i64 a13),.v (.int .i64 b13),.v (.int .i64 a15),.v (.int .i64 b15),.v (.int .i64 a17),.v (.int .i64 b17),.v (.int .i64 a19),.v (.slice none 0 0),.v (.int .i64 0),.v (.int .i64 0)]),(12,.own 52 4 (rws Cd.row a8)),(13,.own 55 7 (rws Am.row a10)),(14,.own 55 7 (rws Am.row a11))]) [] ?_ sH sH
  (try refine gS ?_);conv=>whnf
  refine aA.callN (aJF src L r20 s20 hL K V oD (V.w oD (by simp)) 8 (by decide)) [0,1,2,3,4,5,6,7,8,9] ?_ sH ?CNa36
  case CNa36=>rfl
  rintro (⟨a21,r21⟩|⟨r21,e21⟩) h21<;>conv=>whnf
  rotate_left
  ·try refine aA.panicU ?_
   exact aE.pan Tryz.func78 (aL.mk ((Rs.bad r21 e21:Rs RcV)) ((by unfold fT;rw [aB h1.symm,aB h2.symm,aB h3.symm,aB h4.symm,aB h5.symm,aB h6.symm,aB h7.symm,aB b8,aB h9.symm,aB h10.symm,aB h11.symm,aB h12.symm,aB h13.symm,bZ,aB h14.symm,aB h15.symm,aB h16.symm,aB h17.symm,bZ,aB h18.symm,aB h19.symm,aB h20.symm,aH h21.symm])) [] sH rfl rfl (aT rfl))
  have s21:=((eH aFE.g 8).suf _ _ _ h21.symm).trans s20
  refine aA.subR (nx':=16) (l':=[(85,.buf 15),(2,.ptr 10 0),(0,.ptr 0 0)]) (H':=[psB src (ix L r21),tkB L,(10,.cells 61 [.v (.string a1),.v (.string a3),.v (.int .i64 a5),.v (.int .i64 a7),.buf 12,.buf 13,.buf 14,.v (.int .i64 a13),.v (.int .i64 b13),.v (.int .i64 a15),.v (.int .i64 b15),.v (.int .i64 a17),.v (.int .i64 b17),.v (.int .i64 a19),.v (.slice none 0 0),.v (.int .i64 0),.v (.int .i64 0)]),(12,.own 52 4 (rws Cd.row a8)),(13,.own 55 7 (rws Am.row a10)),(14,.own 55 7 (rws Am.row a11)),(15,.own 58 3 (rws Rn.row a21))]) [] ?_ sH sH
  (try refine gS ?_);conv=>whnf
  refine aA.callN (bE src L r21 s21 hL [B [125]] (by decide)) [0,1,2,3,4,5,6,7,8,9,16] ?_ sH ?CNa37
  case CNa37=>rfl
  rintro (⟨_,r22⟩|⟨r22,e22⟩) h22<;>conv=>whnf
  all_goals rw [fO K s21 (V.s 125 (by decide))] at h22
  rotate_left
  ·try refine aA.panicU ?_
   exact aE.pan Tryz.func78 (aL.mk ((Rs.bad r22 e22:Rs RcV)) ((by unfold fT;rw [aB h1.symm,aB h2.symm,aB h3.symm,aB h4.symm,aB h5.symm,aB h6.symm,aB h7.symm,aB b8,aB h9.symm,aB h10.symm,aB h11.symm,aB h12.symm,aB h13.symm,bZ,aB h14.symm,aB h15.symm,aB h16.symm,aB h17.symm,bZ,aB h18.symm,aB h19.symm,aB h20.symm,aB h21.symm,aH h22.symm])) [] sH rfl rfl (aT rfl))
  have s22:=(((bI _ _).1).suf _ _ _ h22.symm).trans s21
  refine aA.subR (nx':=16) (l':=[(2,.ptr 10 0),(0,.ptr 0 0)]) (H':=[psB src (ix L r22),tkB L,(10,.cells 61 [.v (.string a1),.v (.string a3),.v (.int .i64 a5),.v (.int .i64 a7),.buf 12,.buf 13,.buf 14,.v (.int .i64 a13),.v (.int .i64 b13),.v (.int .i64 a15),.v (.int .i64 b15),.v (.int .i64 a17),.v (.int .i64 b17),.v (.int .i64 a19),.buf 15,.v (.int .i64 0),.v (.int .i64 0)]),(12,.own 52 4 (rws Cd.row a8)),(13,.own 55 7 (rws Am.row a10)),(14,.own 55 7 (rws Am.row a11)),(15,.own 58 3 (rws Rn.row a21))]) [] ?_ sH sH
  (try refine gS ?_);conv=>whnf
  try refine aA.retU ?_
  exact aE.ret tab Tryz.func78 rfl (aL.mk ((Rs.ok ⟨a1,a3,a5,a7,hd0,a8,hd0,a10,hd0,a11,a13,b13,a15,b15,a17,b17,a19,hd0,a21,0,0⟩ r22:Rs RcV)) ((by unfold fT;rw [aB h1.symm,aB h2.symm,aB h3.symm,aB h4.symm,aB h5.symm,aB h6.symm,aB h7.symm,aB b8,aB h9.symm,aB h10.symm,aB h11.symm,aB h12.symm,aB h13.symm,bZ,aB h14.symm,aB h15.symm,aB h16.symm,aB h17.symm,bZ,aB h18.symm,aB h19.symm,aB h20.symm,aB h21.symm,aB h22.symm];rfl)) [(10,12),(11,13),(12,14),(13,15)] sH rfl rfl (aY rfl rfl))
end
end Go.Proofs.YtgbeechjghajcaaGreatDoor
