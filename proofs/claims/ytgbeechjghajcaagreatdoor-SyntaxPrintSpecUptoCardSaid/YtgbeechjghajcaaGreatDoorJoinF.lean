/- Texts of this seat, joined: Package syntax: a further definition of a kind. Package syntax: a further option, forbid, recipe (printed by gen_syn7.py). -/
import Derived.Test.YtgbeechjghajcaaGreatDoorJoinE
set_option linter.unusedVariables false
set_option linter.unusedSimpArgs false
namespace Go.Proofs.YtgbeechjghajcaaGreatDoor
open Go Go.Fw Go.NatM Go.RatM Go.SrcM Go.SynM
set_option maxRecDepth 100000
set_option maxHeartbeats 99999999
def bufsK (k n:Nat):List SV:=[2,3,4,5,6,7,8,9].map fun j=>.buf (if j=k+2 then n else j)
def aHC {α:Type} (src:ByteArray) (L:List Tok) (k e sz:Nat) (row:α→List Value) (n:Nat):Rs (List α)→gK
 | .ok l r=>.ret (.tup []) (n+1) [(0,.cells 67 (.v (.string src)::.buf 1::.v (.int .i64 (ix L r))::bufsK k n)),tkB L,(n,.own e sz (rws row l))]
 | .bad r e=>.pan (yG (dI src.size e r)) (n+1) [psB src (ix L r),tkB L]
section
variable (src:ByteArray) (L r:List Tok) (hr:r <:+ L) (hL:L.length≤65536) {N:ByteArray→Prop} (K:KL N L) (V:aBS N)
include hr hL K V
theorem aWC (l:List Un) (most:Nat) (hm:most≤1000) (hne:r ≠ []):FnS Tryz.prog 59 10 [.ptr 0 0,.ptr 0 3,.v (.int .i64 most),fnV 60] [psB src (ix L r),tkB L,(2,.own 81 8 (rws Un.row l))]
  (fun x:Rs (List Un)=>x=fM pP most l r) (aHC src L 0 81 8 Un.row 10):=by
 have ll:=aG Un.row l
 obtain ⟨x,r,rfl⟩:∃x r',r=x::r':=by cases r with|nil=>exact absurd rfl hne|cons x r=>exact ⟨x,r,rfl⟩
 refine FnS.of Tryz.func59 (by kernel_rfl) rfl Tryz.ntmps59 rfl fun E0 F h w0 cs=>?_
 conv=>whnf
 refine gS ?_;conv=>whnf
 refine aA.callN (dU src L (x::r) hr hL (rws Un.row l).length most hne) [0,1,2,3,4,5,6,7,8,9] ?_ sH ?CNa1
 case CNa1=>rfl
 rintro (⟨_,r1⟩|⟨r1,e1⟩) h1<;>conv=>whnf
 rotate_left
 ·by_cases hb:(most:Int)≤((rws Un.row l).length:Nat)
  ·rw [if_pos hb] at h1
   cases h1
   exact aE.pan Tryz.func59 (aL.mk ((Rs.bad (x::r) 2:Rs (List Un))) ((by unfold fM;rw [if_pos (by omega)])) [] sH rfl rfl (aT rfl))
  rw [if_neg hb] at h1
  cases h1
 by_cases hb:(most:Int)≤((rws Un.row l).length:Nat)
 ·rw [if_pos hb] at h1
  cases h1
 rw [if_neg hb] at h1
 cases h1
 refine aA.subR (nx':=10) (l':=[(0,.ptr 0 0),(1,.ptr 0 3),(3,fnV 60)]) (H':=[psB src (ix L r),tkB L,(2,.own 81 8 (rws Un.row l))]) [] ?_ sH sH
 (try refine gS ?_);conv=>whnf
 refine aA.held tab (.fl 0 (.fl 1 (.fl 2 (.fl 3 (.fl 4 (.fl 5 (.e1 6 [3] (.e1 7 [3] (.e1 8 [] (.fl 9 (.e1 10 [] .done))))))))))) (by kernel_rfl) ?_;conv=>whnf
 (try refine gR ?_);conv=>whnf
 refine aV.callN (aVT src L r (cC hr) hL K V) [0,1,2,3,4,5,6,7,8,9] ?_ sH ?CNa2
 case CNa2=>rfl
 rintro (⟨a,r2⟩|⟨r2,e2⟩) h2<;>conv=>whnf
 rotate_left
 ·try refine aA.panicU ?_
  exact aE.pan Tryz.func59 (aL.mk ((Rs.bad r2 e2:Rs (List Un))) ((by unfold fM;rw [if_neg (by omega)];exact (aH h2.symm).symm)) [] sH rfl rfl (aT rfl))
 conv=>whnf
 try refine oB ?_
 (try refine gR ?_);conv=>whnf
 repeat ((first|(guard_target=_∧_;(first|refine oL ?_|refine oR ?_|refine oB ?_))|(guard_target=Exists _;refine oM ?_));(try intro _);conv=>whnf)
 conv=>whnf
 refine And.intro (fK (by rw [ll];show l.length+1≤1000000;omega)) ?_;conv=>whnf
 repeat ((first|(guard_target=_∧_;(first|refine oL ?_|refine oR ?_|refine oB ?_))|(guard_target=Exists _;refine oM ?_));(try intro _);conv=>whnf)
 (try refine gS ?_);conv=>whnf
 (try refine gS ?_);conv=>whnf
 refine aA.rowsEq (rows':=rws Un.row (l++[a])) 12 ?e1 ?_
 case e1=>unfold rws;rw [List.map_append];rfl
 conv=>whnf
 try refine aA.finU ?_
 exact aE.ret tab Tryz.func59 rfl (aL.mk ((Rs.ok (l++[a]) r2:Rs (List Un))) ((by unfold fM;rw [if_neg (by omega)];exact (aB (f:=fun a=>pur (l++[a])) h2.symm).symm)) [(10,12)] sH rfl rfl (aY rfl rfl))
theorem aYZ (l:List It) (most:Nat) (hm:most≤1000) (hne:r ≠ []):FnS Tryz.prog 62 10 [.ptr 0 0,.ptr 0 4,.v (.int .i64 most),fnV 63] [psB src (ix L r),tkB L,(3,.own 83 6 (rws It.row l))]
  (fun x:Rs (List It)=>x=fM mG most l r) (aHC src L 1 83 6 It.row 10):=by
 have ll:=aG It.row l
 obtain ⟨x,r,rfl⟩:∃x r',r=x::r':=by cases r with|nil=>exact absurd rfl hne|cons x r=>exact ⟨x,r,rfl⟩
 refine FnS.of Tryz.func62 (by kernel_rfl) rfl Tryz.ntmps62 rfl fun E0 F h w0 cs=>?_
 conv=>whnf
 refine gS ?_;conv=>whnf
 refine aA.callN (dU src L (x::r) hr hL (rws It.row l).length most hne) [0,1,2,3,4,5,6,7,8,9] ?_ sH ?CNa3
 case CNa3=>rfl
 rintro (⟨_,r1⟩|⟨r1,e1⟩) h1<;>conv=>whnf
 rotate_left
 ·by_cases hb:(most:Int)≤((rws It.row l).length:Nat)
  ·rw [if_pos hb] at h1
   cases h1
   exact aE.pan Tryz.func62 (aL.mk ((Rs.bad (x::r) 2:Rs (List It))) ((by unfold fM;rw [if_pos (by omega)])) [] sH rfl rfl (aT rfl))
  rw [if_neg hb] at h1
  cases h1
 by_cases hb:(most:Int)≤((rws It.row l).length:Nat)
 ·rw [if_pos hb] at h1
  cases h1
 rw [if_neg hb] at h1
 cases h1
 refine aA.subR (nx':=10) (l':=[(0,.ptr 0 0),(1,.ptr 0 4),(3,fnV 63)]) (H':=[psB src (ix L r),tkB L,(3,.own 83 6 (rws It.row l))]) [] ?_ sH sH
 (try refine gS ?_);conv=>whnf
 refine aA.held tab (.fl 0 (.fl 1 (.fl 2 (.fl 3 (.fl 4 (.fl 5 (.e1 6 [3] (.e1 7 [3] (.e1 8 [] (.fl 9 (.e1 10 [] .done))))))))))) (by kernel_rfl) ?_;conv=>whnf
 (try refine gR ?_);conv=>whnf
 refine aV.callN (aVL src L r (cC hr) hL K V) [0,1,2,3,4,5,6,7,8,9] ?_ sH ?CNa4
 case CNa4=>rfl
 rintro (⟨a,r2⟩|⟨r2,e2⟩) h2<;>conv=>whnf
 rotate_left
 ·try refine aA.panicU ?_
  exact aE.pan Tryz.func62 (aL.mk ((Rs.bad r2 e2:Rs (List It))) ((by unfold fM;rw [if_neg (by omega)];exact (aH h2.symm).symm)) [] sH rfl rfl (aT rfl))
 conv=>whnf
 try refine oB ?_
 (try refine gR ?_);conv=>whnf
 repeat ((first|(guard_target=_∧_;(first|refine oL ?_|refine oR ?_|refine oB ?_))|(guard_target=Exists _;refine oM ?_));(try intro _);conv=>whnf)
 conv=>whnf
 refine And.intro (fK (by rw [ll];show l.length+1≤1000000;omega)) ?_;conv=>whnf
 repeat ((first|(guard_target=_∧_;(first|refine oL ?_|refine oR ?_|refine oB ?_))|(guard_target=Exists _;refine oM ?_));(try intro _);conv=>whnf)
 (try refine gS ?_);conv=>whnf
 (try refine gS ?_);conv=>whnf
 refine aA.rowsEq (rows':=rws It.row (l++[a])) 12 ?e1 ?_
 case e1=>unfold rws;rw [List.map_append];rfl
 conv=>whnf
 try refine aA.finU ?_
 exact aE.ret tab Tryz.func62 rfl (aL.mk ((Rs.ok (l++[a]) r2:Rs (List It))) ((by unfold fM;rw [if_neg (by omega)];exact (aB (f:=fun a=>pur (l++[a])) h2.symm).symm)) [(10,12)] sH rfl rfl (aY rfl rfl))
theorem aWN (l:List ByteArray) (most:Nat) (hm:most≤1000) (hne:r ≠ []):FnS Tryz.prog 65 10 [.ptr 0 0,.ptr 0 5,.v (.int .i64 most),fnV 66] [psB src (ix L r),tkB L,(4,.own 9 1 (rws kO l))]
  (fun x:Rs (List ByteArray)=>x=fM oV most l r) (aHC src L 2 9 1 kO 10):=by
 have ll:=aG kO l
 obtain ⟨x,r,rfl⟩:∃x r',r=x::r':=by cases r with|nil=>exact absurd rfl hne|cons x r=>exact ⟨x,r,rfl⟩
 refine FnS.of Tryz.func65 (by kernel_rfl) rfl Tryz.ntmps65 rfl fun E0 F h w0 cs=>?_
 conv=>whnf
 refine gS ?_;conv=>whnf
 refine aA.callN (dU src L (x::r) hr hL (rws kO l).length most hne) [0,1,2,3,4,5,6,7,8,9] ?_ sH ?CNa5
 case CNa5=>rfl
 rintro (⟨_,r1⟩|⟨r1,e1⟩) h1<;>conv=>whnf
 rotate_left
 ·by_cases hb:(most:Int)≤((rws kO l).length:Nat)
  ·rw [if_pos hb] at h1
   cases h1
   exact aE.pan Tryz.func65 (aL.mk ((Rs.bad (x::r) 2:Rs (List ByteArray))) ((by unfold fM;rw [if_pos (by omega)])) [] sH rfl rfl (aT rfl))
  rw [if_neg hb] at h1
  cases h1
 by_cases hb:(most:Int)≤((rws kO l).length:Nat)
 ·rw [if_pos hb] at h1
  cases h1
 rw [if_neg hb] at h1
 cases h1
 refine aA.subR (nx':=10) (l':=[(0,.ptr 0 0),(1,.ptr 0 5),(3,fnV 66)]) (H':=[psB src (ix L r),tkB L,(4,.own 9 1 (rws kO l))]) [] ?_ sH sH
 (try refine gS ?_);conv=>whnf
 refine aA.held tab (.fl 0 (.fl 1 (.fl 2 (.fl 3 (.fl 4 (.fl 5 (.e1 6 [3] (.e1 7 [3] (.e1 8 [] (.fl 9 (.e1 10 [] .done))))))))))) (by kernel_rfl) ?_;conv=>whnf
 (try refine gR ?_);conv=>whnf
 refine aV.callN (aTC src L r (cC hr) hL K V) [0,1,2,3,4,5,6,7,8,9] ?_ sH ?CNa6
 case CNa6=>rfl
 rintro (⟨a,r2⟩|⟨r2,e2⟩) h2<;>conv=>whnf
 rotate_left
 ·try refine aA.panicU ?_
  exact aE.pan Tryz.func65 (aL.mk ((Rs.bad r2 e2:Rs (List ByteArray))) ((by unfold fM;rw [if_neg (by omega)];exact (aH h2.symm).symm)) [] sH rfl rfl (aT rfl))
 conv=>whnf
 try refine oB ?_
 (try refine gR ?_);conv=>whnf
 repeat ((first|(guard_target=_∧_;(first|refine oL ?_|refine oR ?_|refine oB ?_))|(guard_target=Exists _;refine oM ?_));(try intro _);conv=>whnf)
 conv=>whnf
 refine And.intro (fK (by rw [ll];show l.length+1≤1000000;omega)) ?_;conv=>whnf
 repeat ((first|(guard_target=_∧_;(first|refine oL ?_|refine oR ?_|refine oB ?_))|(guard_target=Exists _;refine oM ?_));(try intro _);conv=>whnf)
 (try refine gS ?_);conv=>whnf
 (try refine gS ?_);conv=>whnf
 refine aA.rowsEq (rows':=rws kO (l++[a])) 12 ?e1 ?_
 case e1=>unfold rws;rw [List.map_append];rfl
 conv=>whnf
 try refine aA.finU ?_
 exact aE.ret tab Tryz.func65 rfl (aL.mk ((Rs.ok (l++[a]) r2:Rs (List ByteArray))) ((by unfold fM;rw [if_neg (by omega)];exact (aB (f:=fun a=>pur (l++[a])) h2.symm).symm)) [(10,12)] sH rfl rfl (aY rfl rfl))
theorem aYD (l:List Mc) (most:Nat) (hm:most≤1000) (hne:r ≠ []):FnS Tryz.prog 68 10 [.ptr 0 0,.ptr 0 6,.v (.int .i64 most),fnV 69] [psB src (ix L r),tkB L,(5,.own 85 4 (rws Mc.row l))]
  (fun x:Rs (List Mc)=>x=fM pC most l r) (aHC src L 3 85 4 Mc.row 10):=by
 have ll:=aG Mc.row l
 obtain ⟨x,r,rfl⟩:∃x r',r=x::r':=by cases r with|nil=>exact absurd rfl hne|cons x r=>exact ⟨x,r,rfl⟩
 refine FnS.of Tryz.func68 (by kernel_rfl) rfl Tryz.ntmps68 rfl fun E0 F h w0 cs=>?_
 conv=>whnf
 refine gS ?_;conv=>whnf
 refine aA.callN (dU src L (x::r) hr hL (rws Mc.row l).length most hne) [0,1,2,3,4,5,6,7,8,9] ?_ sH ?CNa7
 case CNa7=>rfl
 rintro (⟨_,r1⟩|⟨r1,e1⟩) h1<;>conv=>whnf
 rotate_left
 ·by_cases hb:(most:Int)≤((rws Mc.row l).length:Nat)
  ·rw [if_pos hb] at h1
   cases h1
   exact aE.pan Tryz.func68 (aL.mk ((Rs.bad (x::r) 2:Rs (List Mc))) ((by unfold fM;rw [if_pos (by omega)])) [] sH rfl rfl (aT rfl))
  rw [if_neg hb] at h1
  cases h1
 by_cases hb:(most:Int)≤((rws Mc.row l).length:Nat)
 ·rw [if_pos hb] at h1
  cases h1
 rw [if_neg hb] at h1
 cases h1
 refine aA.subR (nx':=10) (l':=[(0,.ptr 0 0),(1,.ptr 0 6),(3,fnV 69)]) (H':=[psB src (ix L r),tkB L,(5,.own 85 4 (rws Mc.row l))]) [] ?_ sH sH
 (try refine gS ?_);conv=>whnf
 refine aA.held tab (.fl 0 (.fl 1 (.fl 2 (.fl 3 (.fl 4 (.fl 5 (.e1 6 [3] (.e1 7 [3] (.e1 8 [] (.fl 9 (.e1 10 [] .done))))))))))) (by kernel_rfl) ?_;conv=>whnf
 (try refine gR ?_);conv=>whnf
 refine aV.callN (aXQ src L r (cC hr) hL K V) [0,1,2,3,4,5,6,7,8,9] ?_ sH ?CNa8
 case CNa8=>rfl
 rintro (⟨a,r2⟩|⟨r2,e2⟩) h2<;>conv=>whnf
 rotate_left
 ·try refine aA.panicU ?_
  exact aE.pan Tryz.func68 (aL.mk ((Rs.bad r2 e2:Rs (List Mc))) ((by unfold fM;rw [if_neg (by omega)];exact (aH h2.symm).symm)) [] sH rfl rfl (aT rfl))
 conv=>whnf
 try refine oB ?_
 (try refine gR ?_);conv=>whnf
 repeat ((first|(guard_target=_∧_;(first|refine oL ?_|refine oR ?_|refine oB ?_))|(guard_target=Exists _;refine oM ?_));(try intro _);conv=>whnf)
 conv=>whnf
 refine And.intro (fK (by rw [ll];show l.length+1≤1000000;omega)) ?_;conv=>whnf
 repeat ((first|(guard_target=_∧_;(first|refine oL ?_|refine oR ?_|refine oB ?_))|(guard_target=Exists _;refine oM ?_));(try intro _);conv=>whnf)
 (try refine gS ?_);conv=>whnf
 (try refine gS ?_);conv=>whnf
 refine aA.rowsEq (rows':=rws Mc.row (l++[a])) 12 ?e1 ?_
 case e1=>unfold rws;rw [List.map_append];rfl
 conv=>whnf
 try refine aA.finU ?_
 exact aE.ret tab Tryz.func68 rfl (aL.mk ((Rs.ok (l++[a]) r2:Rs (List Mc))) ((by unfold fM;rw [if_neg (by omega)];exact (aB (f:=fun a=>pur (l++[a])) h2.symm).symm)) [(10,12)] sH rfl rfl (aY rfl rfl))
theorem aWK (l:List Sw) (most:Nat) (hm:most≤1000) (hne:r ≠ []):FnS Tryz.prog 80 10 [.ptr 0 0,.ptr 0 10,.v (.int .i64 most),fnV 81] [psB src (ix L r),tkB L,(9,.own 89 4 (rws Sw.row l))]
  (fun x:Rs (List Sw)=>x=fM qQ most l r) (aHC src L 7 89 4 Sw.row 10):=by
 have ll:=aG Sw.row l
 obtain ⟨x,r,rfl⟩:∃x r',r=x::r':=by cases r with|nil=>exact absurd rfl hne|cons x r=>exact ⟨x,r,rfl⟩
 refine FnS.of Tryz.func80 (by kernel_rfl) rfl Tryz.ntmps80 rfl fun E0 F h w0 cs=>?_
 conv=>whnf
 refine gS ?_;conv=>whnf
 refine aA.callN (dU src L (x::r) hr hL (rws Sw.row l).length most hne) [0,1,2,3,4,5,6,7,8,9] ?_ sH ?CNa9
 case CNa9=>rfl
 rintro (⟨_,r1⟩|⟨r1,e1⟩) h1<;>conv=>whnf
 rotate_left
 ·by_cases hb:(most:Int)≤((rws Sw.row l).length:Nat)
  ·rw [if_pos hb] at h1
   cases h1
   exact aE.pan Tryz.func80 (aL.mk ((Rs.bad (x::r) 2:Rs (List Sw))) ((by unfold fM;rw [if_pos (by omega)])) [] sH rfl rfl (aT rfl))
  rw [if_neg hb] at h1
  cases h1
 by_cases hb:(most:Int)≤((rws Sw.row l).length:Nat)
 ·rw [if_pos hb] at h1
  cases h1
 rw [if_neg hb] at h1
 cases h1
 refine aA.subR (nx':=10) (l':=[(0,.ptr 0 0),(1,.ptr 0 10),(3,fnV 81)]) (H':=[psB src (ix L r),tkB L,(9,.own 89 4 (rws Sw.row l))]) [] ?_ sH sH
 (try refine gS ?_);conv=>whnf
 refine aA.held tab (.fl 0 (.fl 1 (.fl 2 (.fl 3 (.fl 4 (.fl 5 (.e1 6 [3] (.e1 7 [3] (.e1 8 [] (.fl 9 (.e1 10 [] .done))))))))))) (by kernel_rfl) ?_;conv=>whnf
 (try refine gR ?_);conv=>whnf
 refine aV.callN (aWX src L r (cC hr) hL K V) [0,1,2,3,4,5,6,7,8,9] ?_ sH ?CNa10
 case CNa10=>rfl
 rintro (⟨a,r2⟩|⟨r2,e2⟩) h2<;>conv=>whnf
 rotate_left
 ·try refine aA.panicU ?_
  exact aE.pan Tryz.func80 (aL.mk ((Rs.bad r2 e2:Rs (List Sw))) ((by unfold fM;rw [if_neg (by omega)];exact (aH h2.symm).symm)) [] sH rfl rfl (aT rfl))
 conv=>whnf
 try refine oB ?_
 (try refine gR ?_);conv=>whnf
 repeat ((first|(guard_target=_∧_;(first|refine oL ?_|refine oR ?_|refine oB ?_))|(guard_target=Exists _;refine oM ?_));(try intro _);conv=>whnf)
 conv=>whnf
 refine And.intro (fK (by rw [ll];show l.length+1≤1000000;omega)) ?_;conv=>whnf
 repeat ((first|(guard_target=_∧_;(first|refine oL ?_|refine oR ?_|refine oB ?_))|(guard_target=Exists _;refine oM ?_));(try intro _);conv=>whnf)
 (try refine gS ?_);conv=>whnf
 (try refine gS ?_);conv=>whnf
 refine aA.rowsEq (rows':=rws Sw.row (l++[a])) 12 ?e1 ?_
 case e1=>unfold rws;rw [List.map_append];rfl
 conv=>whnf
 try refine aA.finU ?_
 exact aE.ret tab Tryz.func80 rfl (aL.mk ((Rs.ok (l++[a]) r2:Rs (List Sw))) ((by unfold fM;rw [if_neg (by omega)];exact (aB (f:=fun a=>pur (l++[a])) h2.symm).symm)) [(10,12)] sH rfl rfl (aY rfl rfl))
end
end Go.Proofs.YtgbeechjghajcaaGreatDoor

namespace Go.SynM
open Go Go.Fw Go.RatM Go.SrcM
open Go.Proofs.YtgbeechjghajcaaGreatDoor (Tok)
section
variable {α β:Type}
def Rs.fm (f:α→β):Rs α→Rs β
 | .ok a r=>.ok (f a) r
 | .bad r e=>.bad r e
def Rs.all (Q:α→Prop):Rs α→Prop
 | .ok a _=>Q a
 | .bad _ _=>True
def gB (p:P α) (most n:Nat):P α:=fun r=>if most≤n then .bad r 2 else p r.tail
theorem kZ {p:P α} {most:Nat} {l:List α} {r:List Tok}:fM p most l r=(gB p most l.length r).fm fun a=>l++[a]:=by
 unfold fM gB bnd
 split
 ·rfl
 cases p r.tail<;>rfl
end
theorem aTN {r r':List Tok} {a:OpV} (h:nX r=.ok a r'):a.bare=a:=by
 unfold nX at h
 simp only [bnd,pur] at h
 repeat' (split at h)
 all_goals first|(cases h;done)|(have:=(Rs.ok.inj h).1;subst this;rfl)
theorem aSS {r r':List Tok} {a:FbV} (h:qB r=.ok a r'):a.bare=a:=by
 unfold qB at h
 simp only [bnd,pur] at h
 repeat' (split at h)
 all_goals first|(cases h;done)|(have:=(Rs.ok.inj h).1;subst this;rfl)
theorem aVN {r r':List Tok} {a:RcV} (h:fT r=.ok a r'):a.bare=a:=by
 have G:∀ {α:Type} {p:P α} {f:α→P RcV},(∀a r r' x,f a r=.ok x r'→x.bare=x) → ∀r r' x,bnd p f r=.ok x r'→x.bare=x:=fun hf r r' x h=>by
  unfold bnd at h
  split at h
  ·exact hf _ _ _ _ h
  cases h
 unfold fT at h
 revert h
 iterate 24 refine G (fun _=>?_) r r' a;clear r r' a;intro r r' a
 exact fun h=>by have:=(Rs.ok.inj h).1;subst this;rfl
end Go.SynM
namespace Go.Proofs.YtgbeechjghajcaaGreatDoor
open Go Go.Fw Go.NatM Go.RatM Go.SrcM Go.SynM
set_option maxRecDepth 100000
set_option maxHeartbeats 99999999
def outN {α:Type} (src:ByteArray) (L:List Tok) (k e sz:Nat) (row:α→List Value) (l:List α) (n:Nat):Rs α→gK
 | .ok a r=>.ret (.tup []) (n+1) [(0,.cells 67 (.v (.string src)::.buf 1::.v (.int .i64 (ix L r))::bufsK k n)),tkB L,(n,.own e sz (rws row (l++[a])))]
 | .bad r e=>.pan (yG (dI src.size e r)) (n+1) [psB src (ix L r),tkB L]
section
variable (src:ByteArray) (L r:List Tok) (hr:r <:+ L) (hL:L.length≤65536) {N:ByteArray→Prop} (K:KL N L) (V:aBS N)
include hr hL K V
theorem aWI (l:List OpV) (most:Nat) (hm:most≤1000) (hne:r ≠ []):FnX Tryz.prog 71 10 [.ptr 0 0,.ptr 0 7,.v (.int .i64 most),fnV 72] [psB src (ix L r),tkB L,(6,.own 50 2 (rws OpV.row l))] (fun _ _=>True)
  (fun (x:Rs OpV) G h=>x.fm OpV.bare=gB nX most l.length r∧x.all fun o=>o.ok G h) (outN src L 4 50 2 OpV.row l 10):=by
 have ll:=aG OpV.row l
 obtain ⟨x,r,rfl⟩:∃x r',r=x::r':=by cases r with|nil=>exact absurd rfl hne|cons x r=>exact ⟨x,r,rfl⟩
 refine FnX.of Tryz.func71 (by kernel_rfl) rfl Tryz.ntmps71 rfl fun E0 F G h N hP w0 cs=>?_
 conv=>whnf
 refine gS ?_;conv=>whnf
 refine aA.callN (dU src L (x::r) hr hL (rws OpV.row l).length most hne) [0,1,2,3,4,5,6,7,8,9] ?_ sH ?CNa1
 case CNa1=>rfl
 rintro (⟨_,r1⟩|⟨r1,e1⟩) h1<;>conv=>whnf
 rotate_left
 ·by_cases hb:(most:Int)≤((rws OpV.row l).length:Nat)
  ·rw [if_pos hb] at h1
   cases h1
   exact aE.pan Tryz.func71 (iK.mk (N) ((Rs.bad (x::r) 2:Rs OpV)) (fun h U=>⟨by unfold gB;rw [if_pos (by omega)];rfl,trivial⟩) [] sH rfl rfl (aT rfl))
  rw [if_neg hb] at h1
  cases h1
 by_cases hb:(most:Int)≤((rws OpV.row l).length:Nat)
 ·rw [if_pos hb] at h1
  cases h1
 rw [if_neg hb] at h1
 cases h1
 refine aA.subR (nx':=10) (l':=[(0,.ptr 0 0),(1,.ptr 0 7),(3,fnV 72)]) (H':=[psB src (ix L r),tkB L,(6,.own 50 2 (rws OpV.row l))]) [] ?_ sH sH
 (try refine gS ?_);conv=>whnf
 refine aA.held tab (.fl 0 (.fl 1 (.fl 2 (.fl 3 (.fl 4 (.fl 5 (.e1 6 [3] (.e1 7 [3] (.e1 8 [] (.fl 9 (.e1 10 [] .done))))))))))) (by kernel_rfl) ?_;conv=>whnf
 (try refine gR ?_);conv=>whnf
 refine aV.callN (aVJ src L r (cC hr) hL K V) [0,1,2,3,4,5,6,7,8,9] ?_ sH ?CNa2
 case CNa2=>rfl
 rintro (⟨a,r2⟩|⟨r2,e2⟩) h2<;>conv=>whnf
 rotate_left
 ·exact aE.pan Tryz.func71 (iK.mk (N) ((Rs.bad r2 e2:Rs OpV)) (fun h U=>⟨by unfold gB;rw [if_neg (by omega)];exact h2,trivial⟩) [] sH rfl rfl (aT rfl))
 conv=>whnf
 try refine oB ?_
 refine bK.concY (n:=a.ch.length) (N.gsub) 10 ?_ (hlen:=aG _ _)
 intro F1 a1 c1 G1 hh1 N1 R1
 conv=>whnf
 (try refine gR ?_);conv=>whnf
 repeat ((first|(guard_target=_∧_;(first|refine oL ?_|refine oR ?_|refine oB ?_))|(guard_target=Exists _;refine oM ?_));(try intro _);conv=>whnf)
 conv=>whnf
 refine And.intro (fK (by rw [ll];show l.length+1≤1000000;omega)) ?_;conv=>whnf
 repeat ((first|(guard_target=_∧_;(first|refine oL ?_|refine oR ?_|refine oB ?_))|(guard_target=Exists _;refine oM ?_));(try intro _);conv=>whnf)
 (try refine gS ?_);conv=>whnf
 (try refine gS ?_);conv=>whnf
 refine aA.rowsEq (rows':=rws OpV.row (l++[⟨a.name,⟨a1,c1⟩,a.ch⟩])) 12 ?e1 ?_
 case e1=>unfold rws;rw [List.map_append];rfl
 conv=>whnf
 try refine aA.finU ?_
 exact aE.ret tab Tryz.func71 rfl (iK.mk (N.trans N1) ((Rs.ok ⟨a.name,⟨a1,c1⟩,a.ch⟩ r2:Rs OpV)) (fun h U=>⟨by unfold gB;rw [if_neg (by omega)];exact (congrArg (fun y=>Rs.ok y r2) (aTN h2.symm)).trans h2,R1.up U⟩) [(10,12)] sH rfl rfl (aY rfl rfl))
theorem aUW (l:List FbV) (most:Nat) (hm:most≤1000) (hne:r ≠ []):FnX Tryz.prog 74 10 [.ptr 0 0,.ptr 0 8,.v (.int .i64 most),fnV 75] [psB src (ix L r),tkB L,(7,.own 53 1 (rws FbV.row l))] (fun _ _=>True)
  (fun (x:Rs FbV) G h=>x.fm FbV.bare=gB qB most l.length r∧x.all fun o=>o.ok G h) (outN src L 5 53 1 FbV.row l 10):=by
 have ll:=aG FbV.row l
 obtain ⟨x,r,rfl⟩:∃x r',r=x::r':=by cases r with|nil=>exact absurd rfl hne|cons x r=>exact ⟨x,r,rfl⟩
 refine FnX.of Tryz.func74 (by kernel_rfl) rfl Tryz.ntmps74 rfl fun E0 F G h N hP w0 cs=>?_
 conv=>whnf
 refine gS ?_;conv=>whnf
 refine aA.callN (dU src L (x::r) hr hL (rws FbV.row l).length most hne) [0,1,2,3,4,5,6,7,8,9] ?_ sH ?CNa3
 case CNa3=>rfl
 rintro (⟨_,r1⟩|⟨r1,e1⟩) h1<;>conv=>whnf
 rotate_left
 ·by_cases hb:(most:Int)≤((rws FbV.row l).length:Nat)
  ·rw [if_pos hb] at h1
   cases h1
   exact aE.pan Tryz.func74 (iK.mk (N) ((Rs.bad (x::r) 2:Rs FbV)) (fun h U=>⟨by unfold gB;rw [if_pos (by omega)];rfl,trivial⟩) [] sH rfl rfl (aT rfl))
  rw [if_neg hb] at h1
  cases h1
 by_cases hb:(most:Int)≤((rws FbV.row l).length:Nat)
 ·rw [if_pos hb] at h1
  cases h1
 rw [if_neg hb] at h1
 cases h1
 refine aA.subR (nx':=10) (l':=[(0,.ptr 0 0),(1,.ptr 0 8),(3,fnV 75)]) (H':=[psB src (ix L r),tkB L,(7,.own 53 1 (rws FbV.row l))]) [] ?_ sH sH
 (try refine gS ?_);conv=>whnf
 refine aA.held tab (.fl 0 (.fl 1 (.fl 2 (.fl 3 (.fl 4 (.fl 5 (.e1 6 [3] (.e1 7 [3] (.e1 8 [] (.fl 9 (.e1 10 [] .done))))))))))) (by kernel_rfl) ?_;conv=>whnf
 (try refine gR ?_);conv=>whnf
 refine aV.callN (aWR src L r (cC hr) hL K V) [0,1,2,3,4,5,6,7,8,9] ?_ sH ?CNa4
 case CNa4=>rfl
 rintro (⟨a,r2⟩|⟨r2,e2⟩) h2<;>conv=>whnf
 rotate_left
 ·exact aE.pan Tryz.func74 (iK.mk (N) ((Rs.bad r2 e2:Rs FbV)) (fun h U=>⟨by unfold gB;rw [if_neg (by omega)];exact h2,trivial⟩) [] sH rfl rfl (aT rfl))
 conv=>whnf
 try refine oB ?_
 refine bK.concY (n:=a.cs.length) (N.gsub) 10 ?_ (hlen:=aG _ _)
 intro F1 a1 c1 G1 hh1 N1 R1
 conv=>whnf
 (try refine gR ?_);conv=>whnf
 repeat ((first|(guard_target=_∧_;(first|refine oL ?_|refine oR ?_|refine oB ?_))|(guard_target=Exists _;refine oM ?_));(try intro _);conv=>whnf)
 conv=>whnf
 refine And.intro (fK (by rw [ll];show l.length+1≤1000000;omega)) ?_;conv=>whnf
 repeat ((first|(guard_target=_∧_;(first|refine oL ?_|refine oR ?_|refine oB ?_))|(guard_target=Exists _;refine oM ?_));(try intro _);conv=>whnf)
 (try refine gS ?_);conv=>whnf
 (try refine gS ?_);conv=>whnf
 refine aA.rowsEq (rows':=rws FbV.row (l++[⟨⟨a1,c1⟩,a.cs⟩])) 12 ?e1 ?_
 case e1=>unfold rws;rw [List.map_append];rfl
 conv=>whnf
 try refine aA.finU ?_
 exact aE.ret tab Tryz.func74 rfl (iK.mk (N.trans N1) ((Rs.ok ⟨⟨a1,c1⟩,a.cs⟩ r2:Rs FbV)) (fun h U=>⟨by unfold gB;rw [if_neg (by omega)];exact (congrArg (fun y=>Rs.ok y r2) (aSS h2.symm)).trans h2,R1.up U⟩) [(10,12)] sH rfl rfl (aY rfl rfl))
theorem aXM (l:List RcV) (most:Nat) (hm:most≤1000) (hne:r ≠ []):FnX Tryz.prog 77 10 [.ptr 0 0,.ptr 0 9,.v (.int .i64 most),fnV 78] [psB src (ix L r),tkB L,(8,.own 61 17 (rws RcV.row l))] (fun _ _=>True)
  (fun (x:Rs RcV) G h=>x.fm RcV.bare=gB fT most l.length r∧x.all fun o=>o.ok G h) (outN src L 6 61 17 RcV.row l 10):=by
 have ll:=aG RcV.row l
 obtain ⟨x,r,rfl⟩:∃x r',r=x::r':=by cases r with|nil=>exact absurd rfl hne|cons x r=>exact ⟨x,r,rfl⟩
 refine FnX.of Tryz.func77 (by kernel_rfl) rfl Tryz.ntmps77 rfl fun E0 F G h N hP w0 cs=>?_
 conv=>whnf
 refine gS ?_;conv=>whnf
 refine aA.callN (dU src L (x::r) hr hL (rws RcV.row l).length most hne) [0,1,2,3,4,5,6,7,8,9] ?_ sH ?CNa5
 case CNa5=>rfl
 rintro (⟨_,r1⟩|⟨r1,e1⟩) h1<;>conv=>whnf
 rotate_left
 ·by_cases hb:(most:Int)≤((rws RcV.row l).length:Nat)
  ·rw [if_pos hb] at h1
   cases h1
   exact aE.pan Tryz.func77 (iK.mk (N) ((Rs.bad (x::r) 2:Rs RcV)) (fun h U=>⟨by unfold gB;rw [if_pos (by omega)];rfl,trivial⟩) [] sH rfl rfl (aT rfl))
  rw [if_neg hb] at h1
  cases h1
 by_cases hb:(most:Int)≤((rws RcV.row l).length:Nat)
 ·rw [if_pos hb] at h1
  cases h1
 rw [if_neg hb] at h1
 cases h1
 refine aA.subR (nx':=10) (l':=[(0,.ptr 0 0),(1,.ptr 0 9),(3,fnV 78)]) (H':=[psB src (ix L r),tkB L,(8,.own 61 17 (rws RcV.row l))]) [] ?_ sH sH
 (try refine gS ?_);conv=>whnf
 refine aA.held tab (.fl 0 (.fl 1 (.fl 2 (.fl 3 (.fl 4 (.fl 5 (.e1 6 [3] (.e1 7 [3] (.e1 8 [] (.fl 9 (.e1 10 [] .done))))))))))) (by kernel_rfl) ?_;conv=>whnf
 (try refine gR ?_);conv=>whnf
 refine aV.callN (prec_fn src L r (cC hr) hL K V) [0,1,2,3,4,5,6,7,8,9] ?_ sH ?CNa6
 case CNa6=>rfl
 rintro (⟨a,r2⟩|⟨r2,e2⟩) h2<;>conv=>whnf
 rotate_left
 ·exact aE.pan Tryz.func77 (iK.mk (N) ((Rs.bad r2 e2:Rs RcV)) (fun h U=>⟨by unfold gB;rw [if_neg (by omega)];exact h2,trivial⟩) [] sH rfl rfl (aT rfl))
 conv=>whnf
 try refine oB ?_
 refine bK.concY (n:=a.cs.length) (N.gsub) 10 ?_ (hlen:=aG _ _)
 intro F1 a1 c1 G1 hh1 N1 R1
 conv=>whnf
 refine bK.concY (n:=a.inn.length) (N1.gsub) 11 ?_ (hlen:=aG _ _)
 intro F2 a2 c2 G2 hh2 N2 R2
 conv=>whnf
 refine bK.concY (n:=a.out.length) (N2.gsub) 12 ?_ (hlen:=aG _ _)
 intro F3 a3 c3 G3 hh3 N3 R3
 conv=>whnf
 refine bK.concY (n:=a.runs.length) (N3.gsub) 13 ?_ (hlen:=aG _ _)
 intro F4 a4 c4 G4 hh4 N4 R4
 conv=>whnf
 (try refine gR ?_);conv=>whnf
 repeat ((first|(guard_target=_∧_;(first|refine oL ?_|refine oR ?_|refine oB ?_))|(guard_target=Exists _;refine oM ?_));(try intro _);conv=>whnf)
 conv=>whnf
 refine And.intro (fK (by rw [ll];show l.length+1≤1000000;omega)) ?_;conv=>whnf
 repeat ((first|(guard_target=_∧_;(first|refine oL ?_|refine oR ?_|refine oB ?_))|(guard_target=Exists _;refine oM ?_));(try intro _);conv=>whnf)
 (try refine gS ?_);conv=>whnf
 (try refine gS ?_);conv=>whnf
 refine aA.rowsEq (rows':=rws RcV.row (l++[⟨a.item,a.plant,a.fr,a.to,⟨a1,c1⟩,a.cs,⟨a2,c2⟩,a.inn,⟨a3,c3⟩,a.out,a.rwN,a.rwD,a.yN,a.yD,a.tN,a.tD,a.lead,⟨a4,c4⟩,a.runs,a.inum,a.pnum⟩])) 15 ?e1 ?_
 case e1=>unfold rws;rw [List.map_append];rfl
 conv=>whnf
 try refine aA.finU ?_
 exact aE.ret tab Tryz.func77 rfl (iK.mk (((N.trans N1).trans N2).trans (N3.trans N4)) ((Rs.ok ⟨a.item,a.plant,a.fr,a.to,⟨a1,c1⟩,a.cs,⟨a2,c2⟩,a.inn,⟨a3,c3⟩,a.out,a.rwN,a.rwD,a.yN,a.yD,a.tN,a.tD,a.lead,⟨a4,c4⟩,a.runs,a.inum,a.pnum⟩ r2:Rs RcV)) (fun h U=>⟨by unfold gB;rw [if_neg (by omega)];exact (congrArg (fun y=>Rs.ok y r2) (aVN h2.symm)).trans h2,⟨((R1.up (Now.step N1.gsub N2)).up ((Now.step N2.gsub N3).trans (Now.step N3.gsub N4))).up U,(R2.up ((Now.step N2.gsub N3).trans (Now.step N3.gsub N4))).up U,(R3.up (Now.step N3.gsub N4)).up U,R4.up U⟩⟩) [(10,15)] sH rfl rfl (aY rfl rfl))
end
end Go.Proofs.YtgbeechjghajcaaGreatDoor

namespace Go.Proofs.YtgbeechjghajcaaGreatDoor
open Go Go.Fw Go.NatM Go.RatM Go.SrcM Go.SynM
set_option maxRecDepth 100000
set_option maxHeartbeats 99999999
section
variable (src:ByteArray) (L r:List Tok) (hr:r <:+ L) (hL:L.length≤65536) {N:ByteArray→Prop} (K:KL N L) (V:aBS N)
include hr hL K V
theorem aPZ (l:List Un) (hne:r ≠ []):FnS Tryz.prog 58 10 [.ptr 0 0] [psB src (ix L r),tkB L,(2,.own 81 8 (rws Un.row l))]
  (fun x:Rs (List Un)=>x=fM pP 32 l r) (aHC src L 0 81 8 Un.row 10):=by
 refine FnS.of Tryz.func58 (by kernel_rfl) rfl Tryz.ntmps58 rfl fun E0 F h w0 cs=>?_
 conv=>whnf
 refine gS ?_;conv=>whnf
 refine aA.callN (aWC src L r hr hL K V l 32 (by decide) hne) [0,1,2,3,4,5,6,7,8,9] ?_ sH ?CNa1
 case CNa1=>rfl
 rintro (⟨a,r2⟩|⟨r2,e2⟩) h2<;>conv=>whnf
 ·try refine gS ?_
  conv=>whnf
  try refine aA.finU ?_
  exact aE.ret tab Tryz.func58 rfl (aL.mk ((Rs.ok a r2:Rs (List Un))) (h2) [] sH rfl rfl (aY rfl rfl))
 try refine aA.panicU ?_
 exact aE.pan Tryz.func58 (aL.mk ((Rs.bad r2 e2:Rs (List Un))) (h2) [] sH rfl rfl (aT rfl))
theorem aQO (l:List It) (hne:r ≠ []):FnS Tryz.prog 61 10 [.ptr 0 0] [psB src (ix L r),tkB L,(3,.own 83 6 (rws It.row l))]
  (fun x:Rs (List It)=>x=fM mG 32 l r) (aHC src L 1 83 6 It.row 10):=by
 refine FnS.of Tryz.func61 (by kernel_rfl) rfl Tryz.ntmps61 rfl fun E0 F h w0 cs=>?_
 conv=>whnf
 refine gS ?_;conv=>whnf
 refine aA.callN (aYZ src L r hr hL K V l 32 (by decide) hne) [0,1,2,3,4,5,6,7,8,9] ?_ sH ?CNa2
 case CNa2=>rfl
 rintro (⟨a,r2⟩|⟨r2,e2⟩) h2<;>conv=>whnf
 ·try refine gS ?_
  conv=>whnf
  try refine aA.finU ?_
  exact aE.ret tab Tryz.func61 rfl (aL.mk ((Rs.ok a r2:Rs (List It))) (h2) [] sH rfl rfl (aY rfl rfl))
 try refine aA.panicU ?_
 exact aE.pan Tryz.func61 (aL.mk ((Rs.bad r2 e2:Rs (List It))) (h2) [] sH rfl rfl (aT rfl))
theorem aOA (l:List ByteArray) (hne:r ≠ []):FnS Tryz.prog 64 10 [.ptr 0 0] [psB src (ix L r),tkB L,(4,.own 9 1 (rws kO l))]
  (fun x:Rs (List ByteArray)=>x=fM oV 8 l r) (aHC src L 2 9 1 kO 10):=by
 refine FnS.of Tryz.func64 (by kernel_rfl) rfl Tryz.ntmps64 rfl fun E0 F h w0 cs=>?_
 conv=>whnf
 refine gS ?_;conv=>whnf
 refine aA.callN (aWN src L r hr hL K V l 8 (by decide) hne) [0,1,2,3,4,5,6,7,8,9] ?_ sH ?CNa3
 case CNa3=>rfl
 rintro (⟨a,r2⟩|⟨r2,e2⟩) h2<;>conv=>whnf
 ·try refine gS ?_
  conv=>whnf
  try refine aA.finU ?_
  exact aE.ret tab Tryz.func64 rfl (aL.mk ((Rs.ok a r2:Rs (List ByteArray))) (h2) [] sH rfl rfl (aY rfl rfl))
 try refine aA.panicU ?_
 exact aE.pan Tryz.func64 (aL.mk ((Rs.bad r2 e2:Rs (List ByteArray))) (h2) [] sH rfl rfl (aT rfl))
theorem aHH (l:List Mc) (hne:r ≠ []):FnS Tryz.prog 67 10 [.ptr 0 0] [psB src (ix L r),tkB L,(5,.own 85 4 (rws Mc.row l))]
  (fun x:Rs (List Mc)=>x=fM pC 16 l r) (aHC src L 3 85 4 Mc.row 10):=by
 refine FnS.of Tryz.func67 (by kernel_rfl) rfl Tryz.ntmps67 rfl fun E0 F h w0 cs=>?_
 conv=>whnf
 refine gS ?_;conv=>whnf
 refine aA.callN (aYD src L r hr hL K V l 16 (by decide) hne) [0,1,2,3,4,5,6,7,8,9] ?_ sH ?CNa4
 case CNa4=>rfl
 rintro (⟨a,r2⟩|⟨r2,e2⟩) h2<;>conv=>whnf
 ·try refine gS ?_
  conv=>whnf
  try refine aA.finU ?_
  exact aE.ret tab Tryz.func67 rfl (aL.mk ((Rs.ok a r2:Rs (List Mc))) (h2) [] sH rfl rfl (aY rfl rfl))
 try refine aA.panicU ?_
 exact aE.pan Tryz.func67 (aL.mk ((Rs.bad r2 e2:Rs (List Mc))) (h2) [] sH rfl rfl (aT rfl))
theorem aJX (l:List OpV) (hne:r ≠ []):FnX Tryz.prog 70 10 [.ptr 0 0] [psB src (ix L r),tkB L,(6,.own 50 2 (rws OpV.row l))] (fun _ _=>True)
  (fun (x:Rs OpV) G h=>x.fm OpV.bare=gB nX 6 l.length r∧x.all fun o=>o.ok G h) (outN src L 4 50 2 OpV.row l 10):=by
 refine FnX.of Tryz.func70 (by kernel_rfl) rfl Tryz.ntmps70 rfl fun E0 F G h N hP w0 cs=>?_
 conv=>whnf
 refine gS ?_;conv=>whnf
 refine aA.callY (N.gsub) (aWI src L r hr hL K V l 6 (by decide) hne) (fun _ _=>trivial) [0,1,2,3,4,5,6,7,8,9] sH ?CNa5 ?_
 case CNa5=>rfl
 rintro _ x G1 h1 N1 J1
 cases x<;>conv=>whnf
 ·rename_i a r2
  (try refine gS ?_);conv=>whnf
  try refine aA.finU ?_
  exact aE.ret tab Tryz.func70 rfl (eX (N.trans N1) ((Rs.ok a r2:Rs OpV)) (fun h U=>⟨J1.1,J1.2.up U⟩))
 rename_i r2 e2
 exact aE.pan Tryz.func70 (iK.mk (N.trans N1) ((Rs.bad r2 e2:Rs OpV)) (fun h U=>⟨J1.1,trivial⟩) [] sH rfl rfl (aT rfl))
theorem aLG (l:List FbV) (hne:r ≠ []):FnX Tryz.prog 73 10 [.ptr 0 0] [psB src (ix L r),tkB L,(7,.own 53 1 (rws FbV.row l))] (fun _ _=>True)
  (fun (x:Rs FbV) G h=>x.fm FbV.bare=gB qB 16 l.length r∧x.all fun o=>o.ok G h) (outN src L 5 53 1 FbV.row l 10):=by
 refine FnX.of Tryz.func73 (by kernel_rfl) rfl Tryz.ntmps73 rfl fun E0 F G h N hP w0 cs=>?_
 conv=>whnf
 refine gS ?_;conv=>whnf
 refine aA.callY (N.gsub) (aUW src L r hr hL K V l 16 (by decide) hne) (fun _ _=>trivial) [0,1,2,3,4,5,6,7,8,9] sH ?CNa6 ?_
 case CNa6=>rfl
 rintro _ x G1 h1 N1 J1
 cases x<;>conv=>whnf
 ·rename_i a r2
  (try refine gS ?_);conv=>whnf
  try refine aA.finU ?_
  exact aE.ret tab Tryz.func73 rfl (eX (N.trans N1) ((Rs.ok a r2:Rs FbV)) (fun h U=>⟨J1.1,J1.2.up U⟩))
 rename_i r2 e2
 exact aE.pan Tryz.func73 (iK.mk (N.trans N1) ((Rs.bad r2 e2:Rs FbV)) (fun h U=>⟨J1.1,trivial⟩) [] sH rfl rfl (aT rfl))
theorem aPJ (l:List RcV) (hne:r ≠ []):FnX Tryz.prog 76 10 [.ptr 0 0] [psB src (ix L r),tkB L,(8,.own 61 17 (rws RcV.row l))] (fun _ _=>True)
  (fun (x:Rs RcV) G h=>x.fm RcV.bare=gB fT 64 l.length r∧x.all fun o=>o.ok G h) (outN src L 6 61 17 RcV.row l 10):=by
 refine FnX.of Tryz.func76 (by kernel_rfl) rfl Tryz.ntmps76 rfl fun E0 F G h N hP w0 cs=>?_
 conv=>whnf
 refine gS ?_;conv=>whnf
 refine aA.callY (N.gsub) (aXM src L r hr hL K V l 64 (by decide) hne) (fun _ _=>trivial) [0,1,2,3,4,5,6,7,8,9] sH ?CNa7 ?_
 case CNa7=>rfl
 rintro _ x G1 h1 N1 J1
 cases x<;>conv=>whnf
 ·rename_i a r2
  (try refine gS ?_);conv=>whnf
  try refine aA.finU ?_
  exact aE.ret tab Tryz.func76 rfl (eX (N.trans N1) ((Rs.ok a r2:Rs RcV)) (fun h U=>⟨J1.1,J1.2.up U⟩))
 rename_i r2 e2
 exact aE.pan Tryz.func76 (iK.mk (N.trans N1) ((Rs.bad r2 e2:Rs RcV)) (fun h U=>⟨J1.1,trivial⟩) [] sH rfl rfl (aT rfl))
theorem aQB (l:List Sw) (hne:r ≠ []):FnS Tryz.prog 79 10 [.ptr 0 0] [psB src (ix L r),tkB L,(9,.own 89 4 (rws Sw.row l))]
  (fun x:Rs (List Sw)=>x=fM qQ 32 l r) (aHC src L 7 89 4 Sw.row 10):=by
 refine FnS.of Tryz.func79 (by kernel_rfl) rfl Tryz.ntmps79 rfl fun E0 F h w0 cs=>?_
 conv=>whnf
 refine gS ?_;conv=>whnf
 refine aA.callN (aWK src L r hr hL K V l 32 (by decide) hne) [0,1,2,3,4,5,6,7,8,9] ?_ sH ?CNa8
 case CNa8=>rfl
 rintro (⟨a,r2⟩|⟨r2,e2⟩) h2<;>conv=>whnf
 ·try refine gS ?_
  conv=>whnf
  try refine aA.finU ?_
  exact aE.ret tab Tryz.func79 rfl (aL.mk ((Rs.ok a r2:Rs (List Sw))) (h2) [] sH rfl rfl (aY rfl rfl))
 try refine aA.panicU ?_
 exact aE.pan Tryz.func79 (aL.mk ((Rs.bad r2 e2:Rs (List Sw))) (h2) [] sH rfl rfl (aT rfl))
end
abbrev dJ:List (Value×Value):=[(.string (B gE),.func (.func 58) #[] #[]),(.string (B iI),.func (.func 61) #[] #[]),(.string (B fD),.func (.func 64) #[] #[]),(.string (B cE),.func (.func 67) #[] #[]),(.string (B dA),.func (.func 70) #[] #[]),(.string (B dK),.func (.func 73) #[] #[]),(.string (B iD),.func (.func 76) #[] #[]),(.string (B iC),.func (.func 79) #[] #[])]
theorem mpT:Tryz.prog.underlying 68=some (.map 9 70):=by kernel_rfl
theorem stT:Tryz.prog.underlying 9=some .string:=by kernel_rfl
theorem pS {es:List (Value×Value)} {k:ByteArray} (ks:List ByteArray) (he:es.map Prod.fst=ks.map Value.string) (h:∀x∈ks,x≠k):iN es (.string k) none:=fun p hp e=>by
 have:p.1∈ks.map Value.string:=he▸List.mem_map_of_mem hp
 obtain ⟨k',h1,h2⟩:=List.mem_map.1 this
 rw [e] at h2
 cases h2
 exact h _ h1 rfl
theorem aMP {es:List (Value×Value)} {k:ByteArray} {v:Value} (es1 es2:List (Value×Value)) (h:es=es1++(.string k,v)::es2) (h1:iN es1 (.string k) none) (h2:iN es2 (.string k) none):iN es (.string k) (some v):=by
 subst h
 refine ⟨⟨_,List.mem_append_right _ (List.mem_cons_self ..),rfl⟩,fun p hp he=>?_⟩
 rcases List.mem_append.1 hp with hp|hp
 ·exact absurd he (h1 p hp)
 rcases List.mem_cons.1 hp with rfl|hp
 ·rfl
 exact absurd he (h2 p hp)
abbrev wds:List ByteArray:=[B gE,B iI,B fD,B cE,B dA,B dK,B iD,B iC]
theorem defs_fn:FnS Tryz.prog 23 0 [] [] (fun _:Unit=>True) (fun _=>.ret (.buf 0) 1 [(0,.map .string dJ)]):=by
 refine FnS.of Tryz.func23 (by kernel_rfl) rfl Tryz.ntmps23 rfl fun E0 F h w0 cs=>?_
 conv=>whnf
 refine gS ?_;conv=>whnf
 refine aA.makeMap .string ?_
 (try refine gS ?_);conv=>whnf
 refine aA.insert mpT stT (pS (k:=B gE) (wds.take 0) rfl (by decide)) rfl ?_
 (try refine gS ?_);conv=>whnf
 refine aA.insert mpT stT (pS (k:=B iI) (wds.take 1) rfl (by decide)) rfl ?_
 (try refine gS ?_);conv=>whnf
 refine aA.insert mpT stT (pS (k:=B fD) (wds.take 2) rfl (by decide)) rfl ?_
 (try refine gS ?_);conv=>whnf
 refine aA.insert mpT stT (pS (k:=B cE) (wds.take 3) rfl (by decide)) rfl ?_
 (try refine gS ?_);conv=>whnf
 refine aA.insert mpT stT (pS (k:=B dA) (wds.take 4) rfl (by decide)) rfl ?_
 (try refine gS ?_);conv=>whnf
 refine aA.insert mpT stT (pS (k:=B dK) (wds.take 5) rfl (by decide)) rfl ?_
 (try refine gS ?_);conv=>whnf
 refine aA.insert mpT stT (pS (k:=B iD) (wds.take 6) rfl (by decide)) rfl ?_
 (try refine gS ?_);conv=>whnf
 refine aA.insert mpT stT (pS (k:=B iC) (wds.take 7) rfl (by decide)) rfl ?_
 (try refine gS ?_);conv=>whnf
 try refine aA.retU ?_
 exact aE.ret tab Tryz.func23 rfl (eN () trivial)
def defF (t:ByteArray):Option Value:=
 if t=B gE then some (.func (.func 58) #[] #[]) else if t=B iI then some (.func (.func 61) #[] #[]) else if t=B fD then some (.func (.func 64) #[] #[]) else if t=B cE then some (.func (.func 67) #[] #[]) else if t=B dA then some (.func (.func 70) #[] #[]) else if t=B dK then some (.func (.func 73) #[] #[]) else if t=B iD then some (.func (.func 76) #[] #[]) else if t=B iC then some (.func (.func 79) #[] #[]) else none
theorem qF (t:ByteArray):iN dJ (.string t) (defF t):=by
 unfold defF
 repeat' split
 ·rename_i h;subst h;exact aMP (dJ.take 0) (dJ.drop 1) rfl (pS (wds.take 0) rfl (by decide)) (pS (wds.drop 1) rfl (by decide))
 ·rename_i h;subst h;exact aMP (dJ.take 1) (dJ.drop 2) rfl (pS (wds.take 1) rfl (by decide)) (pS (wds.drop 2) rfl (by decide))
 ·rename_i h;subst h;exact aMP (dJ.take 2) (dJ.drop 3) rfl (pS (wds.take 2) rfl (by decide)) (pS (wds.drop 3) rfl (by decide))
 ·rename_i h;subst h;exact aMP (dJ.take 3) (dJ.drop 4) rfl (pS (wds.take 3) rfl (by decide)) (pS (wds.drop 4) rfl (by decide))
 ·rename_i h;subst h;exact aMP (dJ.take 4) (dJ.drop 5) rfl (pS (wds.take 4) rfl (by decide)) (pS (wds.drop 5) rfl (by decide))
 ·rename_i h;subst h;exact aMP (dJ.take 5) (dJ.drop 6) rfl (pS (wds.take 5) rfl (by decide)) (pS (wds.drop 6) rfl (by decide))
 ·rename_i h;subst h;exact aMP (dJ.take 6) (dJ.drop 7) rfl (pS (wds.take 6) rfl (by decide)) (pS (wds.drop 7) rfl (by decide))
 ·rename_i h;subst h;exact aMP (dJ.take 7) (dJ.drop 8) rfl (pS (wds.take 7) rfl (by decide)) (pS (wds.drop 8) rfl (by decide))
 exact pS wds rfl (by simp only [List.forall_mem_cons];exact ⟨Ne.symm (by assumption),Ne.symm (by assumption),Ne.symm (by assumption),Ne.symm (by assumption),Ne.symm (by assumption),Ne.symm (by assumption),Ne.symm (by assumption),Ne.symm (by assumption),fun _ h=>nomatch h⟩)
end Go.Proofs.YtgbeechjghajcaaGreatDoor

namespace Go.SynM
open Go Go.Fw Go.RatM Go.SrcM
open Go.Proofs.YtgbeechjghajcaaGreatDoor (Tok)
section
variable {s:aJ} {x:Tok} {r:List Tok}
theorem vL {t:ByteArray} (hk:x.kind=1) (ht:x.text=t):isT 1 t (x::r)=true:=by simp only [isT,hk,ht];decide
theorem eW {t u:ByteArray} (ht:x.text=t) (h:t≠u):isT 1 u (x::r)=false:=by simp only [isT,ht];exact decide_eq_false fun e=>h e.2
theorem dB {α:Type} {t:ByteArray} {n most:Nat} {p q:P α} (h:isT 1 t r=false):brP t n most p q r=q r:=by simp only [brP,h];rfl
theorem vE {α:Type} {t:ByteArray} {n most:Nat} {p:P α} {q:P aJ} {f:α→P aJ} (h:isT 1 t r=true):brP t n most (bnd p f) q r=bnd (gB p most n) f r:=by
 simp only [brP,h,if_true,bnd,gB]
 split<;>rfl
theorem aJG (hk:x.kind=1) (ht:x.text=B gE):dX s (x::r)=bnd (gB pP 32 s.units.length) (fun a=>pur {s with units:=s.units++[a]}) (x::r):=by
 unfold dX
 rw [vE (vL hk ht)]
theorem aIK (hk:x.kind=1) (ht:x.text=B iI):dX s (x::r)=bnd (gB mG 32 s.items.length) (fun a=>pur {s with items:=s.items++[a]}) (x::r):=by
 unfold dX
 rw [dB (eW ht (by decide)),vE (vL hk ht)]
theorem aFQ (hk:x.kind=1) (ht:x.text=B fD):dX s (x::r)=bnd (gB oV 8 s.plants.length) (fun a=>pur {s with plants:=s.plants++[a]}) (x::r):=by
 unfold dX
 rw [dB (eW ht (by decide)),dB (eW ht (by decide)),vE (vL hk ht)]
theorem aAH (hk:x.kind=1) (ht:x.text=B cE):dX s (x::r)=bnd (gB pC 16 s.machines.length) (fun a=>pur {s with machines:=s.machines++[a]}) (x::r):=by
 unfold dX
 rw [dB (eW ht (by decide)),dB (eW ht (by decide)),dB (eW ht (by decide)),vE (vL hk ht)]
theorem aCZ (hk:x.kind=1) (ht:x.text=B dA):dX s (x::r)=bnd (gB nX 6 s.options.length) (fun a=>pur {s with options:=s.options++[a]}) (x::r):=by
 unfold dX
 rw [dB (eW ht (by decide)),dB (eW ht (by decide)),dB (eW ht (by decide)),dB (eW ht (by decide)),vE (vL hk ht)]
theorem aCM (hk:x.kind=1) (ht:x.text=B dK):dX s (x::r)=bnd (gB qB 16 s.forbids.length) (fun a=>pur {s with forbids:=s.forbids++[a]}) (x::r):=by
 unfold dX
 rw [dB (eW ht (by decide)),dB (eW ht (by decide)),dB (eW ht (by decide)),dB (eW ht (by decide)),dB (eW ht (by decide)),vE (vL hk ht)]
theorem aCR (hk:x.kind=1) (ht:x.text=B iD):dX s (x::r)=bnd (gB fT 64 s.recipes.length) (fun a=>pur {s with recipes:=s.recipes++[a]}) (x::r):=by
 unfold dX
 rw [dB (eW ht (by decide)),dB (eW ht (by decide)),dB (eW ht (by decide)),dB (eW ht (by decide)),dB (eW ht (by decide)),dB (eW ht (by decide)),vE (vL hk ht)]
theorem aJI (hk:x.kind=1) (ht:x.text=B iC):dX s (x::r)=bnd (gB qQ 32 s.swaps.length) (fun a=>pur {s with swaps:=s.swaps++[a]}) (x::r):=by
 unfold dX
 rw [dB (eW ht (by decide)),dB (eW ht (by decide)),dB (eW ht (by decide)),dB (eW ht (by decide)),dB (eW ht (by decide)),dB (eW ht (by decide)),dB (eW ht (by decide)),vE (vL hk ht)]
theorem aXF (h:x.kind≠1∨(x.text≠B gE∧x.text≠B iI∧x.text≠B fD∧x.text≠B cE∧x.text≠B dA∧x.text≠B dK∧x.text≠B iD∧x.text≠B iC)):dX s (x::r)=.bad (x::r) 100:=by
 have G:∀t ∈ [gE,iI,fD,cE,dA,dK,iD,iC],isT 1 (B t) (x::r)=false:=fun t ht=>by
  refine decide_eq_false fun e=>?_
  rcases h with h|h
  ·exact h e.1
  simp only [List.mem_cons,List.not_mem_nil,or_false] at ht
  rcases ht with rfl|rfl|rfl|rfl|rfl|rfl|rfl|rfl<;>simp [e.2] at h
 simp only [List.forall_mem_cons] at G
 obtain ⟨g1,g2,g3,g4,g5,g6,g7,g8,-⟩:=G
 unfold dX
 rw [dB g1,dB g2,dB g3,dB g4,dB g5,dB g6,dB g7,dB g8];rfl
theorem aPF (t:ByteArray):t=B gE∨t=B iI∨t=B fD∨t=B cE∨t=B dA∨t=B dK∨t=B iD∨t=B iC∨(t≠B gE∧t≠B iI∧t≠B fD∧t≠B cE∧t≠B dA∧t≠B dK∧t≠B iD∧t≠B iC):=by
 by_cases h1:t=B gE
 ·exact .inl h1
 by_cases h2:t=B iI
 ·exact .inr (.inl h2)
 by_cases h3:t=B fD
 ·exact .inr (.inr (.inl h3))
 by_cases h4:t=B cE
 ·exact .inr (.inr (.inr (.inl h4)))
 by_cases h5:t=B dA
 ·exact .inr (.inr (.inr (.inr (.inl h5))))
 by_cases h6:t=B dK
 ·exact .inr (.inr (.inr (.inr (.inr (.inl h6)))))
 by_cases h7:t=B iD
 ·exact .inr (.inr (.inr (.inr (.inr (.inr (.inl h7))))))
 by_cases h8:t=B iC
 ·exact .inr (.inr (.inr (.inr (.inr (.inr (.inr (.inl h8)))))))
 exact .inr (.inr (.inr (.inr (.inr (.inr (.inr (.inr ⟨h1,h2,h3,h4,h5,h6,h7,h8⟩)))))))
end
abbrev aFD (s:aJ) (r:List Tok):Rs aJ:=pF (r.length+1) s r
theorem aWF (s:aJ):aFD s []=.ok s []:=rfl
theorem nD {s:aJ} {x:Tok} {r r':List Tok} {e:Nat} (h:dX s (x::r)=.bad r' e):aFD s (x::r)=.bad r' e:=by
 show (if x::r=[] then Rs.ok s [] else bnd (dX s) (pF (x::r).length) (x::r))=_
 rw [if_neg (List.cons_ne_nil _ _),aH h]
theorem mL {s s':aJ} {x:Tok} {r r':List Tok} (hl:r'.length≤r.length) (h:dX s (x::r)=.ok s' r'):aFD s (x::r)=aFD s' r':=by
 show (if x::r=[] then Rs.ok s [] else bnd (dX s) (pF (x::r).length) (x::r))=_
 rw [if_neg (List.cons_ne_nil _ _),aB h]
 exact aCH _ _ _ _ (by simp only [List.length_cons];omega) (Nat.lt_succ_self _)
theorem pI {α:Type} {p:P α} {most n:Nat} {x:Tok} {q r:List Tok} {a:α} (hg:mB p) (h:gB p most n (x::q)=.ok a r):r <:+ q:=by
 unfold gB at h
 split at h
 ·cases h
 exact hg.suf _ _ _ h
theorem aMA {α β:Type} {f:α→β} {y:Rs α} {b:β} {r:List Tok} (h:y.fm f=.ok b r):∃a,y=.ok a r∧f a=b:=by
 cases y with
 |ok a r'=>cases h;exact ⟨a,rfl,rfl⟩
 |bad=>cases h
theorem aEU {α β:Type} {f:α→β} {y:Rs α} {e:Nat} {r:List Tok} (h:y.fm f=.bad r e):y=.bad r e:=by
 cases y with
 |ok a r'=>cases h
 |bad=>cases h;rfl
end Go.SynM
namespace Go.Proofs.YtgbeechjghajcaaGreatDoor
open Go Go.Fw Go.NatM Go.RatM Go.SrcM Go.SynM
set_option maxRecDepth 100000
set_option maxHeartbeats 99999999
theorem aME {t:ByteArray} (h1:t.size=1) (h2:cls (aN t 0)=4):¬NmP t:=fun h=>by
 have:=h.2.1
 rw [h2] at this
 cases this
theorem kl_of {l:List Tok} (h:AllV l):KL NmP l:=⟨fun x hx=>by
 rcases h x hx with h|h|h
 ·exact .inl ⟨h.1,h.2.1⟩
 ·exact .inr (.inl ⟨h.1,h.2.2.1⟩)
 exact .inr (.inr ⟨h.1,aME h.2.1 h.2.2.1⟩)⟩
structure PsX where
 s:aJ
 at_:Int
 e:Int
 U:Value
 I:Value
 P:Value
 M:Value
 O:Value
 F:Value
 R:Value
 S:Value
structure PsJ (q:aJ ⊕ (Int×Int)) (y:PsX) (G:Nat→Prop) (h:Array Obj):Prop where
 top:gX G h y.U y.I y.P y.M y.O y.F y.R y.S y.s
 res:match q with
  | .inl x=>y.s.bare=x∧y.at_=0∧y.e=0
  | .inr p=>y.s=jU∧y.at_=p.1∧y.e=p.2
def aRA (y:PsX):gK:=.ret (.tup [sK y.U y.I y.P y.M y.O y.F y.R y.S,.v (.int .i64 y.at_),.v (.int .i64 y.e)]) 0 []
abbrev sG:List SV:=[.v aD,.v aD,.v aD,.v aD,.v aD,.v aD,.v aD,.v aD]
theorem aOR:aEZ Tryz.prog 22 3 [.ptr 0 0,.ptr 1 0,.ptr 2 0] [] .returning (fun _:Unit=>True) (fun _=>⟨.returning,3,[]⟩):=by
 refine aEZ.of Tryz.func22 (by kernel_rfl) rfl Tryz.ntmps22 rfl fun E0 F h w0 c0 cs=>?_
 (try refine gS ?_);conv=>whnf
 refine aA.recoverN ?_
 (try refine gS ?_);conv=>whnf
 refine aA.effV (fun E h=>aEA Tryz.underlying20) ?_
 (try refine gS ?_);conv=>whnf
 refine aA.finU (aE.retD tab Tryz.func22 rfl (aJU.mk () trivial [] trivial rfl rfl rfl))
theorem iZ (y z:Value) (q:Int×Nat):aEZ Tryz.prog 22 3 [.ptr 0 0,.ptr 1 0,.ptr 2 0] [(0,.cells 32 sG),(1,.cells 3 [.v y]),(2,.cells 33 [.v z])] (.panicking (yG q)) (fun _:Unit=>True)
  (fun _=>⟨.panicking [{v:=.iface 63 (.agg #[.int .i64 q.1,.int .i64 (q.2:Int)]),recovered:=true}],3,[(0,.cells 32 sG),(1,.cells 3 [.v (.int .i64 q.1)]),(2,.cells 33 [.v (.int .i64 (q.2:Int))])]⟩):=by
 refine aEZ.of Tryz.func22 (by kernel_rfl) rfl Tryz.ntmps22 rfl fun E0 F h w0 c0 cs=>?_
 (try refine gS ?_);conv=>whnf
 refine aA.recoverP ?_
 (try refine gS ?_);conv=>whnf
 refine aA.effV (fun E h=>qS Tryz.underlying63 (fun _ e=>by cases e)) ?_
 (try refine gS ?_);conv=>whnf
 refine aA.held tab (.fl 0 (.fl 1 (.fl 2 (.fl 3 (.fl 4 (.e1 5 [2,4] (.e1 6 [4] (.e1 7 [] .done)))))))) (by kernel_rfl) ?_;conv=>whnf
 (try refine gR ?_);conv=>whnf
 repeat ((first|(guard_target=_∧_;(first|refine oL ?_|refine oR ?_|refine oB ?_))|(guard_target=Exists _;refine oM ?_));(try intro _);conv=>whnf)
 (try refine gS ?_);conv=>whnf
 refine aA.finU (aE.retD tab Tryz.func22 rfl (aJU.mk () trivial [] ⟨by rfl,by rfl,by rfl,trivial⟩ rfl rfl rfl))
theorem mK {L q:List Tok} {x:Tok} {t:ByteArray} (h:AllV L) (hq:x::q <:+ L) (ht:x.text=t) (hn:NmP t):x.kind=1:=by
 rcases h x (hq.subset (List.mem_cons_self ..)) with h|h|h
 ·exact h.1
 ·rw [←ht,h.2.1] at hn;exact absurd hn nm_e0
 rw [←ht] at hn;exact absurd hn (aME h.2.1 h.2.2.1)
theorem fnZ (w:World):(zeroValue 70).run Tryz.prog w=.ok .nilFunc w:=by kernel_rfl
theorem aQJ (src:ByteArray) (hs:src.size≤65536) {tl:List (Nat×Tk)} (hl:rY (bs src) 0=.inl tl):FnX Tryz.prog 11 0 [.v (.string src)] [] (fun _ _=>True) (fun y G h=>PsJ (lX src) y G h) aRA:=by
 have hV:=(aYA hl).1
 have hn:=(aOG _ (bs src) 0 tl rfl hl).1
 rw [kY] at hn
 obtain ⟨q0,hq0⟩:∃q,q=lX src:=⟨_,rfl⟩
 rw [←hq0]
 have hq0:q0=match aFD noS (pK tl) with
   | .ok x _=>.inl x
   | .bad r e=>.inr ((dI src.size e r).1,((dI src.size e r).2:Int)):=by
  rw [hq0];unfold lX;rw [hl];rfl
 have CL:=aYB hs hl
 obtain ⟨L,hL⟩:∃L,L=pK tl:=⟨_,rfl⟩
 have hLn:L.length≤65536:=by rw [hL];unfold pK;rw [List.length_map];omega
 rw [←hL] at hV hq0 CL
 clear hL hl hn
 have KT:=kl_of hV
 have V:=vocN
 have lm:(L.map Tok.row).length=L.length:=List.length_map _
 refine FnX.of Tryz.func11 (by kernel_rfl) rfl Tryz.ntmps11 rfl fun E0 F G h N hP w0 cs=>?_
 conv=>whnf
 refine gS ?_;conv=>whnf
 refine aA.callN (CL) [] ?_ sH ?CNa1
 case CNa1=>rfl
 intro _ _
 conv=>whnf
 (try refine gS ?_);conv=>whnf
 repeat ((first|(guard_target=_∧_;(first|refine oL ?_|refine oR ?_))|(guard_target=Exists _;refine oM ?_));(try intro _);conv=>whnf)
 refine aA.deferU ?_
 (try refine gS ?_);conv=>whnf
 refine aA.callN (defs_fn) [] ?_ sH ?CNa2
 case CNa2=>rfl
 intro _ _
 conv=>whnf
 (try refine gS ?_);conv=>whnf
 refine aA.subR (nx':=6) (l':=[(2,.ptr 0 0),(3,.ptr 1 0),(4,.ptr 2 0),(6,.ptr 4 0),(7,.buf 5)]) (H':=[(0,.cells 32 sG),(1,.cells 3 [.v (.int .i64 0)]),(2,.cells 33 [.v (.int .i64 0)]),(3,.own 47 4 (L.map Tok.row)),(4,.cells 67 [.v (.string src),.buf 3,.v (.int .i64 0),.v aD,.v aD,.v aD,.v aD,.v aD,.v aD,.v aD,.v aD]),(5,.map .string dJ)]) [] ?_ sH sH
 refine aA.nilOwn (l':=[(2,.ptr 0 0),(3,.ptr 1 0),(4,.ptr 2 0),(6,.ptr 4 0),(7,.buf 5)]) (H':=[(0,.cells 32 sG),(1,.cells 3 [.v (.int .i64 0)]),(2,.cells 33 [.v (.int .i64 0)]),(3,.own 47 4 (L.map Tok.row)),(4,.cells 67 [.v (.string src),.buf 3,.v (.int .i64 0),.buf 6,.v aD,.v aD,.v aD,.v aD,.v aD,.v aD,.v aD]),(5,.map .string dJ)]) 81 8 ?_ (by rfl) (by rfl) (by rfl)
 refine aA.nilOwn (l':=[(2,.ptr 0 0),(3,.ptr 1 0),(4,.ptr 2 0),(6,.ptr 4 0),(7,.buf 5)]) (H':=[(6,.own 81 8 []),(0,.cells 32 sG),(1,.cells 3 [.v (.int .i64 0)]),(2,.cells 33 [.v (.int .i64 0)]),(3,.own 47 4 (L.map Tok.row)),(4,.cells 67 [.v (.string src),.buf 3,.v (.int .i64 0),.buf 6,.buf 7,.v aD,.v aD,.v aD,.v aD,.v aD,.v aD]),(5,.map .string dJ)]) 83 6 ?_ (by rfl) (by rfl) (by rfl)
 refine aA.nilOwn (l':=[(2,.ptr 0 0),(3,.ptr 1 0),(4,.ptr 2 0),(6,.ptr 4 0),(7,.buf 5)]) (H':=[(7,.own 83 6 []),(6,.own 81 8 []),(0,.cells 32 sG),(1,.cells 3 [.v (.int .i64 0)]),(2,.cells 33 [.v (.int .i64 0)]),(3,.own 47 4 (L.map Tok.row)),(4,.cells 67 [.v (.string src),.buf 3,.v (.int .i64 0),.buf 6,.buf 7,.buf 8,.v aD,.v aD,.v aD,.v aD,.v aD]),(5,.map .string dJ)]) 9 1 ?_ (by rfl) (by rfl) (by rfl)
 refine aA.nilOwn (l':=[(2,.ptr 0 0),(3,.ptr 1 0),(4,.ptr 2 0),(6,.ptr 4 0),(7,.buf 5)]) (H':=[(8,.own 9 1 []),(7,.own 83 6 []),(6,.own 81 8 []),(0,.cells 32 sG),(1,.cells 3 [.v (.int .i64 0)]),(2,.cells 33 [.v (.int .i64 0)]),(3,.own 47 4 (L.map Tok.row)),(4,.cells 67 [.v (.string src),.buf 3,.v (.int .i64 0),.buf 6,.buf 7,.buf 8,.buf 9,.v aD,.v aD,.v aD,.v aD]),(5,.map .string dJ)]) 85 4 ?_ (by rfl) (by rfl) (by rfl)
 refine aA.nilOwn (l':=[(2,.ptr 0 0),(3,.ptr 1 0),(4,.ptr 2 0),(6,.ptr 4 0),(7,.buf 5)]) (H':=[(9,.own 85 4 []),(8,.own 9 1 []),(7,.own 83 6 []),(6,.own 81 8 []),(0,.cells 32 sG),(1,.cells 3 [.v (.int .i64 0)]),(2,.cells 33 [.v (.int .i64 0)]),(3,.own 47 4 (L.map Tok.row)),(4,.cells 67 [.v (.string src),.buf 3,.v (.int .i64 0),.buf 6,.buf 7,.buf 8,.buf 9,.buf 10,.v aD,.v aD,.v aD]),(5,.map .string dJ)]) 50 2 ?_ (by rfl) (by rfl) (by rfl)
 refine aA.nilOwn (l':=[(2,.ptr 0 0),(3,.ptr 1 0),(4,.ptr 2 0),(6,.ptr 4 0),(7,.buf 5)]) (H':=[(10,.own 50 2 []),(9,.own 85 4 []),(8,.own 9 1 []),(7,.own 83 6 []),(6,.own 81 8 []),(0,.cells 32 sG),(1,.cells 3 [.v (.int .i64 0)]),(2,.cells 33 [.v (.int .i64 0)]),(3,.own 47 4 (L.map Tok.row)),(4,.cells 67 [.v (.string src),.buf 3,.v (.int .i64 0),.buf 6,.buf 7,.buf 8,.buf 9,.buf 10,.buf 11,.v aD,.v aD]),(5,.map .string dJ)]) 53 1 ?_ (by rfl) (by rfl) (by rfl)
 refine aA.nilOwn (l':=[(2,.ptr 0 0),(3,.ptr 1 0),(4,.ptr 2 0),(6,.ptr 4 0),(7,.buf 5)]) (H':=[(11,.own 53 1 []),(10,.own 50 2 []),(9,.own 85 4 []),(8,.own 9 1 []),(7,.own 83 6 []),(6,.own 81 8 []),(0,.cells 32 sG),(1,.cells 3 [.v (.int .i64 0)]),(2,.cells 33 [.v (.int .i64 0)]),(3,.own 47 4 (L.map Tok.row)),(4,.cells 67 [.v (.string src),.buf 3,.v (.int .i64 0),.buf 6,.buf 7,.buf 8,.buf 9,.buf 10,.buf 11,.buf 12,.v aD]),(5,.map .string dJ)]) 61 17 ?_ (by rfl) (by rfl) (by rfl)
 refine aA.nilOwn (l':=[(2,.ptr 0 0),(3,.ptr 1 0),(4,.ptr 2 0),(6,.ptr 4 0),(7,.buf 5)]) (H':=[(12,.own 61 17 []),(11,.own 53 1 []),(10,.own 50 2 []),(9,.own 85 4 []),(8,.own 9 1 []),(7,.own 83 6 []),(6,.own 81 8 []),(0,.cells 32 sG),(1,.cells 3 [.v (.int .i64 0)]),(2,.cells 33 [.v (.int .i64 0)]),(3,.own 47 4 (L.map Tok.row)),(4,.cells 67 [.v (.string src),.buf 3,.v (.int .i64 0),.buf 6,.buf 7,.buf 8,.buf 9,.buf 10,.buf 11,.buf 12,.buf 13]),(5,.map .string dJ)]) 89 4 ?_ (by rfl) (by rfl) (by rfl)
 have i0:(0:Int)=ix L L:=by show (0:Int)=((L.length - L.length:Nat):Int);rw [Nat.sub_self];rfl
 refine aA.subR (nx':=14) (l':=[(2,.ptr 0 0),(3,.ptr 1 0),(4,.ptr 2 0),(6,.ptr 4 0),(7,.buf 5)]) (H':=[(0,.cells 32 sG),(1,.cells 3 [.v (.int .i64 0)]),(2,.cells 33 [.v (.int .i64 0)]),(3,.own 47 4 (L.map Tok.row)),(4,.cells 67 [.v (.string src),.buf 3,.v (.int .i64 0),.buf 6,.buf 7,.buf 8,.buf 9,.buf 10,.buf 11,.buf 12,.buf 13]),(5,.map .string dJ),(6,.own 81 8 []),(7,.own 83 6 []),(8,.own 9 1 []),(9,.own 85 4 []),(10,.own 50 2 []),(11,.own 53 1 []),(12,.own 61 17 []),(13,.own 89 4 [])]) [] ?_ sH sH
 rw [show ((4,.cells 67 [.v (.string src),.buf 3,.v (.int .i64 0),.buf 6,.buf 7,.buf 8,.buf 9,.buf 10,.buf 11,.buf 12,.buf 13]):Nat×Fw.Blk)=(4,.cells 67 [.v (.string src),.buf 3,.v (.int .i64 (ix L L)),.buf 6,.buf 7,.buf 8,.buf 9,.buf 10,.buf 11,.buf 12,.buf 13]) from by rw [←i0]]
 refine aA.subR [] (aA.loopB (fun (⟨s,q,F',G',h'⟩:aJ×List Tok×(Nat→Prop)×(Nat→Prop)×Array Obj)=>(F',h')) (fun (⟨s,q,F',G',h'⟩:aJ×List Tok×(Nat→Prop)×(Nat→Prop)×Array Obj)=>[(2,.ptr 0 0),(3,.ptr 1 0),(4,.ptr 2 0),(6,.ptr 4 0),(7,.buf 5)]) (fun (⟨s,q,F',G',h'⟩:aJ×List Tok×(Nat→Prop)×(Nat→Prop)×Array Obj)=>[(0,.cells 32 sG),(1,.cells 3 [.v (.int .i64 0)]),(2,.cells 33 [.v (.int .i64 0)]),(3,.own 47 4 (L.map Tok.row)),(4,.cells 67 [.v (.string src),.buf 3,.v (.int .i64 (ix L q)),.buf 6,.buf 7,.buf 8,.buf 9,.buf 10,.buf 11,.buf 12,.buf 13]),(5,.map .string dJ),(6,.own 81 8 (rws Un.row s.units)),(7,.own 83 6 (rws It.row s.items)),(8,.own 9 1 (rws kO s.plants)),(9,.own 85 4 (rws Mc.row s.machines)),(10,.own 50 2 (rws OpV.row s.options)),(11,.own 53 1 (rws FbV.row s.forbids)),(12,.own 61 17 (rws RcV.row s.recipes)),(13,.own 89 4 (rws Sw.row s.swaps))]) 14 (fun (⟨s,q,F',G',h'⟩:aJ×List Tok×(Nat→Prop)×(Nat→Prop)×Array Obj)=>((Now F G h F' G' h'∧s.sub G' h')∧q <:+ L)∧aFD noS L=aFD s.bare q) (fun (⟨s,q,F',G',h'⟩:aJ×List Tok×(Nat→Prop)×(Nat→Prop)×Array Obj)=>q.length) ?round3 (⟨noS,L,F,G,h⟩) ?J03) sH sH
 case J03=>exact (⟨⟨⟨N,⟨fun _ h=>absurd h List.not_mem_nil,fun _ h=>absurd h List.not_mem_nil,fun _ h=>absurd h List.not_mem_nil⟩⟩,List.suffix_refl _⟩,rfl⟩)
 rintro ⟨s,q,F',G',h'⟩ hJ back
 try dsimp only at hJ back
 conv=>whnf
 try dsimp only
 refine gS ?_;conv=>whnf
 obtain ⟨⟨⟨N1,hsub⟩,hq⟩,hJ⟩:=hJ
 refine aA.held tab (.fl 0 (.fl 1 (.fl 2 (.fl 3 (.fl 4 (.fl 5 (.fl 6 (.fl 7 (.fl 8 (.fl 9 .done)))))))))) (by kernel_rfl) ?_;conv=>whnf
 (try refine gR ?_);conv=>whnf
 refine ⟨fun hk=>?_,fun hk=>?_⟩<;>conv=>whnf
 ·obtain ⟨x,q,rfl⟩:∃x q',q=x::q':=by
   cases q with
   |nil=>rw [aEO,lm] at hk;omega
   |cons x q=>exact ⟨x,q,rfl⟩
  have h2:=uD hq
  have hqq:=cC hq
  conv=>whnf
  (try refine gS ?_);conv=>whnf
  refine aA.held tab (.fl 0 (.fl 1 (.fl 2 (.fl 3 (.fl 4 (.fl 5 (.fl 6 (.fl 7 (.fl 8 (.fl 9 (.fl 10 (.fl 11 (.e1 12 [] (.fl 13 (.fl 14 (.fl 15 (.fl 16 (.fl 17 .done)))))))))))))))))) (by kernel_rfl) ?_;conv=>whnf
  (try refine gR ?_);conv=>whnf
  repeat ((first|(guard_target=_∧_;(first|refine oL ?_|refine oR ?_|refine oB ?_))|(guard_target=Exists _;refine oM ?_));(try intro _);conv=>whnf)
  conv=>whnf
  refine ⟨_,tX hq,?_⟩;conv=>whnf
  rcases aPF x.text with ht|ht|ht|ht|ht|ht|ht|ht|ht
  ·have hk1:=mK hV hq ht (by decide)
   have hd:iN dJ (.string x.text) (some (.func (.func 58) #[] #[])):=by
    have:=qF x.text
    rw [ht] at this ⊢
    exact this
   refine aV.lookup (some (.func (.func 58) #[] #[])) mpT stT fnZ (hd) (by (conv=>whnf);(repeat (guard_target=_∧_;refine And.intro (by (conv=>whnf);first|rfl|exact trivial) ?_;conv=>whnf));exact trivial) ?_
   conv=>whnf
   (try refine gR ?_);conv=>whnf
   (try refine gS ?_);conv=>whnf
   refine aA.callN (aPZ src L (x::q) hq hLn KT V s.units (List.cons_ne_nil _ _)) [4,3,6,7,8,9,10,11,12,13] ?_ sH ?CNa4
   case CNa4=>rfl
   rintro (⟨a,r2⟩|⟨r2,e2⟩) h2<;>conv=>whnf
   rotate_left
   ·have hd2:dX s.bare (x::q)=.bad r2 e2:=by
     rw [aJG (s:=s.bare) (r:=q) hk1 ht]
     rw [kZ] at h2
     exact aH (aEU h2.symm)
    rw [hJ,nD hd2] at hq0
    refine aE.deferN (iZ _ _ (dI src.size e2 r2)) [0,1,2] ?_ ⟨by rfl,by rfl,by rfl,trivial⟩ rfl (fun e=>by cases e)
    intro _ _
    conv=>whnf
    refine aE.ret tab Tryz.func11 rfl (iK.mk (N1) (⟨jU,(dI src.size e2 r2).1,((dI src.size e2 r2).2:Int),aD,aD,aD,aD,aD,aD,aD,aD⟩:PsX) (fun h U=>⟨gX.none _ _,by rw [hq0];exact ⟨rfl,rfl,rfl⟩⟩) [] (by exact trivial) rfl rfl (aY rfl rfl))
   rw [kZ] at h2
   obtain ⟨a,h3,rfl⟩:=aMA h2.symm
   have hs2:=pI aPG.g h3
   have hd2:dX s.bare (x::q)=.ok {s with units:=s.units++[a]}.bare r2:=by
    rw [aJG (s:=s.bare) (r:=q) hk1 ht]
    exact aB h3
   refine aA.subR (nx':=15) (l':=[(2,.ptr 0 0),(3,.ptr 1 0),(4,.ptr 2 0),(6,.ptr 4 0),(7,.buf 5)]) (H':=[(0,.cells 32 sG),(1,.cells 3 [.v (.int .i64 0)]),(2,.cells 33 [.v (.int .i64 0)]),(3,.own 47 4 (L.map Tok.row)),(4,.cells 67 [.v (.string src),.buf 3,.v (.int .i64 (ix L r2)),.buf 14,.buf 7,.buf 8,.buf 9,.buf 10,.buf 11,.buf 12,.buf 13]),(5,.map .string dJ),(14,.own 81 8 (rws Un.row (s.units++[a]))),(7,.own 83 6 (rws It.row {s with units:=s.units++[a]}.items)),(8,.own 9 1 (rws kO {s with units:=s.units++[a]}.plants)),(9,.own 85 4 (rws Mc.row {s with units:=s.units++[a]}.machines)),(10,.own 50 2 (rws OpV.row {s with units:=s.units++[a]}.options)),(11,.own 53 1 (rws FbV.row {s with units:=s.units++[a]}.forbids)),(12,.own 61 17 (rws RcV.row {s with units:=s.units++[a]}.recipes)),(13,.own 89 4 (rws Sw.row {s with units:=s.units++[a]}.swaps))]) [] ?_ sH sH
   (try refine gS ?_);conv=>whnf
   refine aA.subR [(6,14)] (back (({s with units:=s.units++[a]},r2,F',G',h')) (by exact (⟨⟨⟨N1,hsub.o,hsub.f,hsub.r⟩,hs2.trans hqq⟩,hJ.trans (mL hs2.length_le hd2)⟩)) (by exact (Nat.lt_succ_of_le hs2.length_le))) sH sH
  ·have hk1:=mK hV hq ht (by decide)
   have hd:iN dJ (.string x.text) (some (.func (.func 61) #[] #[])):=by
    have:=qF x.text
    rw [ht] at this ⊢
    exact this
   refine aV.lookup (some (.func (.func 61) #[] #[])) mpT stT fnZ (hd) (by (conv=>whnf);(repeat (guard_target=_∧_;refine And.intro (by (conv=>whnf);first|rfl|exact trivial) ?_;conv=>whnf));exact trivial) ?_
   conv=>whnf
   (try refine gR ?_);conv=>whnf
   (try refine gS ?_);conv=>whnf
   refine aA.callN (aQO src L (x::q) hq hLn KT V s.items (List.cons_ne_nil _ _)) [4,3,6,7,8,9,10,11,12,13] ?_ sH ?CNa6
   case CNa6=>rfl
   rintro (⟨a,r2⟩|⟨r2,e2⟩) h2<;>conv=>whnf
   rotate_left
   ·have hd2:dX s.bare (x::q)=.bad r2 e2:=by
     rw [aIK (s:=s.bare) (r:=q) hk1 ht]
     rw [kZ] at h2
     exact aH (aEU h2.symm)
    rw [hJ,nD hd2] at hq0
    refine aE.deferN (iZ _ _ (dI src.size e2 r2)) [0,1,2] ?_ ⟨by rfl,by rfl,by rfl,trivial⟩ rfl (fun e=>by cases e)
    intro _ _
    conv=>whnf
    refine aE.ret tab Tryz.func11 rfl (iK.mk (N1) (⟨jU,(dI src.size e2 r2).1,((dI src.size e2 r2).2:Int),aD,aD,aD,aD,aD,aD,aD,aD⟩:PsX) (fun h U=>⟨gX.none _ _,by rw [hq0];exact ⟨rfl,rfl,rfl⟩⟩) [] (by exact trivial) rfl rfl (aY rfl rfl))
   rw [kZ] at h2
   obtain ⟨a,h3,rfl⟩:=aMA h2.symm
   have hs2:=pI aPX.g h3
   have hd2:dX s.bare (x::q)=.ok {s with items:=s.items++[a]}.bare r2:=by
    rw [aIK (s:=s.bare) (r:=q) hk1 ht]
    exact aB h3
   refine aA.subR (nx':=15) (l':=[(2,.ptr 0 0),(3,.ptr 1 0),(4,.ptr 2 0),(6,.ptr 4 0),(7,.buf 5)]) (H':=[(0,.cells 32 sG),(1,.cells 3 [.v (.int .i64 0)]),(2,.cells 33 [.v (.int .i64 0)]),(3,.own 47 4 (L.map Tok.row)),(4,.cells 67 [.v (.string src),.buf 3,.v (.int .i64 (ix L r2)),.buf 6,.buf 14,.buf 8,.buf 9,.buf 10,.buf 11,.buf 12,.buf 13]),(5,.map .string dJ),(6,.own 81 8 (rws Un.row {s with items:=s.items++[a]}.units)),(14,.own 83 6 (rws It.row (s.items++[a]))),(8,.own 9 1 (rws kO {s with items:=s.items++[a]}.plants)),(9,.own 85 4 (rws Mc.row {s with items:=s.items++[a]}.machines)),(10,.own 50 2 (rws OpV.row {s with items:=s.items++[a]}.options)),(11,.own 53 1 (rws FbV.row {s with items:=s.items++[a]}.forbids)),(12,.own 61 17 (rws RcV.row {s with items:=s.items++[a]}.recipes)),(13,.own 89 4 (rws Sw.row {s with items:=s.items++[a]}.swaps))]) [] ?_ sH sH
   (try refine gS ?_);conv=>whnf
   refine aA.subR [(7,14)] (back (({s with items:=s.items++[a]},r2,F',G',h')) (by exact (⟨⟨⟨N1,hsub.o,hsub.f,hsub.r⟩,hs2.trans hqq⟩,hJ.trans (mL hs2.length_le hd2)⟩)) (by exact (Nat.lt_succ_of_le hs2.length_le))) sH sH
  ·have hk1:=mK hV hq ht (by decide)
   have hd:iN dJ (.string x.text) (some (.func (.func 64) #[] #[])):=by
    have:=qF x.text
    rw [ht] at this ⊢
    exact this
   refine aV.lookup (some (.func (.func 64) #[] #[])) mpT stT fnZ (hd) (by (conv=>whnf);(repeat (guard_target=_∧_;refine And.intro (by (conv=>whnf);first|rfl|exact trivial) ?_;conv=>whnf));exact trivial) ?_
   conv=>whnf
   (try refine gR ?_);conv=>whnf
   (try refine gS ?_);conv=>whnf
   refine aA.callN (aOA src L (x::q) hq hLn KT V s.plants (List.cons_ne_nil _ _)) [4,3,6,7,8,9,10,11,12,13] ?_ sH ?CNa8
   case CNa8=>rfl
   rintro (⟨a,r2⟩|⟨r2,e2⟩) h2<;>conv=>whnf
   rotate_left
   ·have hd2:dX s.bare (x::q)=.bad r2 e2:=by
     rw [aFQ (s:=s.bare) (r:=q) hk1 ht]
     rw [kZ] at h2
     exact aH (aEU h2.symm)
    rw [hJ,nD hd2] at hq0
    refine aE.deferN (iZ _ _ (dI src.size e2 r2)) [0,1,2] ?_ ⟨by rfl,by rfl,by rfl,trivial⟩ rfl (fun e=>by cases e)
    intro _ _
    conv=>whnf
    refine aE.ret tab Tryz.func11 rfl (iK.mk (N1) (⟨jU,(dI src.size e2 r2).1,((dI src.size e2 r2).2:Int),aD,aD,aD,aD,aD,aD,aD,aD⟩:PsX) (fun h U=>⟨gX.none _ _,by rw [hq0];exact ⟨rfl,rfl,rfl⟩⟩) [] (by exact trivial) rfl rfl (aY rfl rfl))
   rw [kZ] at h2
   obtain ⟨a,h3,rfl⟩:=aMA h2.symm
   have hs2:=pI aKS.g h3
   have hd2:dX s.bare (x::q)=.ok {s with plants:=s.plants++[a]}.bare r2:=by
    rw [aFQ (s:=s.bare) (r:=q) hk1 ht]
    exact aB h3
   refine aA.subR (nx':=15) (l':=[(2,.ptr 0 0),(3,.ptr 1 0),(4,.ptr 2 0),(6,.ptr 4 0),(7,.buf 5)]) (H':=[(0,.cells 32 sG),(1,.cells 3 [.v (.int .i64 0)]),(2,.cells 33 [.v (.int .i64 0)]),(3,.own 47 4 (L.map Tok.row)),(4,.cells 67 [.v (.string src),.buf 3,.v (.int .i64 (ix L r2)),.buf 6,.buf 7,.buf 14,.buf 9,.buf 10,.buf 11,.buf 12,.buf 13]),(5,.map .string dJ),(6,.own 81 8 (rws Un.row {s with plants:=s.plants++[a]}.units)),(7,.own 83 6 (rws It.row {s with plants:=s.plants++[a]}.items)),(14,.own 9 1 (rws kO (s.plants++[a]))),(9,.own 85 4 (rws Mc.row {s with plants:=s.plants++[a]}.machines)),(10,.own 50 2 (rws OpV.row {s with plants:=s.plants++[a]}.options)),(11,.own 53 1 (rws FbV.row {s with plants:=s.plants++[a]}.forbids)),(12,.own 61 17 (rws RcV.row {s with plants:=s.plants++[a]}.recipes)),(13,.own 89 4 (rws Sw.row {s with plants:=s.plants++[a]}.swaps))]) [] ?_ sH sH
   (try refine gS ?_);conv=>whnf
   refine aA.subR [(8,14)] (back (({s with plants:=s.plants++[a]},r2,F',G',h')) (by exact (⟨⟨⟨N1,hsub.o,hsub.f,hsub.r⟩,hs2.trans hqq⟩,hJ.trans (mL hs2.length_le hd2)⟩)) (by exact (Nat.lt_succ_of_le hs2.length_le))) sH sH
  ·have hk1:=mK hV hq ht (by decide)
   have hd:iN dJ (.string x.text) (some (.func (.func 67) #[] #[])):=by
    have:=qF x.text
    rw [ht] at this ⊢
    exact this
   refine aV.lookup (some (.func (.func 67) #[] #[])) mpT stT fnZ (hd) (by (conv=>whnf);(repeat (guard_target=_∧_;refine And.intro (by (conv=>whnf);first|rfl|exact trivial) ?_;conv=>whnf));exact trivial) ?_
   conv=>whnf
   (try refine gR ?_);conv=>whnf
   (try refine gS ?_);conv=>whnf
   refine aA.callN (aHH src L (x::q) hq hLn KT V s.machines (List.cons_ne_nil _ _)) [4,3,6,7,8,9,10,11,12,13] ?_ sH ?CNa10
   case CNa10=>rfl
   rintro (⟨a,r2⟩|⟨r2,e2⟩) h2<;>conv=>whnf
   rotate_left
   ·have hd2:dX s.bare (x::q)=.bad r2 e2:=by
     rw [aAH (s:=s.bare) (r:=q) hk1 ht]
     rw [kZ] at h2
     exact aH (aEU h2.symm)
    rw [hJ,nD hd2] at hq0
    refine aE.deferN (iZ _ _ (dI src.size e2 r2)) [0,1,2] ?_ ⟨by rfl,by rfl,by rfl,trivial⟩ rfl (fun e=>by cases e)
    intro _ _
    conv=>whnf
    refine aE.ret tab Tryz.func11 rfl (iK.mk (N1) (⟨jU,(dI src.size e2 r2).1,((dI src.size e2 r2).2:Int),aD,aD,aD,aD,aD,aD,aD,aD⟩:PsX) (fun h U=>⟨gX.none _ _,by rw [hq0];exact ⟨rfl,rfl,rfl⟩⟩) [] (by exact trivial) rfl rfl (aY rfl rfl))
   rw [kZ] at h2
   obtain ⟨a,h3,rfl⟩:=aMA h2.symm
   have hs2:=pI aQF.g h3
   have hd2:dX s.bare (x::q)=.ok {s with machines:=s.machines++[a]}.bare r2:=by
    rw [aAH (s:=s.bare) (r:=q) hk1 ht]
    exact aB h3
   refine aA.subR (nx':=15) (l':=[(2,.ptr 0 0),(3,.ptr 1 0),(4,.ptr 2 0),(6,.ptr 4 0),(7,.buf 5)]) (H':=[(0,.cells 32 sG),(1,.cells 3 [.v (.int .i64 0)]),(2,.cells 33 [.v (.int .i64 0)]),(3,.own 47 4 (L.map Tok.row)),(4,.cells 67 [.v (.string src),.buf 3,.v (.int .i64 (ix L r2)),.buf 6,.buf 7,.buf 8,.buf 14,.buf 10,.buf 11,.buf 12,.buf 13]),(5,.map .string dJ),(6,.own 81 8 (rws Un.row {s with machines:=s.machines++[a]}.units)),(7,.own 83 6 (rws It.row {s with machines:=s.machines++[a]}.items)),(8,.own 9 1 (rws kO {s with machines:=s.machines++[a]}.plants)),(14,.own 85 4 (rws Mc.row (s.machines++[a]))),(10,.own 50 2 (rws OpV.row {s with machines:=s.machines++[a]}.options)),(11,.own 53 1 (rws FbV.row {s with machines:=s.machines++[a]}.forbids)),(12,.own 61 17 (rws RcV.row {s with machines:=s.machines++[a]}.recipes)),(13,.own 89 4 (rws Sw.row {s with machines:=s.machines++[a]}.swaps))]) [] ?_ sH sH
   (try refine gS ?_);conv=>whnf
   refine aA.subR [(9,14)] (back (({s with machines:=s.machines++[a]},r2,F',G',h')) (by exact (⟨⟨⟨N1,hsub.o,hsub.f,hsub.r⟩,hs2.trans hqq⟩,hJ.trans (mL hs2.length_le hd2)⟩)) (by exact (Nat.lt_succ_of_le hs2.length_le))) sH sH
  ·have hk1:=mK hV hq ht (by decide)
   have hd:iN dJ (.string x.text) (some (.func (.func 70) #[] #[])):=by
    have:=qF x.text
    rw [ht] at this ⊢
    exact this
   refine aV.lookup (some (.func (.func 70) #[] #[])) mpT stT fnZ (hd) (by (conv=>whnf);(repeat (guard_target=_∧_;refine And.intro (by (conv=>whnf);first|rfl|exact trivial) ?_;conv=>whnf));exact trivial) ?_
   conv=>whnf
   (try refine gR ?_);conv=>whnf
   (try refine gS ?_);conv=>whnf
   refine aA.callY (N1.gsub) (aJX src L (x::q) hq hLn KT V s.options (List.cons_ne_nil _ _)) (fun _ _=>trivial) [4,3,6,7,8,9,10,11,12,13] sH ?CNa12 ?_
   case CNa12=>rfl
   rintro _ y G2 h2' N2 ⟨h2,J2⟩
   cases y with
   |bad r2 e2=>
    conv=>whnf
    have hd2:dX s.bare (x::q)=.bad r2 e2:=by
     rw [aCZ (s:=s.bare) (r:=q) hk1 ht]
     exact aH (by simpa [aJ.bare,Rs.fm] using h2.symm)
    rw [hJ,nD hd2] at hq0
    refine aE.deferN (iZ _ _ (dI src.size e2 r2)) [0,1,2] ?_ ⟨by rfl,by rfl,by rfl,trivial⟩ rfl (fun e=>by cases e)
    intro _ _
    conv=>whnf
    refine aE.ret tab Tryz.func11 rfl (iK.mk (N1.trans N2) (⟨jU,(dI src.size e2 r2).1,((dI src.size e2 r2).2:Int),aD,aD,aD,aD,aD,aD,aD,aD⟩:PsX) (fun h U=>⟨gX.none _ _,by rw [hq0];exact ⟨rfl,rfl,rfl⟩⟩) [] (by exact trivial) rfl rfl (aY rfl rfl))
   |ok a r2=>
    conv=>whnf
    have h2:gB nX 6 s.bare.options.length (x::q)=.ok a.bare r2:=by simpa [aJ.bare,Rs.fm] using h2.symm
    have hs2:=pI aQA.g h2
    have hd2:dX s.bare (x::q)=.ok {s with options:=s.options++[a]}.bare r2:=by
     rw [aCZ (s:=s.bare) (r:=q) hk1 ht,aB h2]
     show Rs.ok _ _=Rs.ok _ _
     simp [aJ.bare]
    have hsub2:=hsub.up (Now.step N1.gsub N2)
    refine aA.subR (nx':=15) (l':=[(2,.ptr 0 0),(3,.ptr 1 0),(4,.ptr 2 0),(6,.ptr 4 0),(7,.buf 5)]) (H':=[(0,.cells 32 sG),(1,.cells 3 [.v (.int .i64 0)]),(2,.cells 33 [.v (.int .i64 0)]),(3,.own 47 4 (L.map Tok.row)),(4,.cells 67 [.v (.string src),.buf 3,.v (.int .i64 (ix L r2)),.buf 6,.buf 7,.buf 8,.buf 9,.buf 14,.buf 11,.buf 12,.buf 13]),(5,.map .string dJ),(6,.own 81 8 (rws Un.row s.units)),(7,.own 83 6 (rws It.row s.items)),(8,.own 9 1 (rws kO s.plants)),(9,.own 85 4 (rws Mc.row s.machines)),(14,.own 50 2 (rws OpV.row (s.options++[a]))),(11,.own 53 1 (rws FbV.row s.forbids)),(12,.own 61 17 (rws RcV.row s.recipes)),(13,.own 89 4 (rws Sw.row s.swaps))]) [] ?_ sH sH
    (try refine gS ?_);conv=>whnf
    refine aA.subR [(10,14)] (back (({s with options:=s.options++[a]},r2,_,G2,h2')) (by exact (⟨⟨⟨N1.trans N2,⟨jM hsub2.o J2,hsub2.f,hsub2.r⟩⟩,hs2.trans hqq⟩,hJ.trans (mL hs2.length_le hd2)⟩)) (by exact (Nat.lt_succ_of_le hs2.length_le))) sH sH
  ·have hk1:=mK hV hq ht (by decide)
   have hd:iN dJ (.string x.text) (some (.func (.func 73) #[] #[])):=by
    have:=qF x.text
    rw [ht] at this ⊢
    exact this
   refine aV.lookup (some (.func (.func 73) #[] #[])) mpT stT fnZ (hd) (by (conv=>whnf);(repeat (guard_target=_∧_;refine And.intro (by (conv=>whnf);first|rfl|exact trivial) ?_;conv=>whnf));exact trivial) ?_
   conv=>whnf
   (try refine gR ?_);conv=>whnf
   (try refine gS ?_);conv=>whnf
   refine aA.callY (N1.gsub) (aLG src L (x::q) hq hLn KT V s.forbids (List.cons_ne_nil _ _)) (fun _ _=>trivial) [4,3,6,7,8,9,10,11,12,13] sH ?CNa14 ?_
   case CNa14=>rfl
   rintro _ y G2 h2' N2 ⟨h2,J2⟩
   cases y with
   |bad r2 e2=>
    conv=>whnf
    have hd2:dX s.bare (x::q)=.bad r2 e2:=by
     rw [aCM (s:=s.bare) (r:=q) hk1 ht]
     exact aH (by simpa [aJ.bare,Rs.fm] using h2.symm)
    rw [hJ,nD hd2] at hq0
    refine aE.deferN (iZ _ _ (dI src.size e2 r2)) [0,1,2] ?_ ⟨by rfl,by rfl,by rfl,trivial⟩ rfl (fun e=>by cases e)
    intro _ _
    conv=>whnf
    refine aE.ret tab Tryz.func11 rfl (iK.mk (N1.trans N2) (⟨jU,(dI src.size e2 r2).1,((dI src.size e2 r2).2:Int),aD,aD,aD,aD,aD,aD,aD,aD⟩:PsX) (fun h U=>⟨gX.none _ _,by rw [hq0];exact ⟨rfl,rfl,rfl⟩⟩) [] (by exact trivial) rfl rfl (aY rfl rfl))
   |ok a r2=>
    conv=>whnf
    have h2:gB qB 16 s.bare.forbids.length (x::q)=.ok a.bare r2:=by simpa [aJ.bare,Rs.fm] using h2.symm
    have hs2:=pI aPS.g h2
    have hd2:dX s.bare (x::q)=.ok {s with forbids:=s.forbids++[a]}.bare r2:=by
     rw [aCM (s:=s.bare) (r:=q) hk1 ht,aB h2]
     show Rs.ok _ _=Rs.ok _ _
     simp [aJ.bare]
    have hsub2:=hsub.up (Now.step N1.gsub N2)
    refine aA.subR (nx':=15) (l':=[(2,.ptr 0 0),(3,.ptr 1 0),(4,.ptr 2 0),(6,.ptr 4 0),(7,.buf 5)]) (H':=[(0,.cells 32 sG),(1,.cells 3 [.v (.int .i64 0)]),(2,.cells 33 [.v (.int .i64 0)]),(3,.own 47 4 (L.map Tok.row)),(4,.cells 67 [.v (.string src),.buf 3,.v (.int .i64 (ix L r2)),.buf 6,.buf 7,.buf 8,.buf 9,.buf 10,.buf 14,.buf 12,.buf 13]),(5,.map .string dJ),(6,.own 81 8 (rws Un.row s.units)),(7,.own 83 6 (rws It.row s.items)),(8,.own 9 1 (rws kO s.plants)),(9,.own 85 4 (rws Mc.row s.machines)),(10,.own 50 2 (rws OpV.row s.options)),(14,.own 53 1 (rws FbV.row (s.forbids++[a]))),(12,.own 61 17 (rws RcV.row s.recipes)),(13,.own 89 4 (rws Sw.row s.swaps))]) [] ?_ sH sH
    (try refine gS ?_);conv=>whnf
    refine aA.subR [(11,14)] (back (({s with forbids:=s.forbids++[a]},r2,_,G2,h2')) (by exact (⟨⟨⟨N1.trans N2,⟨hsub2.o,jM hsub2.f J2,hsub2.r⟩⟩,hs2.trans hqq⟩,hJ.trans (mL hs2.length_le hd2)⟩)) (by exact (Nat.lt_succ_of_le hs2.length_le))) sH sH
  ·have hk1:=mK hV hq ht (by decide)
   have hd:iN dJ (.string x.text) (some (.func (.func 76) #[] #[])):=by
    have:=qF x.text
    rw [ht] at this ⊢
    exact this
   refine aV.lookup (some (.func (.func 76) #[] #[])) mpT stT fnZ (hd) (by (conv=>whnf);(repeat (guard_target=_∧_;refine And.intro (by (conv=>whnf);first|rfl|exact trivial) ?_;conv=>whnf));exact trivial) ?_
   conv=>whnf
   (try refine gR ?_);conv=>whnf
   (try refine gS ?_);conv=>whnf
   refine aA.callY (N1.gsub) (aPJ src L (x::q) hq hLn KT V s.recipes (List.cons_ne_nil _ _)) (fun _ _=>trivial) [4,3,6,7,8,9,10,11,12,13] sH ?CNa16 ?_
   case CNa16=>rfl
   rintro _ y G2 h2' N2 ⟨h2,J2⟩
   cases y with
   |bad r2 e2=>
    conv=>whnf
    have hd2:dX s.bare (x::q)=.bad r2 e2:=by
     rw [aCR (s:=s.bare) (r:=q) hk1 ht]
     exact aH (by simpa [aJ.bare,Rs.fm] using h2.symm)
    rw [hJ,nD hd2] at hq0
    refine aE.deferN (iZ _ _ (dI src.size e2 r2)) [0,1,2] ?_ ⟨by rfl,by rfl,by rfl,trivial⟩ rfl (fun e=>by cases e)
    intro _ _
    conv=>whnf
    refine aE.ret tab Tryz.func11 rfl (iK.mk (N1.trans N2) (⟨jU,(dI src.size e2 r2).1,((dI src.size e2 r2).2:Int),aD,aD,aD,aD,aD,aD,aD,aD⟩:PsX) (fun h U=>⟨gX.none _ _,by rw [hq0];exact ⟨rfl,rfl,rfl⟩⟩) [] (by exact trivial) rfl rfl (aY rfl rfl))
   |ok a r2=>
    conv=>whnf
    have h2:gB fT 64 s.bare.recipes.length (x::q)=.ok a.bare r2:=by simpa [aJ.bare,Rs.fm] using h2.symm
    have hs2:=pI rec_g.g h2
    have hd2:dX s.bare (x::q)=.ok {s with recipes:=s.recipes++[a]}.bare r2:=by
     rw [aCR (s:=s.bare) (r:=q) hk1 ht,aB h2]
     show Rs.ok _ _=Rs.ok _ _
     simp [aJ.bare]
    have hsub2:=hsub.up (Now.step N1.gsub N2)
    refine aA.subR (nx':=15) (l':=[(2,.ptr 0 0),(3,.ptr 1 0),(4,.ptr 2 0),(6,.ptr 4 0),(7,.buf 5)]) (H':=[(0,.cells 32 sG),(1,.cells 3 [.v (.int .i64 0)]),(2,.cells 33 [.v (.int .i64 0)]),(3,.own 47 4 (L.map Tok.row)),(4,.cells 67 [.v (.string src),.buf 3,.v (.int .i64 (ix L r2)),.buf 6,.buf 7,.buf 8,.buf 9,.buf 10,.buf 11,.buf 14,.buf 13]),(5,.map .string dJ),(6,.own 81 8 (rws Un.row s.units)),(7,.own 83 6 (rws It.row s.items)),(8,.own 9 1 (rws kO s.plants)),(9,.own 85 4 (rws Mc.row s.machines)),(10,.own 50 2 (rws OpV.row s.options)),(11,.own 53 1 (rws FbV.row s.forbids)),(14,.own 61 17 (rws RcV.row (s.recipes++[a]))),(13,.own 89 4 (rws Sw.row s.swaps))]) [] ?_ sH sH
    (try refine gS ?_);conv=>whnf
    refine aA.subR [(12,14)] (back (({s with recipes:=s.recipes++[a]},r2,_,G2,h2')) (by exact (⟨⟨⟨N1.trans N2,⟨hsub2.o,hsub2.f,jM hsub2.r J2⟩⟩,hs2.trans hqq⟩,hJ.trans (mL hs2.length_le hd2)⟩)) (by exact (Nat.lt_succ_of_le hs2.length_le))) sH sH
  ·have hk1:=mK hV hq ht (by decide)
   have hd:iN dJ (.string x.text) (some (.func (.func 79) #[] #[])):=by
    have:=qF x.text
    rw [ht] at this ⊢
    exact this
   refine aV.lookup (some (.func (.func 79) #[] #[])) mpT stT fnZ (hd) (by (conv=>whnf);(repeat (guard_target=_∧_;refine And.intro (by (conv=>whnf);first|rfl|exact trivial) ?_;conv=>whnf));exact trivial) ?_
   conv=>whnf
   (try refine gR ?_);conv=>whnf
   (try refine gS ?_);conv=>whnf
   refine aA.callN (aQB src L (x::q) hq hLn KT V s.swaps (List.cons_ne_nil _ _)) [4,3,6,7,8,9,10,11,12,13] ?_ sH ?CNa18
   case CNa18=>rfl
   rintro (⟨a,r2⟩|⟨r2,e2⟩) h2<;>conv=>whnf
   rotate_left
   ·have hd2:dX s.bare (x::q)=.bad r2 e2:=by
     rw [aJI (s:=s.bare) (r:=q) hk1 ht]
     rw [kZ] at h2
     exact aH (aEU h2.symm)
    rw [hJ,nD hd2] at hq0
    refine aE.deferN (iZ _ _ (dI src.size e2 r2)) [0,1,2] ?_ ⟨by rfl,by rfl,by rfl,trivial⟩ rfl (fun e=>by cases e)
    intro _ _
    conv=>whnf
    refine aE.ret tab Tryz.func11 rfl (iK.mk (N1) (⟨jU,(dI src.size e2 r2).1,((dI src.size e2 r2).2:Int),aD,aD,aD,aD,aD,aD,aD,aD⟩:PsX) (fun h U=>⟨gX.none _ _,by rw [hq0];exact ⟨rfl,rfl,rfl⟩⟩) [] (by exact trivial) rfl rfl (aY rfl rfl))
   rw [kZ] at h2
   obtain ⟨a,h3,rfl⟩:=aMA h2.symm
   have hs2:=pI aPB.g h3
   have hd2:dX s.bare (x::q)=.ok {s with swaps:=s.swaps++[a]}.bare r2:=by
    rw [aJI (s:=s.bare) (r:=q) hk1 ht]
    exact aB h3
   refine aA.subR (nx':=15) (l':=[(2,.ptr 0 0),(3,.ptr 1 0),(4,.ptr 2 0),(6,.ptr 4 0),(7,.buf 5)]) (H':=[(0,.cells 32 sG),(1,.cells 3 [.v (.int .i64 0)]),(2,.cells 33 [.v (.int .i64 0)]),(3,.own 47 4 (L.map Tok.row)),(4,.cells 67 [.v (.string src),.buf 3,.v (.int .i64 (ix L r2)),.buf 6,.buf 7,.buf 8,.buf 9,.buf 10,.buf 11,.buf 12,.buf 14]),(5,.map .string dJ),(6,.own 81 8 (rws Un.row {s with swaps:=s.swaps++[a]}.units)),(7,.own 83 6 (rws It.row {s with swaps:=s.swaps++[a]}.items)),(8,.own 9 1 (rws kO {s with swaps:=s.swaps++[a]}.plants)),(9,.own 85 4 (rws Mc.row {s with swaps:=s.swaps++[a]}.machines)),(10,.own 50 2 (rws OpV.row {s with swaps:=s.swaps++[a]}.options)),(11,.own 53 1 (rws FbV.row {s with swaps:=s.swaps++[a]}.forbids)),(12,.own 61 17 (rws RcV.row {s with swaps:=s.swaps++[a]}.recipes)),(14,.own 89 4 (rws Sw.row (s.swaps++[a])))]) [] ?_ sH sH
   (try refine gS ?_);conv=>whnf
   refine aA.subR [(13,14)] (back (({s with swaps:=s.swaps++[a]},r2,F',G',h')) (by exact (⟨⟨⟨N1,hsub.o,hsub.f,hsub.r⟩,hs2.trans hqq⟩,hJ.trans (mL hs2.length_le hd2)⟩)) (by exact (Nat.lt_succ_of_le hs2.length_le))) sH sH
  have hd:iN dJ (.string x.text) none:=by
   have:=qF x.text
   unfold defF at this
   simpa [ht] using this
  refine aV.lookup none mpT stT fnZ (hd) (by (conv=>whnf);(repeat (guard_target=_∧_;refine And.intro (by (conv=>whnf);first|rfl|exact trivial) ?_;conv=>whnf));exact trivial) ?_
  conv=>whnf
  (try refine gR ?_);conv=>whnf
  (try refine gS ?_);conv=>whnf
  refine aA.callN (pR src L (x::q) hq 100) [4,3,6,7,8,9,10,11,12,13] ?_ sH ?CNa20
  case CNa20=>rfl
  intro _ _
  conv=>whnf
  have hd2:dX s.bare (x::q)=.bad (x::q) 100:=aXF (.inr ht)
  rw [hJ,nD hd2] at hq0
  refine aE.deferN (iZ _ _ (dI src.size 100 (x::q))) [0,1,2] ?_ ⟨by rfl,by rfl,by rfl,trivial⟩ rfl (fun e=>by cases e)
  intro _ _
  conv=>whnf
  refine aE.ret tab Tryz.func11 rfl (iK.mk (N1) (⟨jU,(dI src.size 100 (x::q)).1,((dI src.size 100 (x::q)).2:Int),aD,aD,aD,aD,aD,aD,aD,aD⟩:PsX) (fun h U=>⟨gX.none _ _,by rw [hq0];exact ⟨rfl,rfl,rfl⟩⟩) [] (by exact trivial) rfl rfl (aY rfl rfl))
 have hq0':q=[]:=by
  cases q with
  |nil=>rfl
  |cons x q=>have:=uD hq;omega
 subst hq0'
 rw [hJ,aWF] at hq0
 refine aA.concY (n:=s.units.length) (N1.gsub) 6 ?_ (hlen:=aG _ _)
 intro F2 a2 c2 G2 h2 N2 R2
 conv=>whnf
 refine aA.concY (n:=s.items.length) (N2.gsub) 7 ?_ (hlen:=aG _ _)
 intro F3 a3 c3 G3 h3 N3 R3
 conv=>whnf
 refine aA.concY (n:=s.plants.length) (N3.gsub) 8 ?_ (hlen:=aG _ _)
 intro F4 a4 c4 G4 h4 N4 R4
 conv=>whnf
 refine aA.concY (n:=s.machines.length) (N4.gsub) 9 ?_ (hlen:=aG _ _)
 intro F5 a5 c5 G5 h5 N5 R5
 conv=>whnf
 refine aA.concY (n:=s.options.length) (N5.gsub) 10 ?_ (hlen:=aG _ _)
 intro F6 a6 c6 G6 h6 N6 R6
 conv=>whnf
 refine aA.concY (n:=s.forbids.length) (N6.gsub) 11 ?_ (hlen:=aG _ _)
 intro F7 a7 c7 G7 h7 N7 R7
 conv=>whnf
 refine aA.concY (n:=s.recipes.length) (N7.gsub) 12 ?_ (hlen:=aG _ _)
 intro F8 a8 c8 G8 h8 N8 R8
 conv=>whnf
 refine aA.concY (n:=s.swaps.length) (N8.gsub) 13 ?_ (hlen:=aG _ _)
 intro F9 a9 c9 G9 h9 N9 R9
 conv=>whnf
 have T9:gX G9 h9 (.slice a2 s.units.length c2) (.slice a3 s.items.length c3) (.slice a4 s.plants.length c4) (.slice a5 s.machines.length c5) (.slice a6 s.options.length c6) (.slice a7 s.forbids.length c7) (.slice a8 s.recipes.length c8) (.slice a9 s.swaps.length c9) s:=
  ⟨(((((((R2).up (Now.step N2.gsub N3)).up (Now.step N3.gsub N4)).up (Now.step N4.gsub N5)).up (Now.step N5.gsub N6)).up (Now.step N6.gsub N7)).up (Now.step N7.gsub N8)).up (Now.step N8.gsub N9),((((((R3).up (Now.step N3.gsub N4)).up (Now.step N4.gsub N5)).up (Now.step N5.gsub N6)).up (Now.step N6.gsub N7)).up (Now.step N7.gsub N8)).up (Now.step N8.gsub N9),(((((R4).up (Now.step N4.gsub N5)).up (Now.step N5.gsub N6)).up (Now.step N6.gsub N7)).up (Now.step N7.gsub N8)).up (Now.step N8.gsub N9),((((R5).up (Now.step N5.gsub N6)).up (Now.step N6.gsub N7)).up (Now.step N7.gsub N8)).up (Now.step N8.gsub N9),(((R6).up (Now.step N6.gsub N7)).up (Now.step N7.gsub N8)).up (Now.step N8.gsub N9),((R7).up (Now.step N7.gsub N8)).up (Now.step N8.gsub N9),(R8).up (Now.step N8.gsub N9),R9,((((((((hsub).up (Now.step N1.gsub N2)).up (Now.step N2.gsub N3)).up (Now.step N3.gsub N4)).up (Now.step N4.gsub N5)).up (Now.step N5.gsub N6)).up (Now.step N6.gsub N7)).up (Now.step N7.gsub N8)).up (Now.step N8.gsub N9)⟩
 (try refine gS ?_);conv=>whnf
 refine aA.retU ?_
 refine aE.deferN aOR [0,1,2] ?_ trivial rfl (fun e=>by cases e)
 intro _ _
 conv=>whnf
 refine aE.ret tab Tryz.func11 rfl (iK.mk (((((((((N1).trans N2).trans N3).trans N4).trans N5).trans N6).trans N7).trans N8).trans N9) (⟨s,0,0,_,_,_,_,_,_,_,_⟩:PsX) (fun h U=>⟨T9.up U,by rw [hq0];exact ⟨rfl,rfl,rfl⟩⟩) [] (by exact trivial) rfl rfl (aY rfl rfl))
end Go.Proofs.YtgbeechjghajcaaGreatDoor

namespace Go.Proofs.YtgbeechjghajcaaGreatDoor
open Go Go.Fw Go.NatM Go.RatM Go.SrcM Go.SynM
set_option maxRecDepth 100000
set_option maxHeartbeats 99999999
theorem aZE (src:ByteArray) (hs:src.size≤65536) {q:Nat} (hl:rY (bs src) 0=.inr q):FnX Tryz.prog 12 0 [.v (.string src)] [] (fun _ _=>True) (fun y G h=>PsJ (lX src) y G h) aRA:=by
 have hq:lX src=.inr ((q:Int),50):=by unfold lX;rw [hl]
 rw [hq]
 refine FnX.of Tryz.func12 (by kernel_rfl) rfl Tryz.ntmps12 rfl fun E0 F G h N hP w0 cs=>?_
 conv=>whnf
 refine gS ?_;conv=>whnf
 refine aA.callN (aPI hs hl) [] ?_ sH ?CNa1
 case CNa1=>rfl
 intro _ _
 conv=>whnf
 (try refine gS ?_);conv=>whnf
 repeat ((first|(guard_target=_∧_;(first|refine oL ?_|refine oR ?_))|(guard_target=Exists _;refine oM ?_));(try intro _);conv=>whnf)
 try refine aA.retU ?_
 exact aE.ret tab Tryz.func12 rfl (eX (N) ((⟨jU,q,50,aD,aD,aD,aD,aD,aD,aD,aD⟩:PsX)) (fun h U=>⟨gX.none _ _,rfl,rfl,rfl⟩))
theorem aMI (src:ByteArray) (hs:src.size≤65536) {q:Nat} (hl:rY (bs src) 0=.inr q):FnX Tryz.prog 11 0 [.v (.string src)] [] (fun _ _=>True) (fun y G h=>PsJ (lX src) y G h) aRA:=by
 have hq:lX src=.inr ((q:Int),50):=by unfold lX;rw [hl]
 rw [hq]
 refine FnX.of Tryz.func11 (by kernel_rfl) rfl Tryz.ntmps11 rfl fun E0 F G h N hP w0 cs=>?_
 conv=>whnf
 refine gS ?_;conv=>whnf
 refine aA.callN (aTR hs hl) [] ?_ sH ?CNa2
 case CNa2=>rfl
 intro _ _
 conv=>whnf
 (try refine gS ?_);conv=>whnf
 repeat ((first|(guard_target=_∧_;(first|refine oL ?_|refine oR ?_))|(guard_target=Exists _;refine oM ?_));(try intro _);conv=>whnf)
 refine aA.held tab (.fl 0 (.fl 1 (.fl 2 (.e1 3 [1,2] (.e1 4 [2] (.e1 5 [] .done)))))) (by kernel_rfl) ?_;conv=>whnf
 (try refine gR ?_);conv=>whnf
 repeat ((first|(guard_target=_∧_;(first|refine oL ?_|refine oR ?_|refine oB ?_))|(guard_target=Exists _;refine oM ?_));(try intro _);conv=>whnf)
 (try refine gS ?_);conv=>whnf
 try refine aA.retU ?_
 exact aE.ret tab Tryz.func11 rfl (eX (N) ((⟨jU,q,50,aD,aD,aD,aD,aD,aD,aD,aD⟩:PsX)) (fun h U=>⟨gX.none _ _,rfl,rfl,rfl⟩))
theorem vA (src:ByteArray) (hs:src.size≤65536):FnX Tryz.prog 11 0 [.v (.string src)] [] (fun _ _=>True) (fun y G h=>PsJ (lX src) y G h) aRA:=by
 cases hl:rY (bs src) 0 with
 |inl l=>exact aQJ src hs hl
 |inr q=>exact aMI src hs hl
end Go.Proofs.YtgbeechjghajcaaGreatDoor

namespace Go.Proofs.YtgbeechjghajcaaGreatDoor
open Go Go.Fw Go.NatM Go.RatM Go.SrcM Go.SynM
set_option maxRecDepth 100000
abbrev x1:ByteArray:=B []
abbrev x2:ByteArray:=B [112,108,97,110,116,32,53,59]
abbrev x3:ByteArray:=B [112,108,97,110,116]
abbrev x4:ByteArray:=B [117,110,105,116,32,109,32,61,32,49,32,47,32,110,59]
abbrev x5:ByteArray:=B [109,97,107,101,32,97,32,97,116,32,101,32,102,114,111,109,32,48,32,116,111,32,57,32,105,102,32,99,32,61,32,100,32,123,32,105,110,32,98,97,99,107,32,49,47,50,32,107,103,32,98,59,32,111,117,116,32,51,47,49,32,107,103,32,97,59,32,114,101,119,111,114,107,32,48,47,49,59,32,121,105,101,108,100,32,49,47,49,32,119,105,116,104,105,110,32,48,47,49,59,32,108,101,97,100,32,50,59,32,114,117,110,32,109,32,52,59,32,125]
def aOC (h1 h2 h3 h4:Hd):RcV:=⟨B [97],B [101],0,9,h1,[⟨B [99],B [100],0,0⟩],h2,[⟨1,2,B [107,103],B [98],true,0,0⟩],h3,[⟨3,1,B [107,103],B [97],false,0,0⟩],0,1,1,1,0,1,2,h4,[⟨B [109],4,0⟩],0,0⟩
def aGK (h1 h2 h3 h4:Hd):aJ:={jU with recipes:=[aOC h1 h2 h3 h4]}
theorem p1:lX x1=.inl jU:=by kernel_rfl
theorem p2:lX x2=.inr (6,100):=by kernel_rfl
theorem p3:lX x3=.inr (5,100):=by kernel_rfl
theorem p4:lX x4=.inr (13,100):=by kernel_rfl
theorem p5:lX x5=.inl (aGK hd0 hd0 hd0 hd0):=by kernel_rfl
def aMS:aJ:={jU with plants:=[B [101,97,115,116]]}
def aSJ (h:Hd):aJ:={jU with options:=[⟨B [97],h,[]⟩]}
theorem aUO:aMS.good NmP:=(aFU (by decide)).1 (by unfold Pr.good;constructor<;>kernel_rfl)
theorem aXY (h:Hd):¬(aSJ h).good NmP:=fun g=>by
 have:=g.O _ (List.mem_cons_self ..)
 exact absurd this.2.1.1 (Nat.not_succ_le_zero 0)
theorem aPR:rA aMS=(B [112,108,97,110,116,32,101,97,115,116,32,59],0):=(aFF aUO).trans (by rw [show joinB (jI aMS)=B [112,108,97,110,116,32,101,97,115,116,32,59] from by kernel_rfl])
theorem aOQ (h:Hd):rA (aSJ h)=(⟨#[]⟩,100):=zU (aXY h)
theorem want_no:aGK hd0 hd0 hd0 hd0≠jU:=fun h=>by
 have:=congrArg (fun s:aJ=>s.recipes.length) h
 cases this
end Go.Proofs.YtgbeechjghajcaaGreatDoor

namespace Go.Proofs.YtgbeechjghajcaaGreatDoor
open Go Go.Fw Go.NatM Go.RatM Go.SrcM Go.SynM
set_option maxRecDepth 100000
set_option maxHeartbeats 99999999
theorem aND:FnX Tryz.prog 10 0 [] [] (fun G h=>aKD G h) (fun (_:Unit) _ _=>True) (fun _=>.ret (.v (.bool true)) 0 []):=by
 refine FnX.of Tryz.func10 (by kernel_rfl) rfl Tryz.ntmps10 rfl fun E0 F G h N hP w0 cs=>?_
 conv=>whnf
 refine gS ?_;conv=>whnf
 refine aA.callY (N.gsub) (vA x1 (by decide)) (fun _ _=>trivial) [] sH ?CNa1 ?_
 case CNa1=>rfl
 rintro _ ⟨s1,a1,e1,y1,y2,y3,y4,y5,y6,y7,y8⟩ G1 h1 N1 J1
 rw [p1] at J1
 obtain ⟨b1,rfl,rfl⟩:=J1.res
 have T1:gX G1 h1 y1 y2 y3 y4 y5 y6 y7 y8 s1:=J1.top
 obtain ⟨pU1,qU1,pI1,qI1,pP1,qP1,pM1,qM1,pO1,qO1,pF1,qF1,pR1,qR1,pS1,qS1,rfl,rfl,rfl,rfl,rfl,rfl,rfl,rfl⟩:=oP T1
 conv=>whnf
 (try refine gS ?_);conv=>whnf
 refine aA.subR (nx':=1) (l':=[(1,.ptr 0 0),(2,aC 0),(3,aC 0)]) (H':=[(0,sC pU1 qU1 pI1 qI1 pP1 qP1 pM1 qM1 pO1 qO1 pF1 qF1 pR1 qR1 pS1 qS1 s1)]) [] ?_ sH sH
 refine aA.callY (N1.gsub) (vA x2 (by decide)) (fun _ _=>trivial) [] sH ?CNa2 ?_
 case CNa2=>rfl
 rintro _ ⟨s2,a2,e2,y1,y2,y3,y4,y5,y6,y7,y8⟩ G2 h2 N2 J2
 rw [p2] at J2
 obtain ⟨rfl,rfl,rfl⟩:=J2.res
 have T2:gX G2 h2 y1 y2 y3 y4 y5 y6 y7 y8 jU:=J2.top
 obtain ⟨pU2,qU2,pI2,qI2,pP2,qP2,pM2,qM2,pO2,qO2,pF2,qF2,pR2,qR2,pS2,qS2,rfl,rfl,rfl,rfl,rfl,rfl,rfl,rfl⟩:=oP T2
 conv=>whnf
 (try refine gS ?_);conv=>whnf
 refine aA.subR (nx':=1) (l':=[(1,.ptr 0 0),(2,aC 0),(3,aC 0),(5,aC 6),(6,aC 100)]) (H':=[(0,sC pU1 qU1 pI1 qI1 pP1 qP1 pM1 qM1 pO1 qO1 pF1 qF1 pR1 qR1 pS1 qS1 s1)]) [] ?_ sH sH
 refine aA.callY (N2.gsub) (vA x3 (by decide)) (fun _ _=>trivial) [] sH ?CNa3 ?_
 case CNa3=>rfl
 rintro _ ⟨s3,a3,e3,y1,y2,y3,y4,y5,y6,y7,y8⟩ G3 h3 N3 J3
 rw [p3] at J3
 obtain ⟨rfl,rfl,rfl⟩:=J3.res
 have T3:gX G3 h3 y1 y2 y3 y4 y5 y6 y7 y8 jU:=J3.top
 obtain ⟨pU3,qU3,pI3,qI3,pP3,qP3,pM3,qM3,pO3,qO3,pF3,qF3,pR3,qR3,pS3,qS3,rfl,rfl,rfl,rfl,rfl,rfl,rfl,rfl⟩:=oP T3
 conv=>whnf
 (try refine gS ?_);conv=>whnf
 refine aA.subR (nx':=1) (l':=[(1,.ptr 0 0),(2,aC 0),(3,aC 0),(5,aC 6),(6,aC 100),(8,aC 5),(9,aC 100)]) (H':=[(0,sC pU1 qU1 pI1 qI1 pP1 qP1 pM1 qM1 pO1 qO1 pF1 qF1 pR1 qR1 pS1 qS1 s1)]) [] ?_ sH sH
 refine aA.callY (N3.gsub) (vA x4 (by decide)) (fun _ _=>trivial) [] sH ?CNa4 ?_
 case CNa4=>rfl
 rintro _ ⟨s4,a4,e4,y1,y2,y3,y4,y5,y6,y7,y8⟩ G4 h4 N4 J4
 rw [p4] at J4
 obtain ⟨rfl,rfl,rfl⟩:=J4.res
 have T4:gX G4 h4 y1 y2 y3 y4 y5 y6 y7 y8 jU:=J4.top
 obtain ⟨pU4,qU4,pI4,qI4,pP4,qP4,pM4,qM4,pO4,qO4,pF4,qF4,pR4,qR4,pS4,qS4,rfl,rfl,rfl,rfl,rfl,rfl,rfl,rfl⟩:=oP T4
 conv=>whnf
 (try refine gS ?_);conv=>whnf
 refine aA.subR (nx':=3) (l':=[(1,.ptr 0 0),(2,aC 0),(3,aC 0),(5,aC 6),(6,aC 100),(8,aC 5),(9,aC 100),(11,aC 13),(12,aC 100),(44,.agg [.v aD,.v aD,.buf 2,.v aD,.v aD,.v aD,.v aD,.v aD])]) (H':=[(0,sC pU1 qU1 pI1 qI1 pP1 qP1 pM1 qM1 pO1 qO1 pF1 qF1 pR1 qR1 pS1 qS1 s1),(2,.own 9 1 (jY aMS.plants))]) [] ?_ sH sH
 refine aA.concY (n:=1) (N4.gsub) 2 ?_ (hlen:=rfl)
 intro F5 a5 c5 G5 h5 N5 R5
 conv=>whnf
 have V5:=((Now.step N.gsub N1).trans (Now.step N1.gsub N2)).trans ((Now.step N2.gsub N3).trans ((Now.step N3.gsub N4).trans (Now.step N4.gsub N5)))
 have P5:=(hP.up V5).up ⟨N5.gsub,fun _ _=>rfl⟩
 refine aA.callT (TopW.tok _ _ _ _ _ _ _ _ _) (⟨⟨RoF.nil _ _ _,RoF.nil _ _ _,RoF.up ⟨N5.gsub,fun _ _=>rfl⟩ R5,RoF.nil _ _ _,RoF.nil _ _ _,RoF.nil _ _ _,RoF.nil _ _ _,RoF.nil _ _ _,fun _ h=>absurd h List.not_mem_nil,fun _ h=>absurd h List.not_mem_nil,fun _ h=>absurd h List.not_mem_nil⟩,P5⟩) (aGQ aMS (by decide)) [] sH ?CNa5 ?_
 case CNa5=>rfl
 rintro _ _
 rw [aPR]
 conv=>whnf
 (try refine gS ?_);conv=>whnf
 refine aA.subR (nx':=4) (l':=[(1,.ptr 0 0),(2,aC 0),(3,aC 0),(5,aC 6),(6,aC 100),(8,aC 5),(9,aC 100),(11,aC 13),(12,aC 100),(13,bN (B [112,108,97,110,116,32,101,97,115,116,32,59])),(14,aC 0),(51,.agg [.v aD,.v aD,.v aD,.v aD,.buf 3,.v aD,.v aD,.v aD])]) (H':=[(0,sC pU1 qU1 pI1 qI1 pP1 qP1 pM1 qM1 pO1 qO1 pF1 qF1 pR1 qR1 pS1 qS1 s1),(3,.own 50 2 (rws OpV.row (aSJ hd0).options))]) [] ?_ sH sH
 refine aA.concY (n:=1) (N5.gsub) 3 ?_ (hlen:=rfl)
 intro F6 a6 c6 G6 h6 N6 R6
 conv=>whnf
 have P6:=(hP.up (V5.trans (Now.step N5.gsub N6))).up ⟨N6.gsub,fun _ _=>rfl⟩
 refine aA.callT (TopW.tok _ _ _ _ _ _ _ _ _) (⟨⟨RoF.nil _ _ _,RoF.nil _ _ _,RoF.nil _ _ _,RoF.nil _ _ _,RoF.up ⟨N6.gsub,fun _ _=>rfl⟩ R6,RoF.nil _ _ _,RoF.nil _ _ _,RoF.nil _ _ _,fun o h=>by rw [List.mem_singleton.1 h];exact RoF.nil _ _ _,fun _ h=>absurd h List.not_mem_nil,fun _ h=>absurd h List.not_mem_nil⟩,P6⟩) (aGQ (aSJ hd0) (by decide)) [] sH ?CNa6 ?_
 case CNa6=>rfl
 rintro _ _
 rw [aOQ]
 conv=>whnf
 (try refine gS ?_);conv=>whnf
 refine aA.subR (nx':=4) (l':=[(1,.ptr 0 0),(2,aC 0),(3,aC 0),(5,aC 6),(6,aC 100),(8,aC 5),(9,aC 100),(11,aC 13),(12,aC 100),(13,bN (B [112,108,97,110,116,32,101,97,115,116,32,59])),(14,aC 0),(16,aC 100)]) (H':=[(0,sC pU1 qU1 pI1 qI1 pP1 qP1 pM1 qM1 pO1 qO1 pF1 qF1 pR1 qR1 pS1 qS1 s1)]) [] ?_ sH sH
 refine aA.callY (N6.gsub) (vA x5 (by decide)) (fun _ _=>trivial) [] sH ?CNa7 ?_
 case CNa7=>rfl
 rintro _ ⟨s7,a7,e7,y1,y2,y3,y4,y5,y6,y7,y8⟩ G7 h7 N7 J7
 rw [p5] at J7
 obtain ⟨b7,rfl,rfl⟩:=J7.res
 have T7:gX G7 h7 y1 y2 y3 y4 y5 y6 y7 y8 s7:=J7.top
 obtain ⟨pU7,qU7,pI7,qI7,pP7,qP7,pM7,qM7,pO7,qO7,pF7,qF7,pR7,qR7,pS7,qS7,rfl,rfl,rfl,rfl,rfl,rfl,rfl,rfl⟩:=oP T7
 conv=>whnf
 (try refine gS ?_);conv=>whnf
 refine aA.subR (nx':=9) (l':=[(1,.ptr 0 0),(2,aC 0),(3,aC 0),(5,aC 6),(6,aC 100),(8,aC 5),(9,aC 100),(11,aC 13),(12,aC 100),(13,bN (B [112,108,97,110,116,32,101,97,115,116,32,59])),(14,aC 0),(16,aC 100),(17,.ptr 4 0),(18,aC 0),(19,aC 0),(68,.agg [bN (B [97]),bN (B [101]),aC 0,aC 9,.buf 5,.buf 6,.buf 7,aC 0,aC 1,aC 1,aC 1,aC 0,aC 1,aC 2,.buf 8,aC 0,aC 0])]) (H':=[(0,sC pU1 qU1 pI1 qI1 pP1 qP1 pM1 qM1 pO1 qO1 pF1 qF1 pR1 qR1 pS1 qS1 s1),(4,sC pU7 qU7 pI7 qI7 pP7 qP7 pM7 qM7 pO7 qO7 pF7 qF7 pR7 qR7 pS7 qS7 s7),(5,.own 52 4 (rws Cd.row (aOC hd0 hd0 hd0 hd0).cs)),(6,.own 55 7 (rws Am.row (aOC hd0 hd0 hd0 hd0).inn)),(7,.own 55 7 (rws Am.row (aOC hd0 hd0 hd0 hd0).out)),(8,.own 58 3 (rws Rn.row (aOC hd0 hd0 hd0 hd0).runs))]) [] ?_ sH sH
 refine aA.concY (n:=1) (N7.gsub) 5 ?_ (hlen:=rfl)
 intro F8 a8 c8 G8 h8 N8 R8
 conv=>whnf
 refine aA.concY (n:=1) (N8.gsub) 6 ?_ (hlen:=rfl)
 intro F9 a9 c9 G9 h9 N9 R9
 conv=>whnf
 refine aA.concY (n:=1) (N9.gsub) 7 ?_ (hlen:=rfl)
 intro F10 a10 c10 G10 h10 N10 R10
 conv=>whnf
 refine aA.concY (n:=1) (N10.gsub) 8 ?_ (hlen:=rfl)
 intro F11 a11 c11 G11 h11 N11 R11
 conv=>whnf
 (try refine gS ?_);conv=>whnf
 repeat ((first|(guard_target=_∧_;(first|refine oL ?_|refine oR ?_))|(guard_target=Exists _;refine oM ?_));(try intro _);conv=>whnf)
 refine aA.concY (n:=1) (N11.gsub) 9 ?_ (hlen:=rfl)
 intro F12 a12 c12 G12 h12 N12 R12
 conv=>whnf
 have hq:jU.bare=jU:=rfl
 have U1:=T1.up ((((((((((((Now.step N1.gsub N2).trans (Now.step N2.gsub N3)).trans (Now.step N3.gsub N4)).trans (Now.step N4.gsub N5)).trans (Now.step N5.gsub N6)).trans (Now.step N6.gsub N7)).trans (Now.step N7.gsub N8)).trans (Now.step N8.gsub N9)).trans (Now.step N9.gsub N10)).trans (Now.step N10.gsub N11)).trans (Now.step N11.gsub N12)).trans ⟨N12.gsub,fun _ _=>rfl⟩)
 have U7:=T7.up ((((((Now.step N7.gsub N8).trans (Now.step N8.gsub N9)).trans (Now.step N9.gsub N10)).trans (Now.step N10.gsub N11)).trans (Now.step N11.gsub N12)).trans ⟨N12.gsub,fun _ _=>rfl⟩)
 have UW:gX F12 h12 aD aD aD aD aD aD (.slice a12 1 c12) aD (aGK ⟨a8,c8⟩ ⟨a9,c9⟩ ⟨a10,c10⟩ ⟨a11,c11⟩):=⟨RoF.nil _ _ _,RoF.nil _ _ _,RoF.nil _ _ _,RoF.nil _ _ _,RoF.nil _ _ _,RoF.nil _ _ _,RoF.up ⟨N12.gsub,fun _ _=>rfl⟩ R12,RoF.nil _ _ _,fun _ h=>absurd h List.not_mem_nil,fun _ h=>absurd h List.not_mem_nil,fun o h=>by
  rw [List.mem_singleton.1 h]
  exact ⟨R8.up (((((Now.step N8.gsub N9).trans (Now.step N9.gsub N10)).trans (Now.step N10.gsub N11)).trans (Now.step N11.gsub N12)).trans ⟨N12.gsub,fun _ _=>rfl⟩),R9.up ((((Now.step N9.gsub N10).trans (Now.step N10.gsub N11)).trans (Now.step N11.gsub N12)).trans ⟨N12.gsub,fun _ _=>rfl⟩),R10.up (((Now.step N10.gsub N11).trans (Now.step N11.gsub N12)).trans ⟨N12.gsub,fun _ _=>rfl⟩),R11.up ((Now.step N11.gsub N12).trans ⟨N12.gsub,fun _ _=>rfl⟩)⟩⟩
 refine aA.subR (nx':=11) (l':=[(1,.ptr 0 0),(2,aC 0),(3,aC 0),(5,aC 6),(6,aC 100),(8,aC 5),(9,aC 100),(11,aC 13),(12,aC 100),(13,bN (B [112,108,97,110,116,32,101,97,115,116,32,59])),(14,aC 0),(16,aC 100),(17,.ptr 4 0),(18,aC 0),(19,aC 0),(20,.ptr 10 0),(77,.v (.bool true)),(78,.agg [.v (.slice pU1 s1.units.length qU1),.v (.slice pI1 s1.items.length qI1),.v (.slice pP1 s1.plants.length qP1),.v (.slice pM1 s1.machines.length qM1),.v (.slice pO1 s1.options.length qO1),.v (.slice pF1 s1.forbids.length qF1),.v (.slice pR1 s1.recipes.length qR1),.v (.slice pS1 s1.swaps.length qS1)]),(79,.agg [.v aD,.v aD,.v aD,.v aD,.v aD,.v aD,.v aD,.v aD])]) (H':=[(0,sC pU1 qU1 pI1 qI1 pP1 qP1 pM1 qM1 pO1 qO1 pF1 qF1 pR1 qR1 pS1 qS1 s1),(4,sC pU7 qU7 pI7 qI7 pP7 qP7 pM7 qM7 pO7 qO7 pF7 qF7 pR7 qR7 pS7 qS7 s7),(10,.cells 32 [.v aD,.v aD,.v aD,.v aD,.v aD,.v aD,.v (.slice a12 1 c12),.v aD])]) [] ?_ sH sH
 have C1:=sX (vU:=.slice pU1 s1.units.length qU1) (vI:=.slice pI1 s1.items.length qI1) (vP:=.slice pP1 s1.plants.length qP1) (vM:=.slice pM1 s1.machines.length qM1) (vO:=.slice pO1 s1.options.length qO1) (vF:=.slice pF1 s1.forbids.length qF1) (vR:=.slice pR1 s1.recipes.length qR1) (vS:=.slice pS1 s1.swaps.length qS1) (wU:=aD) (wI:=aD) (wP:=aD) (wM:=aD) (wO:=aD) (wF:=aD) (wR:=aD) (wS:=aD) s1 jU
 rw [bL (b1.trans hq.symm)] at C1
 refine aA.callT (nT.tok _ _ _ _ _ _ _ _ _ _ _ _ _ _ _ _ _ _) (⟨U1,gX.none _ _⟩) (C1) [] sH ?CNa8 ?_
 case CNa8=>rfl
 intro _ _
 conv=>whnf
 (try refine gS ?_);conv=>whnf
 repeat ((first|(guard_target=_∧_;(first|refine oL ?_|refine oR ?_))|(guard_target=Exists _;refine oM ?_));(try intro _);conv=>whnf)
 refine And.intro (fun _=>?_) (fun hn=>absurd (rfl) hn)
 conv=>whnf
 repeat ((first|(guard_target=_∧_;(first|refine oL ?_|refine oR ?_))|(guard_target=Exists _;refine oM ?_));(try intro _);conv=>whnf)
 have wq:(aGK ⟨a8,c8⟩ ⟨a9,c9⟩ ⟨a10,c10⟩ ⟨a11,c11⟩).bare=aGK hd0 hd0 hd0 hd0:=rfl
 have C2:=sX (vU:=.slice pU7 s7.units.length qU7) (vI:=.slice pI7 s7.items.length qI7) (vP:=.slice pP7 s7.plants.length qP7) (vM:=.slice pM7 s7.machines.length qM7) (vO:=.slice pO7 s7.options.length qO7) (vF:=.slice pF7 s7.forbids.length qF7) (vR:=.slice pR7 s7.recipes.length qR7) (vS:=.slice pS7 s7.swaps.length qS7) (wU:=aD) (wI:=aD) (wP:=aD) (wM:=aD) (wO:=aD) (wF:=aD) (wR:=.slice a12 1 c12) (wS:=aD) s7 (aGK ⟨a8,c8⟩ ⟨a9,c9⟩ ⟨a10,c10⟩ ⟨a11,c11⟩)
 rw [bL (b7.trans wq.symm)] at C2
 refine aA.callT (nT.tok _ _ _ _ _ _ _ _ _ _ _ _ _ _ _ _ _ _) (⟨U7,UW⟩) (C2) [] sH ?CNa9 ?_
 case CNa9=>rfl
 intro _ _
 conv=>whnf
 (try refine gS ?_);conv=>whnf
 have C3:=zQ (vU:=.slice pU7 s7.units.length qU7) (vI:=.slice pI7 s7.items.length qI7) (vP:=.slice pP7 s7.plants.length qP7) (vM:=.slice pM7 s7.machines.length qM7) (vO:=.slice pO7 s7.options.length qO7) (vF:=.slice pF7 s7.forbids.length qF7) (vR:=.slice pR7 s7.recipes.length qR7) (vS:=.slice pS7 s7.swaps.length qS7) (wU:=aD) (wI:=aD) (wP:=aD) (wM:=aD) (wO:=aD) (wF:=aD) (wR:=.slice a12 1 c12) (wS:=aD) s7 (aGK ⟨a8,c8⟩ ⟨a9,c9⟩ ⟨a10,c10⟩ ⟨a11,c11⟩)
 rw [bL (b7.trans wq.symm)] at C3
 refine aA.callT (nT.tok _ _ _ _ _ _ _ _ _ _ _ _ _ _ _ _ _ _) (⟨U7,UW⟩) (C3) [] sH ?CNa10 ?_
 case CNa10=>rfl
 intro _ _
 conv=>whnf
 (try refine gS ?_);conv=>whnf
 have C4:=zQ (vU:=.slice pU7 s7.units.length qU7) (vI:=.slice pI7 s7.items.length qI7) (vP:=.slice pP7 s7.plants.length qP7) (vM:=.slice pM7 s7.machines.length qM7) (vO:=.slice pO7 s7.options.length qO7) (vF:=.slice pF7 s7.forbids.length qF7) (vR:=.slice pR7 s7.recipes.length qR7) (vS:=.slice pS7 s7.swaps.length qS7) (wU:=.slice pU1 s1.units.length qU1) (wI:=.slice pI1 s1.items.length qI1) (wP:=.slice pP1 s1.plants.length qP1) (wM:=.slice pM1 s1.machines.length qM1) (wO:=.slice pO1 s1.options.length qO1) (wF:=.slice pF1 s1.forbids.length qF1) (wR:=.slice pR1 s1.recipes.length qR1) (wS:=.slice pS1 s1.swaps.length qS1) s7 s1
 rw [bH (fun e=>want_no (b7.symm.trans (e.trans b1)))] at C4
 refine aA.callT (nT.tok _ _ _ _ _ _ _ _ _ _ _ _ _ _ _ _ _ _) (⟨U7,U1⟩) (C4) [] sH ?CNa11 ?_
 case CNa11=>rfl
 intro _ _
 conv=>whnf
 (try refine gS ?_);conv=>whnf
 try refine aA.retU ?_
 exact aE.ret tab Tryz.func10 rfl (eX (((((((((((N.trans N1).trans N2).trans N3).trans N4).trans N5).trans N6).trans N7).trans N8).trans N9).trans N10).trans (N11.trans N12)) (()) (fun _ _=>trivial))
end Go.Proofs.YtgbeechjghajcaaGreatDoor

namespace Go.Proofs.YtgbeechjghajcaaGreatDoor
open Go Go.Fw Go.NatM Go.RatM Go.SrcM Go.SynM
set_option maxRecDepth 100000
set_option maxHeartbeats 99999999
section
variable {vU vI vP vM vO vF vR vS wU wI wP wM wO wF wR wS:Value}
theorem aTX {a b:aJ} (e:a.bare=b.bare):FnT Tryz.prog (nT vU vI vP vM vO vF vR vS wU wI wP wM wO wF wR wS a b) 13 0 [sK vU vI vP vM vO vF vR vS,sK wU wI wP wM wO wF wR wS] [] (fun _:Unit=>True) (fun _=>.ret (.v (.bool true)) 0 []):=by
 have:=sX (vU:=vU) (vI:=vI) (vP:=vP) (vM:=vM) (vO:=vO) (vF:=vF) (vR:=vR) (vS:=vS) (wU:=wU) (wI:=wI) (wP:=wP) (wM:=wM) (wO:=wO) (wF:=wF) (wR:=wR) (wS:=wS) a b
 rwa [bL e] at this
theorem aUB {a b:aJ} (e:a.bare≠b.bare):FnT Tryz.prog (nT vU vI vP vM vO vF vR vS wU wI wP wM wO wF wR wS a b) 13 0 [sK vU vI vP vM vO vF vR vS,sK wU wI wP wM wO wF wR wS] [] (fun _:Unit=>True) (fun _=>.ret (.v (.bool false)) 0 []):=by
 have:=sX (vU:=vU) (vI:=vI) (vP:=vP) (vM:=vM) (vO:=vO) (vF:=vF) (vR:=vR) (vS:=vS) (wU:=wU) (wI:=wI) (wP:=wP) (wM:=wM) (wO:=wO) (wF:=wF) (wR:=wR) (wS:=wS) a b
 rwa [bH e] at this
end
end Go.Proofs.YtgbeechjghajcaaGreatDoor

namespace Go.Proofs.YtgbeechjghajcaaGreatDoor
open Go Go.Fw Go.NatM Go.RatM Go.SrcM Go.SynM
set_option maxRecDepth 100000
set_option maxHeartbeats 99999999

end Go.Proofs.YtgbeechjghajcaaGreatDoor

namespace Go.SrcM
open Go Go.Fw Go.RatM
theorem qV {α β:Type} {f:β→List Value} {g:α→β} {l:List α} {k:Nat} (hk:k<l.length):rws f ((l.take k).map g)++[f (g l[k])]=rws f ((l.take (k+1)).map g):=by
 rw [dC hk,List.map_append]
 show _=(_++[g l[k]]).map f
 rw [List.map_append];rfl
theorem aGW {F:Nat→Prop} {h:Array Obj} {a:Option Addr} {n c sz:Nat} {rows:List (List Value)} (H:RoF F h (.slice a n c) sz rows) {k:Nat} {row:List Value} (hk:rows[k]? = some row):∃g o,a=some ⟨g,o,none⟩∧row.length=sz∧aHS F h g (o+k*sz) row:=by
 obtain ⟨h1,h2,a',c',e,h3⟩:=H
 injection e with e1 e2 e3
 subst e1
 have hlt:=(List.getElem?_eq_some_iff.1 hk).1
 rcases h3 with h3|⟨g,o,h3,h4,h5⟩
 ·rw [h3] at hlt;cases hlt
 refine ⟨g,o,h3,(h1 row (List.mem_of_getElem? hk)).1,fun j v hj=>⟨h4,?_⟩⟩
 have hlen:row.length=sz:=(h1 row (List.mem_of_getElem? hk)).1
 have hj2:j<row.length:=(List.getElem?_eq_some_iff.1 hj).1
 have hf:rows.flatten[k*sz+j]? = some v:=by
  have e:rows=rows.take k++row::rows.drop (k+1):=by
   have:rows.drop k=row::rows.drop (k+1):=by rw [List.drop_eq_getElem_cons hlt];rw [(List.getElem?_eq_some_iff.1 hk).2]
   rw [←this,List.take_append_drop]
  have hl:(rows.take k).flatten.length=k*sz:=by rw [rC (sz:=sz) (fun r h=>h1 r (List.mem_of_mem_take h)),List.length_take];congr 1;omega
  rw [e,List.flatten_append,List.getElem?_append_right (by omega),hl,Nat.add_sub_cancel_left,List.flatten_cons,List.getElem?_append_left (by omega)]
  exact hj
 have:=h5 (k*sz+j) v hf
 rw [Nat.add_assoc]
 exact this
theorem aUQ {α:Type} {m:List α} {p:α→Prop} {y:α} (h:∀a∈m,p a) (hy:p y):∀a∈m++[y],p a:=fun a ha=>by
 rcases List.mem_append.1 ha with ha|ha
 ·exact h a ha
 rw [List.mem_singleton.1 ha];exact hy
theorem wW {α:Type} {f:α→List Value} (m:List α) (y:α):rws f m++[f y]=rws f (m++[y]):=by
 show _=(m++[y]).map f
 rw [List.map_append];rfl
abbrev rcRow (r:RcV):SV:=.agg [.v (.string r.item),.v (.string r.plant),.v (.int .i64 r.fr),.v (.int .i64 r.to),.v (r.hc.v r.cs.length),.v (r.hi.v r.inn.length),.v (r.ho.v r.out.length),.v (.int .i64 r.rwN),.v (.int .i64 r.rwD),.v (.int .i64 r.yN),.v (.int .i64 r.yD),.v (.int .i64 r.tN),.v (.int .i64 r.tD),.v (.int .i64 r.lead),.v (r.hr.v r.runs.length),.v (.int .i64 r.inum),.v (.int .i64 r.pnum)]
structure BcJ (r y:RcV) (G:Nat→Prop) (h:Array Obj):Prop where
 t:y.bare=r.un.bare
 ok:y.ok G h
end Go.SrcM
namespace Go.Proofs.YtgbeechjghajcaaGreatDoor
open Go Go.Fw Go.NatM Go.RatM Go.SrcM
set_option maxRecDepth 100000
set_option maxHeartbeats 99999999
theorem aIL (v:Value) (l:List Cd) (hb:l.length≤1000000):FnX Tryz.prog 46 0 [.v v] [] (fun G h=>RoF G h v 4 (rws Cd.row l))
  (fun (x:Hd) G h=>RoF G h (x.v (l.map Cd.un).length) 4 (rws Cd.row (l.map Cd.un))) (fun x=>.ret (.v (x.v (l.map Cd.un).length)) 0 []):=by
 have hl:=aG Cd.row l
 refine FnX.of Tryz.func46 (by kernel_rfl) rfl Tryz.ntmps46 rfl fun E0 F G h N hP w0 cs=>?_
 conv=>whnf
 refine gS ?_;conv=>whnf
 have hT:=RoF.up ⟨N.gsub,fun _ _=>rfl⟩ hP
 refine aA.nameAt (fun _ x=>x) 0 (by exact hT) ?_
 conv=>whnf
 (try refine gS ?_);conv=>whnf
 refine aA.subR [] (aA.loop (fun (k:Nat)=>[(4,.v (.int .i64 k)),(3,.buf 0),(0,.buf 1)]) (fun (k:Nat)=>[(1,.ro 4 (rws Cd.row l)),(0,.own 52 4 (rws Cd.row ((l.take k).map Cd.un)))]) 2 (fun (k:Nat)=>k≤l.length) (fun (k:Nat)=>l.length - k) ?round1 (0) ?J01) sH sH
 case J01=>first|omega|trivial
 rintro k hJ back
 conv=>whnf
 refine gS ?_;conv=>whnf
 refine ⟨fun hk=>?_,fun hk=>?_⟩<;>conv=>whnf
 ·have hk:k<l.length:=by omega
  have el:(rws Cd.row ((l.take k).map Cd.un)).length=k:=by rw [aG,List.length_map,List.length_take];omega
  conv=>whnf
  refine aA.held tab (.fl 0 (.fl 1 (.fl 2 (.fl 3 (.fl 4 (.fl 5 (.fl 6 (.fl 7 (.fl 8 (.fl 9 (.fl 10 (.fl 11 (.e1 12 [] (.e1 13 [] (.fl 14 .done))))))))))))))) (by kernel_rfl) ?_;conv=>whnf
  (try refine gR ?_);conv=>whnf
  repeat ((first|refine oM ?_|refine oL ?_|refine oR ?_|refine oB ?_);(try intro _);conv=>whnf)
  conv=>whnf
  refine ⟨_,aK hk,?_⟩;conv=>whnf
  try (refine oN ?_;conv=>whnf)
  conv=>whnf
  refine ⟨_,aK hk,?_⟩;conv=>whnf
  repeat ((first|refine oM ?_|refine oL ?_|refine oR ?_|refine oB ?_);(try intro _);conv=>whnf)
  conv=>whnf
  refine And.intro (fK (show (rws Cd.row ((l.take k).map Cd.un)).length+1≤1000000 by omega)) ?_
  conv=>whnf
  repeat ((first|refine oM ?_|refine oL ?_|refine oR ?_|refine oB ?_);(try intro _);conv=>whnf)
  (try refine gS ?_);conv=>whnf
  repeat ((first|refine oM ?_|refine oL ?_|refine oR ?_);(try intro _);conv=>whnf)
  refine aA.rowsEq 3 (qV (g:=Cd.un) hk) ?_;conv=>whnf
  refine aA.subR [(0,3)] (back (k+1) (by (try dsimp only);first|omega|trivial) (by (try dsimp only);omega)) sH sH
 conv=>whnf
 have hk:k=l.length:=by omega
 clear back
 refine aA.rowsEq 0 (show rws Cd.row ((l.take k).map Cd.un)=rws Cd.row (l.map Cd.un) by rw [hk,List.take_length]) ?_
 conv=>whnf
 refine aA.conc (n:=(l.map Cd.un).length) (N.gsub) 0 ?_ (hlen:=(aG _ _))
 intro a1 c1 G1 h1 N1 R1
 conv=>whnf
 (try refine gS ?_);conv=>whnf
 try refine aA.retU ?_
 exact aE.ret tab Tryz.func46 rfl (eX (N.trans N1) (⟨a1,c1⟩) (fun h U=>RoF.up U R1))
theorem aIA (v:Value) (l:List Am) (hb:l.length≤1000000):FnX Tryz.prog 110 0 [.v v] [] (fun G h=>RoF G h v 7 (rws Am.row l))
  (fun (x:Hd) G h=>RoF G h (x.v (l.map Am.un0).length) 7 (rws Am.row (l.map Am.un0))) (fun x=>.ret (.v (x.v (l.map Am.un0).length)) 0 []):=by
 have hl:=aG Am.row l
 refine FnX.of Tryz.func110 (by kernel_rfl) rfl Tryz.ntmps110 rfl fun E0 F G h N hP w0 cs=>?_
 conv=>whnf
 refine gS ?_;conv=>whnf
 have hT:=RoF.up ⟨N.gsub,fun _ _=>rfl⟩ hP
 refine aA.nameAt (fun _ x=>x) 0 (by exact hT) ?_
 conv=>whnf
 (try refine gS ?_);conv=>whnf
 refine aA.subR [] (aA.loop (fun (k:Nat)=>[(4,.v (.int .i64 k)),(3,.buf 0),(0,.buf 1)]) (fun (k:Nat)=>[(1,.ro 7 (rws Am.row l)),(0,.own 55 7 (rws Am.row ((l.take k).map Am.un0)))]) 2 (fun (k:Nat)=>k≤l.length) (fun (k:Nat)=>l.length - k) ?round3 (0) ?J03) sH sH
 case J03=>first|omega|trivial
 rintro k hJ back
 conv=>whnf
 refine gS ?_;conv=>whnf
 refine ⟨fun hk=>?_,fun hk=>?_⟩<;>conv=>whnf
 ·have hk:k<l.length:=by omega
  have el:(rws Am.row ((l.take k).map Am.un0)).length=k:=by rw [aG,List.length_map,List.length_take];omega
  conv=>whnf
  repeat ((first|refine oM ?_|refine oL ?_|refine oR ?_);(try intro _);conv=>whnf)
  refine ⟨_,aK hk,?_⟩;conv=>whnf
  try (refine oN ?_;conv=>whnf)
  refine And.intro (gG (show (rws Am.row ((l.take k).map Am.un0)).length≤1000000 by omega)) ?_
  conv=>whnf
  repeat ((first|refine oM ?_|refine oL ?_|refine oR ?_);(try intro _);conv=>whnf)
  refine aA.rowsEq 4 (qV (g:=Am.un0) hk) ?_;conv=>whnf
  refine aA.subR [(0,4)] (back (k+1) (by (try dsimp only);first|omega|trivial) (by (try dsimp only);omega)) sH sH
 conv=>whnf
 have hk:k=l.length:=by omega
 clear back
 refine aA.rowsEq 0 (show rws Am.row ((l.take k).map Am.un0)=rws Am.row (l.map Am.un0) by rw [hk,List.take_length]) ?_
 conv=>whnf
 refine aA.conc (n:=(l.map Am.un0).length) (N.gsub) 0 ?_ (hlen:=(aG _ _))
 intro a1 c1 G1 h1 N1 R1
 conv=>whnf
 (try refine gS ?_);conv=>whnf
 try refine aA.retU ?_
 exact aE.ret tab Tryz.func110 rfl (eX (N.trans N1) (⟨a1,c1⟩) (fun h U=>RoF.up U R1))
theorem aSN (r:RcV) (bc:r.cs.length≤1000000) (bi:r.inn.length≤1000000) (bo:r.out.length≤1000000) (bn:r.runs.length≤1000000):FnX Tryz.prog 47 0 [rcRow r] [] (fun G h=>r.ok G h) (BcJ r) (fun y=>.ret (rcRow y) 0 []):=by
 refine FnX.of Tryz.func47 (by kernel_rfl) rfl Tryz.ntmps47 rfl fun E0 F G h N hP w0 cs=>?_
 conv=>whnf
 (try refine gS ?_);conv=>whnf
 refine aA.callX (N.gsub) (aIL _ r.cs bc) (fun h U=>RoF.up U hP.c) [] sH ?CNa5 ?_
 case CNa5=>rfl
 rintro x1 G1 h1 N1 J1
 have U1:=Now.step N.gsub N1
 conv=>whnf
 (try refine gS ?_);conv=>whnf
 refine aA.callX (N1.gsub) (aIA _ r.inn bi) (fun h U=>RoF.up (U1.trans U) hP.i) [] sH ?CNa6 ?_
 case CNa6=>rfl
 rintro x2 G2 h2 N2 J2
 have U2:=Now.step N1.gsub N2
 conv=>whnf
 (try refine gS ?_);conv=>whnf
 refine aA.callX (N2.gsub) (aIA _ r.out bo) (fun h U=>RoF.up (U1.trans (U2.trans U)) hP.o) [] sH ?CNa7 ?_
 case CNa7=>rfl
 rintro x3 G3 h3 N3 J3
 have U3:=Now.step N2.gsub N3
 conv=>whnf
 (try refine gS ?_);conv=>whnf
 refine aA.nameCell (fun _ x=>x) 0 14 (by exact RoF.up ((U1.trans (U2.trans U3)).trans ⟨N3.gsub,fun _ _=>rfl⟩) hP.rn) ?_
 conv=>whnf
 (try refine gS ?_);conv=>whnf
 have lrn:=aG Rn.row r.runs
 refine aA.subR [] (aA.loop (fun (j:Nat)=>[(1,.ptr 0 0),(2,.ptr 1 0),(3,.buf 2),(4,.v (.int .i64 j))]) (fun (j:Nat)=>[(0,.cells 61 [.v (.string r.item),.v (.string r.plant),.v (.int .i64 r.fr),.v (.int .i64 r.to),.v (x1.v (r.cs.map Cd.un).length),.v (x2.v (r.inn.map Am.un0).length),.v (x3.v (r.out.map Am.un0).length),.v (.int .i64 r.rwN),.v (.int .i64 r.rwD),.v (.int .i64 r.yN),.v (.int .i64 r.yD),.v (.int .i64 r.tN),.v (.int .i64 r.tD),.v (.int .i64 r.lead),.buf 3,.v (.int .i64 0),.v (.int .i64 0)]),(1,.cells 61 [.v (.string ByteArray.empty),.v (.string ByteArray.empty),.v (.int .i64 0),.v (.int .i64 0),.v (.slice none 0 0),.v (.slice none 0 0),.v (.slice none 0 0),.v (.int .i64 0),.v (.int .i64 0),.v (.int .i64 0),.v (.int .i64 0),.v (.int .i64 0),.v (.int .i64 0),.v (.int .i64 0),.v (.slice none 0 0),.v (.int .i64 0),.v (.int .i64 0)]),(3,.ro 3 (rws Rn.row r.runs)),(2,.own 58 3 (rws Rn.row ((r.runs.take j).map Rn.un)))]) 4 (fun (j:Nat)=>j≤r.runs.length) (fun (j:Nat)=>r.runs.length - j) ?round8 (0) ?J08) sH sH
 case J08=>first|omega|trivial
 rintro j hJ back
 try dsimp only at hJ back
 conv=>whnf
 try dsimp only
 refine gS ?_;conv=>whnf
 refine ⟨fun hj=>?_,fun hj=>?_⟩<;>conv=>whnf
 ·have hj:j<r.runs.length:=by omega
  have el2:(rws Rn.row ((r.runs.take j).map Rn.un)).length=j:=by rw [aG,List.length_map,List.length_take];omega
  conv=>whnf
  refine aA.held tab (.fl 0 (.fl 1 (.fl 2 (.fl 3 (.fl 4 (.fl 5 (.fl 6 (.fl 7 (.fl 8 (.fl 9 (.fl 10 (.fl 11 (.fl 12 (.fl 13 (.e1 14 [] (.e1 15 [] (.fl 16 .done))))))))))))))))) (by kernel_rfl) ?_;conv=>whnf
  (try refine gR ?_);conv=>whnf
  repeat ((first|refine oM ?_|refine oL ?_|refine oR ?_|refine oB ?_);(try intro _);conv=>whnf)
  conv=>whnf
  refine ⟨_,aK hj,?_⟩;conv=>whnf
  try (refine oN ?_;conv=>whnf)
  conv=>whnf
  refine ⟨_,aK hj,?_⟩;conv=>whnf
  repeat ((first|refine oM ?_|refine oL ?_|refine oR ?_|refine oB ?_);(try intro _);conv=>whnf)
  conv=>whnf
  refine And.intro (fK (show (rws Rn.row ((r.runs.take j).map Rn.un)).length+1≤1000000 by omega)) ?_
  conv=>whnf
  repeat ((first|refine oM ?_|refine oL ?_|refine oR ?_|refine oB ?_);(try intro _);conv=>whnf)
  (try refine gS ?_);conv=>whnf
  repeat ((first|refine oM ?_|refine oL ?_|refine oR ?_);(try intro _);conv=>whnf)
  refine aA.rowsEq 5 (qV (f:=Rn.row) (g:=Rn.un) hj) ?_;conv=>whnf
  refine aA.subR [(2,5)] (back (j+1) (by (try dsimp only);first|omega|trivial) (by (try dsimp only);omega)) sH sH
 have hj:j=r.runs.length:=by omega
 clear back
 conv=>whnf
 refine aA.rowsEq 2 (show rws Rn.row ((r.runs.take j).map Rn.un)=rws Rn.row (r.runs.map Rn.un) by rw [hj,List.take_length]) ?_
 conv=>whnf
 refine aA.conc (n:=(r.runs.map Rn.un).length) (N3.gsub) 2 ?_ (hlen:=(aG _ _))
 intro b4 d4 G4 h4 N4 R4
 conv=>whnf
 (try refine gS ?_);conv=>whnf
 have U4:=Now.step N3.gsub N4
 try refine aA.retU ?_
 exact aE.ret tab Tryz.func47 rfl (eX (((N1.trans N2).trans N3).trans N4) ({r.un with hc:=x1,hi:=x2,ho:=x3,hr:=⟨b4,d4⟩}) (fun h U=>⟨rfl,⟨RoF.up (U2.trans (U3.trans (U4.trans U))) J1,RoF.up (U3.trans (U4.trans U)) J2,RoF.up (U4.trans U) J3,RoF.up U R4⟩⟩))
end Go.Proofs.YtgbeechjghajcaaGreatDoor

namespace Go.Proofs.YtgbeechjghajcaaGreatDoor
open Go Go.Fw Go.NatM Go.RatM Go.SrcM
set_option maxRecDepth 100000
set_option maxHeartbeats 99999999
structure UnV where
 t:aJ
 U:Value
 I:Value
 P:Value
 M:Value
 O:Value
 F:Value
 R:Value
 S:Value
abbrev unOut (x:UnV):gK:=.ret (sK x.U x.I x.P x.M x.O x.F x.R x.S) 0 []
structure UnJ (s:aJ) (x:UnV) (G:Nat→Prop) (h:Array Obj):Prop where
 t:x.t.bare=s.un.bare
 top:gX G h x.U x.I x.P x.M x.O x.F x.R x.S x.t
theorem un_end {s:aJ} {m mf:List FbV} {n mr:List RcV} {G7 G8 G9:Nat→Prop} {h7 h8 h9:Array Obj} {v1 v2 v3 v4 v5 v6 v7 v8 w1 w2 w3 w4 w5 w6:Value}
  (hmf:mf=m) (hmr:mr=n) (ea:m.map FbV.bare=(s.forbids.map FbV.un).map FbV.bare) (er:n.map RcV.bare=(s.recipes.map RcV.un).map RcV.bare)
  (U:Up G8 h8 G9 h9) (P8:Up G7 h7 G9 h9) (R6:RoF G8 h8 w6 4 (rws Sw.row (s.swaps.map Sw.un))) (R5:RoF G7 h7 w5 17 (rws RcV.row mr)) (R4:RoF G9 h9 w4 1 (rws FbV.row mf)) (R3:RoF G9 h9 w3 4 (rws Mc.row (s.machines.map Mc.un))) (R2:RoF G9 h9 w2 6 (rws It.row (s.items.map It.un0))) (R1:RoF G9 h9 w1 8 (fQ (s.units.map unU)))
  (ho:∀a∈m,a.ok G9 h9) (ho2:∀a∈n,a.ok G9 h9) (hP:gX G9 h9 v1 v2 v3 v4 v5 v6 v7 v8 s):
  UnJ s ⟨⟨s.units.map unU,s.items.map It.un0,s.plants,s.machines.map Mc.un,s.options,mf,mr,s.swaps.map Sw.un⟩,w1,w2,v3,w3,v5,w4,w5,w6⟩ G9 h9:=by
 subst hmf
 subst hmr
 refine ⟨?_,⟨R1,R2,hP.P,R3,hP.O,R4,RoF.up P8 R5,RoF.up U R6,⟨hP.below.o,ho,ho2⟩⟩⟩
 show aJ.mk _ _ _ _ (s.options.map OpV.bare) (mf.map FbV.bare) (mr.map RcV.bare) _=aJ.mk _ _ _ _ ((s.options.map OpV.un).map OpV.bare) ((s.forbids.map FbV.un).map FbV.bare) ((s.recipes.map RcV.un).map RcV.bare) _
 rw [ea,er,show (s.options.map OpV.un).map OpV.bare=s.options.map OpV.bare by rw [List.map_map];rfl];try rfl
section
variable {vU vI vP vM vO vF vR vS:Value}
theorem aYQ (s:aJ) (hL:Lens s):FnX Tryz.prog 18 0 [sK vU vI vP vM vO vF vR vS] [] (fun G h=>gX G h vU vI vP vM vO vF vR vS s) (UnJ s) unOut:=by
 refine FnX.of Tryz.func18 (by kernel_rfl) rfl Tryz.ntmps18 rfl fun E0 F G h N hP w0 cs=>?_
 obtain ⟨aU,cU,rfl⟩:=RoF.sli hP.U (cB s.units)
 obtain ⟨aI,cI,rfl⟩:=RoF.sli hP.I (aG It.row s.items)
 obtain ⟨aP,cP,rfl⟩:=RoF.sli hP.P (pG s.plants)
 obtain ⟨aM,cM,rfl⟩:=RoF.sli hP.M (aG Mc.row s.machines)
 obtain ⟨aO,cO,rfl⟩:=RoF.sli hP.O (aG OpV.row s.options)
 obtain ⟨aF,cF,rfl⟩:=RoF.sli hP.F (aG FbV.row s.forbids)
 obtain ⟨aR,cR,rfl⟩:=RoF.sli hP.R (aG RcV.row s.recipes)
 obtain ⟨aS,cS,rfl⟩:=RoF.sli hP.S (aG Sw.row s.swaps)
 have hlU:=hL.U
 have hlI:=hL.I
 have hlM:=hL.M
 have hlF:=hL.F
 have hlR:=hL.R
 have hlS:=hL.S
 conv=>whnf
 (try refine gS ?_);conv=>whnf
 refine aA.subR (nx':=3) (l':=[(1,.ptr 0 0),(2,.ptr 1 0),(3,.ptr 2 0),(4,.v (.int .i64 0))]) (H':=[(0,sC aU cU aI cI aP cP aM cM aO cO aF cF aR cR aS cS s),(1,zC),(2,.cells 32 [.v (.slice none 0 0),.v (.slice none 0 0),.v (.slice aP s.plants.length cP),.v (.slice none 0 0),.v (.slice aO s.options.length cO),.v (.slice none 0 0),.v (.slice none 0 0),.v (.slice none 0 0)])]) [] ?_ sH sH
 refine aA.nilOwn (l':=[(1,.ptr 0 0),(2,.ptr 1 0),(3,.ptr 2 0),(4,.v (.int .i64 0))]) (H':=[(0,sC aU cU aI cI aP cP aM cM aO cO aF cF aR cR aS cS s),(1,zC),(2,.cells 32 [.buf 3,.v (.slice none 0 0),.v (.slice aP s.plants.length cP),.v (.slice none 0 0),.v (.slice aO s.options.length cO),.v (.slice none 0 0),.v (.slice none 0 0),.v (.slice none 0 0)])]) 81 8 ?_ (by rfl) (by rfl) (by rfl)
 refine aA.subR [] (aA.loop (fun (k:Nat)=>[(1,.ptr 0 0),(2,.ptr 1 0),(3,.ptr 2 0),(4,.v (.int .i64 k))]) (fun (k:Nat)=>[(0,sC aU cU aI cI aP cP aM cM aO cO aF cF aR cR aS cS s),(1,zC),(2,.cells 32 [.buf 3,.v (.slice none 0 0),.v (.slice aP s.plants.length cP),.v (.slice none 0 0),.v (.slice aO s.options.length cO),.v (.slice none 0 0),.v (.slice none 0 0),.v (.slice none 0 0)]),(3,.own 81 8 (fQ ((s.units.take k).map unU)))]) 4 (fun (k:Nat)=>k≤s.units.length) (fun (k:Nat)=>s.units.length - k) ?round1 (0) ?J01) sH sH
 case J01=>first|omega|trivial
 rintro k hJ back
 conv=>whnf
 refine gS ?_;conv=>whnf
 refine ⟨fun hk=>?_,fun hk=>?_⟩<;>conv=>whnf
 ·have hk:k<s.units.length:=by omega
  have W:Up G h _ h:=Up.trans (Up.refl G h) ⟨N.gsub,fun _ _=>rfl⟩
  obtain ⟨g,o,rfl,hrl,hrow⟩:=aGW (RoF.up W hP.U) (sY hk)
  have el:(fQ ((s.units.take k).map unU)).length=k:=by rw [cB,List.length_map,List.length_take];omega
  conv=>whnf
  repeat ((first|(guard_target=_∧_;(fail_if_success refine oF ?_ ?_);(first|refine oL ?_|refine oR ?_))|(guard_target=Exists _;refine oM ?_));(try intro _);conv=>whnf)
  refine ⟨_,⟨hrl,hrow⟩,?_⟩;conv=>whnf
  refine And.intro (gG (show (fQ ((s.units.take k).map unU)).length≤1000000 by omega)) ?_
  conv=>whnf
  repeat ((first|(guard_target=_∧_;(fail_if_success refine oF ?_ ?_);(first|refine oL ?_|refine oR ?_))|(guard_target=Exists _;refine oM ?_));(try intro _);conv=>whnf)
  refine aA.rowsEq 6 (qV (f:=Un.row) (g:=unU) hk) ?_;conv=>whnf
  refine aA.subR [(3,6)] (back (k+1) (by (try dsimp only);first|omega|trivial) (by (try dsimp only);omega)) sH sH
 have hk:k=s.units.length:=by omega
 clear back
 refine aA.rowsEq 3 (show fQ ((s.units.take k).map unU)=fQ (s.units.map unU) by rw [hk,List.take_length]) ?_
 conv=>whnf
 refine aA.concY (n:=(s.units.map unU).length) (N.gsub) 3 ?_ (hlen:=(cB _))
 intro _ a1 c1 G1 h1 N1 R1
 conv=>whnf
 (try refine gS ?_);conv=>whnf
 have U1:=Now.step N.gsub N1
 have V1:=Up.trans (Up.refl G h) U1
 have T1:=N1
 clear hk hJ
 refine aA.subR (nx':=3) (l':=[(1,.ptr 0 0),(2,.ptr 1 0),(3,.ptr 2 0),(6,.v (.int .i64 0))]) (H':=[(0,sC aU cU aI cI aP cP aM cM aO cO aF cF aR cR aS cS s),(1,zC),(2,.cells 32 [.v (.slice a1 (s.units.map unU).length c1),.v (.slice none 0 0),.v (.slice aP s.plants.length cP),.v (.slice none 0 0),.v (.slice aO s.options.length cO),.v (.slice none 0 0),.v (.slice none 0 0),.v (.slice none 0 0)])]) [] ?_ sH sH
 refine aA.nilOwn (l':=[(1,.ptr 0 0),(2,.ptr 1 0),(3,.ptr 2 0),(6,.v (.int .i64 0))]) (H':=[(0,sC aU cU aI cI aP cP aM cM aO cO aF cF aR cR aS cS s),(1,zC),(2,.cells 32 [.v (.slice a1 (s.units.map unU).length c1),.buf 3,.v (.slice aP s.plants.length cP),.v (.slice none 0 0),.v (.slice aO s.options.length cO),.v (.slice none 0 0),.v (.slice none 0 0),.v (.slice none 0 0)])]) 83 6 ?_ (by rfl) (by rfl) (by rfl)
 refine aA.subR [] (aA.loop (fun (k:Nat)=>[(1,.ptr 0 0),(2,.ptr 1 0),(3,.ptr 2 0),(6,.v (.int .i64 k))]) (fun (k:Nat)=>[(0,sC aU cU aI cI aP cP aM cM aO cO aF cF aR cR aS cS s),(1,zC),(2,.cells 32 [.v (.slice a1 (s.units.map unU).length c1),.buf 3,.v (.slice aP s.plants.length cP),.v (.slice none 0 0),.v (.slice aO s.options.length cO),.v (.slice none 0 0),.v (.slice none 0 0),.v (.slice none 0 0)]),(3,.own 83 6 (rws It.row ((s.items.take k).map It.un0)))]) 4 (fun (k:Nat)=>k≤s.items.length) (fun (k:Nat)=>s.items.length - k) ?round3 (0) ?J03) sH sH
 case J03=>first|omega|trivial
 rintro k hJ back
 conv=>whnf
 refine gS ?_;conv=>whnf
 refine ⟨fun hk=>?_,fun hk=>?_⟩<;>conv=>whnf
 ·have hk:k<s.items.length:=by omega
  have W:Up G h _ h1:=Up.trans V1 ⟨N1.gsub,fun _ _=>rfl⟩
  obtain ⟨g,o,rfl,hrl,hrow⟩:=aGW (RoF.up W hP.I) (aK hk)
  have el:(rws It.row ((s.items.take k).map It.un0)).length=k:=by rw [aG,List.length_map,List.length_take];omega
  conv=>whnf
  repeat ((first|(guard_target=_∧_;(fail_if_success refine oF ?_ ?_);(first|refine oL ?_|refine oR ?_))|(guard_target=Exists _;refine oM ?_));(try intro _);conv=>whnf)
  refine ⟨_,⟨hrl,hrow⟩,?_⟩;conv=>whnf
  refine And.intro (gG (show (rws It.row ((s.items.take k).map It.un0)).length≤1000000 by omega)) ?_
  conv=>whnf
  repeat ((first|(guard_target=_∧_;(fail_if_success refine oF ?_ ?_);(first|refine oL ?_|refine oR ?_))|(guard_target=Exists _;refine oM ?_));(try intro _);conv=>whnf)
  refine aA.rowsEq 6 (qV (f:=It.row) (g:=It.un0) hk) ?_;conv=>whnf
  refine aA.subR [(3,6)] (back (k+1) (by (try dsimp only);first|omega|trivial) (by (try dsimp only);omega)) sH sH
 have hk:k=s.items.length:=by omega
 clear back
 refine aA.rowsEq 3 (show rws It.row ((s.items.take k).map It.un0)=rws It.row (s.items.map It.un0) by rw [hk,List.take_length]) ?_
 conv=>whnf
 refine aA.concY (n:=(s.items.map It.un0).length) (N1.gsub) 3 ?_ (hlen:=(aG _ _))
 intro _ a2 c2 G2 h2 N2 R2
 conv=>whnf
 (try refine gS ?_);conv=>whnf
 have U2:=Now.step N1.gsub N2
 have V2:=Up.trans V1 U2
 have T2:=T1.trans N2
 clear hk hJ
 refine aA.subR (nx':=3) (l':=[(1,.ptr 0 0),(2,.ptr 1 0),(3,.ptr 2 0),(8,.v (.int .i64 0))]) (H':=[(0,sC aU cU aI cI aP cP aM cM aO cO aF cF aR cR aS cS s),(1,zC),(2,.cells 32 [.v (.slice a1 (s.units.map unU).length c1),.v (.slice a2 (s.items.map It.un0).length c2),.v (.slice aP s.plants.length cP),.v (.slice none 0 0),.v (.slice aO s.options.length cO),.v (.slice none 0 0),.v (.slice none 0 0),.v (.slice none 0 0)])]) [] ?_ sH sH
 refine aA.nilOwn (l':=[(1,.ptr 0 0),(2,.ptr 1 0),(3,.ptr 2 0),(8,.v (.int .i64 0))]) (H':=[(0,sC aU cU aI cI aP cP aM cM aO cO aF cF aR cR aS cS s),(1,zC),(2,.cells 32 [.v (.slice a1 (s.units.map unU).length c1),.v (.slice a2 (s.items.map It.un0).length c2),.v (.slice aP s.plants.length cP),.buf 3,.v (.slice aO s.options.length cO),.v (.slice none 0 0),.v (.slice none 0 0),.v (.slice none 0 0)])]) 85 4 ?_ (by rfl) (by rfl) (by rfl)
 refine aA.subR [] (aA.loop (fun (k:Nat)=>[(1,.ptr 0 0),(2,.ptr 1 0),(3,.ptr 2 0),(8,.v (.int .i64 k))]) (fun (k:Nat)=>[(0,sC aU cU aI cI aP cP aM cM aO cO aF cF aR cR aS cS s),(1,zC),(2,.cells 32 [.v (.slice a1 (s.units.map unU).length c1),.v (.slice a2 (s.items.map It.un0).length c2),.v (.slice aP s.plants.length cP),.buf 3,.v (.slice aO s.options.length cO),.v (.slice none 0 0),.v (.slice none 0 0),.v (.slice none 0 0)]),(3,.own 85 4 (rws Mc.row ((s.machines.take k).map Mc.un)))]) 4 (fun (k:Nat)=>k≤s.machines.length) (fun (k:Nat)=>s.machines.length - k) ?round5 (0) ?J05) sH sH
 case J05=>first|omega|trivial
 rintro k hJ back
 conv=>whnf
 refine gS ?_;conv=>whnf
 refine ⟨fun hk=>?_,fun hk=>?_⟩<;>conv=>whnf
 ·have hk:k<s.machines.length:=by omega
  have W:Up G h _ h2:=Up.trans V2 ⟨N2.gsub,fun _ _=>rfl⟩
  obtain ⟨g,o,rfl,hrl,hrow⟩:=aGW (RoF.up W hP.M) (aK hk)
  have el:(rws Mc.row ((s.machines.take k).map Mc.un)).length=k:=by rw [aG,List.length_map,List.length_take];omega
  conv=>whnf
  repeat ((first|(guard_target=_∧_;(fail_if_success refine oF ?_ ?_);(first|refine oL ?_|refine oR ?_))|(guard_target=Exists _;refine oM ?_));(try intro _);conv=>whnf)
  refine ⟨_,⟨hrl,hrow⟩,?_⟩;conv=>whnf
  refine And.intro (gG (show (rws Mc.row ((s.machines.take k).map Mc.un)).length≤1000000 by omega)) ?_
  conv=>whnf
  repeat ((first|(guard_target=_∧_;(fail_if_success refine oF ?_ ?_);(first|refine oL ?_|refine oR ?_))|(guard_target=Exists _;refine oM ?_));(try intro _);conv=>whnf)
  refine aA.rowsEq 6 (qV (f:=Mc.row) (g:=Mc.un) hk) ?_;conv=>whnf
  refine aA.subR [(3,6)] (back (k+1) (by (try dsimp only);first|omega|trivial) (by (try dsimp only);omega)) sH sH
 have hk:k=s.machines.length:=by omega
 clear back
 refine aA.rowsEq 3 (show rws Mc.row ((s.machines.take k).map Mc.un)=rws Mc.row (s.machines.map Mc.un) by rw [hk,List.take_length]) ?_
 conv=>whnf
 refine aA.concY (n:=(s.machines.map Mc.un).length) (N2.gsub) 3 ?_ (hlen:=(aG _ _))
 intro _ a3 c3 G3 h3 N3 R3
 conv=>whnf
 (try refine gS ?_);conv=>whnf
 have U3:=Now.step N2.gsub N3
 have V3:=Up.trans V2 U3
 have T3:=T2.trans N3
 clear hk hJ
 refine aA.subR (nx':=3) (l':=[(1,.ptr 0 0),(2,.ptr 1 0),(3,.ptr 2 0),(10,.v (.int .i64 0))]) (H':=[(0,sC aU cU aI cI aP cP aM cM aO cO aF cF aR cR aS cS s),(1,zC),(2,.cells 32 [.v (.slice a1 (s.units.map unU).length c1),.v (.slice a2 (s.items.map It.un0).length c2),.v (.slice aP s.plants.length cP),.v (.slice a3 (s.machines.map Mc.un).length c3),.v (.slice aO s.options.length cO),.v (.slice none 0 0),.v (.slice none 0 0),.v (.slice none 0 0)])]) [] ?_ sH sH
 refine aA.nilOwn (l':=[(1,.ptr 0 0),(2,.ptr 1 0),(3,.ptr 2 0),(10,.v (.int .i64 0))]) (H':=[(0,sC aU cU aI cI aP cP aM cM aO cO aF cF aR cR aS cS s),(1,zC),(2,.cells 32 [.v (.slice a1 (s.units.map unU).length c1),.v (.slice a2 (s.items.map It.un0).length c2),.v (.slice aP s.plants.length cP),.v (.slice a3 (s.machines.map Mc.un).length c3),.v (.slice aO s.options.length cO),.buf 3,.v (.slice none 0 0),.v (.slice none 0 0)])]) 53 1 ?_ (by rfl) (by rfl) (by rfl)
 refine aA.subR [] (aA.loopB (fun (⟨k,m,F',G',h'⟩:Nat×List FbV×(Nat→Prop)×(Nat→Prop)×Array Obj)=>(F',h')) (fun (⟨k,m,F',G',h'⟩:Nat×List FbV×(Nat→Prop)×(Nat→Prop)×Array Obj)=>[(1,.ptr 0 0),(2,.ptr 1 0),(3,.ptr 2 0),(10,.v (.int .i64 k))]) (fun (⟨k,m,F',G',h'⟩:Nat×List FbV×(Nat→Prop)×(Nat→Prop)×Array Obj)=>[(0,sC aU cU aI cI aP cP aM cM aO cO aF cF aR cR aS cS s),(1,zC),(2,.cells 32 [.v (.slice a1 (s.units.map unU).length c1),.v (.slice a2 (s.items.map It.un0).length c2),.v (.slice aP s.plants.length cP),.v (.slice a3 (s.machines.map Mc.un).length c3),.v (.slice aO s.options.length cO),.buf 3,.v (.slice none 0 0),.v (.slice none 0 0)]),(3,.own 53 1 (rws FbV.row m))]) 4 (fun (⟨k,m,F',G',h'⟩:Nat×List FbV×(Nat→Prop)×(Nat→Prop)×Array Obj)=>Now F G h F' G' h'∧Up G3 h3 G' h'∧k≤s.forbids.length∧m.length=k∧m.map FbV.bare=((s.forbids.take k).map FbV.un).map FbV.bare ∧ ∀a∈m,a.ok G' h') (fun (⟨k,m,F',G',h'⟩:Nat×List FbV×(Nat→Prop)×(Nat→Prop)×Array Obj)=>s.forbids.length - k) ?round7 (⟨0,[],_,G3,h3⟩) ?J07) sH sH
 case J07=>exact (⟨N.trans T3,Up.refl _ _,Nat.zero_le _,rfl,rfl,fun _ h=>absurd h List.not_mem_nil⟩)
 rintro ⟨k,m,F',G',h'⟩ hJ back
 try dsimp only at hJ back
 conv=>whnf
 try dsimp only
 refine gS ?_;conv=>whnf
 refine ⟨fun hk=>?_,fun hk=>?_⟩<;>conv=>whnf
 ·obtain ⟨N4,U4,_,em,ea,ho⟩:=hJ
  have hk:k<s.forbids.length:=by omega
  have V4:=V3.trans U4
  have W4:Up G h _ h':=V4.trans ⟨N4.gsub,fun _ _=>rfl⟩
  obtain ⟨g,o,rfl,hrl,hrow⟩:=aGW (RoF.up W4 hP.F) (aK hk)
  have el:(rws FbV.row m).length=k:=by rw [aG];exact em
  conv=>whnf
  refine aA.held tab (.fl 0 (.fl 1 (.fl 2 (.fl 3 (.fl 4 (.fl 5 (.fl 6 (.e1 7 [1] (.e1 8 [1] (.e1 9 [] (.fl 10 (.e1 11 [] .done)))))))))))) (by kernel_rfl) ?_;conv=>whnf
  (try refine gR ?_);conv=>whnf
  repeat ((first|(guard_target=_∧_;(fail_if_success refine oF ?_ ?_);(first|refine oL ?_|refine oR ?_|refine oB ?_))|(guard_target=Exists _;refine oM ?_));(try intro _);conv=>whnf)
  conv=>whnf
  have hrow1:=hrow 0 _ rfl
  rw [Nat.mul_one] at hrow1
  refine ⟨_,hrow1,?_⟩;conv=>whnf
  refine aV.callY (N4.gsub) (aIL _ s.forbids[k].cs (hL.f _ (List.getElem_mem hk))) (fun h U=>RoF.up (V4.trans U) (hP.below.f _ (List.getElem_mem hk))) [] sH ?CNa8 ?_
  case CNa8=>rfl
  rintro _ x G5 h5 N5 J5
  conv=>whnf
  try refine oB ?_
  (try refine gR ?_);conv=>whnf
  repeat ((first|(guard_target=_∧_;(fail_if_success refine oF ?_ ?_);(first|refine oL ?_|refine oR ?_|refine oB ?_))|(guard_target=Exists _;refine oM ?_));(try intro _);conv=>whnf)
  conv=>whnf
  have U5:=Now.step N4.gsub N5
  have er:rws FbV.row m++[FbV.row ⟨x,s.forbids[k].cs.map Cd.un⟩]=rws FbV.row (m++[⟨x,s.forbids[k].cs.map Cd.un⟩]):=wW m _
  have ea':(m++[(⟨x,s.forbids[k].cs.map Cd.un⟩:FbV)]).map FbV.bare=((s.forbids.take (k+1)).map FbV.un).map FbV.bare:=by
   rw [List.map_append,ea,dC hk,List.map_append,List.map_append];rfl
  have em':(m++[(⟨x,s.forbids[k].cs.map Cd.un⟩:FbV)]).length=k+1:=by rw [List.length_append,em];rfl
  have ho':∀a∈m++[(⟨x,s.forbids[k].cs.map Cd.un⟩:FbV)],a.ok G5 h5:=aUQ (fun a ha=>(ho a ha).up U5) J5
  refine And.intro (fK (show (rws FbV.row m).length+1≤1000000 by omega)) ?_
  conv=>whnf
  repeat ((first|(guard_target=_∧_;(fail_if_success refine oF ?_ ?_);(first|refine oL ?_|refine oR ?_|refine oB ?_))|(guard_target=Exists _;refine oM ?_));(try intro _);conv=>whnf)
  (try refine gS ?_);conv=>whnf
  repeat ((first|(guard_target=_∧_;(fail_if_success refine oF ?_ ?_);(first|refine oL ?_|refine oR ?_))|(guard_target=Exists _;refine oM ?_));(try intro _);conv=>whnf)
  refine aA.rowsEq 5 er ?_;conv=>whnf
  refine aA.subR [(3,5)] (back (⟨k+1,m++[⟨x,s.forbids[k].cs.map Cd.un⟩],_,G5,h5⟩) (by exact (⟨N4.trans N5,U4.trans U5,hk,em',ea',ho'⟩)) (by (try dsimp only);omega)) sH sH
 obtain ⟨N4,U4,_,em,ea,ho⟩:=hJ
 have hk:k=s.forbids.length:=by omega
 rw [hk,List.take_length] at ea
 clear back
 obtain ⟨mf,hmf⟩:∃mf,mf=m:=⟨_,rfl⟩
 refine aA.rowsEq 3 (show rws FbV.row m=rws FbV.row mf by rw [hmf]) ?_
 conv=>whnf
 have V4:=V3.trans U4
 refine aA.concY (n:=mf.length) (N4.gsub) 3 ?_ (hlen:=(aG _ _))
 intro _ a4 c4 G5 h5 N5 R4
 conv=>whnf
 (try refine gS ?_);conv=>whnf
 have U5:=Now.step N4.gsub N5
 have V5:=V4.trans U5
 have T5:=N4.trans N5
 clear hk
 refine aA.subR (nx':=3) (l':=[(1,.ptr 0 0),(2,.ptr 1 0),(3,.ptr 2 0),(11,.v (.int .i64 0))]) (H':=[(0,sC aU cU aI cI aP cP aM cM aO cO aF cF aR cR aS cS s),(1,zC),(2,.cells 32 [.v (.slice a1 (s.units.map unU).length c1),.v (.slice a2 (s.items.map It.un0).length c2),.v (.slice aP s.plants.length cP),.v (.slice a3 (s.machines.map Mc.un).length c3),.v (.slice aO s.options.length cO),.v (.slice a4 mf.length c4),.v (.slice none 0 0),.v (.slice none 0 0)])]) [] ?_ sH sH
 refine aA.nilOwn (l':=[(1,.ptr 0 0),(2,.ptr 1 0),(3,.ptr 2 0),(11,.v (.int .i64 0))]) (H':=[(0,sC aU cU aI cI aP cP aM cM aO cO aF cF aR cR aS cS s),(1,zC),(2,.cells 32 [.v (.slice a1 (s.units.map unU).length c1),.v (.slice a2 (s.items.map It.un0).length c2),.v (.slice aP s.plants.length cP),.v (.slice a3 (s.machines.map Mc.un).length c3),.v (.slice aO s.options.length cO),.v (.slice a4 mf.length c4),.buf 3,.v (.slice none 0 0)])]) 61 17 ?_ (by rfl) (by rfl) (by rfl)
 refine aA.subR [] (aA.loopB (fun (⟨k,m,F',G',h'⟩:Nat×List RcV×(Nat→Prop)×(Nat→Prop)×Array Obj)=>(F',h')) (fun (⟨k,m,F',G',h'⟩:Nat×List RcV×(Nat→Prop)×(Nat→Prop)×Array Obj)=>[(1,.ptr 0 0),(2,.ptr 1 0),(3,.ptr 2 0),(11,.v (.int .i64 k))]) (fun (⟨k,m,F',G',h'⟩:Nat×List RcV×(Nat→Prop)×(Nat→Prop)×Array Obj)=>[(0,sC aU cU aI cI aP cP aM cM aO cO aF cF aR cR aS cS s),(1,zC),(2,.cells 32 [.v (.slice a1 (s.units.map unU).length c1),.v (.slice a2 (s.items.map It.un0).length c2),.v (.slice aP s.plants.length cP),.v (.slice a3 (s.machines.map Mc.un).length c3),.v (.slice aO s.options.length cO),.v (.slice a4 mf.length c4),.buf 3,.v (.slice none 0 0)]),(3,.own 61 17 (rws RcV.row m))]) 4 (fun (⟨k,m,F',G',h'⟩:Nat×List RcV×(Nat→Prop)×(Nat→Prop)×Array Obj)=>Now F G h F' G' h'∧Up G5 h5 G' h'∧k≤s.recipes.length∧m.length=k∧m.map RcV.bare=((s.recipes.take k).map RcV.un).map RcV.bare ∧ ∀a∈m,a.ok G' h') (fun (⟨k,m,F',G',h'⟩:Nat×List RcV×(Nat→Prop)×(Nat→Prop)×Array Obj)=>s.recipes.length - k) ?round10 (⟨0,[],_,G5,h5⟩) ?J010) sH sH
 case J010=>exact (⟨T5,Up.refl _ _,Nat.zero_le _,rfl,rfl,fun _ h=>absurd h List.not_mem_nil⟩)
 rintro ⟨k,m,F',G',h'⟩ hJ back
 try dsimp only at hJ back
 conv=>whnf
 try dsimp only
 refine gS ?_;conv=>whnf
 refine ⟨fun hk=>?_,fun hk=>?_⟩<;>conv=>whnf
 ·obtain ⟨N6,U6,_,em,ea2,ho3⟩:=hJ
  have hk:k<s.recipes.length:=by omega
  have V6:=V5.trans U6
  have W6:Up G h _ h':=V6.trans ⟨N6.gsub,fun _ _=>rfl⟩
  obtain ⟨g,o,rfl,hrl,hrow⟩:=aGW (RoF.up W6 hP.R) (aK hk)
  obtain ⟨bc,bi,bo,bn⟩:=hL.r _ (List.getElem_mem hk)
  have hbr:=hP.below.r _ (List.getElem_mem hk)
  have el:(rws RcV.row m).length=k:=by rw [aG];exact em
  conv=>whnf
  refine aA.held tab (.fl 0 (.fl 1 (.fl 2 (.fl 3 (.fl 4 (.fl 5 (.fl 6 (.e1 7 [1] (.e1 8 [1] (.e1 9 [] (.fl 10 (.e1 11 [] .done)))))))))))) (by kernel_rfl) ?_;conv=>whnf
  (try refine gR ?_);conv=>whnf
  repeat ((first|(guard_target=_∧_;(fail_if_success refine oF ?_ ?_);(first|refine oL ?_|refine oR ?_|refine oB ?_))|(guard_target=Exists _;refine oM ?_));(try intro _);conv=>whnf)
  conv=>whnf
  refine ⟨_,⟨hrl,hrow⟩,?_⟩;conv=>whnf
  refine aV.callY (N6.gsub) (aSN s.recipes[k] bc bi bo bn) (fun h U=>hbr.up (V6.trans U)) [] sH ?CNa11 ?_
  case CNa11=>rfl
  rintro _ x Ga ha Na Ja
  conv=>whnf
  try refine oB ?_
  (try refine gR ?_);conv=>whnf
  repeat ((first|(guard_target=_∧_;(fail_if_success refine oF ?_ ?_);(first|refine oL ?_|refine oR ?_|refine oB ?_))|(guard_target=Exists _;refine oM ?_));(try intro _);conv=>whnf)
  conv=>whnf
  have Ub:=Now.step N6.gsub Na
  have er:rws RcV.row m++[RcV.row x]=rws RcV.row (m++[x]):=wW m _
  have ea':(m++[x]).map RcV.bare=((s.recipes.take (k+1)).map RcV.un).map RcV.bare:=by
   rw [List.map_append,ea2,dC hk,List.map_append,List.map_append]
   show _++[x.bare]=_
   rw [Ja.t];rfl
  have em':(m++[x]).length=k+1:=by rw [List.length_append,em];rfl
  have ho':∀a∈m++[x],a.ok Ga ha:=aUQ (p:=fun a:RcV=>a.ok Ga ha) (fun a ha=>(ho3 a ha).up Ub) Ja.ok
  refine And.intro (fK (show (rws RcV.row m).length+1≤1000000 by omega)) ?_
  conv=>whnf
  repeat ((first|(guard_target=_∧_;(fail_if_success refine oF ?_ ?_);(first|refine oL ?_|refine oR ?_|refine oB ?_))|(guard_target=Exists _;refine oM ?_));(try intro _);conv=>whnf)
  (try refine gS ?_);conv=>whnf
  repeat ((first|(guard_target=_∧_;(fail_if_success refine oF ?_ ?_);(first|refine oL ?_|refine oR ?_))|(guard_target=Exists _;refine oM ?_));(try intro _);conv=>whnf)
  refine aA.rowsEq 5 er ?_;conv=>whnf
  refine aA.subR [(3,5)] (back (⟨k+1,m++[x],_,Ga,ha⟩) (by exact (⟨N6.trans Na,U6.trans Ub,hk,em',ea',ho'⟩)) (by (try dsimp only);omega)) sH sH
 obtain ⟨N6,U6,_,em,er,ho2⟩:=hJ
 have hk:k=s.recipes.length:=by omega
 rw [hk,List.take_length] at er
 clear back
 obtain ⟨mr,hmr⟩:∃mr,mr=m:=⟨_,rfl⟩
 refine aA.rowsEq 3 (show rws RcV.row m=rws RcV.row mr by rw [hmr]) ?_
 conv=>whnf
 have V6:=V5.trans U6
 refine aA.concY (n:=mr.length) (N6.gsub) 3 ?_ (hlen:=(aG _ _))
 intro _ a5 c5 G7 h7 N7 R5
 conv=>whnf
 (try refine gS ?_);conv=>whnf
 have U7:=Now.step N6.gsub N7
 have V7:=V6.trans U7
 have T7:=N6.trans N7
 have W7:Up G h _ h7:=V7.trans ⟨N7.gsub,fun _ _=>rfl⟩
 clear hk
 refine aA.subR (nx':=3) (l':=[(1,.ptr 0 0),(2,.ptr 1 0),(3,.ptr 2 0),(12,.v (.int .i64 0))]) (H':=[(0,sC aU cU aI cI aP cP aM cM aO cO aF cF aR cR aS cS s),(1,zC),(2,.cells 32 [.v (.slice a1 (s.units.map unU).length c1),.v (.slice a2 (s.items.map It.un0).length c2),.v (.slice aP s.plants.length cP),.v (.slice a3 (s.machines.map Mc.un).length c3),.v (.slice aO s.options.length cO),.v (.slice a4 mf.length c4),.v (.slice a5 mr.length c5),.v (.slice none 0 0)])]) [] ?_ sH sH
 refine aA.nilOwn (l':=[(1,.ptr 0 0),(2,.ptr 1 0),(3,.ptr 2 0),(12,.v (.int .i64 0))]) (H':=[(0,sC aU cU aI cI aP cP aM cM aO cO aF cF aR cR aS cS s),(1,zC),(2,.cells 32 [.v (.slice a1 (s.units.map unU).length c1),.v (.slice a2 (s.items.map It.un0).length c2),.v (.slice aP s.plants.length cP),.v (.slice a3 (s.machines.map Mc.un).length c3),.v (.slice aO s.options.length cO),.v (.slice a4 mf.length c4),.v (.slice a5 mr.length c5),.buf 3])]) 89 4 ?_ (by rfl) (by rfl) (by rfl)
 refine aA.nameCell (fun _ x=>x) 0 7 (by exact RoF.up W7 hP.S) ?_
 conv=>whnf
 (try refine gS ?_);conv=>whnf
 have lS:=aG Sw.row s.swaps
 refine aA.subR [] (aA.loop (fun (k:Nat)=>[(1,.ptr 0 0),(2,.ptr 1 0),(3,.ptr 2 0),(12,.v (.int .i64 k))]) (fun (k:Nat)=>[(0,.cells 32 [.v (.slice aU s.units.length cU),.v (.slice aI s.items.length cI),.v (.slice aP s.plants.length cP),.v (.slice aM s.machines.length cM),.v (.slice aO s.options.length cO),.v (.slice aF s.forbids.length cF),.v (.slice aR s.recipes.length cR),.buf 4]),(1,zC),(2,.cells 32 [.v (.slice a1 (s.units.map unU).length c1),.v (.slice a2 (s.items.map It.un0).length c2),.v (.slice aP s.plants.length cP),.v (.slice a3 (s.machines.map Mc.un).length c3),.v (.slice aO s.options.length cO),.v (.slice a4 mf.length c4),.v (.slice a5 mr.length c5),.buf 3]),(4,.ro 4 (rws Sw.row s.swaps)),(3,.own 89 4 (rws Sw.row ((s.swaps.take k).map Sw.un)))]) 5 (fun (k:Nat)=>k≤s.swaps.length) (fun (k:Nat)=>s.swaps.length - k) ?round13 (0) ?J013) sH sH
 case J013=>first|omega|trivial
 rintro k hJ back
 conv=>whnf
 refine gS ?_;conv=>whnf
 refine ⟨fun hk=>?_,fun hk=>?_⟩<;>conv=>whnf
 ·have hk:k<s.swaps.length:=by omega
  have el:(rws Sw.row ((s.swaps.take k).map Sw.un)).length=k:=by rw [aG,List.length_map,List.length_take];omega
  conv=>whnf
  refine aA.held tab (.fl 0 (.fl 1 (.fl 2 (.fl 3 (.fl 4 (.fl 5 (.fl 6 (.fl 7 (.fl 8 (.fl 9 (.fl 10 (.fl 11 (.fl 12 (.fl 13 (.fl 14 (.e1 15 [1] (.e1 16 [] (.fl 17 (.e1 18 [] .done))))))))))))))))))) (by kernel_rfl) ?_;conv=>whnf
  (try refine gR ?_);conv=>whnf
  repeat ((first|(guard_target=_∧_;(fail_if_success refine oF ?_ ?_);(first|refine oL ?_|refine oR ?_|refine oB ?_))|(guard_target=Exists _;refine oM ?_));(try intro _);conv=>whnf)
  conv=>whnf
  refine ⟨_,aK hk,?_⟩;conv=>whnf
  try (refine And.intro (by first|omega|exact Nat.le_of_ble_eq_true rfl) ?_;(try intro _);conv=>whnf)
  conv=>whnf
  refine ⟨_,aK hk,?_⟩;conv=>whnf
  repeat ((first|(guard_target=_∧_;(fail_if_success refine oF ?_ ?_);(first|refine oL ?_|refine oR ?_|refine oB ?_))|(guard_target=Exists _;refine oM ?_));(try intro _);conv=>whnf)
  conv=>whnf
  refine And.intro (fK (show (rws Sw.row ((s.swaps.take k).map Sw.un)).length+1≤1000000 by omega)) ?_
  conv=>whnf
  repeat ((first|(guard_target=_∧_;(fail_if_success refine oF ?_ ?_);(first|refine oL ?_|refine oR ?_|refine oB ?_))|(guard_target=Exists _;refine oM ?_));(try intro _);conv=>whnf)
  (try refine gS ?_);conv=>whnf
  repeat ((first|(guard_target=_∧_;(fail_if_success refine oF ?_ ?_);(first|refine oL ?_|refine oR ?_))|(guard_target=Exists _;refine oM ?_));(try intro _);conv=>whnf)
  refine aA.rowsEq 6 (qV (f:=Sw.row) (g:=Sw.un) hk) ?_;conv=>whnf
  refine aA.subR [(3,6)] (back (k+1) (by (try dsimp only);first|omega|trivial) (by (try dsimp only);omega)) sH sH
 have hk:k=s.swaps.length:=by omega
 clear back
 conv=>whnf
 refine aA.rowsEq 3 (show rws Sw.row ((s.swaps.take k).map Sw.un)=rws Sw.row (s.swaps.map Sw.un) by rw [hk,List.take_length]) ?_
 conv=>whnf
 refine aA.concY (n:=(s.swaps.map Sw.un).length) (N7.gsub) 3 ?_ (hlen:=(aG _ _))
 intro _ a6 c6 G8 h8 N8 R6
 conv=>whnf
 (try refine gS ?_);conv=>whnf
 have U8:=Now.step N7.gsub N8
 try refine aA.retU ?_
 exact aE.ret tab Tryz.func18 rfl (eX (T7.trans N8) (⟨⟨s.units.map unU,s.items.map It.un0,s.plants,s.machines.map Mc.un,s.options,mf,mr,s.swaps.map Sw.un⟩,_,_,_,_,_,_,_,_⟩) (fun h U=>un_end hmf hmr ea er U (U8.trans U) R6 R5 (RoF.up (U6.trans (U7.trans (U8.trans U))) R4) (RoF.up (U4.trans (U5.trans (U6.trans (U7.trans (U8.trans U))))) R3) (RoF.up (U3.trans (U4.trans (U5.trans (U6.trans (U7.trans (U8.trans U)))))) R2) (RoF.up (U2.trans (U3.trans (U4.trans (U5.trans (U6.trans (U7.trans (U8.trans U))))))) R1) (fun a ha=>(ho a ha).up (U5.trans (U6.trans (U7.trans (U8.trans U))))) (fun a ha=>(ho2 a ha).up (U7.trans (U8.trans U))) (hP.up (V7.trans (U8.trans U)))))
end
end Go.Proofs.YtgbeechjghajcaaGreatDoor

namespace Go.SynM
open Go Go.Fw Go.RatM Go.SrcM
theorem aBI {α:Type} {f:α→Nat} {m:Nat}:∀(l:List α),(∀x∈l,f x≤m)→(l.map f).sum≤l.length*m
 | [],_=>Nat.zero_le _
 |x::l,h=>by
  rw [List.map_cons,List.sum_cons,List.length_cons,Nat.succ_mul]
  have:=aBI l fun y hy=>h y (List.mem_cons_of_mem _ hy)
  have:=h x (List.mem_cons_self ..)
  omega
theorem un_bare (s:aJ):s.un.bare=s.un:=by
 unfold aJ.bare aJ.un
 simp only [List.map_map];rfl
end Go.SynM
namespace Go.Proofs.YtgbeechjghajcaaGreatDoor
open Go Go.Fw Go.NatM Go.RatM Go.SrcM Go.SynM
set_option maxRecDepth 100000
set_option maxHeartbeats 99999999
end Go.Proofs.YtgbeechjghajcaaGreatDoor

namespace Go.SynM
open Go Go.Fw Go.RatM Go.SrcM
theorem aDL {α:Type} {f g:α→Nat} {m:Nat} (h:∀x,f x≤m*g x):∀l:List α,(l.map f).sum≤m*(l.map g).sum
 | []=>Nat.zero_le _
 |x::l=>by
  rw [List.map_cons,List.sum_cons,List.map_cons,List.sum_cons,Nat.mul_add]
  have:=aDL h l
  have:=h x
  omega
theorem few_ttl (s:aJ):ttl s≤30*fewN s:=by
 have b1:=aBI (f:=fun _:Un=>8) s.units fun _ _=>Nat.le_refl _
 have b2:=aBI (f:=fun _:It=>12) s.items fun _ _=>Nat.le_refl _
 have b3:=aBI (f:=fun _:ByteArray=>3) s.plants fun _ _=>Nat.le_refl _
 have b4:=aBI (f:=fun _:Mc=>7) s.machines fun _ _=>Nat.le_refl _
 have b5:=aDL (f:=aFC) (g:=fwO) (m:=30) (fun o=>by unfold aFC;simp only [fwO];omega) s.options
 have b6:=aDL (f:=aGO) (g:=fwF) (m:=30) (fun o=>by unfold aGO;simp only [fwF];omega) s.forbids
 have b7:=aDL (f:=aFN) (g:=fwR) (m:=30) (fun o=>by unfold aFN;simp only [fwR];omega) s.recipes
 have b8:=aBI (f:=fun _:Sw=>5) s.swaps fun _ _=>Nat.le_refl _
 unfold ttl fewN
 omega
end Go.SynM
namespace Go.Proofs.YtgbeechjghajcaaGreatDoor
open Go Go.Fw Go.NatM Go.RatM Go.SrcM Go.SynM
set_option maxRecDepth 100000
set_option maxHeartbeats 99999999
end Go.Proofs.YtgbeechjghajcaaGreatDoor

namespace Go.Proofs.YtgbeechjghajcaaGreatDoor
open Go Go.Fw Go.NatM Go.RatM Go.SrcM Go.SynM
set_option maxRecDepth 100000
set_option maxHeartbeats 99999999
abbrev WrJ (l:List Tok) (x:Hd) (G:Nat→Prop) (h:Array Obj):Prop:=RoF G h (x.v l.length) 4 (rws Tok.row l)
abbrev tF (l:List Tok) (x:Hd):gK:=.ret (.v (x.v l.length)) 0 []
theorem dL (l:List Tok) (t:Tok):∃y,y=l++[t]∧y.length=l.length+1:=⟨_,rfl,List.length_append⟩
theorem stp3 (l t:List Tok) (h:t.length=3:=by rfl):∃y,y=l++t∧y.length=l.length+3:=⟨_,rfl,by rw [List.length_append,h]⟩
theorem aVY (w:Hd) (l:List Tok) (t:Tok) (hl:l.length+1≤1000000):FnX Tryz.prog 149 0 [.v (w.v l.length),.agg [aC t.kind,aC t.pos,.v (.string t.text),aC t.n]] [] (WrJ l w) (WrJ (l++[t])) (tF (l++[t])):=by
 have hn:=aG Tok.row l
 refine FnX.of Tryz.func149 (by kernel_rfl) rfl Tryz.ntmps149 rfl fun E0 F G h N hP w0 cs=>?_
 conv=>whnf
 refine gS ?_;conv=>whnf
 have hT:=RoF.up ⟨N.gsub,fun _ _=>rfl⟩ hP
 refine aA.nameAt (fun _ x=>x) 0 (by exact hT) ?_
 conv=>whnf
 (try refine gS ?_);conv=>whnf
 refine aA.held tab (.fl 1 (.fl 3 (.e2 0 [3] (.e2 2 [3] (.e1 4 [] (.e1 5 [] (.fl 6 .done))) 4 [] (.e1 2 [3] (.e1 5 [] (.fl 6 .done)))) 4 [] (.e1 0 [3] (.e1 2 [3] (.e1 5 [] (.fl 6 .done))))))) (by kernel_rfl) ?_;conv=>whnf
 (try refine gR ?_);conv=>whnf
 refine ⟨?_,?_⟩<;>conv=>whnf
 ·conv=>whnf
  (try refine oB ?_);conv=>whnf
  refine ⟨?_,?_⟩<;>conv=>whnf
  ·refine And.intro (fK (show 0+(rws Tok.row l).length≤1000000 by omega)) ?_
   conv=>whnf
   repeat ((first|(guard_target=_∧_;(first|refine oL ?_|refine oR ?_|refine oB ?_))|(guard_target=Exists _;refine oM ?_));(try intro _);conv=>whnf)
   conv=>whnf
   refine And.intro (fK (by simp only [List.length_append,List.length_nil,hn];exact (by omega:0+l.length+1≤1000000))) ?_;conv=>whnf
   repeat ((first|(guard_target=_∧_;(first|refine oL ?_|refine oR ?_|refine oB ?_))|(guard_target=Exists _;refine oM ?_));(try intro _);conv=>whnf)
   (try refine gS ?_);conv=>whnf
   refine aA.rowsEq 5 (show ([]++rws Tok.row l)++[t.row]=rws Tok.row (l++[t]) by rw [List.nil_append];exact wW l t) ?_
   conv=>whnf
   refine aA.concY (n:=(l++[t]).length) (N.gsub) 5 ?_ (hlen:=(aG _ _))
   intro _ a1 c1 G1 h1 N1 R1
   conv=>whnf
   (try refine gS ?_);conv=>whnf
   try refine aA.retU ?_
   exact aE.ret tab Tryz.func149 rfl (eX (N.trans N1) (⟨a1,c1⟩) (fun h U=>RoF.up U R1))
  conv=>whnf
  (try refine oB ?_);conv=>whnf
  refine And.intro (fK (show 0+(rws Tok.row l).length≤1000000 by omega)) ?_
  conv=>whnf
  repeat ((first|(guard_target=_∧_;(first|refine oL ?_|refine oR ?_|refine oB ?_))|(guard_target=Exists _;refine oM ?_));(try intro _);conv=>whnf)
  conv=>whnf
  refine And.intro (fK (by simp only [List.length_append,List.length_nil,hn];exact (by omega:0+l.length+1≤1000000))) ?_;conv=>whnf
  repeat ((first|(guard_target=_∧_;(first|refine oL ?_|refine oR ?_|refine oB ?_))|(guard_target=Exists _;refine oM ?_));(try intro _);conv=>whnf)
  (try refine gS ?_);conv=>whnf
  refine aA.rowsEq 5 (show ([]++rws Tok.row l)++[t.row]=rws Tok.row (l++[t]) by rw [List.nil_append];exact wW l t) ?_
  conv=>whnf
  refine aA.concY (n:=(l++[t]).length) (N.gsub) 5 ?_ (hlen:=(aG _ _))
  intro _ a1 c1 G1 h1 N1 R1
  conv=>whnf
  (try refine gS ?_);conv=>whnf
  try refine aA.retU ?_
  exact aE.ret tab Tryz.func149 rfl (eX (N.trans N1) (⟨a1,c1⟩) (fun h U=>RoF.up U R1))
 conv=>whnf
 (try refine oB ?_);conv=>whnf
 repeat ((first|(guard_target=_∧_;(first|refine oL ?_|refine oR ?_|refine oB ?_))|(guard_target=Exists _;refine oM ?_));(try intro _);conv=>whnf)
 conv=>whnf
 refine And.intro (fK (show 0+(rws Tok.row l).length≤1000000 by omega)) ?_
 conv=>whnf
 repeat ((first|(guard_target=_∧_;(first|refine oL ?_|refine oR ?_|refine oB ?_))|(guard_target=Exists _;refine oM ?_));(try intro _);conv=>whnf)
 conv=>whnf
 refine And.intro (fK (by simp only [List.length_append,List.length_nil,hn];exact (by omega:0+l.length+1≤1000000))) ?_;conv=>whnf
 repeat ((first|(guard_target=_∧_;(first|refine oL ?_|refine oR ?_|refine oB ?_))|(guard_target=Exists _;refine oM ?_));(try intro _);conv=>whnf)
 (try refine gS ?_);conv=>whnf
 refine aA.rowsEq 5 (show ([]++rws Tok.row l)++[t.row]=rws Tok.row (l++[t]) by rw [List.nil_append];exact wW l t) ?_
 conv=>whnf
 refine aA.concY (n:=(l++[t]).length) (N.gsub) 5 ?_ (hlen:=(aG _ _))
 intro _ a1 c1 G1 h1 N1 R1
 conv=>whnf
 (try refine gS ?_);conv=>whnf
 try refine aA.retU ?_
 exact aE.ret tab Tryz.func149 rfl (eX (N.trans N1) (⟨a1,c1⟩) (fun h U=>RoF.up U R1))
theorem aJM (w:Hd) {l l':List Tok} {t:Tok} (e:l'=l++[t]) (hl:l'.length≤1000000):FnX Tryz.prog 149 0 [.v (w.v l.length),.agg [aC t.kind,aC t.pos,.v (.string t.text),aC t.n]] [] (WrJ l w) (WrJ l') (tF l'):=by
 subst e
 exact aVY w l t (by rw [List.length_append] at hl;exact hl)
theorem bB (w:Hd) {l l':List Tok} {s:ByteArray} (e:l'=l++[tm s]) (hl:l'.length≤1000000):FnX Tryz.prog 102 0 [.v (w.v l.length),.v (.string s)] [] (WrJ l w) (WrJ l') (tF l'):=by
 refine FnX.of Tryz.func102 (by kernel_rfl) rfl Tryz.ntmps102 rfl fun E0 F G h N hP w0 cs=>?_
 conv=>whnf
 refine gS ?_;conv=>whnf
 refine aA.callY (N.gsub) (aJM w e hl) (fun h U=>RoF.up U hP) [] sH ?CNa1 ?_
 case CNa1=>rfl
 rintro _ x1 G1 h1 N1 J1
 conv=>whnf
 (try refine gS ?_);conv=>whnf
 try refine aA.retU ?_
 exact aE.ret tab Tryz.func102 rfl (eX (N1) (x1) (fun h U=>RoF.up U J1))
theorem cZ (w:Hd) {l l':List Tok} {c:UInt8} (e:l'=l++[ts c]) (hl:l'.length≤1000000):FnX Tryz.prog 101 0 [.v (w.v l.length),.v (.string (B [c]))] [] (WrJ l w) (WrJ l') (tF l'):=by
 refine FnX.of Tryz.func101 (by kernel_rfl) rfl Tryz.ntmps101 rfl fun E0 F G h N hP w0 cs=>?_
 conv=>whnf
 refine gS ?_;conv=>whnf
 refine aA.callY (N.gsub) (aJM w e hl) (fun h U=>RoF.up U hP) [] sH ?CNa2 ?_
 case CNa2=>rfl
 rintro _ x1 G1 h1 N1 J1
 conv=>whnf
 (try refine gS ?_);conv=>whnf
 try refine aA.retU ?_
 exact aE.ret tab Tryz.func101 rfl (eX (N1) (x1) (fun h U=>RoF.up U J1))
theorem rQ (w:Hd) {l l':List Tok} {n:Int} (e:l'=l++[tn n]) (hl:l'.length≤1000000):FnX Tryz.prog 103 0 [.v (w.v l.length),aC n] [] (WrJ l w) (WrJ l') (tF l'):=by
 refine FnX.of Tryz.func103 (by kernel_rfl) rfl Tryz.ntmps103 rfl fun E0 F G h N hP w0 cs=>?_
 conv=>whnf
 refine gS ?_;conv=>whnf
 refine aA.callY (N.gsub) (aJM w e hl) (fun h U=>RoF.up U hP) [] sH ?CNa3 ?_
 case CNa3=>rfl
 rintro _ x1 G1 h1 N1 J1
 conv=>whnf
 (try refine gS ?_);conv=>whnf
 try refine aA.retU ?_
 exact aE.ret tab Tryz.func103 rfl (eX (N1) (x1) (fun h U=>RoF.up U J1))
theorem oK (w:Hd) {l l':List Tok} {n d:Int} (e:l'=l++[tn n,ts 47,tn d]) (hl:l'.length≤1000000):FnX Tryz.prog 148 0 [.v (w.v l.length),aC n,aC d] [] (WrJ l w) (WrJ l') (tF l'):=by
 obtain ⟨l1,e1⟩:∃y,y=l++[tn n]:=⟨_,rfl⟩
 obtain ⟨l2,e2⟩:∃y,y=l1++[ts 47]:=⟨_,rfl⟩
 have e3:l'=l2++[tn d]:=by rw [e,e2,e1];simp
 have n1:l1.length=l.length+1:=by rw [e1];simp
 have n2:l2.length=l1.length+1:=by rw [e2];simp
 have n3:l'.length=l2.length+1:=by rw [e3];simp
 refine FnX.of Tryz.func148 (by kernel_rfl) rfl Tryz.ntmps148 rfl fun E0 F G h N hP w0 cs=>?_
 conv=>whnf
 refine gS ?_;conv=>whnf
 refine aA.callY (N.gsub) (rQ w e1 (by omega)) (fun h U=>RoF.up U hP) [] sH ?CNa4 ?_
 case CNa4=>rfl
 rintro _ x1 G1 h1 N1 J1
 conv=>whnf
 (try refine gS ?_);conv=>whnf
 refine aA.callY (N1.gsub) (cZ x1 e2 (by omega)) (fun h U=>RoF.up U J1) [] sH ?CNa5 ?_
 case CNa5=>rfl
 rintro _ x2 G2 h2 N2 J2
 conv=>whnf
 (try refine gS ?_);conv=>whnf
 refine aA.callY (N2.gsub) (rQ x2 e3 hl) (fun h U=>RoF.up U J2) [] sH ?CNa6 ?_
 case CNa6=>rfl
 rintro _ x3 G3 h3 N3 J3
 conv=>whnf
 (try refine gS ?_);conv=>whnf
 try refine aA.retU ?_
 exact aE.ret tab Tryz.func148 rfl (eX ((N1.trans N2).trans N3) (x3) (fun h U=>RoF.up U J3))

theorem zI (w:Hd) {l l':List Tok} {a:Am} (e:l'=l++amT a) (hl:l'.length≤1000000):FnX Tryz.prog 150 0 [.v (w.v l.length),.agg [aC a.n,aC a.d,.v (.string a.unit),.v (.string a.item),.v (.bool a.back),aC a.un,aC a.inn]] [] (WrJ l w) (WrJ l') (tF l'):=by
 obtain ⟨l1,e1,n1⟩:=stp3 l [tn a.n,ts 47,tn a.d]
 obtain ⟨l2,e2,n2⟩:=dL l1 (tm (a.unit))
 obtain ⟨l3,e3,n3⟩:=dL l2 (tm (a.item))
 obtain ⟨l4,e4,n4⟩:=dL l3 (ts 59)
 have ef:l4=l++amT a:=by rw [e4,e3,e2,e1];simp [amT]
 obtain rfl:l'=l4:=e.trans ef.symm
 refine FnX.of Tryz.func150 (by kernel_rfl) rfl Tryz.ntmps150 rfl fun E0 F G h N hP w0 cs=>?_
 conv=>whnf
 refine gS ?_;conv=>whnf
 refine aA.held tab (.fl 0 (.fl 1 (.fl 2 (.fl 3 (.fl 4 (.fl 6 (.fl 7 (.fl 9 (.fl 10 (.e1 5 [7,10] (.e1 8 [10] (.e1 11 [] (.e1 12 [] (.fl 13 .done)))))))))))))) (by kernel_rfl) ?_;conv=>whnf
 (try refine gR ?_);conv=>whnf
 refine aV.callY (N.gsub) (oK w e1 (by omega)) (fun h U=>RoF.up U hP) [] sH ?CNa1 ?_
 case CNa1=>rfl
 rintro _ x1 G1 h1 N1 J1
 conv=>whnf
 try refine oB ?_
 (try refine gR ?_);conv=>whnf
 refine aV.callY (N1.gsub) (bB x1 e2 (by omega)) (fun h U=>RoF.up U J1) [] sH ?CNa2 ?_
 case CNa2=>rfl
 rintro _ x2 G2 h2 N2 J2
 conv=>whnf
 try refine oB ?_
 (try refine gR ?_);conv=>whnf
 refine aV.callY (N2.gsub) (bB x2 e3 (by omega)) (fun h U=>RoF.up U J2) [] sH ?CNa3 ?_
 case CNa3=>rfl
 rintro _ x3 G3 h3 N3 J3
 conv=>whnf
 try refine oB ?_
 (try refine gR ?_);conv=>whnf
 refine aV.callY (N3.gsub) (cZ x3 e4 (by omega)) (fun h U=>RoF.up U J3) [] sH ?CNa4 ?_
 case CNa4=>rfl
 rintro _ x4 G4 h4 N4 J4
 conv=>whnf
 try refine oB ?_
 (try refine gR ?_);conv=>whnf
 (try refine gS ?_);conv=>whnf
 try refine aA.retU ?_
 exact aE.ret tab Tryz.func150 rfl (eX (((N1.trans N2).trans N3).trans N4) (x4) (fun h U=>RoF.up U J4))
theorem aXI (w:Hd) {l l':List Tok} {u:Un} (e:l'=l++mJ u) (hl:l'.length≤1000000):FnX Tryz.prog 99 0 [.v (w.v l.length),.agg [.v (.string u.name),.v (.string u.of_),aC u.n,aC u.d,aC u.base,.v (.bool u.scale.neg),.v (.string u.scale.n),.v (.string u.scale.d)]] [] (WrJ l w) (WrJ l') (tF l'):=by
 by_cases hc:u.of_=e0
 ·obtain ⟨l1,e1,n1⟩:=dL l (tm (B gE))
  obtain ⟨l2,e2,n2⟩:=dL l1 (tm (u.name))
  obtain ⟨l3,e3,n3⟩:=dL l2 (ts 59)
  have ef:l3=l++mJ u:=by rw [e3,e2,e1];simp [mJ,tw,tm,hc]
  obtain rfl:l'=l3:=e.trans ef.symm
  refine FnX.of Tryz.func99 (by kernel_rfl) rfl Tryz.ntmps99 rfl fun E0 F G h N hP w0 cs=>?_
  conv=>whnf
  refine gS ?_;conv=>whnf
  refine aA.held tab (.fl 0 (.fl 2 (.fl 3 (.e1 1 [3] (.e1 4 [] (.fl 5 .done)))))) (by kernel_rfl) ?_;conv=>whnf
  (try refine gR ?_);conv=>whnf
  refine aV.callY (N.gsub) (bB w e1 (by omega)) (fun h U=>RoF.up U hP) [] sH ?CNa5 ?_
  case CNa5=>rfl
  rintro _ x1 G1 h1 N1 J1
  conv=>whnf
  try refine oB ?_
  (try refine gR ?_);conv=>whnf
  refine aV.callY (N1.gsub) (bB x1 e2 (by omega)) (fun h U=>RoF.up U J1) [] sH ?CNa6 ?_
  case CNa6=>rfl
  rintro _ x2 G2 h2 N2 J2
  conv=>whnf
  try refine oB ?_
  (try refine gR ?_);conv=>whnf
  (try refine gS ?_);conv=>whnf
  refine ⟨fun hs=>?_,fun hs=>?_⟩<;>conv=>whnf
  rotate_left
  ·exact absurd hc hs
  refine aA.callY (N2.gsub) (cZ x2 e3 (by omega)) (fun h U=>RoF.up U J2) [] sH ?CNa7 ?_
  case CNa7=>rfl
  rintro _ x3 G3 h3 N3 J3
  conv=>whnf
  (try refine gS ?_);conv=>whnf
  try refine aA.retU ?_
  exact aE.ret tab Tryz.func99 rfl (eX ((N1.trans N2).trans N3) (x3) (fun h U=>RoF.up U J3))
 obtain ⟨l1,e1,n1⟩:=dL l (tm (B gE))
 obtain ⟨l2,e2,n2⟩:=dL l1 (tm (u.name))
 obtain ⟨l3,e3,n3⟩:=dL l2 (ts 61)
 obtain ⟨l4,e4,n4⟩:=stp3 l3 [tn u.n,ts 47,tn u.d]
 obtain ⟨l5,e5,n5⟩:=dL l4 (tm (u.of_))
 obtain ⟨l6,e6,n6⟩:=dL l5 (ts 59)
 have ef:l6=l++mJ u:=by rw [e6,e5,e4,e3,e2,e1];simp [mJ,tw,tm,hc]
 obtain rfl:l'=l6:=e.trans ef.symm
 refine FnX.of Tryz.func99 (by kernel_rfl) rfl Tryz.ntmps99 rfl fun E0 F G h N hP w0 cs=>?_
 conv=>whnf
 refine gS ?_;conv=>whnf
 refine aA.held tab (.fl 0 (.fl 2 (.fl 3 (.e1 1 [3] (.e1 4 [] (.fl 5 .done)))))) (by kernel_rfl) ?_;conv=>whnf
 (try refine gR ?_);conv=>whnf
 refine aV.callY (N.gsub) (bB w e1 (by omega)) (fun h U=>RoF.up U hP) [] sH ?CNa8 ?_
 case CNa8=>rfl
 rintro _ x1 G1 h1 N1 J1
 conv=>whnf
 try refine oB ?_
 (try refine gR ?_);conv=>whnf
 refine aV.callY (N1.gsub) (bB x1 e2 (by omega)) (fun h U=>RoF.up U J1) [] sH ?CNa9 ?_
 case CNa9=>rfl
 rintro _ x2 G2 h2 N2 J2
 conv=>whnf
 try refine oB ?_
 (try refine gR ?_);conv=>whnf
 (try refine gS ?_);conv=>whnf
 refine ⟨fun hs=>?_,fun hs=>?_⟩<;>conv=>whnf
 ·exact absurd hs hc
 refine aA.held tab (.fl 0 (.fl 2 (.fl 3 (.fl 4 (.fl 5 (.fl 7 (.fl 8 (.e1 1 [3,5,8] (.e1 6 [8] (.e1 9 [] (.fl 10 .done))))))))))) (by kernel_rfl) ?_;conv=>whnf
 (try refine gR ?_);conv=>whnf
 refine aV.callY (N2.gsub) (cZ x2 e3 (by omega)) (fun h U=>RoF.up U J2) [] sH ?CNa10 ?_
 case CNa10=>rfl
 rintro _ x3 G3 h3 N3 J3
 conv=>whnf
 try refine oB ?_
 (try refine gR ?_);conv=>whnf
 refine aV.callY (N3.gsub) (oK x3 e4 (by omega)) (fun h U=>RoF.up U J3) [] sH ?CNa11 ?_
 case CNa11=>rfl
 rintro _ x4 G4 h4 N4 J4
 conv=>whnf
 try refine oB ?_
 (try refine gR ?_);conv=>whnf
 refine aV.callY (N4.gsub) (bB x4 e5 (by omega)) (fun h U=>RoF.up U J4) [] sH ?CNa12 ?_
 case CNa12=>rfl
 rintro _ x5 G5 h5 N5 J5
 conv=>whnf
 try refine oB ?_
 (try refine gR ?_);conv=>whnf
 (try refine gS ?_);conv=>whnf
 refine aA.callY (N5.gsub) (cZ x5 e6 (by omega)) (fun h U=>RoF.up U J5) [] sH ?CNa13 ?_
 case CNa13=>rfl
 rintro _ x6 G6 h6 N6 J6
 conv=>whnf
 (try refine gS ?_);conv=>whnf
 try refine aA.retU ?_
 exact aE.ret tab Tryz.func99 rfl (eX (((((N1.trans N2).trans N3).trans N4).trans N5).trans N6) (x6) (fun h U=>RoF.up U J6))
theorem aYR (w:Hd) {l l':List Tok} {u:It} (e:l'=l++mV u) (hl:l'.length≤1000000):FnX Tryz.prog 100 0 [.v (w.v l.length),.agg [.v (.string u.name),.v (.string u.unit),aC u.mn,aC u.md,aC u.shelf,aC u.un]] [] (WrJ l w) (WrJ l') (tF l'):=by
 by_cases hc:u.shelf=0
 ·obtain ⟨l1,e1,n1⟩:=dL l (tm (B iI))
  obtain ⟨l2,e2,n2⟩:=dL l1 (tm (u.name))
  obtain ⟨l3,e3,n3⟩:=dL l2 (tm (B wIn))
  obtain ⟨l4,e4,n4⟩:=dL l3 (tm (u.unit))
  obtain ⟨l5,e5,n5⟩:=dL l4 (tm (B rV))
  obtain ⟨l6,e6,n6⟩:=stp3 l5 [tn u.mn,ts 47,tn u.md]
  obtain ⟨l7,e7,n7⟩:=dL l6 (ts 59)
  have ef:l7=l++mV u:=by rw [e7,e6,e5,e4,e3,e2,e1];simp [mV,tw,tm,hc]
  obtain rfl:l'=l7:=e.trans ef.symm
  refine FnX.of Tryz.func100 (by kernel_rfl) rfl Tryz.ntmps100 rfl fun E0 F G h N hP w0 cs=>?_
  conv=>whnf
  refine gS ?_;conv=>whnf
  refine aA.held tab (.fl 0 (.fl 2 (.fl 3 (.fl 6 (.fl 7 (.e1 1 [3,7] (.e1 4 [7] (.e1 5 [7] (.e1 8 [] (.fl 9 .done)))))))))) (by kernel_rfl) ?_;conv=>whnf
  (try refine gR ?_);conv=>whnf
  refine aV.callY (N.gsub) (bB w e1 (by omega)) (fun h U=>RoF.up U hP) [] sH ?CNa14 ?_
  case CNa14=>rfl
  rintro _ x1 G1 h1 N1 J1
  conv=>whnf
  try refine oB ?_
  (try refine gR ?_);conv=>whnf
  refine aV.callY (N1.gsub) (bB x1 e2 (by omega)) (fun h U=>RoF.up U J1) [] sH ?CNa15 ?_
  case CNa15=>rfl
  rintro _ x2 G2 h2 N2 J2
  conv=>whnf
  try refine oB ?_
  (try refine gR ?_);conv=>whnf
  refine aV.callY (N2.gsub) (bB x2 e3 (by omega)) (fun h U=>RoF.up U J2) [] sH ?CNa16 ?_
  case CNa16=>rfl
  rintro _ x3 G3 h3 N3 J3
  conv=>whnf
  try refine oB ?_
  (try refine gR ?_);conv=>whnf
  refine aV.callY (N3.gsub) (bB x3 e4 (by omega)) (fun h U=>RoF.up U J3) [] sH ?CNa17 ?_
  case CNa17=>rfl
  rintro _ x4 G4 h4 N4 J4
  conv=>whnf
  try refine oB ?_
  (try refine gR ?_);conv=>whnf
  (try refine gS ?_);conv=>whnf
  refine aA.subR (nx':=1) (l':=[(0,.v (x4.v l4.length)),(3,.ptr 0 0)]) (H':=[(0,.cells 83 [.v (.string u.name),.v (.string u.unit),aC u.mn,aC u.md,aC u.shelf,aC u.un])]) [] ?_ sH sH
  refine aA.held tab (.fl 0 (.fl 2 (.fl 3 (.fl 4 (.fl 5 (.e1 1 [3,5] (.e1 6 [] (.fl 7 .done)))))))) (by kernel_rfl) ?_;conv=>whnf
  (try refine gR ?_);conv=>whnf
  refine aV.callY (N4.gsub) (bB x4 e5 (by omega)) (fun h U=>RoF.up U J4) [] sH ?CNa18 ?_
  case CNa18=>rfl
  rintro _ x5 G5 h5 N5 J5
  conv=>whnf
  try refine oB ?_
  (try refine gR ?_);conv=>whnf
  refine aV.callY (N5.gsub) (oK x5 e6 (by omega)) (fun h U=>RoF.up U J5) [] sH ?CNa19 ?_
  case CNa19=>rfl
  rintro _ x6 G6 h6 N6 J6
  conv=>whnf
  try refine oB ?_
  (try refine gR ?_);conv=>whnf
  (try refine gS ?_);conv=>whnf
  repeat ((first|(guard_target=_∧_;(first|refine oL ?_|refine oR ?_))|(guard_target=Exists _;refine oM ?_));(try intro _);conv=>whnf)
  refine aA.callY (N6.gsub) (cZ x6 e7 (by omega)) (fun h U=>RoF.up U J6) [] sH ?CNa20 ?_
  case CNa20=>rfl
  rintro _ x7 G7 h7 N7 J7
  conv=>whnf
  (try refine gS ?_);conv=>whnf
  try refine aA.retU ?_
  exact aE.ret tab Tryz.func100 rfl (eX ((((((N1.trans N2).trans N3).trans N4).trans N5).trans N6).trans N7) (x7) (fun h U=>RoF.up U J7))
 obtain ⟨l1,e1,n1⟩:=dL l (tm (B iI))
 obtain ⟨l2,e2,n2⟩:=dL l1 (tm (u.name))
 obtain ⟨l3,e3,n3⟩:=dL l2 (tm (B wIn))
 obtain ⟨l4,e4,n4⟩:=dL l3 (tm (u.unit))
 obtain ⟨l5,e5,n5⟩:=dL l4 (tm (B rV))
 obtain ⟨l6,e6,n6⟩:=stp3 l5 [tn u.mn,ts 47,tn u.md]
 obtain ⟨l7,e7,n7⟩:=dL l6 (tm (B gW))
 obtain ⟨l8,e8,n8⟩:=dL l7 (tn u.shelf)
 obtain ⟨l9,e9,n9⟩:=dL l8 (ts 59)
 have ef:l9=l++mV u:=by rw [e9,e8,e7,e6,e5,e4,e3,e2,e1];simp [mV,tw,tm,hc]
 obtain rfl:l'=l9:=e.trans ef.symm
 refine FnX.of Tryz.func100 (by kernel_rfl) rfl Tryz.ntmps100 rfl fun E0 F G h N hP w0 cs=>?_
 conv=>whnf
 refine gS ?_;conv=>whnf
 refine aA.held tab (.fl 0 (.fl 2 (.fl 3 (.fl 6 (.fl 7 (.e1 1 [3,7] (.e1 4 [7] (.e1 5 [7] (.e1 8 [] (.fl 9 .done)))))))))) (by kernel_rfl) ?_;conv=>whnf
 (try refine gR ?_);conv=>whnf
 refine aV.callY (N.gsub) (bB w e1 (by omega)) (fun h U=>RoF.up U hP) [] sH ?CNa21 ?_
 case CNa21=>rfl
 rintro _ x1 G1 h1 N1 J1
 conv=>whnf
 try refine oB ?_
 (try refine gR ?_);conv=>whnf
 refine aV.callY (N1.gsub) (bB x1 e2 (by omega)) (fun h U=>RoF.up U J1) [] sH ?CNa22 ?_
 case CNa22=>rfl
 rintro _ x2 G2 h2 N2 J2
 conv=>whnf
 try refine oB ?_
 (try refine gR ?_);conv=>whnf
 refine aV.callY (N2.gsub) (bB x2 e3 (by omega)) (fun h U=>RoF.up U J2) [] sH ?CNa23 ?_
 case CNa23=>rfl
 rintro _ x3 G3 h3 N3 J3
 conv=>whnf
 try refine oB ?_
 (try refine gR ?_);conv=>whnf
 refine aV.callY (N3.gsub) (bB x3 e4 (by omega)) (fun h U=>RoF.up U J3) [] sH ?CNa24 ?_
 case CNa24=>rfl
 rintro _ x4 G4 h4 N4 J4
 conv=>whnf
 try refine oB ?_
 (try refine gR ?_);conv=>whnf
 (try refine gS ?_);conv=>whnf
 refine aA.subR (nx':=1) (l':=[(0,.v (x4.v l4.length)),(3,.ptr 0 0)]) (H':=[(0,.cells 83 [.v (.string u.name),.v (.string u.unit),aC u.mn,aC u.md,aC u.shelf,aC u.un])]) [] ?_ sH sH
 refine aA.held tab (.fl 0 (.fl 2 (.fl 3 (.fl 4 (.fl 5 (.e1 1 [3,5] (.e1 6 [] (.fl 7 .done)))))))) (by kernel_rfl) ?_;conv=>whnf
 (try refine gR ?_);conv=>whnf
 refine aV.callY (N4.gsub) (bB x4 e5 (by omega)) (fun h U=>RoF.up U J4) [] sH ?CNa25 ?_
 case CNa25=>rfl
 rintro _ x5 G5 h5 N5 J5
 conv=>whnf
 try refine oB ?_
 (try refine gR ?_);conv=>whnf
 refine aV.callY (N5.gsub) (oK x5 e6 (by omega)) (fun h U=>RoF.up U J5) [] sH ?CNa26 ?_
 case CNa26=>rfl
 rintro _ x6 G6 h6 N6 J6
 conv=>whnf
 try refine oB ?_
 (try refine gR ?_);conv=>whnf
 (try refine gS ?_);conv=>whnf
 repeat ((first|(guard_target=_∧_;(first|refine oL ?_|refine oR ?_))|(guard_target=Exists _;refine oM ?_));(try intro _);conv=>whnf)
 refine aA.subR (nx':=1) (l':=[(0,.v (x6.v l6.length)),(3,.ptr 0 0)]) (H':=[(0,.cells 83 [.v (.string u.name),.v (.string u.unit),aC u.mn,aC u.md,aC u.shelf,aC u.un])]) [] ?_ sH sH
 refine aA.held tab (.fl 0 (.fl 2 (.fl 3 (.e1 1 [3] (.e1 4 [] (.fl 5 .done)))))) (by kernel_rfl) ?_;conv=>whnf
 (try refine gR ?_);conv=>whnf
 refine aV.callY (N6.gsub) (bB x6 e7 (by omega)) (fun h U=>RoF.up U J6) [] sH ?CNa27 ?_
 case CNa27=>rfl
 rintro _ x7 G7 h7 N7 J7
 conv=>whnf
 try refine oB ?_
 (try refine gR ?_);conv=>whnf
 refine aV.callY (N7.gsub) (rQ x7 e8 (by omega)) (fun h U=>RoF.up U J7) [] sH ?CNa28 ?_
 case CNa28=>rfl
 rintro _ x8 G8 h8 N8 J8
 conv=>whnf
 try refine oB ?_
 (try refine gR ?_);conv=>whnf
 (try refine gS ?_);conv=>whnf
 refine aA.callY (N8.gsub) (cZ x8 e9 (by omega)) (fun h U=>RoF.up U J8) [] sH ?CNa29 ?_
 case CNa29=>rfl
 rintro _ x9 G9 h9 N9 J9
 conv=>whnf
 (try refine gS ?_);conv=>whnf
 try refine aA.retU ?_
 exact aE.ret tab Tryz.func100 rfl (eX ((((((((N1.trans N2).trans N3).trans N4).trans N5).trans N6).trans N7).trans N8).trans N9) (x9) (fun h U=>RoF.up U J9))
end Go.Proofs.YtgbeechjghajcaaGreatDoor

namespace Go.SynM
open Go Go.Fw Go.RatM Go.SrcM
open Go.Proofs.YtgbeechjghajcaaGreatDoor (Tok)
theorem aSY {α:Type} {T:α→List Tok}:∀ {l:List α} {x:α},gV T (l++[x])=gV T l++((if l=[] then [] else [ts 44])++T x)
 | [],x=>by simp [gV]
 |y::l,x=>by simp [gV]
theorem aCC {α:Type} {T:α→List Tok} {l:List α} {k:Nat} (hk:k<l.length):gV T (l.take (k+1))=gV T (l.take k)++((if k=0 then [] else [ts 44])++T l[k]):=by
 rw [dC hk,aSY]
 congr 2
 by_cases h:k=0
 ·subst h;simp
 rw [if_neg h,if_neg]
 intro e
 have:=congrArg List.length e
 simp only [List.length_take,List.length_nil] at this
 omega
theorem aRF {α:Type} {T:α→List Tok} {l:List α}:∀ {k:Nat},k≤l.length→(gV T (l.take k)).length≤(gV T l).length:=by
 intro k hk
 obtain ⟨n,hn⟩:∃n,l.length=k+n:=⟨l.length - k,by omega⟩
 induction n generalizing k with
 |zero=>rw [List.take_of_length_le (by omega)];exact Nat.le_refl _
 |succ n ih=>
  have h1:=ih (k:=k+1) (by omega) (by omega)
  rw [aCC (by omega:k<l.length),List.length_append] at h1
  omega
end Go.SynM
namespace Go.Proofs.YtgbeechjghajcaaGreatDoor
open Go Go.Fw Go.NatM Go.RatM Go.SrcM Go.SynM
set_option maxRecDepth 100000
set_option maxHeartbeats 99999999
theorem aJK (w:Hd) {l l':List Tok} (v:Value) {cl:List Cd} (e:l'=l++gV iU cl) (hl:l'.length≤1000000):FnX Tryz.prog 105 0 [.v (w.v l.length),.v v] [] (fun G h=>WrJ l w G h∧RoF G h v 4 (rws Cd.row cl)) (WrJ l') (tF l'):=by
 have hn:=aG Cd.row cl
 have nl:l'.length=l.length+(gV iU cl).length:=by rw [e,List.length_append]
 refine FnX.of Tryz.func105 (by kernel_rfl) rfl Tryz.ntmps105 rfl fun E0 F G h N hP w0 cs=>?_
 conv=>whnf
 refine gS ?_;conv=>whnf
 have hm:=hP.2.len
 have hT:=RoF.up ⟨N.gsub,fun _ _=>rfl⟩ hP.2
 refine aA.nameAt (fun _ x=>x) 1 (by exact hT) ?_
 conv=>whnf
 (try refine gS ?_);conv=>whnf
 refine aA.subR [] (aA.loopB (fun (⟨k,m,x,F',G',h'⟩:Nat×List Tok×Hd×(Nat→Prop)×(Nat→Prop)×Array Obj)=>(F',h')) (fun (⟨k,m,x,F',G',h'⟩:Nat×List Tok×Hd×(Nat→Prop)×(Nat→Prop)×Array Obj)=>[(0,.v (x.v m.length)),(1,.buf 0),(5,.v (.int .i64 k))]) (fun (⟨k,m,x,F',G',h'⟩:Nat×List Tok×Hd×(Nat→Prop)×(Nat→Prop)×Array Obj)=>[(0,.ro 4 (rws Cd.row cl))]) 1 (fun (⟨k,m,x,F',G',h'⟩:Nat×List Tok×Hd×(Nat→Prop)×(Nat→Prop)×Array Obj)=>Now F G h F' G' h'∧k≤cl.length∧m=l++gV iU (cl.take k)∧WrJ m x G' h') (fun (⟨k,m,x,F',G',h'⟩:Nat×List Tok×Hd×(Nat→Prop)×(Nat→Prop)×Array Obj)=>cl.length - k) ?round1 (⟨0,l,w,_,G,h⟩) ?J01) sH sH
 case J01=>exact (⟨N,Nat.zero_le _,by simp [gV],hP.1⟩)
 rintro ⟨k,m,x,F',G',h'⟩ hJ back
 try dsimp only at hJ back
 conv=>whnf
 try dsimp only
 refine gS ?_;conv=>whnf
 refine ⟨fun hk=>?_,fun hk=>?_⟩<;>conv=>whnf
 ·obtain ⟨N0,_,em,J0⟩:=hJ
  have hk:k<cl.length:=by omega
  have hs:=aCC (T:=iU) hk
  have hle:=aRF (T:=iU) (l:=cl) (k:=k+1) hk
  rw [hs] at hle
  have nm:m.length=l.length+(gV iU (cl.take k)).length:=by rw [em,List.length_append]
  by_cases h0:k=0
  ·rw [if_pos h0,List.nil_append] at hs hle
   rw [List.length_append] at hle
   have hle:(gV iU (cl.take k)).length+3≤(gV iU cl).length:=hle
   obtain ⟨l1,e1⟩:∃y,y=m++[tm cl[k].opt]:=⟨_,rfl⟩
   have n1:l1.length=m.length+1:=by rw [e1,List.length_append];rfl
   obtain ⟨l2,e2⟩:∃y,y=l1++[ts 61]:=⟨_,rfl⟩
   have n2:l2.length=l1.length+1:=by rw [e2,List.length_append];rfl
   obtain ⟨l3,e3⟩:∃y,y=l2++[tm cl[k].ch]:=⟨_,rfl⟩
   have n3:l3.length=l2.length+1:=by rw [e3,List.length_append];rfl
   conv=>whnf
   repeat ((first|(guard_target=_∧_;(first|refine oL ?_|refine oR ?_))|(guard_target=Exists _;refine oM ?_));(try intro _);conv=>whnf)
   refine aA.held tab (.fl 0 (.fl 1 (.fl 2 (.fl 3 (.fl 4 (.fl 5 (.fl 8 (.fl 9 (.fl 10 (.fl 11 (.fl 12 (.e1 6 [12] (.e1 7 [12] (.e1 13 [] (.fl 14 .done))))))))))))))) (by kernel_rfl) ?_;conv=>whnf
   (try refine gR ?_);conv=>whnf
   repeat ((first|(guard_target=_∧_;(first|refine oL ?_|refine oR ?_|refine oB ?_))|(guard_target=Exists _;refine oM ?_));(try intro _);conv=>whnf)
   conv=>whnf
   refine ⟨_,aK hk,?_⟩;conv=>whnf
   try (refine And.intro (by first|omega|exact Nat.le_of_ble_eq_true rfl) ?_;(try intro _);conv=>whnf)
   conv=>whnf
   refine ⟨_,aK hk,?_⟩;conv=>whnf
   refine aV.callY (N0.gsub) (bB x e1 (by omega)) (fun h U=>RoF.up U J0) [] sH ?CNa2 ?_
   case CNa2=>rfl
   rintro _ x1 G1 h1 N1 J1
   conv=>whnf
   try refine oB ?_
   (try refine gR ?_);conv=>whnf
   refine aV.callY (N1.gsub) (cZ x1 e2 (by omega)) (fun h U=>RoF.up U J1) [] sH ?CNa3 ?_
   case CNa3=>rfl
   rintro _ x2 G2 h2 N2 J2
   conv=>whnf
   try refine oB ?_
   (try refine gR ?_);conv=>whnf
   refine aV.callY (N2.gsub) (bB x2 e3 (by omega)) (fun h U=>RoF.up U J2) [] sH ?CNa4 ?_
   case CNa4=>rfl
   rintro _ x3 G3 h3 N3 J3
   conv=>whnf
   try refine oB ?_
   (try refine gR ?_);conv=>whnf
   (try refine gS ?_);conv=>whnf
   repeat ((first|(guard_target=_∧_;(first|refine oL ?_|refine oR ?_))|(guard_target=Exists _;refine oM ?_));(try intro _);conv=>whnf)
   refine aA.subR [] (back (⟨k+1,l3,x3,_,G3,h3⟩) (by exact (⟨((N0.trans N1).trans N2).trans N3,hk,by rw [e3,e2,e1,em,hs];simp [iU],J3⟩)) (by (try dsimp only);omega)) sH sH
  rw [if_neg h0] at hs hle
  rw [List.length_append,List.length_append] at hle
  have hle:(gV iU (cl.take k)).length+(1+3)≤(gV iU cl).length:=hle
  obtain ⟨l0,e0⟩:∃y,y=m++[ts 44]:=⟨_,rfl⟩
  have n0:l0.length=m.length+1:=by rw [e0,List.length_append];rfl
  obtain ⟨l1,e1⟩:∃y,y=l0++[tm cl[k].opt]:=⟨_,rfl⟩
  have n1:l1.length=l0.length+1:=by rw [e1,List.length_append];rfl
  obtain ⟨l2,e2⟩:∃y,y=l1++[ts 61]:=⟨_,rfl⟩
  have n2:l2.length=l1.length+1:=by rw [e2,List.length_append];rfl
  obtain ⟨l3,e3⟩:∃y,y=l2++[tm cl[k].ch]:=⟨_,rfl⟩
  have n3:l3.length=l2.length+1:=by rw [e3,List.length_append];rfl
  conv=>whnf
  repeat ((first|(guard_target=_∧_;(first|refine oL ?_|refine oR ?_))|(guard_target=Exists _;refine oM ?_));(try intro _);conv=>whnf)
  refine aA.callY (N0.gsub) (cZ x e0 (by omega)) (fun h U=>RoF.up U J0) [] sH ?CNa6 ?_
  case CNa6=>rfl
  rintro _ x0 G1 h1 N1 J1
  conv=>whnf
  (try refine gS ?_);conv=>whnf
  refine aA.held tab (.fl 0 (.fl 1 (.fl 2 (.fl 3 (.fl 4 (.fl 5 (.fl 8 (.fl 9 (.fl 10 (.fl 11 (.fl 12 (.e1 6 [12] (.e1 7 [12] (.e1 13 [] (.fl 14 .done))))))))))))))) (by kernel_rfl) ?_;conv=>whnf
  (try refine gR ?_);conv=>whnf
  repeat ((first|(guard_target=_∧_;(first|refine oL ?_|refine oR ?_|refine oB ?_))|(guard_target=Exists _;refine oM ?_));(try intro _);conv=>whnf)
  conv=>whnf
  refine ⟨_,aK hk,?_⟩;conv=>whnf
  try (refine And.intro (by first|omega|exact Nat.le_of_ble_eq_true rfl) ?_;(try intro _);conv=>whnf)
  conv=>whnf
  refine ⟨_,aK hk,?_⟩;conv=>whnf
  refine aV.callY (N1.gsub) (bB x0 e1 (by omega)) (fun h U=>RoF.up U J1) [] sH ?CNa7 ?_
  case CNa7=>rfl
  rintro _ x1 G2 h2 N2 J2
  conv=>whnf
  try refine oB ?_
  (try refine gR ?_);conv=>whnf
  refine aV.callY (N2.gsub) (cZ x1 e2 (by omega)) (fun h U=>RoF.up U J2) [] sH ?CNa8 ?_
  case CNa8=>rfl
  rintro _ x2 G3 h3 N3 J3
  conv=>whnf
  try refine oB ?_
  (try refine gR ?_);conv=>whnf
  refine aV.callY (N3.gsub) (bB x2 e3 (by omega)) (fun h U=>RoF.up U J3) [] sH ?CNa9 ?_
  case CNa9=>rfl
  rintro _ x3 G4 h4 N4 J4
  conv=>whnf
  try refine oB ?_
  (try refine gR ?_);conv=>whnf
  (try refine gS ?_);conv=>whnf
  repeat ((first|(guard_target=_∧_;(first|refine oL ?_|refine oR ?_))|(guard_target=Exists _;refine oM ?_));(try intro _);conv=>whnf)
  refine aA.subR [] (back (⟨k+1,l3,x3,_,G4,h4⟩) (by exact (⟨(((N0.trans N1).trans N2).trans N3).trans N4,hk,by rw [e3,e2,e1,e0,em,hs];simp [iU],J4⟩)) (by (try dsimp only);omega)) sH sH
 obtain ⟨N0,_,em,J0⟩:=hJ
 have hk:k=cl.length:=by omega
 have em:m=l':=by rw [em,hk,List.take_length,e]
 subst em
 clear back
 (try refine gS ?_);conv=>whnf
 try refine aA.retU ?_
 exact aE.ret tab Tryz.func105 rfl (eX (N0) (x) (fun h U=>RoF.up U J0))
abbrev chT (c:ByteArray):List Tok:=[tm c]
theorem aXX (w:Hd) {l l':List Tok} {o:OpV} (e:l'=l++nZ o) (hl:l'.length≤1000000):FnX Tryz.prog 104 0 [.v (w.v l.length),.agg [.v (.string o.name),.v (o.hd.v o.ch.length)]] [] (fun G h=>WrJ l w G h∧o.ok G h) (WrJ l') (tF l'):=by
 have hn:=pG o.ch
 have et:nZ o=[tm (B dA),tm o.name,ts 123]++(gV chT o.ch++[ts 125,ts 59]):=rfl
 have nl:l'.length=l.length+(3+((gV chT o.ch).length+2)):=by rw [e,et,List.length_append,List.length_append,List.length_append];rfl
 obtain ⟨l1,e1⟩:∃y,y=l++[tm (B dA)]:=⟨_,rfl⟩
 have n1:l1.length=l.length+1:=by rw [e1,List.length_append];rfl
 obtain ⟨l2,e2⟩:∃y,y=l1++[tm o.name]:=⟨_,rfl⟩
 have n2:l2.length=l1.length+1:=by rw [e2,List.length_append];rfl
 obtain ⟨l3,e3⟩:∃y,y=l2++[ts 123]:=⟨_,rfl⟩
 have n3:l3.length=l2.length+1:=by rw [e3,List.length_append];rfl
 refine FnX.of Tryz.func104 (by kernel_rfl) rfl Tryz.ntmps104 rfl fun E0 F G h N hP w0 cs=>?_
 conv=>whnf
 refine gS ?_;conv=>whnf
 have hm:=hP.2.len
 refine aA.held tab (.fl 0 (.fl 2 (.fl 3 (.e1 1 [3] (.e1 4 [] (.e1 5 [] (.fl 6 .done))))))) (by kernel_rfl) ?_;conv=>whnf
 (try refine gR ?_);conv=>whnf
 refine aV.callY (N.gsub) (bB w e1 (by omega)) (fun h U=>RoF.up U hP.1) [] sH ?CNa11 ?_
 case CNa11=>rfl
 rintro _ x1 G1 h1 N1 J1
 conv=>whnf
 try refine oB ?_
 (try refine gR ?_);conv=>whnf
 refine aV.callY (N1.gsub) (bB x1 e2 (by omega)) (fun h U=>RoF.up U J1) [] sH ?CNa12 ?_
 case CNa12=>rfl
 rintro _ x2 G2 h2 N2 J2
 conv=>whnf
 try refine oB ?_
 (try refine gR ?_);conv=>whnf
 refine aV.callY (N2.gsub) (cZ x2 e3 (by omega)) (fun h U=>RoF.up U J2) [] sH ?CNa13 ?_
 case CNa13=>rfl
 rintro _ x3 G3 h3 N3 J3
 conv=>whnf
 try refine oB ?_
 (try refine gR ?_);conv=>whnf
 (try refine gS ?_);conv=>whnf
 refine aA.subR (nx':=1) (l':=[(0,.v (x3.v l3.length)),(3,.ptr 0 0),(5,.v (.int .i64 0))]) (H':=[(0,.cells 50 [.v (.string o.name),.v (o.hd.v o.ch.length)])]) [] ?_ sH sH
 have U3:=((Now.step N.gsub N1).trans (Now.step N1.gsub N2)).trans (Now.step N2.gsub N3)
 refine aA.nameCell (fun _ x=>x) 0 1 (by exact RoF.up (U3.trans ⟨N3.gsub,fun _ _=>rfl⟩) hP.2) ?_
 conv=>whnf
 (try refine gS ?_);conv=>whnf
 refine aA.subR [] (aA.loopB (fun (⟨k,m,x,F',G',h'⟩:Nat×List Tok×Hd×(Nat→Prop)×(Nat→Prop)×Array Obj)=>(F',h')) (fun (⟨k,m,x,F',G',h'⟩:Nat×List Tok×Hd×(Nat→Prop)×(Nat→Prop)×Array Obj)=>[(0,.v (x.v m.length)),(3,.ptr 0 0),(5,.v (.int .i64 k))]) (fun (⟨k,m,x,F',G',h'⟩:Nat×List Tok×Hd×(Nat→Prop)×(Nat→Prop)×Array Obj)=>[(0,.cells 50 [.v (.string o.name),.buf 1]),(1,.ro 1 (jY o.ch))]) 2 (fun (⟨k,m,x,F',G',h'⟩:Nat×List Tok×Hd×(Nat→Prop)×(Nat→Prop)×Array Obj)=>Now F G h F' G' h'∧k≤o.ch.length∧m=l3++gV chT (o.ch.take k)∧WrJ m x G' h') (fun (⟨k,m,x,F',G',h'⟩:Nat×List Tok×Hd×(Nat→Prop)×(Nat→Prop)×Array Obj)=>o.ch.length - k) ?round14 (⟨0,l3,x3,_,G3,h3⟩) ?J014) sH sH
 case J014=>exact (⟨(N1.trans N2).trans N3,Nat.zero_le _,by simp [gV],J3⟩)
 rintro ⟨k,m,x,F',G',h'⟩ hJ back
 try dsimp only at hJ back
 conv=>whnf
 try dsimp only
 refine gS ?_;conv=>whnf
 refine ⟨fun hk=>?_,fun hk=>?_⟩<;>conv=>whnf
 ·obtain ⟨N0,_,em,J0⟩:=hJ
  have hk:k<o.ch.length:=by omega
  have hs:=aCC (T:=chT) hk
  have hle:=aRF (T:=chT) (l:=o.ch) (k:=k+1) hk
  rw [hs] at hle
  have nm:m.length=l3.length+(gV chT (o.ch.take k)).length:=by rw [em,List.length_append]
  by_cases h0:k=0
  ·rw [if_pos h0,List.nil_append] at hs hle
   rw [List.length_append] at hle
   have hle:(gV chT (o.ch.take k)).length+1≤(gV chT o.ch).length:=hle
   obtain ⟨l5,e5⟩:∃y,y=m++[tm o.ch[k]]:=⟨_,rfl⟩
   have n5:l5.length=m.length+1:=by rw [e5,List.length_append];rfl
   conv=>whnf
   repeat ((first|(guard_target=_∧_;(first|refine oL ?_|refine oR ?_))|(guard_target=Exists _;refine oM ?_));(try intro _);conv=>whnf)
   refine ⟨_,aK hk,?_⟩;conv=>whnf
   refine aA.callY (N0.gsub) (bB x e5 (by omega)) (fun h U=>RoF.up U J0) [] sH ?CNa15 ?_
   case CNa15=>rfl
   rintro _ x5 G5 h5 N5 J5
   conv=>whnf
   (try refine gS ?_);conv=>whnf
   repeat ((first|(guard_target=_∧_;(first|refine oL ?_|refine oR ?_))|(guard_target=Exists _;refine oM ?_));(try intro _);conv=>whnf)
   refine aA.subR [] (back (⟨k+1,l5,x5,_,G5,h5⟩) (by exact (⟨N0.trans N5,hk,by rw [e5,em,hs];simp [chT],J5⟩)) (by (try dsimp only);omega)) sH sH
  rw [if_neg h0] at hs hle
  rw [List.length_append,List.length_append] at hle
  have hle:(gV chT (o.ch.take k)).length+(1+1)≤(gV chT o.ch).length:=hle
  obtain ⟨l4,e4⟩:∃y,y=m++[ts 44]:=⟨_,rfl⟩
  have n4:l4.length=m.length+1:=by rw [e4,List.length_append];rfl
  obtain ⟨l5,e5⟩:∃y,y=l4++[tm o.ch[k]]:=⟨_,rfl⟩
  have n5:l5.length=l4.length+1:=by rw [e5,List.length_append];rfl
  conv=>whnf
  repeat ((first|(guard_target=_∧_;(first|refine oL ?_|refine oR ?_))|(guard_target=Exists _;refine oM ?_));(try intro _);conv=>whnf)
  refine aA.callY (N0.gsub) (cZ x e4 (by omega)) (fun h U=>RoF.up U J0) [] sH ?CNa17 ?_
  case CNa17=>rfl
  rintro _ x4 G4 h4 N4 J4
  conv=>whnf
  (try refine gS ?_);conv=>whnf
  repeat ((first|(guard_target=_∧_;(first|refine oL ?_|refine oR ?_))|(guard_target=Exists _;refine oM ?_));(try intro _);conv=>whnf)
  refine ⟨_,aK hk,?_⟩;conv=>whnf
  refine aA.callY (N4.gsub) (bB x4 e5 (by omega)) (fun h U=>RoF.up U J4) [] sH ?CNa18 ?_
  case CNa18=>rfl
  rintro _ x5 G5 h5 N5 J5
  conv=>whnf
  (try refine gS ?_);conv=>whnf
  repeat ((first|(guard_target=_∧_;(first|refine oL ?_|refine oR ?_))|(guard_target=Exists _;refine oM ?_));(try intro _);conv=>whnf)
  refine aA.subR [] (back (⟨k+1,l5,x5,_,G5,h5⟩) (by exact (⟨(N0.trans N4).trans N5,hk,by rw [e5,e4,em,hs];simp [chT],J5⟩)) (by (try dsimp only);omega)) sH sH
 obtain ⟨N0,_,em,J0⟩:=hJ
 have hk:k=o.ch.length:=by omega
 rw [hk,List.take_length] at em
 have nm:m.length=l3.length+(gV chT o.ch).length:=by rw [em,List.length_append]
 obtain ⟨l4,e4⟩:∃y,y=m++[ts 125]:=⟨_,rfl⟩
 have n4:l4.length=m.length+1:=by rw [e4,List.length_append];rfl
 obtain ⟨l5,e5⟩:∃y,y=l4++[ts 59]:=⟨_,rfl⟩
 have n5:l5.length=l4.length+1:=by rw [e5,List.length_append];rfl
 have ef:l5=l++nZ o:=by rw [e5,e4,em,e3,e2,e1,et];simp
 obtain rfl:l'=l5:=e.trans ef.symm
 clear back
 conv=>whnf
 refine aA.callY (N0.gsub) (cZ x e4 (by omega)) (fun h U=>RoF.up U J0) [] sH ?CNa20 ?_
 case CNa20=>rfl
 rintro _ x4 G4 h4 N4 J4
 conv=>whnf
 (try refine gS ?_);conv=>whnf
 refine aA.callY (N4.gsub) (cZ x4 e5 (by omega)) (fun h U=>RoF.up U J4) [] sH ?CNa21 ?_
 case CNa21=>rfl
 rintro _ x5 G5 h5 N5 J5
 conv=>whnf
 (try refine gS ?_);conv=>whnf
 try refine aA.retU ?_
 exact aE.ret tab Tryz.func104 rfl (eX ((N0.trans N4).trans N5) (x5) (fun h U=>RoF.up U J5))
end Go.Proofs.YtgbeechjghajcaaGreatDoor

namespace Go.Proofs.YtgbeechjghajcaaGreatDoor
open Go Go.Fw Go.NatM Go.RatM Go.SrcM Go.SynM
set_option maxRecDepth 100000
set_option maxHeartbeats 99999999
theorem iO {α:Type} {T:α→List Tok} {l:List α} {k:Nat} (hk:k<l.length):((l.take (k+1)).map T).flatten=((l.take k).map T).flatten++T l[k]:=by
 rw [dC hk,List.map_append,List.flatten_append];simp
theorem nJ {α:Type} {T:α→List Tok} {l:List α} {k:Nat} (_:k≤l.length):((l.take k).map T).flatten.length≤(l.map T).flatten.length:=by
 conv=>rhs;rw [←List.take_append_drop k l,List.map_append,List.flatten_append,List.length_append]
 exact Nat.le_add_right _ _
def recC (r:RcV):List Tok:=if r.cs=[] then [] else tw wIf::gV iU r.cs
def uN (l:List Am):List Tok:=(l.map fun a=>tw wIn::SynM.inT a).flatten
def aGG (l:List Am):List Tok:=(l.map fun a=>tw lB::amT a).flatten
def aEK (l:List Rn):List Tok:=(l.map fun x=>tw oD::SynM.runT x).flatten
theorem aOZ (w:Hd) {l l':List Tok} {r:RcV} (e:l'=l++uK r) (hl:l'.length≤1000000):FnX Tryz.prog 106 0 [.v (w.v l.length),rcRow r] [] (fun G h=>WrJ l w G h∧r.ok G h) (WrJ l') (tF l'):=by
 obtain ⟨l1,e1,n1⟩:=dL l (tm (B iD))
 obtain ⟨l2,e2,n2⟩:=dL l1 (tm (r.item))
 obtain ⟨l3,e3,n3⟩:=dL l2 (tm (B wAt))
 obtain ⟨l4,e4,n4⟩:=dL l3 (tm (r.plant))
 obtain ⟨l5,e5,n5⟩:=dL l4 (tm (B qO))
 obtain ⟨l6,e6,n6⟩:=dL l5 (tn r.fr)
 obtain ⟨l7,e7,n7⟩:=dL l6 (tm (B wTo))
 obtain ⟨l8,e8,n8⟩:=dL l7 (tn r.to)
 obtain ⟨m8,e8'⟩:∃y,y=l8++recC r:=⟨_,rfl⟩
 have n8':m8.length=l8.length+(recC r).length:=by rw [e8',List.length_append]
 have et:uK r=[tm (B iD),tm r.item,tm (B wAt),tm r.plant,tm (B qO),tn r.fr,tm (B wTo),tn r.to]++(recC r++([ts 123]++(uN r.inn++(aGG r.out++([tm (B gQ),tn r.rwN,ts 47,tn r.rwD,ts 59,tm (B jQ),tn r.yN,ts 47,tn r.yD,tm (B gN),tn r.tN,ts 47,tn r.tD,ts 59,tm (B nY),tn r.lead,ts 59]++(aEK r.runs++[ts 125])))))):=rfl
 have nl:l'.length=l8.length+(recC r).length+1+(uN r.inn).length+(aGG r.out).length+17+(aEK r.runs).length+1:=by
  rw [e,et]
  simp only [List.length_append,List.length_cons,List.length_nil]
  omega
 refine FnX.of Tryz.func106 (by kernel_rfl) rfl Tryz.ntmps106 rfl fun E0 F G h N hP w0 cs=>?_
 conv=>whnf
 refine gS ?_;conv=>whnf
 have hP1:=hP.2
 replace hP:=hP.1
 refine aA.held tab (.fl 0 (.fl 2 (.fl 3 (.fl 6 (.fl 7 (.e1 1 [3,7] (.e1 4 [7] (.e1 5 [7] (.e1 8 [] (.fl 9 .done)))))))))) (by kernel_rfl) ?_;conv=>whnf
 (try refine gR ?_);conv=>whnf
 refine aV.callY (N.gsub) (bB w e1 (by omega)) (fun h U=>RoF.up U hP) [] sH ?CNa1 ?_
 case CNa1=>rfl
 rintro _ x1 G1 h1 N1 J1
 conv=>whnf
 try refine oB ?_
 (try refine gR ?_);conv=>whnf
 refine aV.callY (N1.gsub) (bB x1 e2 (by omega)) (fun h U=>RoF.up U J1) [] sH ?CNa2 ?_
 case CNa2=>rfl
 rintro _ x2 G2 h2 N2 J2
 conv=>whnf
 try refine oB ?_
 (try refine gR ?_);conv=>whnf
 refine aV.callY (N2.gsub) (bB x2 e3 (by omega)) (fun h U=>RoF.up U J2) [] sH ?CNa3 ?_
 case CNa3=>rfl
 rintro _ x3 G3 h3 N3 J3
 conv=>whnf
 try refine oB ?_
 (try refine gR ?_);conv=>whnf
 refine aV.callY (N3.gsub) (bB x3 e4 (by omega)) (fun h U=>RoF.up U J3) [] sH ?CNa4 ?_
 case CNa4=>rfl
 rintro _ x4 G4 h4 N4 J4
 conv=>whnf
 try refine oB ?_
 (try refine gR ?_);conv=>whnf
 (try refine gS ?_);conv=>whnf
 refine aA.subR (nx':=1) (l':=[(0,.v (x4.v l4.length)),(3,.ptr 0 0)]) (H':=[(0,.cells 61 [.v (.string r.item),.v (.string r.plant),.v (.int .i64 r.fr),.v (.int .i64 r.to),.v (r.hc.v r.cs.length),.v (r.hi.v r.inn.length),.v (r.ho.v r.out.length),.v (.int .i64 r.rwN),.v (.int .i64 r.rwD),.v (.int .i64 r.yN),.v (.int .i64 r.yD),.v (.int .i64 r.tN),.v (.int .i64 r.tD),.v (.int .i64 r.lead),.v (r.hr.v r.runs.length),.v (.int .i64 r.inum),.v (.int .i64 r.pnum)])]) [] ?_ sH sH
 refine aA.held tab (.fl 0 (.fl 2 (.fl 3 (.fl 6 (.fl 7 (.e1 1 [3,7] (.e1 4 [7] (.e1 5 [7] (.e1 8 [] (.fl 9 .done)))))))))) (by kernel_rfl) ?_;conv=>whnf
 (try refine gR ?_);conv=>whnf
 refine aV.callY (N4.gsub) (bB x4 e5 (by omega)) (fun h U=>RoF.up U J4) [] sH ?CNa5 ?_
 case CNa5=>rfl
 rintro _ x5 G5 h5 N5 J5
 conv=>whnf
 try refine oB ?_
 (try refine gR ?_);conv=>whnf
 refine aV.callY (N5.gsub) (rQ x5 e6 (by omega)) (fun h U=>RoF.up U J5) [] sH ?CNa6 ?_
 case CNa6=>rfl
 rintro _ x6 G6 h6 N6 J6
 conv=>whnf
 try refine oB ?_
 (try refine gR ?_);conv=>whnf
 refine aV.callY (N6.gsub) (bB x6 e7 (by omega)) (fun h U=>RoF.up U J6) [] sH ?CNa7 ?_
 case CNa7=>rfl
 rintro _ x7 G7 h7 N7 J7
 conv=>whnf
 try refine oB ?_
 (try refine gR ?_);conv=>whnf
 refine aV.callY (N7.gsub) (rQ x7 e8 (by omega)) (fun h U=>RoF.up U J7) [] sH ?CNa8 ?_
 case CNa8=>rfl
 rintro _ x8 G8 h8 N8 J8
 conv=>whnf
 try refine oB ?_
 refine gR ?_;conv=>whnf
 refine aA.subR (nx':=1) (l':=[(0,.v (x8.v l8.length)),(3,.ptr 0 0)]) (H':=[(0,.cells 61 [.v (.string r.item),.v (.string r.plant),.v (.int .i64 r.fr),.v (.int .i64 r.to),.v (r.hc.v r.cs.length),.v (r.hi.v r.inn.length),.v (r.ho.v r.out.length),.v (.int .i64 r.rwN),.v (.int .i64 r.rwD),.v (.int .i64 r.yN),.v (.int .i64 r.yD),.v (.int .i64 r.tN),.v (.int .i64 r.tD),.v (.int .i64 r.lead),.v (r.hr.v r.runs.length),.v (.int .i64 r.inum),.v (.int .i64 r.pnum)])]) [] ?_ sH sH
 refine jA tab 1 _ _ _ _ ?_;conv=>whnf
 refine aA.joinB (fun (⟨y,F',G',h'⟩:Hd×(Nat→Prop)×(Nat→Prop)×Array Obj)=>(F',h')) (fun (⟨y,F',G',h'⟩:Hd×(Nat→Prop)×(Nat→Prop)×Array Obj)=>[(0,.v (y.v m8.length)),(3,.ptr 0 0)]) (fun (⟨y,F',G',h'⟩:Hd×(Nat→Prop)×(Nat→Prop)×Array Obj)=>[(0,.cells 61 [.v (.string r.item),.v (.string r.plant),.v (.int .i64 r.fr),.v (.int .i64 r.to),.v (r.hc.v r.cs.length),.v (r.hi.v r.inn.length),.v (r.ho.v r.out.length),.v (.int .i64 r.rwN),.v (.int .i64 r.rwD),.v (.int .i64 r.yN),.v (.int .i64 r.yD),.v (.int .i64 r.tN),.v (.int .i64 r.tD),.v (.int .i64 r.lead),.v (r.hr.v r.runs.length),.v (.int .i64 r.inum),.v (.int .i64 r.pnum)])]) 1 (fun (⟨y,F',G',h'⟩:Hd×(Nat→Prop)×(Nat→Prop)×Array Obj)=>Now F G h F' G' h'∧WrJ m8 y G' h') ?_ (fun meet=>?_)
 rotate_left
 ·by_cases hc:r.cs=[]
  ·have em8:m8=l8:=by rw [e8',recC,if_pos hc,List.append_nil]
   have hc0:r.cs.length=0:=by rw [hc];rfl
   subst em8
   (try refine gS ?_);conv=>whnf
   repeat ((first|(guard_target=_∧_;(first|refine oL ?_|refine oR ?_))|(guard_target=Exists _;refine oM ?_));(try intro _);conv=>whnf)
   refine aA.subR [] (meet (⟨x8,_,G8,h8⟩) (by exact (⟨((((((N1.trans N2).trans N3).trans N4).trans N5).trans N6).trans N7).trans N8,J8⟩))) sH sH
  have hc0:0<r.cs.length:=Nat.pos_of_ne_zero fun h=>hc (List.eq_nil_of_length_eq_zero h)
  obtain ⟨l9,e9,n9⟩:=dL l8 (tm (B wIf))
  have em8:m8=l9++gV iU r.cs:=by rw [e8',recC,if_neg hc,e9];simp [tw,tm]
  have nm8:m8.length=l9.length+(gV iU r.cs).length:=by rw [em8,List.length_append]
  (try refine gS ?_);conv=>whnf
  repeat ((first|(guard_target=_∧_;(first|refine oL ?_|refine oR ?_))|(guard_target=Exists _;refine oM ?_));(try intro _);conv=>whnf)
  refine aA.held tab (.fl 0 (.fl 2 (.fl 3 (.e1 1 [3] (.e1 4 [] (.fl 5 .done)))))) (by kernel_rfl) ?_;conv=>whnf
  (try refine gR ?_);conv=>whnf
  refine aV.callY (N8.gsub) (bB x8 e9 (by omega)) (fun h U=>RoF.up U J8) [] sH ?CNa10 ?_
  case CNa10=>rfl
  rintro _ x9 G9 h9 N9 J9
  conv=>whnf
  try refine oB ?_
  (try refine gR ?_);conv=>whnf
  refine aV.callY (N9.gsub) (aJK x9 _ em8 (by omega)) (fun h U=>⟨RoF.up U J9,RoF.up ((Now.step N.gsub ((((((((N1.trans N2).trans N3).trans N4).trans N5).trans N6).trans N7).trans N8).trans N9)).trans U) hP1.c⟩) [] sH ?CNa11 ?_
  case CNa11=>rfl
  rintro _ y1 Ga ha Na Ja
  conv=>whnf
  try refine oB ?_
  (try refine gR ?_);conv=>whnf
  (try refine gS ?_);conv=>whnf
  refine aA.subR [] (meet (⟨y1,_,Ga,ha⟩) (by exact (⟨((((((((N1.trans N2).trans N3).trans N4).trans N5).trans N6).trans N7).trans N8).trans N9).trans Na,Ja⟩))) sH sH
 rintro ⟨y,F8,G8,h8⟩ ⟨N8,J8⟩
 show aA ⟨_,F8,h8,_,_⟩ [] 1 _ [(0,.v (y.v m8.length)),(3,.ptr 0 0)] [(0,.cells 61 [.v (.string r.item),.v (.string r.plant),.v (.int .i64 r.fr),.v (.int .i64 r.to),.v (r.hc.v r.cs.length),.v (r.hi.v r.inn.length),.v (r.ho.v r.out.length),.v (.int .i64 r.rwN),.v (.int .i64 r.rwD),.v (.int .i64 r.yN),.v (.int .i64 r.yD),.v (.int .i64 r.tN),.v (.int .i64 r.tD),.v (.int .i64 r.lead),.v (r.hr.v r.runs.length),.v (.int .i64 r.inum),.v (.int .i64 r.pnum)])]
 have N8:Now F G h F8 G8 h8:=N8
 have J8:WrJ m8 y G8 h8:=J8
 obtain ⟨l9,e9,n9⟩:=dL m8 (ts 123)
 (try refine gS ?_);conv=>whnf
 refine aA.callY (N8.gsub) (cZ y e9 (by omega)) (fun h U=>RoF.up U J8) [] sH ?CNa13 ?_
 case CNa13=>rfl
 rintro _ x9 G9 h9 N9 J9
 conv=>whnf
 (try refine gS ?_);conv=>whnf
 refine aA.subR (nx':=1) (l':=[(0,.v (x9.v l9.length)),(3,.ptr 0 0),(5,.v (.int .i64 0))]) (H':=[(0,.cells 61 [.v (.string r.item),.v (.string r.plant),.v (.int .i64 r.fr),.v (.int .i64 r.to),.v (r.hc.v r.cs.length),.v (r.hi.v r.inn.length),.v (r.ho.v r.out.length),.v (.int .i64 r.rwN),.v (.int .i64 r.rwD),.v (.int .i64 r.yN),.v (.int .i64 r.yD),.v (.int .i64 r.tN),.v (.int .i64 r.tD),.v (.int .i64 r.lead),.v (r.hr.v r.runs.length),.v (.int .i64 r.inum),.v (.int .i64 r.pnum)])]) [] ?_ sH sH
 have M9:=N8.trans N9
 have lI:=aG Am.row r.inn
 have mI:=hP1.i.len
 refine aA.nameCell (fun _ x=>x) 0 5 (by exact RoF.up ((Now.step N.gsub M9).trans ⟨N9.gsub,fun _ _=>rfl⟩) hP1.i) ?_
 conv=>whnf
 (try refine gS ?_);conv=>whnf
 refine aA.subR [] (aA.loopB (fun (⟨k,l10,x10,F10,G10,h10⟩:Nat×List Tok×Hd×(Nat→Prop)×(Nat→Prop)×Array Obj)=>(F10,h10)) (fun (⟨k,l10,x10,F10,G10,h10⟩:Nat×List Tok×Hd×(Nat→Prop)×(Nat→Prop)×Array Obj)=>[(0,.v (x10.v l10.length)),(3,.ptr 0 0),(5,.v (.int .i64 k))]) (fun (⟨k,l10,x10,F10,G10,h10⟩:Nat×List Tok×Hd×(Nat→Prop)×(Nat→Prop)×Array Obj)=>[(0,.cells 61 [.v (.string r.item),.v (.string r.plant),.v (.int .i64 r.fr),.v (.int .i64 r.to),.v (r.hc.v r.cs.length),.buf 1,.v (r.ho.v r.out.length),.v (.int .i64 r.rwN),.v (.int .i64 r.rwD),.v (.int .i64 r.yN),.v (.int .i64 r.yD),.v (.int .i64 r.tN),.v (.int .i64 r.tD),.v (.int .i64 r.lead),.v (r.hr.v r.runs.length),.v (.int .i64 r.inum),.v (.int .i64 r.pnum)]),(1,.ro 7 (rws Am.row r.inn))]) 2 (fun (⟨k,l10,x10,F10,G10,h10⟩:Nat×List Tok×Hd×(Nat→Prop)×(Nat→Prop)×Array Obj)=>Now F G h F10 G10 h10∧k≤r.inn.length∧l10=l9++uN (r.inn.take k)∧WrJ l10 x10 G10 h10) (fun (⟨k,l10,x10,F10,G10,h10⟩:Nat×List Tok×Hd×(Nat→Prop)×(Nat→Prop)×Array Obj)=>r.inn.length - k) ?round14 (⟨0,l9,x9,_,G9,h9⟩) ?J014) sH sH
 case J014=>exact (⟨M9,Nat.zero_le _,by simp [uN],J9⟩)
 rintro ⟨k,l10,x10,F10,G10,h10⟩ hJ back
 try dsimp only at hJ back
 conv=>whnf
 try dsimp only
 refine gS ?_;conv=>whnf
 refine ⟨fun hk=>?_,fun hk=>?_⟩<;>conv=>whnf
 ·obtain ⟨N10,_,e10,J10⟩:=hJ
  have hk:k<r.inn.length:=by omega
  have hs:=iO (T:=fun a=>tw wIn::SynM.inT a) hk
  have hle:=nJ (T:=fun a=>tw wIn::SynM.inT a) (l:=r.inn) (k:=k+1) hk
  rw [hs,List.length_append] at hle
  have n10:l10.length=l9.length+(uN (r.inn.take k)).length:=by rw [e10,List.length_append]
  have hle:(uN (r.inn.take k)).length+(tw wIn::SynM.inT r.inn[k]).length≤(uN r.inn).length:=hle
  obtain ⟨la,ea,na⟩:=dL l10 (tm (B wIn))
  by_cases hb:r.inn[k].back=true
  ·have ei:tw wIn::SynM.inT r.inn[k]=tw wIn::tw kP::amT r.inn[k]:=by unfold SynM.inT;rw [if_pos hb];rfl
   rw [ei] at hle hs
   have hle:(uN (r.inn.take k)).length+8≤(uN r.inn).length:=hle
   obtain ⟨lb,eb,nb⟩:=dL la (tm (B kP))
   obtain ⟨lc,ec⟩:∃y,y=lb++amT r.inn[k]:=⟨_,rfl⟩
   have nc:lc.length=lb.length+6:=by rw [ec,List.length_append];rfl
   conv=>whnf
   refine aA.callY (N10.gsub) (bB x10 ea (by omega)) (fun h U=>RoF.up U J10) [] sH ?CNa15 ?_
   case CNa15=>rfl
   rintro _ xa Ga ha Na Ja
   conv=>whnf
   (try refine gS ?_);conv=>whnf
   repeat ((first|(guard_target=_∧_;(first|refine oL ?_|refine oR ?_))|(guard_target=Exists _;refine oM ?_));(try intro _);conv=>whnf)
   refine ⟨_,aK hk,?_⟩;conv=>whnf
   rw [hb]
   conv=>whnf
   (try refine gS ?_);conv=>whnf
   refine aA.callY (Na.gsub) (bB xa eb (by omega)) (fun h U=>RoF.up U Ja) [] sH ?CNa16 ?_
   case CNa16=>rfl
   rintro _ xb Gb hb2 Nb Jb
   conv=>whnf
   (try refine gS ?_);conv=>whnf
   repeat ((first|(guard_target=_∧_;(first|refine oL ?_|refine oR ?_))|(guard_target=Exists _;refine oM ?_));(try intro _);conv=>whnf)
   refine ⟨_,aK hk,?_⟩;conv=>whnf
   try (refine oN ?_;conv=>whnf)
   refine aA.callY (Nb.gsub) (zI xb ec (by omega)) (fun h U=>RoF.up U Jb) [] sH ?CNa17 ?_
   case CNa17=>rfl
   rintro _ xc Gc hc2 Nc Jc
   conv=>whnf
   (try refine gS ?_);conv=>whnf
   repeat ((first|(guard_target=_∧_;(first|refine oL ?_|refine oR ?_))|(guard_target=Exists _;refine oM ?_));(try intro _);conv=>whnf)
   have he:lc=l9++uN (r.inn.take (k+1)):=by
    rw [ec,eb,ea,e10,show uN (r.inn.take (k+1))=uN (r.inn.take k)++tw wIn::tw kP::amT r.inn[k] from hs];simp [tw,tm]
   refine aA.subR [] (back (⟨k+1,lc,xc,_,Gc,hc2⟩) (by exact (⟨((N10.trans Na).trans Nb).trans Nc,hk,he,Jc⟩)) (by (try dsimp only);omega)) sH sH
  have ei:tw wIn::SynM.inT r.inn[k]=tw wIn::amT r.inn[k]:=by unfold SynM.inT;rw [if_neg hb];rfl
  rw [ei] at hle hs
  have hle:(uN (r.inn.take k)).length+7≤(uN r.inn).length:=hle
  obtain ⟨lc,ec⟩:∃y,y=la++amT r.inn[k]:=⟨_,rfl⟩
  have nc:lc.length=la.length+6:=by rw [ec,List.length_append];rfl
  conv=>whnf
  refine aA.callY (N10.gsub) (bB x10 ea (by omega)) (fun h U=>RoF.up U J10) [] sH ?CNa19 ?_
  case CNa19=>rfl
  rintro _ xa Ga ha Na Ja
  conv=>whnf
  (try refine gS ?_);conv=>whnf
  repeat ((first|(guard_target=_∧_;(first|refine oL ?_|refine oR ?_))|(guard_target=Exists _;refine oM ?_));(try intro _);conv=>whnf)
  refine ⟨_,aK hk,?_⟩;conv=>whnf
  rw [Bool.eq_false_iff.2 hb]
  conv=>whnf
  repeat ((first|(guard_target=_∧_;(first|refine oL ?_|refine oR ?_))|(guard_target=Exists _;refine oM ?_));(try intro _);conv=>whnf)
  refine ⟨_,aK hk,?_⟩;conv=>whnf
  try (refine oN ?_;conv=>whnf)
  refine aA.callY (Na.gsub) (zI xa ec (by omega)) (fun h U=>RoF.up U Ja) [] sH ?CNa20 ?_
  case CNa20=>rfl
  rintro _ xc Gc hc2 Nc Jc
  conv=>whnf
  (try refine gS ?_);conv=>whnf
  repeat ((first|(guard_target=_∧_;(first|refine oL ?_|refine oR ?_))|(guard_target=Exists _;refine oM ?_));(try intro _);conv=>whnf)
  have he:lc=l9++uN (r.inn.take (k+1)):=by
   rw [ec,ea,e10,show uN (r.inn.take (k+1))=uN (r.inn.take k)++tw wIn::amT r.inn[k] from hs];simp [tw,tm]
  refine aA.subR [] (back (⟨k+1,lc,xc,_,Gc,hc2⟩) (by exact (⟨(N10.trans Na).trans Nc,hk,he,Jc⟩)) (by (try dsimp only);omega)) sH sH
 obtain ⟨N10,_,e10,J10⟩:=hJ
 have hk:k=r.inn.length:=by omega
 rw [hk,List.take_length] at e10
 have n10:l10.length=l9.length+(uN r.inn).length:=by rw [e10,List.length_append]
 clear back hk
 refine aA.subR (nx':=2) (l':=[(0,.v (x10.v l10.length)),(3,.ptr 0 0),(6,.v (.int .i64 0))]) (H':=[(0,.cells 61 [.v (.string r.item),.v (.string r.plant),.v (.int .i64 r.fr),.v (.int .i64 r.to),.v (r.hc.v r.cs.length),.buf 1,.v (r.ho.v r.out.length),.v (.int .i64 r.rwN),.v (.int .i64 r.rwD),.v (.int .i64 r.yN),.v (.int .i64 r.yD),.v (.int .i64 r.tN),.v (.int .i64 r.tD),.v (.int .i64 r.lead),.v (r.hr.v r.runs.length),.v (.int .i64 r.inum),.v (.int .i64 r.pnum)]),(1,.ro 7 (rws Am.row r.inn))]) [] ?_ sH sH
 have lO:=aG Am.row r.out
 have mO:=hP1.o.len
 refine aA.nameCell (fun _ x=>x) 0 6 (by exact RoF.up ((Now.step N.gsub N10).trans ⟨N10.gsub,fun _ _=>rfl⟩) hP1.o) ?_
 conv=>whnf
 (try refine gS ?_);conv=>whnf
 refine aA.subR [] (aA.loopB (fun (⟨k,l11,x11,F11,G11,h11⟩:Nat×List Tok×Hd×(Nat→Prop)×(Nat→Prop)×Array Obj)=>(F11,h11)) (fun (⟨k,l11,x11,F11,G11,h11⟩:Nat×List Tok×Hd×(Nat→Prop)×(Nat→Prop)×Array Obj)=>[(0,.v (x11.v l11.length)),(3,.ptr 0 0),(6,.v (.int .i64 k))]) (fun (⟨k,l11,x11,F11,G11,h11⟩:Nat×List Tok×Hd×(Nat→Prop)×(Nat→Prop)×Array Obj)=>[(0,.cells 61 [.v (.string r.item),.v (.string r.plant),.v (.int .i64 r.fr),.v (.int .i64 r.to),.v (r.hc.v r.cs.length),.buf 1,.buf 2,.v (.int .i64 r.rwN),.v (.int .i64 r.rwD),.v (.int .i64 r.yN),.v (.int .i64 r.yD),.v (.int .i64 r.tN),.v (.int .i64 r.tD),.v (.int .i64 r.lead),.v (r.hr.v r.runs.length),.v (.int .i64 r.inum),.v (.int .i64 r.pnum)]),(1,.ro 7 (rws Am.row r.inn)),(2,.ro 7 (rws Am.row r.out))]) 3 (fun (⟨k,l11,x11,F11,G11,h11⟩:Nat×List Tok×Hd×(Nat→Prop)×(Nat→Prop)×Array Obj)=>Now F G h F11 G11 h11∧k≤r.out.length∧l11=l10++aGG (r.out.take k)∧WrJ l11 x11 G11 h11) (fun (⟨k,l11,x11,F11,G11,h11⟩:Nat×List Tok×Hd×(Nat→Prop)×(Nat→Prop)×Array Obj)=>r.out.length - k) ?round22 (⟨0,l10,x10,_,G10,h10⟩) ?J022) sH sH
 case J022=>exact (⟨N10,Nat.zero_le _,by simp [aGG],J10⟩)
 rintro ⟨k,l11,x11,F11,G11,h11⟩ hJ back
 try dsimp only at hJ back
 conv=>whnf
 try dsimp only
 refine gS ?_;conv=>whnf
 refine ⟨fun hk=>?_,fun hk=>?_⟩<;>conv=>whnf
 ·obtain ⟨N11,_,e11,J11⟩:=hJ
  have hk:k<r.out.length:=by omega
  have hs:=iO (T:=fun a=>tw lB::amT a) hk
  have hle:=nJ (T:=fun a=>tw lB::amT a) (l:=r.out) (k:=k+1) hk
  rw [hs,List.length_append] at hle
  have n11:l11.length=l10.length+(aGG (r.out.take k)).length:=by rw [e11,List.length_append]
  have hle:(aGG (r.out.take k)).length+7≤(aGG r.out).length:=hle
  obtain ⟨la,ea,na⟩:=dL l11 (tm (B lB))
  obtain ⟨lc,ec⟩:∃y,y=la++amT r.out[k]:=⟨_,rfl⟩
  have nc:lc.length=la.length+6:=by rw [ec,List.length_append];rfl
  conv=>whnf
  refine aA.held tab (.fl 0 (.fl 2 (.fl 3 (.fl 4 (.fl 5 (.fl 6 (.e1 1 [3,6] (.e1 7 [] (.fl 8 .done))))))))) (by kernel_rfl) ?_;conv=>whnf
  (try refine gR ?_);conv=>whnf
  repeat ((first|(guard_target=_∧_;(first|refine oL ?_|refine oR ?_|refine oB ?_))|(guard_target=Exists _;refine oM ?_));(try intro _);conv=>whnf)
  conv=>whnf
  refine ⟨_,aK hk,?_⟩;conv=>whnf
  try (refine And.intro (by first|omega|exact Nat.le_of_ble_eq_true rfl) ?_;(try intro _);conv=>whnf)
  conv=>whnf
  refine aV.callY (N11.gsub) (bB x11 ea (by omega)) (fun h U=>RoF.up U J11) [] sH ?CNa23 ?_
  case CNa23=>rfl
  rintro _ xa Ga ha Na Ja
  conv=>whnf
  try refine oB ?_
  (try refine gR ?_);conv=>whnf
  refine aV.callY (Na.gsub) (zI xa ec (by omega)) (fun h U=>RoF.up U Ja) [] sH ?CNa24 ?_
  case CNa24=>rfl
  rintro _ xc Gc hc2 Nc Jc
  conv=>whnf
  try refine oB ?_
  (try refine gR ?_);conv=>whnf
  (try refine gS ?_);conv=>whnf
  repeat ((first|(guard_target=_∧_;(first|refine oL ?_|refine oR ?_))|(guard_target=Exists _;refine oM ?_));(try intro _);conv=>whnf)
  have he:lc=l10++aGG (r.out.take (k+1)):=by
   rw [ec,ea,e11,show aGG (r.out.take (k+1))=aGG (r.out.take k)++tw lB::amT r.out[k] from hs];simp [tw,tm]
  refine aA.subR [] (back (⟨k+1,lc,xc,_,Gc,hc2⟩) (by exact (⟨(N11.trans Na).trans Nc,hk,he,Jc⟩)) (by (try dsimp only);omega)) sH sH
 obtain ⟨N11,_,e11,J11⟩:=hJ
 have hk:k=r.out.length:=by omega
 rw [hk,List.take_length] at e11
 have n11:l11.length=l10.length+(aGG r.out).length:=by rw [e11,List.length_append]
 clear back hk
 refine aA.subR (nx':=3) (l':=[(0,.v (x11.v l11.length)),(3,.ptr 0 0)]) (H':=[(0,.cells 61 [.v (.string r.item),.v (.string r.plant),.v (.int .i64 r.fr),.v (.int .i64 r.to),.v (r.hc.v r.cs.length),.buf 1,.buf 2,.v (.int .i64 r.rwN),.v (.int .i64 r.rwD),.v (.int .i64 r.yN),.v (.int .i64 r.yD),.v (.int .i64 r.tN),.v (.int .i64 r.tD),.v (.int .i64 r.lead),.v (r.hr.v r.runs.length),.v (.int .i64 r.inum),.v (.int .i64 r.pnum)]),(1,.ro 7 (rws Am.row r.inn)),(2,.ro 7 (rws Am.row r.out))]) [] ?_ sH sH
 obtain ⟨l12,e12,n12⟩:=dL l11 (tm (B gQ))
 obtain ⟨l13,e13,n13⟩:=stp3 l12 [tn r.rwN,ts 47,tn r.rwD]
 obtain ⟨l14,e14,n14⟩:=dL l13 (ts 59)
 obtain ⟨l15,e15,n15⟩:=dL l14 (tm (B jQ))
 obtain ⟨l16,e16,n16⟩:=stp3 l15 [tn r.yN,ts 47,tn r.yD]
 obtain ⟨l17,e17,n17⟩:=dL l16 (tm (B gN))
 obtain ⟨l18,e18,n18⟩:=stp3 l17 [tn r.tN,ts 47,tn r.tD]
 obtain ⟨l19,e19,n19⟩:=dL l18 (ts 59)
 obtain ⟨l20,e20,n20⟩:=dL l19 (tm (B nY))
 obtain ⟨l21,e21,n21⟩:=dL l20 (tn r.lead)
 obtain ⟨l22,e22,n22⟩:=dL l21 (ts 59)
 refine aA.held tab (.fl 0 (.fl 2 (.fl 3 (.fl 4 (.fl 5 (.e1 1 [3,5] (.e1 6 [] (.e1 7 [] (.fl 8 .done))))))))) (by kernel_rfl) ?_;conv=>whnf
 (try refine gR ?_);conv=>whnf
 refine aV.callY (N11.gsub) (bB x11 e12 (by omega)) (fun h U=>RoF.up U J11) [] sH ?CNa26 ?_
 case CNa26=>rfl
 rintro _ x12 G12 h12 N12 J12
 conv=>whnf
 try refine oB ?_
 (try refine gR ?_);conv=>whnf
 refine aV.callY (N12.gsub) (oK x12 e13 (by omega)) (fun h U=>RoF.up U J12) [] sH ?CNa27 ?_
 case CNa27=>rfl
 rintro _ x13 G13 h13 N13 J13
 conv=>whnf
 try refine oB ?_
 (try refine gR ?_);conv=>whnf
 refine aV.callY (N13.gsub) (cZ x13 e14 (by omega)) (fun h U=>RoF.up U J13) [] sH ?CNa28 ?_
 case CNa28=>rfl
 rintro _ x14 G14 h14 N14 J14
 conv=>whnf
 try refine oB ?_
 (try refine gR ?_);conv=>whnf
 (try refine gS ?_);conv=>whnf
 refine aA.subR (nx':=3) (l':=[(0,.v (x14.v l14.length)),(3,.ptr 0 0)]) (H':=[(0,.cells 61 [.v (.string r.item),.v (.string r.plant),.v (.int .i64 r.fr),.v (.int .i64 r.to),.v (r.hc.v r.cs.length),.buf 1,.buf 2,.v (.int .i64 r.rwN),.v (.int .i64 r.rwD),.v (.int .i64 r.yN),.v (.int .i64 r.yD),.v (.int .i64 r.tN),.v (.int .i64 r.tD),.v (.int .i64 r.lead),.v (r.hr.v r.runs.length),.v (.int .i64 r.inum),.v (.int .i64 r.pnum)]),(1,.ro 7 (rws Am.row r.inn)),(2,.ro 7 (rws Am.row r.out))]) [] ?_ sH sH
 refine aA.held tab (.fl 0 (.fl 2 (.fl 3 (.fl 4 (.fl 5 (.e1 1 [3,5] (.e1 6 [] (.fl 7 .done)))))))) (by kernel_rfl) ?_;conv=>whnf
 (try refine gR ?_);conv=>whnf
 refine aV.callY (N14.gsub) (bB x14 e15 (by omega)) (fun h U=>RoF.up U J14) [] sH ?CNa29 ?_
 case CNa29=>rfl
 rintro _ x15 G15 h15 N15 J15
 conv=>whnf
 try refine oB ?_
 (try refine gR ?_);conv=>whnf
 refine aV.callY (N15.gsub) (oK x15 e16 (by omega)) (fun h U=>RoF.up U J15) [] sH ?CNa30 ?_
 case CNa30=>rfl
 rintro _ x16 G16 h16 N16 J16
 conv=>whnf
 try refine oB ?_
 (try refine gR ?_);conv=>whnf
 (try refine gS ?_);conv=>whnf
 refine aA.subR (nx':=3) (l':=[(0,.v (x16.v l16.length)),(3,.ptr 0 0)]) (H':=[(0,.cells 61 [.v (.string r.item),.v (.string r.plant),.v (.int .i64 r.fr),.v (.int .i64 r.to),.v (r.hc.v r.cs.length),.buf 1,.buf 2,.v (.int .i64 r.rwN),.v (.int .i64 r.rwD),.v (.int .i64 r.yN),.v (.int .i64 r.yD),.v (.int .i64 r.tN),.v (.int .i64 r.tD),.v (.int .i64 r.lead),.v (r.hr.v r.runs.length),.v (.int .i64 r.inum),.v (.int .i64 r.pnum)]),(1,.ro 7 (rws Am.row r.inn)),(2,.ro 7 (rws Am.row r.out))]) [] ?_ sH sH
 refine aA.held tab (.fl 0 (.fl 2 (.fl 3 (.fl 4 (.fl 5 (.e1 1 [3,5] (.e1 6 [] (.e1 7 [] (.fl 8 .done))))))))) (by kernel_rfl) ?_;conv=>whnf
 (try refine gR ?_);conv=>whnf
 refine aV.callY (N16.gsub) (bB x16 e17 (by omega)) (fun h U=>RoF.up U J16) [] sH ?CNa31 ?_
 case CNa31=>rfl
 rintro _ x17 G17 h17 N17 J17
 conv=>whnf
 try refine oB ?_
 (try refine gR ?_);conv=>whnf
 refine aV.callY (N17.gsub) (oK x17 e18 (by omega)) (fun h U=>RoF.up U J17) [] sH ?CNa32 ?_
 case CNa32=>rfl
 rintro _ x18 G18 h18 N18 J18
 conv=>whnf
 try refine oB ?_
 (try refine gR ?_);conv=>whnf
 refine aV.callY (N18.gsub) (cZ x18 e19 (by omega)) (fun h U=>RoF.up U J18) [] sH ?CNa33 ?_
 case CNa33=>rfl
 rintro _ x19 G19 h19 N19 J19
 conv=>whnf
 try refine oB ?_
 (try refine gR ?_);conv=>whnf
 (try refine gS ?_);conv=>whnf
 refine aA.subR (nx':=3) (l':=[(0,.v (x19.v l19.length)),(3,.ptr 0 0)]) (H':=[(0,.cells 61 [.v (.string r.item),.v (.string r.plant),.v (.int .i64 r.fr),.v (.int .i64 r.to),.v (r.hc.v r.cs.length),.buf 1,.buf 2,.v (.int .i64 r.rwN),.v (.int .i64 r.rwD),.v (.int .i64 r.yN),.v (.int .i64 r.yD),.v (.int .i64 r.tN),.v (.int .i64 r.tD),.v (.int .i64 r.lead),.v (r.hr.v r.runs.length),.v (.int .i64 r.inum),.v (.int .i64 r.pnum)]),(1,.ro 7 (rws Am.row r.inn)),(2,.ro 7 (rws Am.row r.out))]) [] ?_ sH sH
 refine aA.held tab (.fl 0 (.fl 2 (.fl 3 (.e1 1 [3] (.e1 4 [] (.e1 5 [] (.fl 6 .done))))))) (by kernel_rfl) ?_;conv=>whnf
 (try refine gR ?_);conv=>whnf
 refine aV.callY (N19.gsub) (bB x19 e20 (by omega)) (fun h U=>RoF.up U J19) [] sH ?CNa34 ?_
 case CNa34=>rfl
 rintro _ x20 G20 h20 N20 J20
 conv=>whnf
 try refine oB ?_
 (try refine gR ?_);conv=>whnf
 refine aV.callY (N20.gsub) (rQ x20 e21 (by omega)) (fun h U=>RoF.up U J20) [] sH ?CNa35 ?_
 case CNa35=>rfl
 rintro _ x21 G21 h21 N21 J21
 conv=>whnf
 try refine oB ?_
 (try refine gR ?_);conv=>whnf
 refine aV.callY (N21.gsub) (cZ x21 e22 (by omega)) (fun h U=>RoF.up U J21) [] sH ?CNa36 ?_
 case CNa36=>rfl
 rintro _ x22 G22 h22 N22 J22
 conv=>whnf
 try refine oB ?_
 (try refine gR ?_);conv=>whnf
 (try refine gS ?_);conv=>whnf
 refine aA.subR (nx':=3) (l':=[(0,.v (x22.v l22.length)),(3,.ptr 0 0),(7,.v (.int .i64 0))]) (H':=[(0,.cells 61 [.v (.string r.item),.v (.string r.plant),.v (.int .i64 r.fr),.v (.int .i64 r.to),.v (r.hc.v r.cs.length),.buf 1,.buf 2,.v (.int .i64 r.rwN),.v (.int .i64 r.rwD),.v (.int .i64 r.yN),.v (.int .i64 r.yD),.v (.int .i64 r.tN),.v (.int .i64 r.tD),.v (.int .i64 r.lead),.v (r.hr.v r.runs.length),.v (.int .i64 r.inum),.v (.int .i64 r.pnum)]),(1,.ro 7 (rws Am.row r.inn)),(2,.ro 7 (rws Am.row r.out))]) [] ?_ sH sH
 have M22:=((((((((((N11.trans N12).trans N13).trans N14).trans N15).trans N16).trans N17).trans N18).trans N19).trans N20).trans N21).trans N22
 have lR:=aG Rn.row r.runs
 have mR:=hP1.rn.len
 refine aA.nameCell (fun _ x=>x) 0 14 (by exact RoF.up ((Now.step N.gsub M22).trans ⟨M22.gsub,fun _ _=>rfl⟩) hP1.rn) ?_
 conv=>whnf
 (try refine gS ?_);conv=>whnf
 refine aA.subR [] (aA.loopB (fun (⟨k,l23,x23,F23,G23,h23⟩:Nat×List Tok×Hd×(Nat→Prop)×(Nat→Prop)×Array Obj)=>(F23,h23)) (fun (⟨k,l23,x23,F23,G23,h23⟩:Nat×List Tok×Hd×(Nat→Prop)×(Nat→Prop)×Array Obj)=>[(0,.v (x23.v l23.length)),(3,.ptr 0 0),(7,.v (.int .i64 k))]) (fun (⟨k,l23,x23,F23,G23,h23⟩:Nat×List Tok×Hd×(Nat→Prop)×(Nat→Prop)×Array Obj)=>[(0,.cells 61 [.v (.string r.item),.v (.string r.plant),.v (.int .i64 r.fr),.v (.int .i64 r.to),.v (r.hc.v r.cs.length),.buf 1,.buf 2,.v (.int .i64 r.rwN),.v (.int .i64 r.rwD),.v (.int .i64 r.yN),.v (.int .i64 r.yD),.v (.int .i64 r.tN),.v (.int .i64 r.tD),.v (.int .i64 r.lead),.buf 3,.v (.int .i64 r.inum),.v (.int .i64 r.pnum)]),(1,.ro 7 (rws Am.row r.inn)),(2,.ro 7 (rws Am.row r.out)),(3,.ro 3 (rws Rn.row r.runs))]) 4 (fun (⟨k,l23,x23,F23,G23,h23⟩:Nat×List Tok×Hd×(Nat→Prop)×(Nat→Prop)×Array Obj)=>Now F G h F23 G23 h23∧k≤r.runs.length∧l23=l22++aEK (r.runs.take k)∧WrJ l23 x23 G23 h23) (fun (⟨k,l23,x23,F23,G23,h23⟩:Nat×List Tok×Hd×(Nat→Prop)×(Nat→Prop)×Array Obj)=>r.runs.length - k) ?round37 (⟨0,l22,x22,_,G22,h22⟩) ?J037) sH sH
 case J037=>exact (⟨M22,Nat.zero_le _,by simp [aEK],J22⟩)
 rintro ⟨k,l23,x23,F23,G23,h23⟩ hJ back
 try dsimp only at hJ back
 conv=>whnf
 try dsimp only
 refine gS ?_;conv=>whnf
 refine ⟨fun hk=>?_,fun hk=>?_⟩<;>conv=>whnf
 ·obtain ⟨N23,_,e23,J23⟩:=hJ
  have hk:k<r.runs.length:=by omega
  have hs:=iO (T:=fun x=>tw oD::SynM.runT x) hk
  have hle:=nJ (T:=fun x=>tw oD::SynM.runT x) (l:=r.runs) (k:=k+1) hk
  rw [hs,List.length_append] at hle
  have n23:l23.length=l22.length+(aEK (r.runs.take k)).length:=by rw [e23,List.length_append]
  have hle:(aEK (r.runs.take k)).length+4≤(aEK r.runs).length:=hle
  obtain ⟨la,ea,na⟩:=dL l23 (tm (B oD))
  obtain ⟨lb,eb,nb⟩:=dL la (tm r.runs[k].mach)
  obtain ⟨lc,ec,nc⟩:=dL lb (tn r.runs[k].slots)
  obtain ⟨ld,ed,nd⟩:=dL lc (ts 59)
  conv=>whnf
  refine aA.held tab (.fl 0 (.fl 2 (.fl 3 (.fl 4 (.fl 5 (.fl 6 (.fl 7 (.fl 9 (.fl 10 (.fl 11 (.fl 12 (.fl 13 (.fl 14 (.e1 1 [3,7,10,14] (.e1 8 [10,14] (.e1 15 [] (.e1 16 [] (.fl 17 .done)))))))))))))))))) (by kernel_rfl) ?_;conv=>whnf
  (try refine gR ?_);conv=>whnf
  repeat ((first|(guard_target=_∧_;(first|refine oL ?_|refine oR ?_|refine oB ?_))|(guard_target=Exists _;refine oM ?_));(try intro _);conv=>whnf)
  conv=>whnf
  refine ⟨_,aK hk,?_⟩;conv=>whnf
  try (refine And.intro (by first|omega|exact Nat.le_of_ble_eq_true rfl) ?_;(try intro _);conv=>whnf)
  conv=>whnf
  refine ⟨_,aK hk,?_⟩;conv=>whnf
  refine aV.callY (N23.gsub) (bB x23 ea (by omega)) (fun h U=>RoF.up U J23) [] sH ?CNa38 ?_
  case CNa38=>rfl
  rintro _ xa Ga ha Na Ja
  conv=>whnf
  try refine oB ?_
  (try refine gR ?_);conv=>whnf
  refine aV.callY (Na.gsub) (bB xa eb (by omega)) (fun h U=>RoF.up U Ja) [] sH ?CNa39 ?_
  case CNa39=>rfl
  rintro _ xb Gb hb2 Nb Jb
  conv=>whnf
  try refine oB ?_
  (try refine gR ?_);conv=>whnf
  refine aV.callY (Nb.gsub) (rQ xb ec (by omega)) (fun h U=>RoF.up U Jb) [] sH ?CNa40 ?_
  case CNa40=>rfl
  rintro _ xc Gc hc2 Nc Jc
  conv=>whnf
  try refine oB ?_
  (try refine gR ?_);conv=>whnf
  refine aV.callY (Nc.gsub) (cZ xc ed (by omega)) (fun h U=>RoF.up U Jc) [] sH ?CNa41 ?_
  case CNa41=>rfl
  rintro _ xd Gd hd2 Nd Jd
  conv=>whnf
  try refine oB ?_
  (try refine gR ?_);conv=>whnf
  (try refine gS ?_);conv=>whnf
  repeat ((first|(guard_target=_∧_;(first|refine oL ?_|refine oR ?_))|(guard_target=Exists _;refine oM ?_));(try intro _);conv=>whnf)
  have he:ld=l22++aEK (r.runs.take (k+1)):=by
   rw [ed,ec,eb,ea,e23,show aEK (r.runs.take (k+1))=aEK (r.runs.take k)++[tm (B oD),tm r.runs[k].mach,tn r.runs[k].slots,ts 59] from hs];simp
  refine aA.subR [] (back (⟨k+1,ld,xd,_,Gd,hd2⟩) (by exact (⟨(((N23.trans Na).trans Nb).trans Nc).trans Nd,hk,he,Jd⟩)) (by (try dsimp only);omega)) sH sH
 obtain ⟨N23,_,e23,J23⟩:=hJ
 have hk:k=r.runs.length:=by omega
 rw [hk,List.take_length] at e23
 have n23:l23.length=l22.length+(aEK r.runs).length:=by rw [e23,List.length_append]
 clear back hk
 obtain ⟨l24,e24,n24⟩:=dL l23 (ts 125)
 have ef:l24=l++uK r:=by
  rw [e24,e23,e22,e21,e20,e19,e18,e17,e16,e15,e14,e13,e12,e11,e10,e9,e8',e8,e7,e6,e5,e4,e3,e2,e1,et];simp
 obtain rfl:l'=l24:=e.trans ef.symm
 conv=>whnf
 refine aA.callY (N23.gsub) (cZ x23 e24 (by omega)) (fun h U=>RoF.up U J23) [] sH ?CNa43 ?_
 case CNa43=>rfl
 rintro _ x24 G24 h24 N24 J24
 conv=>whnf
 (try refine gS ?_);conv=>whnf
 try refine aA.retU ?_
 exact aE.ret tab Tryz.func106 rfl (eX (N23.trans N24) (x24) (fun h U=>RoF.up U J24))
end Go.Proofs.YtgbeechjghajcaaGreatDoor

namespace Go.Proofs.YtgbeechjghajcaaGreatDoor
open Go Go.Fw Go.NatM Go.RatM Go.SrcM Go.SynM
set_option maxRecDepth 100000
set_option maxHeartbeats 99999999
section
variable {vU vI vP vM vO vF vR vS:Value}
theorem aFI (s:aJ) (hl:(jI s).length≤1000000):FnX Tryz.prog 34 0 [sK vU vI vP vM vO vF vR vS] [] (gX · · vU vI vP vM vO vF vR vS s) (WrJ (jI s)) (tF (jI s)):=by
 have nl:(jI s).length=((s.units.map mJ).flatten).length+((s.items.map mV).flatten).length+((s.plants.map lY).flatten).length+((s.machines.map qR).flatten).length+((s.options.map nZ).flatten).length+((s.forbids.map qD).flatten).length+((s.recipes.map uK).flatten).length+((s.swaps.map qX).flatten).length:=by
  unfold jI
  simp only [List.length_append]
  omega
 refine FnX.of Tryz.func34 (by kernel_rfl) rfl Tryz.ntmps34 rfl fun E0 F G h N hP w0 cs=>?_
 conv=>whnf
 refine gS ?_;conv=>whnf
 refine aA.concY (n:=0) (N.gsub) 1 ?_ (hlen:=rfl)
 intro _ a0 c0 G0 h0 N0 R0
 conv=>whnf
 (try refine gS ?_);conv=>whnf
 have J0:WrJ ([]:List Tok) (⟨a0,c0⟩:Hd) G0 h0:=R0
 have z0:([]:List Tok).length=0:=rfl
 refine aA.subR (nx':=1) (l':=[(1,.ptr 0 0),(3,.v ((⟨a0,c0⟩:Hd).v ([]:List Tok).length)),(4,.v (.int .i64 0))]) (H':=[(0,vC vU vI vP vM vO vF vR vS)]) [] ?_ sH sH
 have m1:=hP.U.len
 have y1:=cB s.units
 refine aA.nameCell (fun _ x=>x) 0 0 (by exact RoF.up ((Now.step N.gsub N0).trans ⟨N0.gsub,fun _ _=>rfl⟩) hP.U) ?_
 conv=>whnf
 (try refine gS ?_);conv=>whnf
 refine aA.subR [] (aA.loopB (fun (⟨k,l1,x1,F1,G1,h1⟩:Nat×List Tok×Hd×(Nat→Prop)×(Nat→Prop)×Array Obj)=>(F1,h1)) (fun (⟨k,l1,x1,F1,G1,h1⟩:Nat×List Tok×Hd×(Nat→Prop)×(Nat→Prop)×Array Obj)=>[(1,.ptr 0 0),(3,.v (x1.v l1.length)),(4,.v (.int .i64 k))]) (fun (⟨k,l1,x1,F1,G1,h1⟩:Nat×List Tok×Hd×(Nat→Prop)×(Nat→Prop)×Array Obj)=>[(0,.cells 32 [.buf 1,.v vI,.v vP,.v vM,.v vO,.v vF,.v vR,.v vS]),(1,.ro 8 (fQ s.units))]) 2 (fun (⟨k,l1,x1,F1,G1,h1⟩:Nat×List Tok×Hd×(Nat→Prop)×(Nat→Prop)×Array Obj)=>Now F G h F1 G1 h1∧k≤s.units.length∧l1=([]:List Tok)++((s.units.take k).map mJ).flatten∧WrJ l1 x1 G1 h1) (fun (⟨k,l1,x1,F1,G1,h1⟩:Nat×List Tok×Hd×(Nat→Prop)×(Nat→Prop)×Array Obj)=>s.units.length - k) ?round1 (⟨0,([]:List Tok),(⟨a0,c0⟩:Hd),_,G0,h0⟩) ?J01) sH sH
 case J01=>exact (⟨N0,Nat.zero_le _,by simp,J0⟩)
 rintro ⟨k,l1,x1,F1,G1,h1⟩ hJ back
 try dsimp only at hJ back
 conv=>whnf
 try dsimp only
 refine gS ?_;conv=>whnf
 refine ⟨fun hk=>?_,fun hk=>?_⟩<;>conv=>whnf
 ·obtain ⟨N1,_,e1,J1⟩:=hJ
  have hk:k<s.units.length:=by omega
  have hs:=iO (T:=mJ) hk
  have hle:=nJ (T:=mJ) (l:=s.units) (k:=k+1) hk
  rw [hs,List.length_append] at hle
  have n1:l1.length=([]:List Tok).length+((s.units.take k).map mJ).flatten.length:=by rw [e1,List.length_append]
  obtain ⟨lc,ec⟩:∃y,y=l1++mJ s.units[k]:=⟨_,rfl⟩
  have nc:lc.length=l1.length+(mJ s.units[k]).length:=by rw [ec,List.length_append]
  conv=>whnf
  repeat ((first|(guard_target=_∧_;(first|refine oL ?_|refine oR ?_))|(guard_target=Exists _;refine oM ?_));(try intro _);conv=>whnf)
  refine ⟨_,sY hk,?_⟩;conv=>whnf
  try (refine oN ?_;conv=>whnf)
  refine aA.callY (N1.gsub) (aXI x1 ec (by omega)) (fun h U=>RoF.up U J1) [] sH ?CNa2 ?_
  case CNa2=>rfl
  rintro _ xc Gc hc2 Nc Jc
  conv=>whnf
  (try refine gS ?_);conv=>whnf
  repeat ((first|(guard_target=_∧_;(first|refine oL ?_|refine oR ?_))|(guard_target=Exists _;refine oM ?_));(try intro _);conv=>whnf)
  have he:lc=([]:List Tok)++((s.units.take (k+1)).map mJ).flatten:=by rw [ec,e1,hs,List.append_assoc]
  refine aA.subR [] (back (⟨k+1,lc,xc,_,Gc,hc2⟩) (by exact (⟨N1.trans Nc,hk,he,Jc⟩)) (by (try dsimp only);omega)) sH sH
 obtain ⟨N1,_,e1,J1⟩:=hJ
 have hk:k=s.units.length:=by omega
 rw [hk,List.take_length] at e1
 have n1:l1.length=([]:List Tok).length+((s.units).map mJ).flatten.length:=by rw [e1,List.length_append]
 clear back hk
 refine aA.subR (nx':=2) (l':=[(1,.ptr 0 0),(3,.v (x1.v l1.length)),(5,.v (.int .i64 0))]) (H':=[(0,.cells 32 [.buf 1,.v vI,.v vP,.v vM,.v vO,.v vF,.v vR,.v vS]),(1,.ro 8 (fQ s.units))]) [] ?_ sH sH
 have m2:=hP.I.len
 have y2:=aG It.row s.items
 refine aA.nameCell (fun _ x=>x) 0 1 (by exact RoF.up ((Now.step N.gsub N1).trans ⟨N1.gsub,fun _ _=>rfl⟩) hP.I) ?_
 conv=>whnf
 (try refine gS ?_);conv=>whnf
 refine aA.subR [] (aA.loopB (fun (⟨k,l2,x2,F2,G2,h2⟩:Nat×List Tok×Hd×(Nat→Prop)×(Nat→Prop)×Array Obj)=>(F2,h2)) (fun (⟨k,l2,x2,F2,G2,h2⟩:Nat×List Tok×Hd×(Nat→Prop)×(Nat→Prop)×Array Obj)=>[(1,.ptr 0 0),(3,.v (x2.v l2.length)),(5,.v (.int .i64 k))]) (fun (⟨k,l2,x2,F2,G2,h2⟩:Nat×List Tok×Hd×(Nat→Prop)×(Nat→Prop)×Array Obj)=>[(0,.cells 32 [.buf 1,.buf 2,.v vP,.v vM,.v vO,.v vF,.v vR,.v vS]),(1,.ro 8 (fQ s.units)),(2,.ro 6 (rws It.row s.items))]) 3 (fun (⟨k,l2,x2,F2,G2,h2⟩:Nat×List Tok×Hd×(Nat→Prop)×(Nat→Prop)×Array Obj)=>Now F G h F2 G2 h2∧k≤s.items.length∧l2=l1++((s.items.take k).map mV).flatten∧WrJ l2 x2 G2 h2) (fun (⟨k,l2,x2,F2,G2,h2⟩:Nat×List Tok×Hd×(Nat→Prop)×(Nat→Prop)×Array Obj)=>s.items.length - k) ?round4 (⟨0,l1,x1,_,G1,h1⟩) ?J04) sH sH
 case J04=>exact (⟨N1,Nat.zero_le _,by simp,J1⟩)
 rintro ⟨k,l2,x2,F2,G2,h2⟩ hJ back
 try dsimp only at hJ back
 conv=>whnf
 try dsimp only
 refine gS ?_;conv=>whnf
 refine ⟨fun hk=>?_,fun hk=>?_⟩<;>conv=>whnf
 ·obtain ⟨N2,_,e2,J2⟩:=hJ
  have hk:k<s.items.length:=by omega
  have hs:=iO (T:=mV) hk
  have hle:=nJ (T:=mV) (l:=s.items) (k:=k+1) hk
  rw [hs,List.length_append] at hle
  have n2:l2.length=l1.length+((s.items.take k).map mV).flatten.length:=by rw [e2,List.length_append]
  obtain ⟨lc,ec⟩:∃y,y=l2++mV s.items[k]:=⟨_,rfl⟩
  have nc:lc.length=l2.length+(mV s.items[k]).length:=by rw [ec,List.length_append]
  conv=>whnf
  repeat ((first|(guard_target=_∧_;(first|refine oL ?_|refine oR ?_))|(guard_target=Exists _;refine oM ?_));(try intro _);conv=>whnf)
  refine ⟨_,aK hk,?_⟩;conv=>whnf
  try (refine oN ?_;conv=>whnf)
  refine aA.callY (N2.gsub) (aYR x2 ec (by omega)) (fun h U=>RoF.up U J2) [] sH ?CNa5 ?_
  case CNa5=>rfl
  rintro _ xc Gc hc2 Nc Jc
  conv=>whnf
  (try refine gS ?_);conv=>whnf
  repeat ((first|(guard_target=_∧_;(first|refine oL ?_|refine oR ?_))|(guard_target=Exists _;refine oM ?_));(try intro _);conv=>whnf)
  have he:lc=l1++((s.items.take (k+1)).map mV).flatten:=by rw [ec,e2,hs,List.append_assoc]
  refine aA.subR [] (back (⟨k+1,lc,xc,_,Gc,hc2⟩) (by exact (⟨N2.trans Nc,hk,he,Jc⟩)) (by (try dsimp only);omega)) sH sH
 obtain ⟨N2,_,e2,J2⟩:=hJ
 have hk:k=s.items.length:=by omega
 rw [hk,List.take_length] at e2
 have n2:l2.length=l1.length+((s.items).map mV).flatten.length:=by rw [e2,List.length_append]
 clear back hk
 refine aA.subR (nx':=3) (l':=[(1,.ptr 0 0),(3,.v (x2.v l2.length)),(6,.v (.int .i64 0))]) (H':=[(0,.cells 32 [.buf 1,.buf 2,.v vP,.v vM,.v vO,.v vF,.v vR,.v vS]),(1,.ro 8 (fQ s.units)),(2,.ro 6 (rws It.row s.items))]) [] ?_ sH sH
 have m3:=hP.P.len
 have y3:=pG s.plants
 refine aA.nameCell (fun _ x=>x) 0 2 (by exact RoF.up ((Now.step N.gsub N2).trans ⟨N2.gsub,fun _ _=>rfl⟩) hP.P) ?_
 conv=>whnf
 (try refine gS ?_);conv=>whnf
 refine aA.subR [] (aA.loopB (fun (⟨k,l3,x3,F3,G3,h3⟩:Nat×List Tok×Hd×(Nat→Prop)×(Nat→Prop)×Array Obj)=>(F3,h3)) (fun (⟨k,l3,x3,F3,G3,h3⟩:Nat×List Tok×Hd×(Nat→Prop)×(Nat→Prop)×Array Obj)=>[(1,.ptr 0 0),(3,.v (x3.v l3.length)),(6,.v (.int .i64 k))]) (fun (⟨k,l3,x3,F3,G3,h3⟩:Nat×List Tok×Hd×(Nat→Prop)×(Nat→Prop)×Array Obj)=>[(0,.cells 32 [.buf 1,.buf 2,.buf 3,.v vM,.v vO,.v vF,.v vR,.v vS]),(1,.ro 8 (fQ s.units)),(2,.ro 6 (rws It.row s.items)),(3,.ro 1 (jY s.plants))]) 4 (fun (⟨k,l3,x3,F3,G3,h3⟩:Nat×List Tok×Hd×(Nat→Prop)×(Nat→Prop)×Array Obj)=>Now F G h F3 G3 h3∧k≤s.plants.length∧l3=l2++((s.plants.take k).map lY).flatten∧WrJ l3 x3 G3 h3) (fun (⟨k,l3,x3,F3,G3,h3⟩:Nat×List Tok×Hd×(Nat→Prop)×(Nat→Prop)×Array Obj)=>s.plants.length - k) ?round7 (⟨0,l2,x2,_,G2,h2⟩) ?J07) sH sH
 case J07=>exact (⟨N2,Nat.zero_le _,by simp,J2⟩)
 rintro ⟨k,l3,x3,F3,G3,h3⟩ hJ back
 try dsimp only at hJ back
 conv=>whnf
 try dsimp only
 refine gS ?_;conv=>whnf
 refine ⟨fun hk=>?_,fun hk=>?_⟩<;>conv=>whnf
 ·obtain ⟨N3,_,e3,J3⟩:=hJ
  have hk:k<s.plants.length:=by omega
  have hs:=iO (T:=lY) hk
  have hle:=nJ (T:=lY) (l:=s.plants) (k:=k+1) hk
  rw [hs,List.length_append] at hle
  have n3:l3.length=l2.length+((s.plants.take k).map lY).flatten.length:=by rw [e3,List.length_append]
  have hT:(lY s.plants[k]).length=3:=by rfl
  obtain ⟨la,ea,na⟩:=dL l3 (tm (B fD))
  obtain ⟨lb,eb,nb⟩:=dL la (tm (s.plants[k]))
  obtain ⟨lc,ec,nc⟩:=dL lb (ts 59)
  conv=>whnf
  refine aA.held tab (.fl 0 (.fl 2 (.fl 3 (.fl 4 (.fl 5 (.fl 6 (.e1 1 [3,6] (.e1 7 [] (.e1 8 [] (.fl 9 .done)))))))))) (by kernel_rfl) ?_;conv=>whnf
  (try refine gR ?_);conv=>whnf
  repeat ((first|(guard_target=_∧_;(first|refine oL ?_|refine oR ?_|refine oB ?_))|(guard_target=Exists _;refine oM ?_));(try intro _);conv=>whnf)
  conv=>whnf
  refine ⟨_,aK hk,?_⟩;conv=>whnf
  refine aV.callY (N3.gsub) (bB x3 ea (by omega)) (fun h U=>RoF.up U J3) [] sH ?CNa8 ?_
  case CNa8=>rfl
  rintro _ xa Ga ha2 Na Ja
  conv=>whnf
  try refine oB ?_
  (try refine gR ?_);conv=>whnf
  refine aV.callY (Na.gsub) (bB xa eb (by omega)) (fun h U=>RoF.up U Ja) [] sH ?CNa9 ?_
  case CNa9=>rfl
  rintro _ xb Gb hb2 Nb Jb
  conv=>whnf
  try refine oB ?_
  (try refine gR ?_);conv=>whnf
  refine aV.callY (Nb.gsub) (cZ xb ec (by omega)) (fun h U=>RoF.up U Jb) [] sH ?CNa10 ?_
  case CNa10=>rfl
  rintro _ xc Gc hc2 Nc Jc
  conv=>whnf
  try refine oB ?_
  (try refine gR ?_);conv=>whnf
  (try refine gS ?_);conv=>whnf
  repeat ((first|(guard_target=_∧_;(first|refine oL ?_|refine oR ?_))|(guard_target=Exists _;refine oM ?_));(try intro _);conv=>whnf)
  have he:lc=l2++((s.plants.take (k+1)).map lY).flatten:=by
   rw [ec,eb,ea,e3,hs];simp [lY,tw,tm]
  refine aA.subR [] (back (⟨k+1,lc,xc,_,Gc,hc2⟩) (by exact (⟨((N3.trans Na).trans Nb).trans Nc,hk,he,Jc⟩)) (by (try dsimp only);omega)) sH sH
 obtain ⟨N3,_,e3,J3⟩:=hJ
 have hk:k=s.plants.length:=by omega
 rw [hk,List.take_length] at e3
 have n3:l3.length=l2.length+((s.plants).map lY).flatten.length:=by rw [e3,List.length_append]
 clear back hk
 refine aA.subR (nx':=4) (l':=[(1,.ptr 0 0),(3,.v (x3.v l3.length)),(7,.v (.int .i64 0))]) (H':=[(0,.cells 32 [.buf 1,.buf 2,.buf 3,.v vM,.v vO,.v vF,.v vR,.v vS]),(1,.ro 8 (fQ s.units)),(2,.ro 6 (rws It.row s.items)),(3,.ro 1 (jY s.plants))]) [] ?_ sH sH
 have m4:=hP.M.len
 have y4:=aG Mc.row s.machines
 refine aA.nameCell (fun _ x=>x) 0 3 (by exact RoF.up ((Now.step N.gsub N3).trans ⟨N3.gsub,fun _ _=>rfl⟩) hP.M) ?_
 conv=>whnf
 (try refine gS ?_);conv=>whnf
 refine aA.subR [] (aA.loopB (fun (⟨k,l4,x4,F4,G4,h4⟩:Nat×List Tok×Hd×(Nat→Prop)×(Nat→Prop)×Array Obj)=>(F4,h4)) (fun (⟨k,l4,x4,F4,G4,h4⟩:Nat×List Tok×Hd×(Nat→Prop)×(Nat→Prop)×Array Obj)=>[(1,.ptr 0 0),(3,.v (x4.v l4.length)),(7,.v (.int .i64 k))]) (fun (⟨k,l4,x4,F4,G4,h4⟩:Nat×List Tok×Hd×(Nat→Prop)×(Nat→Prop)×Array Obj)=>[(0,.cells 32 [.buf 1,.buf 2,.buf 3,.buf 4,.v vO,.v vF,.v vR,.v vS]),(1,.ro 8 (fQ s.units)),(2,.ro 6 (rws It.row s.items)),(3,.ro 1 (jY s.plants)),(4,.ro 4 (rws Mc.row s.machines))]) 5 (fun (⟨k,l4,x4,F4,G4,h4⟩:Nat×List Tok×Hd×(Nat→Prop)×(Nat→Prop)×Array Obj)=>Now F G h F4 G4 h4∧k≤s.machines.length∧l4=l3++((s.machines.take k).map qR).flatten∧WrJ l4 x4 G4 h4) (fun (⟨k,l4,x4,F4,G4,h4⟩:Nat×List Tok×Hd×(Nat→Prop)×(Nat→Prop)×Array Obj)=>s.machines.length - k) ?round12 (⟨0,l3,x3,_,G3,h3⟩) ?J012) sH sH
 case J012=>exact (⟨N3,Nat.zero_le _,by simp,J3⟩)
 rintro ⟨k,l4,x4,F4,G4,h4⟩ hJ back
 try dsimp only at hJ back
 conv=>whnf
 try dsimp only
 refine gS ?_;conv=>whnf
 refine ⟨fun hk=>?_,fun hk=>?_⟩<;>conv=>whnf
 ·obtain ⟨N4,_,e4,J4⟩:=hJ
  have hk:k<s.machines.length:=by omega
  have hs:=iO (T:=qR) hk
  have hle:=nJ (T:=qR) (l:=s.machines) (k:=k+1) hk
  rw [hs,List.length_append] at hle
  have n4:l4.length=l3.length+((s.machines.take k).map qR).flatten.length:=by rw [e4,List.length_append]
  have hT:(qR s.machines[k]).length=7:=by rfl
  obtain ⟨la,ea,na⟩:=dL l4 (tm (B cE))
  obtain ⟨lb,eb,nb⟩:=dL la (tm (s.machines[k].name))
  obtain ⟨lc,ec,nc⟩:=dL lb (tm (B wAt))
  obtain ⟨ld,ed,nd⟩:=dL lc (tm (s.machines[k].plant))
  obtain ⟨le,ee,ne⟩:=dL ld (tm (B oA))
  obtain ⟨lf,ef,nf⟩:=dL le (tn s.machines[k].clean)
  obtain ⟨lg,eg,ng⟩:=dL lf (ts 59)
  conv=>whnf
  repeat ((first|(guard_target=_∧_;(first|refine oL ?_|refine oR ?_))|(guard_target=Exists _;refine oM ?_));(try intro _);conv=>whnf)
  refine ⟨_,aK hk,?_⟩;conv=>whnf
  try (refine oN ?_;conv=>whnf)
  refine aA.held tab (.fl 0 (.fl 2 (.fl 3 (.fl 6 (.fl 7 (.e1 1 [3,7] (.e1 4 [7] (.e1 5 [7] (.e1 8 [] (.fl 9 .done)))))))))) (by kernel_rfl) ?_;conv=>whnf
  (try refine gR ?_);conv=>whnf
  refine aV.callY (N4.gsub) (bB x4 ea (by omega)) (fun h U=>RoF.up U J4) [] sH ?CNa13 ?_
  case CNa13=>rfl
  rintro _ xa Ga ha2 Na Ja
  conv=>whnf
  try refine oB ?_
  (try refine gR ?_);conv=>whnf
  refine aV.callY (Na.gsub) (bB xa eb (by omega)) (fun h U=>RoF.up U Ja) [] sH ?CNa14 ?_
  case CNa14=>rfl
  rintro _ xb Gb hb2 Nb Jb
  conv=>whnf
  try refine oB ?_
  (try refine gR ?_);conv=>whnf
  refine aV.callY (Nb.gsub) (bB xb ec (by omega)) (fun h U=>RoF.up U Jb) [] sH ?CNa15 ?_
  case CNa15=>rfl
  rintro _ xc Gc hc2 Nc Jc
  conv=>whnf
  try refine oB ?_
  (try refine gR ?_);conv=>whnf
  refine aV.callY (Nc.gsub) (bB xc ed (by omega)) (fun h U=>RoF.up U Jc) [] sH ?CNa16 ?_
  case CNa16=>rfl
  rintro _ xd Gd hd2 Nd Jd
  conv=>whnf
  try refine oB ?_
  (try refine gR ?_);conv=>whnf
  (try refine gS ?_);conv=>whnf
  refine aA.held tab (.fl 0 (.fl 2 (.fl 3 (.e1 1 [3] (.e1 4 [] (.e1 5 [] (.fl 6 .done))))))) (by kernel_rfl) ?_;conv=>whnf
  (try refine gR ?_);conv=>whnf
  refine aV.callY (Nd.gsub) (bB xd ee (by omega)) (fun h U=>RoF.up U Jd) [] sH ?CNa17 ?_
  case CNa17=>rfl
  rintro _ xe Ge he2 Ne Je
  conv=>whnf
  try refine oB ?_
  (try refine gR ?_);conv=>whnf
  refine aV.callY (Ne.gsub) (rQ xe ef (by omega)) (fun h U=>RoF.up U Je) [] sH ?CNa18 ?_
  case CNa18=>rfl
  rintro _ xf Gf hf2 Nf Jf
  conv=>whnf
  try refine oB ?_
  (try refine gR ?_);conv=>whnf
  refine aV.callY (Nf.gsub) (cZ xf eg (by omega)) (fun h U=>RoF.up U Jf) [] sH ?CNa19 ?_
  case CNa19=>rfl
  rintro _ xg Gg hg2 Ng Jg
  conv=>whnf
  try refine oB ?_
  (try refine gR ?_);conv=>whnf
  (try refine gS ?_);conv=>whnf
  repeat ((first|(guard_target=_∧_;(first|refine oL ?_|refine oR ?_))|(guard_target=Exists _;refine oM ?_));(try intro _);conv=>whnf)
  have he:lg=l3++((s.machines.take (k+1)).map qR).flatten:=by
   rw [eg,ef,ee,ed,ec,eb,ea,e4,hs];simp [qR,tw,tm]
  refine aA.subR [] (back (⟨k+1,lg,xg,_,Gg,hg2⟩) (by exact (⟨((((((N4.trans Na).trans Nb).trans Nc).trans Nd).trans Ne).trans Nf).trans Ng,hk,he,Jg⟩)) (by (try dsimp only);omega)) sH sH
 obtain ⟨N4,_,e4,J4⟩:=hJ
 have hk:k=s.machines.length:=by omega
 rw [hk,List.take_length] at e4
 have n4:l4.length=l3.length+((s.machines).map qR).flatten.length:=by rw [e4,List.length_append]
 clear back hk
 refine aA.subR (nx':=5) (l':=[(1,.ptr 0 0),(3,.v (x4.v l4.length)),(9,.v (.int .i64 0))]) (H':=[(0,.cells 32 [.buf 1,.buf 2,.buf 3,.buf 4,.v vO,.v vF,.v vR,.v vS]),(1,.ro 8 (fQ s.units)),(2,.ro 6 (rws It.row s.items)),(3,.ro 1 (jY s.plants)),(4,.ro 4 (rws Mc.row s.machines))]) [] ?_ sH sH
 have m5:=hP.O.len
 have y5:=aG OpV.row s.options
 refine aA.nameCell (fun _ x=>x) 0 4 (by exact RoF.up ((Now.step N.gsub N4).trans ⟨N4.gsub,fun _ _=>rfl⟩) hP.O) ?_
 conv=>whnf
 (try refine gS ?_);conv=>whnf
 refine aA.subR [] (aA.loopB (fun (⟨k,l5,x5,F5,G5,h5⟩:Nat×List Tok×Hd×(Nat→Prop)×(Nat→Prop)×Array Obj)=>(F5,h5)) (fun (⟨k,l5,x5,F5,G5,h5⟩:Nat×List Tok×Hd×(Nat→Prop)×(Nat→Prop)×Array Obj)=>[(1,.ptr 0 0),(3,.v (x5.v l5.length)),(9,.v (.int .i64 k))]) (fun (⟨k,l5,x5,F5,G5,h5⟩:Nat×List Tok×Hd×(Nat→Prop)×(Nat→Prop)×Array Obj)=>[(0,.cells 32 [.buf 1,.buf 2,.buf 3,.buf 4,.buf 5,.v vF,.v vR,.v vS]),(1,.ro 8 (fQ s.units)),(2,.ro 6 (rws It.row s.items)),(3,.ro 1 (jY s.plants)),(4,.ro 4 (rws Mc.row s.machines)),(5,.ro 2 (rws OpV.row s.options))]) 6 (fun (⟨k,l5,x5,F5,G5,h5⟩:Nat×List Tok×Hd×(Nat→Prop)×(Nat→Prop)×Array Obj)=>Now F G h F5 G5 h5∧k≤s.options.length∧l5=l4++((s.options.take k).map nZ).flatten∧WrJ l5 x5 G5 h5) (fun (⟨k,l5,x5,F5,G5,h5⟩:Nat×List Tok×Hd×(Nat→Prop)×(Nat→Prop)×Array Obj)=>s.options.length - k) ?round21 (⟨0,l4,x4,_,G4,h4⟩) ?J021) sH sH
 case J021=>exact (⟨N4,Nat.zero_le _,by simp,J4⟩)
 rintro ⟨k,l5,x5,F5,G5,h5⟩ hJ back
 try dsimp only at hJ back
 conv=>whnf
 try dsimp only
 refine gS ?_;conv=>whnf
 refine ⟨fun hk=>?_,fun hk=>?_⟩<;>conv=>whnf
 ·obtain ⟨N5,_,e5,J5⟩:=hJ
  have hk:k<s.options.length:=by omega
  have hs:=iO (T:=nZ) hk
  have hle:=nJ (T:=nZ) (l:=s.options) (k:=k+1) hk
  rw [hs,List.length_append] at hle
  have n5:l5.length=l4.length+((s.options.take k).map nZ).flatten.length:=by rw [e5,List.length_append]
  obtain ⟨lc,ec⟩:∃y,y=l5++nZ s.options[k]:=⟨_,rfl⟩
  have nc:lc.length=l5.length+(nZ s.options[k]).length:=by rw [ec,List.length_append]
  conv=>whnf
  repeat ((first|(guard_target=_∧_;(first|refine oL ?_|refine oR ?_))|(guard_target=Exists _;refine oM ?_));(try intro _);conv=>whnf)
  refine ⟨_,aK hk,?_⟩;conv=>whnf
  try (refine oN ?_;conv=>whnf)
  refine aA.callY (N5.gsub) (aXX x5 ec (by omega)) (fun h U=>⟨RoF.up U J5,(hP.below.o _ (List.getElem_mem hk)).up ((Now.step N.gsub N5).trans U)⟩) [] sH ?CNa22 ?_
  case CNa22=>rfl
  rintro _ xc Gc hc2 Nc Jc
  conv=>whnf
  (try refine gS ?_);conv=>whnf
  repeat ((first|(guard_target=_∧_;(first|refine oL ?_|refine oR ?_))|(guard_target=Exists _;refine oM ?_));(try intro _);conv=>whnf)
  have he:lc=l4++((s.options.take (k+1)).map nZ).flatten:=by rw [ec,e5,hs,List.append_assoc]
  refine aA.subR [] (back (⟨k+1,lc,xc,_,Gc,hc2⟩) (by exact (⟨N5.trans Nc,hk,he,Jc⟩)) (by (try dsimp only);omega)) sH sH
 obtain ⟨N5,_,e5,J5⟩:=hJ
 have hk:k=s.options.length:=by omega
 rw [hk,List.take_length] at e5
 have n5:l5.length=l4.length+((s.options).map nZ).flatten.length:=by rw [e5,List.length_append]
 clear back hk
 refine aA.subR (nx':=6) (l':=[(1,.ptr 0 0),(3,.v (x5.v l5.length)),(10,.v (.int .i64 0))]) (H':=[(0,.cells 32 [.buf 1,.buf 2,.buf 3,.buf 4,.buf 5,.v vF,.v vR,.v vS]),(1,.ro 8 (fQ s.units)),(2,.ro 6 (rws It.row s.items)),(3,.ro 1 (jY s.plants)),(4,.ro 4 (rws Mc.row s.machines)),(5,.ro 2 (rws OpV.row s.options))]) [] ?_ sH sH
 have m6:=hP.F.len
 have y6:=aG FbV.row s.forbids
 refine aA.nameCell (fun _ x=>x) 0 5 (by exact RoF.up ((Now.step N.gsub N5).trans ⟨N5.gsub,fun _ _=>rfl⟩) hP.F) ?_
 conv=>whnf
 (try refine gS ?_);conv=>whnf
 refine aA.subR [] (aA.loopB (fun (⟨k,l6,x6,F6,G6,h6⟩:Nat×List Tok×Hd×(Nat→Prop)×(Nat→Prop)×Array Obj)=>(F6,h6)) (fun (⟨k,l6,x6,F6,G6,h6⟩:Nat×List Tok×Hd×(Nat→Prop)×(Nat→Prop)×Array Obj)=>[(1,.ptr 0 0),(3,.v (x6.v l6.length)),(10,.v (.int .i64 k))]) (fun (⟨k,l6,x6,F6,G6,h6⟩:Nat×List Tok×Hd×(Nat→Prop)×(Nat→Prop)×Array Obj)=>[(0,.cells 32 [.buf 1,.buf 2,.buf 3,.buf 4,.buf 5,.buf 6,.v vR,.v vS]),(1,.ro 8 (fQ s.units)),(2,.ro 6 (rws It.row s.items)),(3,.ro 1 (jY s.plants)),(4,.ro 4 (rws Mc.row s.machines)),(5,.ro 2 (rws OpV.row s.options)),(6,.ro 1 (rws FbV.row s.forbids))]) 7 (fun (⟨k,l6,x6,F6,G6,h6⟩:Nat×List Tok×Hd×(Nat→Prop)×(Nat→Prop)×Array Obj)=>Now F G h F6 G6 h6∧k≤s.forbids.length∧l6=l5++((s.forbids.take k).map qD).flatten∧WrJ l6 x6 G6 h6) (fun (⟨k,l6,x6,F6,G6,h6⟩:Nat×List Tok×Hd×(Nat→Prop)×(Nat→Prop)×Array Obj)=>s.forbids.length - k) ?round24 (⟨0,l5,x5,_,G5,h5⟩) ?J024) sH sH
 case J024=>exact (⟨N5,Nat.zero_le _,by simp,J5⟩)
 rintro ⟨k,l6,x6,F6,G6,h6⟩ hJ back
 try dsimp only at hJ back
 conv=>whnf
 try dsimp only
 refine gS ?_;conv=>whnf
 refine ⟨fun hk=>?_,fun hk=>?_⟩<;>conv=>whnf
 ·obtain ⟨N6,_,e6,J6⟩:=hJ
  have hk:k<s.forbids.length:=by omega
  have hs:=iO (T:=qD) hk
  have hle:=nJ (T:=qD) (l:=s.forbids) (k:=k+1) hk
  rw [hs,List.length_append] at hle
  have n6:l6.length=l5.length+((s.forbids.take k).map qD).flatten.length:=by rw [e6,List.length_append]
  have hT:(qD s.forbids[k]).length=1+(gV iU s.forbids[k].cs).length+1:=by unfold qD;simp only [List.length_cons,List.length_append,List.length_nil];omega
  obtain ⟨la,ea,na⟩:=dL l6 (tm (B dK))
  obtain ⟨lb,eb⟩:∃y,y=la++gV iU s.forbids[k].cs:=⟨_,rfl⟩
  have nb:lb.length=la.length+(gV iU s.forbids[k].cs).length:=by rw [eb,List.length_append]
  obtain ⟨lc,ec,nc⟩:=dL lb (ts 59)
  conv=>whnf
  refine aA.held tab (.fl 0 (.fl 2 (.fl 3 (.fl 4 (.fl 5 (.fl 6 (.e1 1 [3,6] (.e1 7 [] (.e1 8 [] (.fl 9 .done)))))))))) (by kernel_rfl) ?_;conv=>whnf
  (try refine gR ?_);conv=>whnf
  repeat ((first|(guard_target=_∧_;(first|refine oL ?_|refine oR ?_|refine oB ?_))|(guard_target=Exists _;refine oM ?_));(try intro _);conv=>whnf)
  conv=>whnf
  refine ⟨_,aK hk,?_⟩;conv=>whnf
  refine aV.callY (N6.gsub) (bB x6 ea (by omega)) (fun h U=>RoF.up U J6) [] sH ?CNa25 ?_
  case CNa25=>rfl
  rintro _ xa Ga ha2 Na Ja
  conv=>whnf
  try refine oB ?_
  (try refine gR ?_);conv=>whnf
  refine aV.callY (Na.gsub) (aJK xa _ eb (by omega)) (fun h U=>⟨RoF.up U Ja,RoF.up ((Now.step N.gsub (N6.trans Na)).trans U) (hP.below.f _ (List.getElem_mem hk))⟩) [] sH ?CNa26 ?_
  case CNa26=>rfl
  rintro _ xb Gb hb2 Nb Jb
  conv=>whnf
  try refine oB ?_
  (try refine gR ?_);conv=>whnf
  refine aV.callY (Nb.gsub) (cZ xb ec (by omega)) (fun h U=>RoF.up U Jb) [] sH ?CNa27 ?_
  case CNa27=>rfl
  rintro _ xc Gc hc2 Nc Jc
  conv=>whnf
  try refine oB ?_
  (try refine gR ?_);conv=>whnf
  (try refine gS ?_);conv=>whnf
  repeat ((first|(guard_target=_∧_;(first|refine oL ?_|refine oR ?_))|(guard_target=Exists _;refine oM ?_));(try intro _);conv=>whnf)
  have he:lc=l5++((s.forbids.take (k+1)).map qD).flatten:=by
   rw [ec,eb,ea,e6,hs];simp [qD,tw,tm]
  refine aA.subR [] (back (⟨k+1,lc,xc,_,Gc,hc2⟩) (by exact (⟨((N6.trans Na).trans Nb).trans Nc,hk,he,Jc⟩)) (by (try dsimp only);omega)) sH sH
 obtain ⟨N6,_,e6,J6⟩:=hJ
 have hk:k=s.forbids.length:=by omega
 rw [hk,List.take_length] at e6
 have n6:l6.length=l5.length+((s.forbids).map qD).flatten.length:=by rw [e6,List.length_append]
 clear back hk
 refine aA.subR (nx':=7) (l':=[(1,.ptr 0 0),(3,.v (x6.v l6.length)),(11,.v (.int .i64 0))]) (H':=[(0,.cells 32 [.buf 1,.buf 2,.buf 3,.buf 4,.buf 5,.buf 6,.v vR,.v vS]),(1,.ro 8 (fQ s.units)),(2,.ro 6 (rws It.row s.items)),(3,.ro 1 (jY s.plants)),(4,.ro 4 (rws Mc.row s.machines)),(5,.ro 2 (rws OpV.row s.options)),(6,.ro 1 (rws FbV.row s.forbids))]) [] ?_ sH sH
 have m7:=hP.R.len
 have y7:=aG RcV.row s.recipes
 refine aA.nameCell (fun _ x=>x) 0 6 (by exact RoF.up ((Now.step N.gsub N6).trans ⟨N6.gsub,fun _ _=>rfl⟩) hP.R) ?_
 conv=>whnf
 (try refine gS ?_);conv=>whnf
 refine aA.subR [] (aA.loopB (fun (⟨k,l7,x7,F7,G7,h7⟩:Nat×List Tok×Hd×(Nat→Prop)×(Nat→Prop)×Array Obj)=>(F7,h7)) (fun (⟨k,l7,x7,F7,G7,h7⟩:Nat×List Tok×Hd×(Nat→Prop)×(Nat→Prop)×Array Obj)=>[(1,.ptr 0 0),(3,.v (x7.v l7.length)),(11,.v (.int .i64 k))]) (fun (⟨k,l7,x7,F7,G7,h7⟩:Nat×List Tok×Hd×(Nat→Prop)×(Nat→Prop)×Array Obj)=>[(0,.cells 32 [.buf 1,.buf 2,.buf 3,.buf 4,.buf 5,.buf 6,.buf 7,.v vS]),(1,.ro 8 (fQ s.units)),(2,.ro 6 (rws It.row s.items)),(3,.ro 1 (jY s.plants)),(4,.ro 4 (rws Mc.row s.machines)),(5,.ro 2 (rws OpV.row s.options)),(6,.ro 1 (rws FbV.row s.forbids)),(7,.ro 17 (rws RcV.row s.recipes))]) 8 (fun (⟨k,l7,x7,F7,G7,h7⟩:Nat×List Tok×Hd×(Nat→Prop)×(Nat→Prop)×Array Obj)=>Now F G h F7 G7 h7∧k≤s.recipes.length∧l7=l6++((s.recipes.take k).map uK).flatten∧WrJ l7 x7 G7 h7) (fun (⟨k,l7,x7,F7,G7,h7⟩:Nat×List Tok×Hd×(Nat→Prop)×(Nat→Prop)×Array Obj)=>s.recipes.length - k) ?round29 (⟨0,l6,x6,_,G6,h6⟩) ?J029) sH sH
 case J029=>exact (⟨N6,Nat.zero_le _,by simp,J6⟩)
 rintro ⟨k,l7,x7,F7,G7,h7⟩ hJ back
 try dsimp only at hJ back
 conv=>whnf
 try dsimp only
 refine gS ?_;conv=>whnf
 refine ⟨fun hk=>?_,fun hk=>?_⟩<;>conv=>whnf
 ·obtain ⟨N7,_,e7,J7⟩:=hJ
  have hk:k<s.recipes.length:=by omega
  have hs:=iO (T:=uK) hk
  have hle:=nJ (T:=uK) (l:=s.recipes) (k:=k+1) hk
  rw [hs,List.length_append] at hle
  have n7:l7.length=l6.length+((s.recipes.take k).map uK).flatten.length:=by rw [e7,List.length_append]
  obtain ⟨lc,ec⟩:∃y,y=l7++uK s.recipes[k]:=⟨_,rfl⟩
  have nc:lc.length=l7.length+(uK s.recipes[k]).length:=by rw [ec,List.length_append]
  conv=>whnf
  repeat ((first|(guard_target=_∧_;(first|refine oL ?_|refine oR ?_))|(guard_target=Exists _;refine oM ?_));(try intro _);conv=>whnf)
  refine ⟨_,aK hk,?_⟩;conv=>whnf
  try (refine oN ?_;conv=>whnf)
  refine aA.callY (N7.gsub) (aOZ x7 ec (by omega)) (fun h U=>⟨RoF.up U J7,(hP.below.r _ (List.getElem_mem hk)).up ((Now.step N.gsub N7).trans U)⟩) [] sH ?CNa30 ?_
  case CNa30=>rfl
  rintro _ xc Gc hc2 Nc Jc
  conv=>whnf
  (try refine gS ?_);conv=>whnf
  repeat ((first|(guard_target=_∧_;(first|refine oL ?_|refine oR ?_))|(guard_target=Exists _;refine oM ?_));(try intro _);conv=>whnf)
  have he:lc=l6++((s.recipes.take (k+1)).map uK).flatten:=by rw [ec,e7,hs,List.append_assoc]
  refine aA.subR [] (back (⟨k+1,lc,xc,_,Gc,hc2⟩) (by exact (⟨N7.trans Nc,hk,he,Jc⟩)) (by (try dsimp only);omega)) sH sH
 obtain ⟨N7,_,e7,J7⟩:=hJ
 have hk:k=s.recipes.length:=by omega
 rw [hk,List.take_length] at e7
 have n7:l7.length=l6.length+((s.recipes).map uK).flatten.length:=by rw [e7,List.length_append]
 clear back hk
 refine aA.subR (nx':=8) (l':=[(1,.ptr 0 0),(3,.v (x7.v l7.length)),(12,.v (.int .i64 0))]) (H':=[(0,.cells 32 [.buf 1,.buf 2,.buf 3,.buf 4,.buf 5,.buf 6,.buf 7,.v vS]),(1,.ro 8 (fQ s.units)),(2,.ro 6 (rws It.row s.items)),(3,.ro 1 (jY s.plants)),(4,.ro 4 (rws Mc.row s.machines)),(5,.ro 2 (rws OpV.row s.options)),(6,.ro 1 (rws FbV.row s.forbids)),(7,.ro 17 (rws RcV.row s.recipes))]) [] ?_ sH sH
 have m8:=hP.S.len
 have y8:=aG Sw.row s.swaps
 refine aA.nameCell (fun _ x=>x) 0 7 (by exact RoF.up ((Now.step N.gsub N7).trans ⟨N7.gsub,fun _ _=>rfl⟩) hP.S) ?_
 conv=>whnf
 (try refine gS ?_);conv=>whnf
 refine aA.subR [] (aA.loopB (fun (⟨k,l8,x8,F8,G8,h8⟩:Nat×List Tok×Hd×(Nat→Prop)×(Nat→Prop)×Array Obj)=>(F8,h8)) (fun (⟨k,l8,x8,F8,G8,h8⟩:Nat×List Tok×Hd×(Nat→Prop)×(Nat→Prop)×Array Obj)=>[(1,.ptr 0 0),(3,.v (x8.v l8.length)),(12,.v (.int .i64 k))]) (fun (⟨k,l8,x8,F8,G8,h8⟩:Nat×List Tok×Hd×(Nat→Prop)×(Nat→Prop)×Array Obj)=>[(0,.cells 32 [.buf 1,.buf 2,.buf 3,.buf 4,.buf 5,.buf 6,.buf 7,.buf 8]),(1,.ro 8 (fQ s.units)),(2,.ro 6 (rws It.row s.items)),(3,.ro 1 (jY s.plants)),(4,.ro 4 (rws Mc.row s.machines)),(5,.ro 2 (rws OpV.row s.options)),(6,.ro 1 (rws FbV.row s.forbids)),(7,.ro 17 (rws RcV.row s.recipes)),(8,.ro 4 (rws Sw.row s.swaps))]) 9 (fun (⟨k,l8,x8,F8,G8,h8⟩:Nat×List Tok×Hd×(Nat→Prop)×(Nat→Prop)×Array Obj)=>Now F G h F8 G8 h8∧k≤s.swaps.length∧l8=l7++((s.swaps.take k).map qX).flatten∧WrJ l8 x8 G8 h8) (fun (⟨k,l8,x8,F8,G8,h8⟩:Nat×List Tok×Hd×(Nat→Prop)×(Nat→Prop)×Array Obj)=>s.swaps.length - k) ?round32 (⟨0,l7,x7,_,G7,h7⟩) ?J032) sH sH
 case J032=>exact (⟨N7,Nat.zero_le _,by simp,J7⟩)
 rintro ⟨k,l8,x8,F8,G8,h8⟩ hJ back
 try dsimp only at hJ back
 conv=>whnf
 try dsimp only
 refine gS ?_;conv=>whnf
 refine ⟨fun hk=>?_,fun hk=>?_⟩<;>conv=>whnf
 ·obtain ⟨N8,_,e8,J8⟩:=hJ
  have hk:k<s.swaps.length:=by omega
  have hs:=iO (T:=qX) hk
  have hle:=nJ (T:=qX) (l:=s.swaps) (k:=k+1) hk
  rw [hs,List.length_append] at hle
  have n8:l8.length=l7.length+((s.swaps.take k).map qX).flatten.length:=by rw [e8,List.length_append]
  have hT:(qX s.swaps[k]).length=5:=by rfl
  obtain ⟨la,ea,na⟩:=dL l8 (tm (B iC))
  obtain ⟨lb,eb,nb⟩:=dL la (tm (s.swaps[k].a))
  obtain ⟨lc,ec,nc⟩:=dL lb (tm (B aAU))
  obtain ⟨ld,ed,nd⟩:=dL lc (tm (s.swaps[k].b))
  obtain ⟨le,ee,ne⟩:=dL ld (ts 59)
  conv=>whnf
  refine aA.held tab (.fl 0 (.fl 2 (.fl 3 (.fl 4 (.fl 5 (.fl 6 (.fl 7 (.fl 10 (.fl 11 (.fl 12 (.fl 13 (.fl 14 (.fl 15 (.e1 1 [3,7,11,15] (.e1 8 [11,15] (.e1 9 [11,15] (.e1 16 [] (.e1 17 [] (.fl 18 .done))))))))))))))))))) (by kernel_rfl) ?_;conv=>whnf
  (try refine gR ?_);conv=>whnf
  repeat ((first|(guard_target=_∧_;(first|refine oL ?_|refine oR ?_|refine oB ?_))|(guard_target=Exists _;refine oM ?_));(try intro _);conv=>whnf)
  conv=>whnf
  refine ⟨_,aK hk,?_⟩;conv=>whnf
  try (refine And.intro (by first|omega|exact Nat.le_of_ble_eq_true rfl) ?_;(try intro _);conv=>whnf)
  conv=>whnf
  refine ⟨_,aK hk,?_⟩;conv=>whnf
  refine aV.callY (N8.gsub) (bB x8 ea (by omega)) (fun h U=>RoF.up U J8) [] sH ?CNa33 ?_
  case CNa33=>rfl
  rintro _ xa Ga ha2 Na Ja
  conv=>whnf
  try refine oB ?_
  (try refine gR ?_);conv=>whnf
  refine aV.callY (Na.gsub) (bB xa eb (by omega)) (fun h U=>RoF.up U Ja) [] sH ?CNa34 ?_
  case CNa34=>rfl
  rintro _ xb Gb hb2 Nb Jb
  conv=>whnf
  try refine oB ?_
  (try refine gR ?_);conv=>whnf
  refine aV.callY (Nb.gsub) (bB xb ec (by omega)) (fun h U=>RoF.up U Jb) [] sH ?CNa35 ?_
  case CNa35=>rfl
  rintro _ xc Gc hc2 Nc Jc
  conv=>whnf
  try refine oB ?_
  (try refine gR ?_);conv=>whnf
  refine aV.callY (Nc.gsub) (bB xc ed (by omega)) (fun h U=>RoF.up U Jc) [] sH ?CNa36 ?_
  case CNa36=>rfl
  rintro _ xd Gd hd2 Nd Jd
  conv=>whnf
  try refine oB ?_
  (try refine gR ?_);conv=>whnf
  refine aV.callY (Nd.gsub) (cZ xd ee (by omega)) (fun h U=>RoF.up U Jd) [] sH ?CNa37 ?_
  case CNa37=>rfl
  rintro _ xe Ge he2 Ne Je
  conv=>whnf
  try refine oB ?_
  (try refine gR ?_);conv=>whnf
  (try refine gS ?_);conv=>whnf
  repeat ((first|(guard_target=_∧_;(first|refine oL ?_|refine oR ?_))|(guard_target=Exists _;refine oM ?_));(try intro _);conv=>whnf)
  have he:le=l7++((s.swaps.take (k+1)).map qX).flatten:=by
   rw [ee,ed,ec,eb,ea,e8,hs];simp [qX,tw,tm]
  refine aA.subR [] (back (⟨k+1,le,xe,_,Ge,he2⟩) (by exact (⟨((((N8.trans Na).trans Nb).trans Nc).trans Nd).trans Ne,hk,he,Je⟩)) (by (try dsimp only);omega)) sH sH
 obtain ⟨N8,_,e8,J8⟩:=hJ
 have hk:k=s.swaps.length:=by omega
 rw [hk,List.take_length] at e8
 have n8:l8.length=l7.length+((s.swaps).map qX).flatten.length:=by rw [e8,List.length_append]
 clear back hk
 have ef:l8=jI s:=by
  rw [e8,e7,e6,e5,e4,e3,e2,e1];unfold jI;simp
 subst ef
 conv=>whnf
 try refine aA.retU ?_
 exact aE.ret tab Tryz.func34 rfl (eX (N8) (x8) (fun h U=>RoF.up U J8))
end
end Go.Proofs.YtgbeechjghajcaaGreatDoor
