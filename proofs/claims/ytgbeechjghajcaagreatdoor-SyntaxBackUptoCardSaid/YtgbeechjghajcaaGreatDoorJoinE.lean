/- Texts of this seat, joined: Package syntax: the parser's pieces. Package syntax: expect, fraction; definitions without lists. Package syntax: definiti -/
import Derived.Test.YtgbeechjghajcaaGreatDoorJoinD
set_option linter.unusedVariables false
set_option linter.unusedSimpArgs false
namespace Go.SynM
open Go Go.Fw Go.RatM Go.SrcM
open Go.Proofs.YtgbeechjghajcaaGreatDoor (Tok)
abbrev ix (L r:List Tok):Int:=((L.length - r.length:Nat):Int)
section
variable {L r:List Tok} {x:Tok}
theorem suf_tail (h:x::r <:+ L):r <:+ L:=(List.suffix_cons x r).trans h
theorem ix_succ (h:x::r <:+ L):ix L (x::r)+1=ix L r:=by
 have:=suf_len h
 simp only [List.length_cons] at this
 show ((L.length - (r.length+1):Nat):Int)+1=((L.length - r.length:Nat):Int)
 omega
theorem ix_lt (h:x::r <:+ L):0≤ix L (x::r)∧ix L (x::r)<L.length:=by
 have:=suf_len h
 simp only [List.length_cons] at this
 show (0:Int)≤((L.length - (r.length+1):Nat):Int)∧((L.length - (r.length+1):Nat):Int)<L.length
 omega
theorem ix_nil:ix L []=L.length:=by
 show ((L.length - 0:Nat):Int)=_
 rw [Nat.sub_zero]
theorem drop_ix (h:r <:+ L):L.drop (L.length - r.length)=r:=by
 obtain ⟨a,rfl⟩:=h
 rw [List.length_append,Nat.add_sub_cancel,List.drop_left]
theorem row_ix (h:x::r <:+ L):(L.map Tok.row)[(ix L (x::r)).toNat]? = some x.row:=by
 have e:(ix L (x::r)).toNat=L.length - (x::r).length:=Int.toNat_natCast _
 have:=drop_ix h
 rw [e,List.getElem?_map,←List.head?_drop,this];rfl
end
def isA (t:ByteArray):List Tok→Bool
 | []=>false
 |x::_=>decide (x.kind≠2∧x.text=t)
def skipA (t:ByteArray):P Unit:=fun r=>if isA t r then .ok () r.tail else .bad r 100
theorem isA_cons {t:ByteArray} {r:List Tok} (h:isA t r=true):∃x r',r=x::r':=by
 cases r with
 |nil=>cases h
 |cons x r=>exact ⟨x,r,rfl⟩
def skipsA:List ByteArray→P Unit
 | []=>pur ()
 |t::l=>bnd (skipA t) fun _=>skipsA l
end Go.SynM
namespace Go.Proofs.YtgbeechjghajcaaGreatDoor
open Go Go.Fw Go.NatM Go.RatM Go.SrcM Go.SynM
set_option maxRecDepth 100000
set_option maxHeartbeats 99999999
abbrev psB (src:ByteArray) (i:Int):Nat×Fw.Blk:=(0,.cells 67 [.v (.string src),.buf 1,.v (.int .i64 i),.buf 2,.buf 3,.buf 4,.buf 5,.buf 6,.buf 7,.buf 8,.buf 9])
abbrev tkB (L:List Tok):Nat×Fw.Blk:=(1,.own 47 4 (L.map Tok.row))
def failV (q:Int×Nat):List PanicEntry:=[{v:=.iface 63 (.agg #[.int .i64 q.1,.int .i64 (q.2:Int)]),recovered:=false}]
def outP {α:Type} (src:ByteArray) (L:List Tok) (f:α→SV) (n:Nat:=10):Rs α→OutS
 | .ok a r=>.ret (f a) n [psB src (ix L r),tkB L]
 | .bad r e=>.pan (failV (place src.size e r)) n [psB src (ix L r),tkB L]
section
variable (src:ByteArray) (L r:List Tok) (hr:r <:+ L)
include hr
theorem pfail_fn (e:Nat):FnS Tryz.prog 24 10 [.ptr 0 0,.v (.int .i64 (e:Int))] [psB src (ix L r),tkB L] (fun _:Unit=>True) (fun _=>.pan (failV (place src.size e r)) 10 [psB src (ix L r),tkB L]):=by
 have lm:(L.map Tok.row).length=L.length:=List.length_map _
 refine FnS.of Tryz.func24 (by kernel_rfl) rfl Tryz.ntmps24 rfl fun E0 F h w0 cs=>?_
 conv=>whnf
 refine gS ?_;conv=>whnf
 refine RunsS.held tab (.fl 0 (.fl 1 (.fl 2 (.fl 3 (.fl 4 (.fl 5 (.fl 6 (.fl 7 (.fl 8 (.fl 9 .done)))))))))) (by kernel_rfl) ?_;conv=>whnf
 (try refine gR ?_);conv=>whnf
 conv=>whnf
 cases r with
 |nil=>
  have e1:ix L []=L.length:=ix_nil
  refine ⟨fun h1=>?_,fun h1=>?_⟩<;>conv=>whnf
  ·try refine gR ?_
   conv=>whnf
   (try refine gS ?_);conv=>whnf
   refine RunsS.panicX (v:=.agg #[.int .i64 src.size,.int .i64 100]) ?_ (fun _=>rfl)
   exact UnwS.pan Tryz.func24 (EndS.mk (()) (trivial) [] sH rfl rfl (okPan rfl))
  exact absurd (by rw [e1,lm]) h1
 |cons x r=>
  have h2:=ix_lt hr
  refine ⟨fun h1=>?_,fun h1=>?_⟩<;>conv=>whnf
  ·omega
  (try refine gR ?_);conv=>whnf
  (try refine gS ?_);conv=>whnf
  refine RunsS.held tab (.fl 0 (.fl 1 (.fl 2 (.fl 3 (.fl 4 (.fl 5 (.fl 6 (.fl 7 (.fl 8 (.fl 9 (.fl 10 (.fl 11 (.fl 12 (.fl 13 (.e1 14 [] .done))))))))))))))) (by kernel_rfl) ?_;conv=>whnf
  (try refine gR ?_);conv=>whnf
  repeat ((first|(guard_target=_∧_;(first|refine oL ?_|refine oR ?_|refine oB ?_))|(guard_target=Exists _;refine oM ?_));(try intro _);conv=>whnf)
  conv=>whnf
  refine ⟨_,row_ix hr,?_⟩;conv=>whnf
  conv=>whnf
  refine EffR.panicX (v:=.agg #[.int .i64 x.pos,.int .i64 (e:Int)]) ?_ (fun _=>rfl)
  exact UnwS.pan Tryz.func24 (EndS.mk (()) (trivial) [] sH rfl rfl (okPan rfl))
theorem pis_fn (t:ByteArray):FnS Tryz.prog 122 10 [.ptr 0 0,.v (.string t)] [psB src (ix L r),tkB L] (fun _:Unit=>True) (fun _=>.ret (.v (.bool (isA t r))) 10 [psB src (ix L r),tkB L]):=by
 have lm:(L.map Tok.row).length=L.length:=List.length_map _
 refine FnS.of Tryz.func122 (by kernel_rfl) rfl Tryz.ntmps122 rfl fun E0 F h w0 cs=>?_
 conv=>whnf
 refine gS ?_;conv=>whnf
 refine RunsS.held tab (.fl 0 (.fl 1 (.fl 2 (.fl 3 (.fl 4 (.fl 5 (.fl 6 (.fl 7 (.fl 8 (.fl 9 (.fl 10 (.fl 11 (.fl 12 (.fl 13 (.fl 14 (.fl 15 (.fl 16 (.fl 17 (.fl 18 (.fl 19 (.fl 20 (.fl 21 (.fl 22 (.fl 23 (.fl 24 (.fl 25 (.fl 26 (.fl 27 (.fl 28 (.fl 29 (.fl 30 (.fl 31 (.fl 32 (.fl 33 (.fl 34 (.fl 35 (.fl 36 (.fl 37 (.fl 38 (.fl 39 .done)))))))))))))))))))))))))))))))))))))))) (by kernel_rfl) ?_;conv=>whnf
 (try refine gR ?_);conv=>whnf
 conv=>whnf
 cases r with
 |nil=>
  have e1:ix L []=L.length:=ix_nil
  refine And.intro (fun hp=>absurd hp ((by rw [e1,lm];omega))) (fun _=>?_)
  conv=>whnf
  (try refine gS ?_);conv=>whnf
  try refine RunsS.retU ?_
  exact UnwS.ret tab Tryz.func122 rfl (eN () trivial)
 |cons x r=>
  have h2:=ix_lt hr
  refine And.intro (fun _=>?_) (fun hn=>absurd ((by rw [lm];exact h2.2)) hn)
  conv=>whnf
  repeat ((first|(guard_target=_∧_;(first|refine oL ?_|refine oR ?_|refine oB ?_))|(guard_target=Exists _;refine oM ?_));(try intro _);conv=>whnf)
  conv=>whnf
  refine ⟨_,row_ix hr,?_⟩;conv=>whnf
  conv=>whnf
  refine ⟨fun hk=>?_,fun hk=>?_⟩<;>conv=>whnf
  ·try refine gR ?_
   conv=>whnf
   (try refine gS ?_);conv=>whnf
   try refine RunsS.retU ?_
   exact UnwS.ret tab Tryz.func122 rfl (EndS.mk (()) (trivial) [] sH rfl rfl (okRet rfl (congrArg (fun b=>SV.v (Value.bool b)) ((decide_eq_false fun h=>h.1 hk).symm))))
  (try refine gR ?_);conv=>whnf
  repeat ((first|(guard_target=_∧_;(first|refine oL ?_|refine oR ?_|refine oB ?_))|(guard_target=Exists _;refine oM ?_));(try intro _);conv=>whnf)
  conv=>whnf
  refine ⟨_,row_ix hr,?_⟩;conv=>whnf
  conv=>whnf
  (try refine gS ?_);conv=>whnf
  (try refine gS ?_);conv=>whnf
  try refine RunsS.retU ?_
  exact UnwS.ret tab Tryz.func122 rfl (EndS.mk (()) (trivial) [] sH rfl rfl (okRet rfl (congrArg (fun b=>SV.v (Value.bool b)) ((decide_eq_decide.2 ⟨fun h=>⟨hk,h⟩,fun h=>h.2⟩:decide (x.text=t)=decide (x.kind≠2∧x.text=t))))))
theorem pname_fn (hL:L.length≤65536):FnS Tryz.prog 121 10 [.ptr 0 0] [psB src (ix L r),tkB L] (fun x:Rs ByteArray=>x=nameP r) (outP src L fun a=>.v (.string a)):=by
 have lm:(L.map Tok.row).length=L.length:=List.length_map _
 refine FnS.of Tryz.func121 (by kernel_rfl) rfl Tryz.ntmps121 rfl fun E0 F h w0 cs=>?_
 conv=>whnf
 refine gS ?_;conv=>whnf
 refine RunsS.held tab (.fl 0 (.fl 1 (.fl 2 (.fl 3 (.fl 4 (.fl 5 (.fl 6 (.fl 7 (.fl 8 (.fl 9 (.fl 10 (.fl 11 (.fl 12 (.fl 13 (.fl 14 (.fl 15 (.fl 16 (.fl 17 (.fl 18 (.fl 19 (.fl 20 (.fl 21 (.fl 22 (.fl 23 .done)))))))))))))))))))))))) (by kernel_rfl) ?_;conv=>whnf
 (try refine gR ?_);conv=>whnf
 conv=>whnf
 cases r with
 |nil=>
  have e1:ix L []=L.length:=ix_nil
  refine And.intro (fun _=>?_) (fun hn=>absurd ((by rw [e1,lm])) hn)
  conv=>whnf
  (try refine gS ?_);conv=>whnf
  refine RunsS.callN (pfail_fn src L [] hr 100) [0,1,2,3,4,5,6,7,8,9] ?_ sH ?CNa1
  case CNa1=>rfl
  intro _ _
  conv=>whnf
  exact UnwS.pan Tryz.func121 (EndS.mk ((Rs.bad [] 100:Rs ByteArray)) ((by rfl)) [] sH rfl rfl (okPan rfl))
 |cons x r=>
  have h2:=ix_lt hr
  refine And.intro (fun hp=>absurd hp ((by rw [lm];omega))) (fun _=>?_)
  conv=>whnf
  repeat ((first|(guard_target=_∧_;(first|refine oL ?_|refine oR ?_|refine oB ?_))|(guard_target=Exists _;refine oM ?_));(try intro _);conv=>whnf)
  conv=>whnf
  refine ⟨_,row_ix hr,?_⟩;conv=>whnf
  conv=>whnf
  refine ⟨fun hk=>?_,fun hk=>?_⟩<;>conv=>whnf
  ·try refine gR ?_
   conv=>whnf
   (try refine gS ?_);conv=>whnf
   repeat ((first|(guard_target=_∧_;(first|refine oL ?_|refine oR ?_))|(guard_target=Exists _;refine oM ?_));(try intro _);conv=>whnf)
   refine RunsS.held tab (.fl 0 (.fl 1 (.fl 2 (.fl 3 (.fl 4 (.fl 5 (.fl 6 (.fl 7 (.fl 8 (.fl 9 (.fl 10 (.fl 11 (.fl 12 .done))))))))))))) (by kernel_rfl) ?_;conv=>whnf
   (try refine gR ?_);conv=>whnf
   repeat ((first|(guard_target=_∧_;(first|refine oL ?_|refine oR ?_|refine oB ?_))|(guard_target=Exists _;refine oM ?_));(try intro _);conv=>whnf)
   conv=>whnf
   refine ⟨_,(by rw [Int.add_sub_cancel];exact row_ix hr),?_⟩;conv=>whnf
   conv=>whnf
   (try refine gS ?_);conv=>whnf
   rw [ix_succ hr]
   conv=>whnf
   (try refine gS ?_);conv=>whnf
   try refine RunsS.retU ?_
   exact UnwS.ret tab Tryz.func121 rfl (EndS.mk ((Rs.ok x.text r)) ((by simp only [nameP,if_pos hk])) [] sH rfl rfl (okRet rfl rfl))
  (try refine gR ?_);conv=>whnf
  (try refine gS ?_);conv=>whnf
  refine RunsS.callN (pfail_fn src L (x::r) hr 100) [0,1,2,3,4,5,6,7,8,9] ?_ sH ?CNa2
  case CNa2=>rfl
  intro _ _
  conv=>whnf
  exact UnwS.pan Tryz.func121 (EndS.mk ((Rs.bad (x::r) 100:Rs ByteArray)) ((by simp only [nameP,if_neg hk])) [] sH rfl rfl (okPan rfl))
theorem pnumber_fn (hL:L.length≤65536):FnS Tryz.prog 125 10 [.ptr 0 0] [psB src (ix L r),tkB L] (fun x:Rs Int=>x=numP r) (outP src L fun a=>.v (.int .i64 a)):=by
 have lm:(L.map Tok.row).length=L.length:=List.length_map _
 refine FnS.of Tryz.func125 (by kernel_rfl) rfl Tryz.ntmps125 rfl fun E0 F h w0 cs=>?_
 conv=>whnf
 refine gS ?_;conv=>whnf
 refine RunsS.held tab (.fl 0 (.fl 1 (.fl 2 (.fl 3 (.fl 4 (.fl 5 (.fl 6 (.fl 7 (.fl 8 (.fl 9 (.fl 10 (.fl 11 (.fl 12 (.fl 13 (.fl 14 (.fl 15 (.fl 16 (.fl 17 (.fl 18 (.fl 19 (.fl 20 (.fl 21 (.fl 22 (.fl 23 (.fl 24 (.fl 25 (.fl 26 (.fl 27 (.fl 28 (.fl 29 (.fl 30 (.fl 31 (.fl 32 (.fl 33 (.fl 34 (.fl 35 (.fl 36 (.fl 37 .done)))))))))))))))))))))))))))))))))))))) (by kernel_rfl) ?_;conv=>whnf
 (try refine gR ?_);conv=>whnf
 conv=>whnf
 cases r with
 |nil=>
  have e1:ix L []=L.length:=ix_nil
  refine And.intro (fun _=>?_) (fun hn=>absurd ((by rw [e1,lm])) hn)
  conv=>whnf
  (try refine gS ?_);conv=>whnf
  refine RunsS.callN (pfail_fn src L [] hr 100) [0,1,2,3,4,5,6,7,8,9] ?_ sH ?CNa3
  case CNa3=>rfl
  intro _ _
  conv=>whnf
  exact UnwS.pan Tryz.func125 (EndS.mk ((Rs.bad [] 100:Rs Int)) ((by rfl)) [] sH rfl rfl (okPan rfl))
 |cons x r=>
  have h2:=ix_lt hr
  refine And.intro (fun hp=>absurd hp ((by rw [lm];omega))) (fun _=>?_)
  conv=>whnf
  repeat ((first|(guard_target=_∧_;(first|refine oL ?_|refine oR ?_|refine oB ?_))|(guard_target=Exists _;refine oM ?_));(try intro _);conv=>whnf)
  conv=>whnf
  refine ⟨_,row_ix hr,?_⟩;conv=>whnf
  conv=>whnf
  refine ⟨fun hk=>?_,fun hk=>?_⟩<;>conv=>whnf
  ·try refine gR ?_
   conv=>whnf
   repeat ((first|(guard_target=_∧_;(first|refine oL ?_|refine oR ?_|refine oB ?_))|(guard_target=Exists _;refine oM ?_));(try intro _);conv=>whnf)
   conv=>whnf
   refine ⟨_,row_ix hr,?_⟩;conv=>whnf
   conv=>whnf
   refine ⟨fun hn=>?_,fun hn=>?_⟩<;>conv=>whnf
   ·try refine gR ?_
    conv=>whnf
    (try refine gS ?_);conv=>whnf
    refine RunsS.callN (pfail_fn src L (x::r) hr 100) [0,1,2,3,4,5,6,7,8,9] ?_ sH ?CNa4
    case CNa4=>rfl
    intro _ _
    conv=>whnf
    exact UnwS.pan Tryz.func125 (EndS.mk ((Rs.bad (x::r) 100:Rs Int)) ((by simp only [numP];rw [if_neg fun h=>by have:=h.2;omega])) [] sH rfl rfl (okPan rfl))
   (try refine gR ?_);conv=>whnf
   (try refine gS ?_);conv=>whnf
   repeat ((first|(guard_target=_∧_;(first|refine oL ?_|refine oR ?_))|(guard_target=Exists _;refine oM ?_));(try intro _);conv=>whnf)
   refine RunsS.held tab (.fl 0 (.fl 1 (.fl 2 (.fl 3 (.fl 4 (.fl 5 (.fl 6 (.fl 7 (.fl 8 (.fl 9 (.fl 10 (.fl 11 (.fl 12 .done))))))))))))) (by kernel_rfl) ?_;conv=>whnf
   (try refine gR ?_);conv=>whnf
   repeat ((first|(guard_target=_∧_;(first|refine oL ?_|refine oR ?_|refine oB ?_))|(guard_target=Exists _;refine oM ?_));(try intro _);conv=>whnf)
   conv=>whnf
   refine ⟨_,(by rw [Int.add_sub_cancel];exact row_ix hr),?_⟩;conv=>whnf
   conv=>whnf
   (try refine gS ?_);conv=>whnf
   rw [ix_succ hr]
   conv=>whnf
   (try refine gS ?_);conv=>whnf
   try refine RunsS.retU ?_
   exact UnwS.ret tab Tryz.func125 rfl (EndS.mk ((Rs.ok x.n r)) ((by simp only [numP];rw [if_pos ⟨hk,by omega⟩])) [] sH rfl rfl (okRet rfl rfl))
  (try refine gR ?_);conv=>whnf
  (try refine gS ?_);conv=>whnf
  refine RunsS.callN (pfail_fn src L (x::r) hr 100) [0,1,2,3,4,5,6,7,8,9] ?_ sH ?CNa5
  case CNa5=>rfl
  intro _ _
  conv=>whnf
  exact UnwS.pan Tryz.func125 (EndS.mk ((Rs.bad (x::r) 100:Rs Int)) ((by simp only [numP];rw [if_neg fun h=>hk h.1])) [] sH rfl rfl (okPan rfl))
theorem pfurther_fn (hL:L.length≤65536) (n m:Int) (hne:r ≠ []):FnS Tryz.prog 120 10 [.ptr 0 0,.v (.int .i64 n),.v (.int .i64 m)] [psB src (ix L r),tkB L] (fun x:Rs Unit=>x=if m≤n then .bad r 2 else .ok () r.tail) (outP src L fun _=>.tup []):=by
 refine FnS.of Tryz.func120 (by kernel_rfl) rfl Tryz.ntmps120 rfl fun E0 F h w0 cs=>?_
 conv=>whnf
 refine gS ?_;conv=>whnf
 obtain ⟨x,r,rfl⟩:∃x r',r=x::r':=by cases r with|nil=>exact absurd rfl hne|cons x r=>exact ⟨x,r,rfl⟩
 have h2:=ix_lt hr
 refine ⟨fun hk=>?_,fun hk=>?_⟩<;>conv=>whnf
 ·try refine gS ?_
  conv=>whnf
  refine RunsS.callN (pfail_fn src L (x::r) hr 2) [0,1,2,3,4,5,6,7,8,9] ?_ sH ?CNa6
  case CNa6=>rfl
  intro _ _
  conv=>whnf
  exact UnwS.pan Tryz.func120 (EndS.mk ((Rs.bad (x::r) 2:Rs Unit)) ((by rw [if_pos (by omega)])) [] sH rfl rfl (okPan rfl))
 (try refine gS ?_);conv=>whnf
 repeat ((first|(guard_target=_∧_;(first|refine oL ?_|refine oR ?_))|(guard_target=Exists _;refine oM ?_));(try intro _);conv=>whnf)
 rw [ix_succ hr]
 try refine RunsS.finU ?_
 exact UnwS.ret tab Tryz.func120 rfl (EndS.mk ((Rs.ok () r:Rs Unit)) ((by rw [if_neg (by omega)];rfl)) [] sH rfl rfl (okRet rfl rfl))
end
end Go.Proofs.YtgbeechjghajcaaGreatDoor

namespace Go.SynM
open Go Go.Fw Go.RatM Go.SrcM
open Go.Proofs.YtgbeechjghajcaaGreatDoor (Tok)
structure KL (N:ByteArray→Prop) (L:List Tok):Prop where
 k:∀x∈L,(x.kind=1∧N x.text)∨(x.kind=2∧0≤x.n)∨(x.kind=3 ∧ ¬N x.text)
section
variable {N:ByteArray→Prop} {L r:List Tok} (K:KL N L) (hr:r <:+ L)
include K hr
theorem isA_w {t:ByteArray} (h:N t):isA t r=isT 1 t r:=by
 cases r with
 |nil=>rfl
 |cons x r=>
  show decide _=decide _
  rw [decide_eq_decide]
  rcases K.k x (hr.subset (List.mem_cons_self ..)) with h1|h1|h1
  ·exact ⟨fun h2=>⟨h1.1,h2.2⟩,fun h2=>⟨by omega,h2.2⟩⟩
  ·exact ⟨fun h2=>absurd h1.1 h2.1,fun h2=>by omega⟩
  exact ⟨fun h2=>absurd (h2.2▸h) h1.2,fun h2=>by omega⟩
theorem isA_s {t:ByteArray} (h:¬N t):isA t r=isT 3 t r:=by
 cases r with
 |nil=>rfl
 |cons x r=>
  show decide _=decide _
  rw [decide_eq_decide]
  rcases K.k x (hr.subset (List.mem_cons_self ..)) with h1|h1|h1
  ·exact ⟨fun h2=>absurd (h2.2▸h1.2) h,fun h2=>by omega⟩
  ·exact ⟨fun h2=>absurd h1.1 h2.1,fun h2=>by omega⟩
  exact ⟨fun h2=>⟨h1.1,h2.2⟩,fun h2=>⟨by omega,h2.2⟩⟩
theorem skipA_w {t:ByteArray} (h:N t):skipA t r=skip 1 t r:=by unfold skipA skip;rw [isA_w K hr h]
theorem skipA_s {t:ByteArray} (h:¬N t):skipA t r=skip 3 t r:=by unfold skipA skip;rw [isA_s K hr h]
theorem skips_w {t:ByteArray} (h:N t):skipsA [t] r=skip 1 t r:=by
 rw [←skipA_w K hr h]
 simp only [skipsA,bnd,pur]
 cases skipA t r<;>rfl
theorem skips_s {t:ByteArray} (h:¬N t):skipsA [t] r=skip 3 t r:=by
 rw [←skipA_s K hr h]
 simp only [skipsA,bnd,pur]
 cases skipA t r<;>rfl
end
end Go.SynM
namespace Go.Proofs.YtgbeechjghajcaaGreatDoor
open Go Go.Fw Go.NatM Go.RatM Go.SrcM Go.SynM
set_option maxRecDepth 100000
set_option maxHeartbeats 99999999
section
variable (src:ByteArray) (L r:List Tok) (hr:r <:+ L) (hL:L.length≤65536)
include hr hL
theorem pexpect_fn (ts:List ByteArray) (h2:ts.length≤2):FnS Tryz.prog 124 11 [.ptr 0 0,.buf 10] [psB src (ix L r),tkB L,(10,.own 9 1 (rwsB ts))] (fun x:Rs Unit=>x=skipsA ts r) (outP src L (fun _=>.tup []) 11):=by
 have lt:=rwsB_len ts
 refine FnS.of Tryz.func124 (by kernel_rfl) rfl Tryz.ntmps124 rfl fun E0 F h w0 cs=>?_
 conv=>whnf
 refine gS ?_;conv=>whnf
 refine RunsS.subR [] (RunsS.loop (fun (⟨i,q⟩:Nat×List Tok)=>[(0,.ptr 0 0),(6,.buf 10),(7,.v (.int .i64 (rwsB ts).length)),(8,.v (.int .i64 i))]) (fun (⟨i,q⟩:Nat×List Tok)=>[psB src (ix L q),tkB L,(10,.own 9 1 (rwsB ts))]) 11 (fun (⟨i,q⟩:Nat×List Tok)=>(i≤ts.length∧q <:+ L)∧skipsA ts r=skipsA (ts.drop i) q) (fun (⟨i,q⟩:Nat×List Tok)=>ts.length - i) ?round1 ((0,r)) ?J01) sH sH
 case J01=>exact (⟨⟨Nat.zero_le _,hr⟩,rfl⟩)
 rintro ⟨i,q⟩ hJ back
 try dsimp only at hJ back
 conv=>whnf
 try dsimp only
 refine gS ?_;conv=>whnf
 obtain ⟨⟨hi,hq⟩,hJ⟩:=hJ
 refine ⟨fun hk=>?_,fun hk=>?_⟩<;>conv=>whnf
 ·have hk:i<ts.length:=by omega
  conv=>whnf
  repeat ((first|(guard_target=_∧_;(first|refine oL ?_|refine oR ?_))|(guard_target=Exists _;refine oM ?_));(try intro _);conv=>whnf)
  refine ⟨_,rws_get hk,?_⟩;conv=>whnf
  refine RunsS.callN (pis_fn src L q hq ts[i]) [0,1,2,3,4,5,6,7,8,9] ?_ sH ?CNa2
  case CNa2=>rfl
  intro _ _
  conv=>whnf
  (try refine gS ?_);conv=>whnf
  have hd:ts.drop i=ts[i]::ts.drop (i+1):=List.drop_eq_getElem_cons hk
  cases hA:isA ts[i] q with
  |false=>
   (try refine gS ?_);conv=>whnf
   refine RunsS.callN (pfail_fn src L q hq 100) [0,1,2,3,4,5,6,7,8,9] ?_ sH ?CNa3
   case CNa3=>rfl
   intro _ _
   conv=>whnf
   exact UnwS.pan Tryz.func124 (EndS.mk ((Rs.bad q 100:Rs Unit)) ((by rw [hJ,hd];simp only [skipsA,bnd,skipA,hA];rfl)) [] sH rfl rfl (okPan rfl))
  |true=>
   obtain ⟨x,q',rfl⟩:=isA_cons hA
   have h3:=ix_lt hq
   conv=>whnf
   repeat ((first|(guard_target=_∧_;(first|refine oL ?_|refine oR ?_))|(guard_target=Exists _;refine oM ?_));(try intro _);conv=>whnf)
   rw [ix_succ hq]
   refine RunsS.subR [] (back ((i+1,q')) (by exact (⟨⟨hk,suf_tail hq⟩,by rw [hJ,hd];simp only [skipsA,bnd,skipA,hA];rfl⟩)) (by (try dsimp only);omega)) sH sH
 (try refine gS ?_);conv=>whnf
 have e:ts.drop i=[]:=List.drop_eq_nil_of_le (by omega)
 try refine RunsS.finU ?_
 exact UnwS.ret tab Tryz.func124 rfl (EndS.mk ((Rs.ok () q:Rs Unit)) ((by rw [hJ,e];rfl)) [] sH rfl rfl (okRet rfl rfl))
variable {N:ByteArray→Prop} (K:KL N L) (V:VocN N)
include K V
theorem pfrac_fn:FnS Tryz.prog 123 10 [.ptr 0 0] [psB src (ix L r),tkB L] (fun x:Rs (Int×Int)=>x=fracP r) (outP src L fun q=>.tup [.v (.int .i64 q.1),.v (.int .i64 q.2)]):=by
 refine FnS.of Tryz.func123 (by kernel_rfl) rfl Tryz.ntmps123 rfl fun E0 F h w0 cs=>?_
 conv=>whnf
 refine gS ?_;conv=>whnf
 refine RunsS.callN (pnumber_fn src L r hr hL) [0,1,2,3,4,5,6,7,8,9] ?_ sH ?CNa5
 case CNa5=>rfl
 rintro (⟨n,r1⟩|⟨r1,e1⟩) h1<;>conv=>whnf
 rotate_left
 ·try refine RunsS.panicU ?_
  exact UnwS.pan Tryz.func123 (EndS.mk ((Rs.bad r1 e1:Rs (Int×Int))) ((by unfold fracP;rw [bnd_bad h1.symm])) [] sH rfl rfl (okPan rfl))
 have s1:=(num_one.1.suf _ _ _ h1.symm).trans hr
 refine RunsS.subR (nx':=10) (l':=[(5,.v (.int .i64 n)),(0,.ptr 0 0)]) (H':=[psB src (ix L r1),tkB L]) [] ?_ sH sH
 (try refine gS ?_);conv=>whnf
 refine RunsS.callN (pexpect_fn src L r1 s1 hL [B [47]] (by decide)) [0,1,2,3,4,5,6,7,8,9,10] ?_ sH ?CNa6
 case CNa6=>rfl
 rintro (⟨_,r2⟩|⟨r2,e2⟩) h2<;>conv=>whnf
 all_goals rw [skips_s K s1 (V.s 47 (by decide))] at h2
 rotate_left
 ·try refine RunsS.panicU ?_
  exact UnwS.pan Tryz.func123 (EndS.mk ((Rs.bad r2 e2:Rs (Int×Int))) ((by unfold fracP;rw [bnd_ok h1.symm,bnd_bad h2.symm])) [] sH rfl rfl (okPan rfl))
 have s2:=((skip_one _ _).1.suf _ _ _ h2.symm).trans s1
 refine RunsS.subR (nx':=10) (l':=[(2,.v (.int .i64 n)),(0,.ptr 0 0)]) (H':=[psB src (ix L r2),tkB L]) [] ?_ sH sH
 (try refine gS ?_);conv=>whnf
 refine RunsS.callN (pnumber_fn src L r2 s2 hL) [0,1,2,3,4,5,6,7,8,9] ?_ sH ?CNa7
 case CNa7=>rfl
 rintro (⟨d,r3⟩|⟨r3,e3⟩) h3<;>conv=>whnf
 rotate_left
 ·try refine RunsS.panicU ?_
  exact UnwS.pan Tryz.func123 (EndS.mk ((Rs.bad r3 e3:Rs (Int×Int))) ((by unfold fracP;rw [bnd_ok h1.symm,bnd_ok h2.symm,bnd_bad h3.symm])) [] sH rfl rfl (okPan rfl))
 refine RunsS.subR (nx':=10) (l':=[(9,.v (.int .i64 n)),(11,.v (.int .i64 d)),(0,.ptr 0 0)]) (H':=[psB src (ix L r3),tkB L]) [] ?_ sH sH
 (try refine gS ?_);conv=>whnf
 try refine RunsS.retU ?_
 exact UnwS.ret tab Tryz.func123 rfl (EndS.mk ((Rs.ok (n,d) r3:Rs (Int×Int))) ((by unfold fracP;rw [bnd_ok h1.symm,bnd_ok h2.symm,bnd_ok h3.symm];rfl)) [] sH rfl rfl (okRet rfl rfl))
end
end Go.Proofs.YtgbeechjghajcaaGreatDoor

namespace Go.Proofs.YtgbeechjghajcaaGreatDoor
open Go Go.Fw Go.NatM Go.RatM Go.SrcM Go.SynM
set_option maxRecDepth 100000
set_option maxHeartbeats 99999999
section
variable (src:ByteArray) (L r:List Tok) (hr:r <:+ L) (hL:L.length≤65536) {N:ByteArray→Prop} (K:KL N L) (V:VocN N)
include hr hL K V
theorem pcond_fn:FnS Tryz.prog 128 10 [.ptr 0 0] [psB src (ix L r),tkB L] (fun x:Rs Cd=>x=condP r) (outP src L (fun x=>.agg (toV x.row)) 11):=by
 refine FnS.of Tryz.func128 (by kernel_rfl) rfl Tryz.ntmps128 rfl fun E0 F h w0 cs=>?_
 conv=>whnf
 refine gS ?_;conv=>whnf
 refine RunsS.callN (pname_fn src L r hr hL) [0,1,2,3,4,5,6,7,8,9] ?_ sH ?CNa1
 case CNa1=>rfl
 rintro (⟨a1,r1⟩|⟨r1,e1⟩) h1<;>conv=>whnf
 rotate_left
 ·try refine RunsS.panicU ?_
  exact UnwS.pan Tryz.func128 (EndS.mk ((Rs.bad r1 e1:Rs Cd)) ((by unfold condP;rw [bnd_bad h1.symm])) [] sH rfl rfl (okPan rfl))
 have s1:=(name_one.1.suf _ _ _ h1.symm).trans hr
 refine RunsS.subR (nx':=11) (l':=[(4,.v (.string a1)),(0,.ptr 0 0),(2,.ptr 10 0)]) (H':=[psB src (ix L r1),tkB L,(10,.cells 52 [.v (.string ⟨#[]⟩),.v (.string ⟨#[]⟩),.v (.int .i64 0),.v (.int .i64 0)])]) [] ?_ sH sH
 (try refine gS ?_);conv=>whnf
 refine RunsS.callN (pexpect_fn src L r1 s1 hL [B [61]] (by decide)) [0,1,2,3,4,5,6,7,8,9,11] ?_ sH ?CNa2
 case CNa2=>rfl
 rintro (⟨_,r2⟩|⟨r2,e2⟩) h2<;>conv=>whnf
 all_goals rw [skips_s K s1 (V.s 61 (by decide))] at h2
 rotate_left
 ·try refine RunsS.panicU ?_
  exact UnwS.pan Tryz.func128 (EndS.mk ((Rs.bad r2 e2:Rs Cd)) ((by unfold condP;rw [bnd_ok h1.symm,bnd_bad h2.symm])) [] sH rfl rfl (okPan rfl))
 have s2:=((skip_one _ _).1.suf _ _ _ h2.symm).trans s1
 refine RunsS.subR (nx':=11) (l':=[(0,.ptr 0 0),(2,.ptr 10 0)]) (H':=[psB src (ix L r2),tkB L,(10,.cells 52 [.v (.string a1),.v (.string ⟨#[]⟩),.v (.int .i64 0),.v (.int .i64 0)])]) [] ?_ sH sH
 (try refine gS ?_);conv=>whnf
 refine RunsS.callN (pname_fn src L r2 s2 hL) [0,1,2,3,4,5,6,7,8,9] ?_ sH ?CNa3
 case CNa3=>rfl
 rintro (⟨a3,r3⟩|⟨r3,e3⟩) h3<;>conv=>whnf
 rotate_left
 ·try refine RunsS.panicU ?_
  exact UnwS.pan Tryz.func128 (EndS.mk ((Rs.bad r3 e3:Rs Cd)) ((by unfold condP;rw [bnd_ok h1.symm,bnd_ok h2.symm,bnd_bad h3.symm])) [] sH rfl rfl (okPan rfl))
 have s3:=(name_one.1.suf _ _ _ h3.symm).trans s2
 refine RunsS.subR (nx':=11) (l':=[(10,.v (.string a3)),(0,.ptr 0 0),(2,.ptr 10 0)]) (H':=[psB src (ix L r3),tkB L,(10,.cells 52 [.v (.string a1),.v (.string ⟨#[]⟩),.v (.int .i64 0),.v (.int .i64 0)])]) [] ?_ sH sH
 (try refine gS ?_);conv=>whnf
 try refine RunsS.retU ?_
 exact UnwS.ret tab Tryz.func128 rfl (EndS.mk ((Rs.ok ⟨a1,a3,0,0⟩ r3:Rs Cd)) ((by unfold condP;rw [bnd_ok h1.symm,bnd_ok h2.symm,bnd_ok h3.symm];rfl)) [] sH rfl rfl (okRet rfl rfl))
theorem pswap_fn:FnS Tryz.prog 81 10 [.ptr 0 0] [psB src (ix L r),tkB L] (fun x:Rs Sw=>x=swapP r) (outP src L (fun x=>.agg (toV x.row)) 11):=by
 refine FnS.of Tryz.func81 (by kernel_rfl) rfl Tryz.ntmps81 rfl fun E0 F h w0 cs=>?_
 conv=>whnf
 refine gS ?_;conv=>whnf
 refine RunsS.callN (pname_fn src L r hr hL) [0,1,2,3,4,5,6,7,8,9] ?_ sH ?CNa4
 case CNa4=>rfl
 rintro (⟨a1,r1⟩|⟨r1,e1⟩) h1<;>conv=>whnf
 rotate_left
 ·try refine RunsS.panicU ?_
  exact UnwS.pan Tryz.func81 (EndS.mk ((Rs.bad r1 e1:Rs Sw)) ((by unfold swapP;rw [bnd_bad h1.symm])) [] sH rfl rfl (okPan rfl))
 have s1:=(name_one.1.suf _ _ _ h1.symm).trans hr
 refine RunsS.subR (nx':=11) (l':=[(4,.v (.string a1)),(0,.ptr 0 0),(2,.ptr 10 0)]) (H':=[psB src (ix L r1),tkB L,(10,.cells 89 [.v (.string ⟨#[]⟩),.v (.string ⟨#[]⟩),.v (.int .i64 0),.v (.int .i64 0)])]) [] ?_ sH sH
 (try refine gS ?_);conv=>whnf
 refine RunsS.callN (pexpect_fn src L r1 s1 hL [B wFor] (by decide)) [0,1,2,3,4,5,6,7,8,9,11] ?_ sH ?CNa5
 case CNa5=>rfl
 rintro (⟨_,r2⟩|⟨r2,e2⟩) h2<;>conv=>whnf
 all_goals rw [skips_w K s1 (V.w wFor (by simp))] at h2
 rotate_left
 ·try refine RunsS.panicU ?_
  exact UnwS.pan Tryz.func81 (EndS.mk ((Rs.bad r2 e2:Rs Sw)) ((by unfold swapP;rw [bnd_ok h1.symm,bnd_bad h2.symm])) [] sH rfl rfl (okPan rfl))
 have s2:=((skip_one _ _).1.suf _ _ _ h2.symm).trans s1
 refine RunsS.subR (nx':=11) (l':=[(0,.ptr 0 0),(2,.ptr 10 0)]) (H':=[psB src (ix L r2),tkB L,(10,.cells 89 [.v (.string a1),.v (.string ⟨#[]⟩),.v (.int .i64 0),.v (.int .i64 0)])]) [] ?_ sH sH
 (try refine gS ?_);conv=>whnf
 refine RunsS.callN (pname_fn src L r2 s2 hL) [0,1,2,3,4,5,6,7,8,9] ?_ sH ?CNa6
 case CNa6=>rfl
 rintro (⟨a3,r3⟩|⟨r3,e3⟩) h3<;>conv=>whnf
 rotate_left
 ·try refine RunsS.panicU ?_
  exact UnwS.pan Tryz.func81 (EndS.mk ((Rs.bad r3 e3:Rs Sw)) ((by unfold swapP;rw [bnd_ok h1.symm,bnd_ok h2.symm,bnd_bad h3.symm])) [] sH rfl rfl (okPan rfl))
 have s3:=(name_one.1.suf _ _ _ h3.symm).trans s2
 refine RunsS.subR (nx':=11) (l':=[(10,.v (.string a3)),(0,.ptr 0 0),(2,.ptr 10 0)]) (H':=[psB src (ix L r3),tkB L,(10,.cells 89 [.v (.string a1),.v (.string ⟨#[]⟩),.v (.int .i64 0),.v (.int .i64 0)])]) [] ?_ sH sH
 (try refine gS ?_);conv=>whnf
 refine RunsS.callN (pexpect_fn src L r3 s3 hL [B [59]] (by decide)) [0,1,2,3,4,5,6,7,8,9,11] ?_ sH ?CNa7
 case CNa7=>rfl
 rintro (⟨_,r4⟩|⟨r4,e4⟩) h4<;>conv=>whnf
 all_goals rw [skips_s K s3 (V.s 59 (by decide))] at h4
 rotate_left
 ·try refine RunsS.panicU ?_
  exact UnwS.pan Tryz.func81 (EndS.mk ((Rs.bad r4 e4:Rs Sw)) ((by unfold swapP;rw [bnd_ok h1.symm,bnd_ok h2.symm,bnd_ok h3.symm,bnd_bad h4.symm])) [] sH rfl rfl (okPan rfl))
 have s4:=((skip_one _ _).1.suf _ _ _ h4.symm).trans s3
 refine RunsS.subR (nx':=11) (l':=[(0,.ptr 0 0),(2,.ptr 10 0)]) (H':=[psB src (ix L r4),tkB L,(10,.cells 89 [.v (.string a1),.v (.string a3),.v (.int .i64 0),.v (.int .i64 0)])]) [] ?_ sH sH
 (try refine gS ?_);conv=>whnf
 try refine RunsS.retU ?_
 exact UnwS.ret tab Tryz.func81 rfl (EndS.mk ((Rs.ok ⟨a1,a3,0,0⟩ r4:Rs Sw)) ((by unfold swapP;rw [bnd_ok h1.symm,bnd_ok h2.symm,bnd_ok h3.symm,bnd_ok h4.symm];rfl)) [] sH rfl rfl (okRet rfl rfl))
theorem pmach_fn:FnS Tryz.prog 69 10 [.ptr 0 0] [psB src (ix L r),tkB L] (fun x:Rs Mc=>x=machP r) (outP src L (fun x=>.agg (toV x.row)) 11):=by
 refine FnS.of Tryz.func69 (by kernel_rfl) rfl Tryz.ntmps69 rfl fun E0 F h w0 cs=>?_
 conv=>whnf
 refine gS ?_;conv=>whnf
 refine RunsS.callN (pname_fn src L r hr hL) [0,1,2,3,4,5,6,7,8,9] ?_ sH ?CNa8
 case CNa8=>rfl
 rintro (⟨a1,r1⟩|⟨r1,e1⟩) h1<;>conv=>whnf
 rotate_left
 ·try refine RunsS.panicU ?_
  exact UnwS.pan Tryz.func69 (EndS.mk ((Rs.bad r1 e1:Rs Mc)) ((by unfold machP;rw [bnd_bad h1.symm])) [] sH rfl rfl (okPan rfl))
 have s1:=(name_one.1.suf _ _ _ h1.symm).trans hr
 refine RunsS.subR (nx':=11) (l':=[(4,.v (.string a1)),(0,.ptr 0 0),(2,.ptr 10 0)]) (H':=[psB src (ix L r1),tkB L,(10,.cells 85 [.v (.string ⟨#[]⟩),.v (.string ⟨#[]⟩),.v (.int .i64 0),.v (.int .i64 0)])]) [] ?_ sH sH
 (try refine gS ?_);conv=>whnf
 refine RunsS.callN (pexpect_fn src L r1 s1 hL [B wAt] (by decide)) [0,1,2,3,4,5,6,7,8,9,11] ?_ sH ?CNa9
 case CNa9=>rfl
 rintro (⟨_,r2⟩|⟨r2,e2⟩) h2<;>conv=>whnf
 all_goals rw [skips_w K s1 (V.w wAt (by simp))] at h2
 rotate_left
 ·try refine RunsS.panicU ?_
  exact UnwS.pan Tryz.func69 (EndS.mk ((Rs.bad r2 e2:Rs Mc)) ((by unfold machP;rw [bnd_ok h1.symm,bnd_bad h2.symm])) [] sH rfl rfl (okPan rfl))
 have s2:=((skip_one _ _).1.suf _ _ _ h2.symm).trans s1
 refine RunsS.subR (nx':=11) (l':=[(0,.ptr 0 0),(2,.ptr 10 0)]) (H':=[psB src (ix L r2),tkB L,(10,.cells 85 [.v (.string a1),.v (.string ⟨#[]⟩),.v (.int .i64 0),.v (.int .i64 0)])]) [] ?_ sH sH
 (try refine gS ?_);conv=>whnf
 refine RunsS.callN (pname_fn src L r2 s2 hL) [0,1,2,3,4,5,6,7,8,9] ?_ sH ?CNa10
 case CNa10=>rfl
 rintro (⟨a3,r3⟩|⟨r3,e3⟩) h3<;>conv=>whnf
 rotate_left
 ·try refine RunsS.panicU ?_
  exact UnwS.pan Tryz.func69 (EndS.mk ((Rs.bad r3 e3:Rs Mc)) ((by unfold machP;rw [bnd_ok h1.symm,bnd_ok h2.symm,bnd_bad h3.symm])) [] sH rfl rfl (okPan rfl))
 have s3:=(name_one.1.suf _ _ _ h3.symm).trans s2
 refine RunsS.subR (nx':=11) (l':=[(10,.v (.string a3)),(0,.ptr 0 0),(2,.ptr 10 0)]) (H':=[psB src (ix L r3),tkB L,(10,.cells 85 [.v (.string a1),.v (.string ⟨#[]⟩),.v (.int .i64 0),.v (.int .i64 0)])]) [] ?_ sH sH
 (try refine gS ?_);conv=>whnf
 refine RunsS.callN (pexpect_fn src L r3 s3 hL [B wClean] (by decide)) [0,1,2,3,4,5,6,7,8,9,11] ?_ sH ?CNa11
 case CNa11=>rfl
 rintro (⟨_,r4⟩|⟨r4,e4⟩) h4<;>conv=>whnf
 all_goals rw [skips_w K s3 (V.w wClean (by simp))] at h4
 rotate_left
 ·try refine RunsS.panicU ?_
  exact UnwS.pan Tryz.func69 (EndS.mk ((Rs.bad r4 e4:Rs Mc)) ((by unfold machP;rw [bnd_ok h1.symm,bnd_ok h2.symm,bnd_ok h3.symm,bnd_bad h4.symm])) [] sH rfl rfl (okPan rfl))
 have s4:=((skip_one _ _).1.suf _ _ _ h4.symm).trans s3
 refine RunsS.subR (nx':=11) (l':=[(0,.ptr 0 0),(2,.ptr 10 0)]) (H':=[psB src (ix L r4),tkB L,(10,.cells 85 [.v (.string a1),.v (.string a3),.v (.int .i64 0),.v (.int .i64 0)])]) [] ?_ sH sH
 (try refine gS ?_);conv=>whnf
 refine RunsS.callN (pnumber_fn src L r4 s4 hL) [0,1,2,3,4,5,6,7,8,9] ?_ sH ?CNa12
 case CNa12=>rfl
 rintro (⟨a5,r5⟩|⟨r5,e5⟩) h5<;>conv=>whnf
 rotate_left
 ·try refine RunsS.panicU ?_
  exact UnwS.pan Tryz.func69 (EndS.mk ((Rs.bad r5 e5:Rs Mc)) ((by unfold machP;rw [bnd_ok h1.symm,bnd_ok h2.symm,bnd_ok h3.symm,bnd_ok h4.symm,bnd_bad h5.symm])) [] sH rfl rfl (okPan rfl))
 have s5:=(num_one.1.suf _ _ _ h5.symm).trans s4
 refine RunsS.subR (nx':=11) (l':=[(16,.v (.int .i64 a5)),(0,.ptr 0 0),(2,.ptr 10 0)]) (H':=[psB src (ix L r5),tkB L,(10,.cells 85 [.v (.string a1),.v (.string a3),.v (.int .i64 0),.v (.int .i64 0)])]) [] ?_ sH sH
 (try refine gS ?_);conv=>whnf
 refine RunsS.callN (pexpect_fn src L r5 s5 hL [B [59]] (by decide)) [0,1,2,3,4,5,6,7,8,9,11] ?_ sH ?CNa13
 case CNa13=>rfl
 rintro (⟨_,r6⟩|⟨r6,e6⟩) h6<;>conv=>whnf
 all_goals rw [skips_s K s5 (V.s 59 (by decide))] at h6
 rotate_left
 ·try refine RunsS.panicU ?_
  exact UnwS.pan Tryz.func69 (EndS.mk ((Rs.bad r6 e6:Rs Mc)) ((by unfold machP;rw [bnd_ok h1.symm,bnd_ok h2.symm,bnd_ok h3.symm,bnd_ok h4.symm,bnd_ok h5.symm,bnd_bad h6.symm])) [] sH rfl rfl (okPan rfl))
 have s6:=((skip_one _ _).1.suf _ _ _ h6.symm).trans s5
 refine RunsS.subR (nx':=11) (l':=[(0,.ptr 0 0),(2,.ptr 10 0)]) (H':=[psB src (ix L r6),tkB L,(10,.cells 85 [.v (.string a1),.v (.string a3),.v (.int .i64 a5),.v (.int .i64 0)])]) [] ?_ sH sH
 (try refine gS ?_);conv=>whnf
 try refine RunsS.retU ?_
 exact UnwS.ret tab Tryz.func69 rfl (EndS.mk ((Rs.ok ⟨a1,a3,a5,0⟩ r6:Rs Mc)) ((by unfold machP;rw [bnd_ok h1.symm,bnd_ok h2.symm,bnd_ok h3.symm,bnd_ok h4.symm,bnd_ok h5.symm,bnd_ok h6.symm];rfl)) [] sH rfl rfl (okRet rfl rfl))
theorem prun_fn:FnS Tryz.prog 133 10 [.ptr 0 0] [psB src (ix L r),tkB L] (fun x:Rs Rn=>x=runP r) (outP src L (fun x=>.agg (toV x.row)) 11):=by
 refine FnS.of Tryz.func133 (by kernel_rfl) rfl Tryz.ntmps133 rfl fun E0 F h w0 cs=>?_
 conv=>whnf
 refine gS ?_;conv=>whnf
 refine RunsS.callN (pname_fn src L r hr hL) [0,1,2,3,4,5,6,7,8,9] ?_ sH ?CNa14
 case CNa14=>rfl
 rintro (⟨a1,r1⟩|⟨r1,e1⟩) h1<;>conv=>whnf
 rotate_left
 ·try refine RunsS.panicU ?_
  exact UnwS.pan Tryz.func133 (EndS.mk ((Rs.bad r1 e1:Rs Rn)) ((by unfold runP;rw [bnd_bad h1.symm])) [] sH rfl rfl (okPan rfl))
 have s1:=(name_one.1.suf _ _ _ h1.symm).trans hr
 refine RunsS.subR (nx':=11) (l':=[(4,.v (.string a1)),(0,.ptr 0 0),(2,.ptr 10 0)]) (H':=[psB src (ix L r1),tkB L,(10,.cells 58 [.v (.string ⟨#[]⟩),.v (.int .i64 0),.v (.int .i64 0)])]) [] ?_ sH sH
 (try refine gS ?_);conv=>whnf
 refine RunsS.callN (pnumber_fn src L r1 s1 hL) [0,1,2,3,4,5,6,7,8,9] ?_ sH ?CNa15
 case CNa15=>rfl
 rintro (⟨a2,r2⟩|⟨r2,e2⟩) h2<;>conv=>whnf
 rotate_left
 ·try refine RunsS.panicU ?_
  exact UnwS.pan Tryz.func133 (EndS.mk ((Rs.bad r2 e2:Rs Rn)) ((by unfold runP;rw [bnd_ok h1.symm,bnd_bad h2.symm])) [] sH rfl rfl (okPan rfl))
 have s2:=(num_one.1.suf _ _ _ h2.symm).trans s1
 refine RunsS.subR (nx':=11) (l':=[(7,.v (.int .i64 a2)),(0,.ptr 0 0),(2,.ptr 10 0)]) (H':=[psB src (ix L r2),tkB L,(10,.cells 58 [.v (.string a1),.v (.int .i64 0),.v (.int .i64 0)])]) [] ?_ sH sH
 (try refine gS ?_);conv=>whnf
 refine RunsS.callN (pexpect_fn src L r2 s2 hL [B [59]] (by decide)) [0,1,2,3,4,5,6,7,8,9,11] ?_ sH ?CNa16
 case CNa16=>rfl
 rintro (⟨_,r3⟩|⟨r3,e3⟩) h3<;>conv=>whnf
 all_goals rw [skips_s K s2 (V.s 59 (by decide))] at h3
 rotate_left
 ·try refine RunsS.panicU ?_
  exact UnwS.pan Tryz.func133 (EndS.mk ((Rs.bad r3 e3:Rs Rn)) ((by unfold runP;rw [bnd_ok h1.symm,bnd_ok h2.symm,bnd_bad h3.symm])) [] sH rfl rfl (okPan rfl))
 have s3:=((skip_one _ _).1.suf _ _ _ h3.symm).trans s2
 refine RunsS.subR (nx':=11) (l':=[(0,.ptr 0 0),(2,.ptr 10 0)]) (H':=[psB src (ix L r3),tkB L,(10,.cells 58 [.v (.string a1),.v (.int .i64 a2),.v (.int .i64 0)])]) [] ?_ sH sH
 (try refine gS ?_);conv=>whnf
 try refine RunsS.retU ?_
 exact UnwS.ret tab Tryz.func133 rfl (EndS.mk ((Rs.ok ⟨a1,a2,0⟩ r3:Rs Rn)) ((by unfold runP;rw [bnd_ok h1.symm,bnd_ok h2.symm,bnd_ok h3.symm];rfl)) [] sH rfl rfl (okRet rfl rfl))
theorem pout_fn:FnS Tryz.prog 131 10 [.ptr 0 0] [psB src (ix L r),tkB L] (fun x:Rs Am=>x=SynM.outP r) (outP src L (fun x=>.agg (toV x.row)) 11):=by
 refine FnS.of Tryz.func131 (by kernel_rfl) rfl Tryz.ntmps131 rfl fun E0 F h w0 cs=>?_
 conv=>whnf
 refine gS ?_;conv=>whnf
 refine RunsS.callN (pfrac_fn src L r hr hL K V) [0,1,2,3,4,5,6,7,8,9] ?_ sH ?CNa17
 case CNa17=>rfl
 rintro (⟨⟨a1,b1⟩,r1⟩|⟨r1,e1⟩) h1<;>conv=>whnf
 rotate_left
 ·try refine RunsS.panicU ?_
  exact UnwS.pan Tryz.func131 (EndS.mk ((Rs.bad r1 e1:Rs Am)) ((by unfold SynM.outP;rw [bnd_bad h1.symm])) [] sH rfl rfl (okPan rfl))
 have s1:=(frac_g.g.suf _ _ _ h1.symm).trans hr
 refine RunsS.subR (nx':=11) (l':=[(5,.tup [.v (.int .i64 a1),.v (.int .i64 b1)]),(0,.ptr 0 0),(2,.ptr 10 0)]) (H':=[psB src (ix L r1),tkB L,(10,.cells 55 [.v (.int .i64 0),.v (.int .i64 0),.v (.string ⟨#[]⟩),.v (.string ⟨#[]⟩),.v (.bool false),.v (.int .i64 0),.v (.int .i64 0)])]) [] ?_ sH sH
 (try refine gS ?_);conv=>whnf
 refine RunsS.callN (pname_fn src L r1 s1 hL) [0,1,2,3,4,5,6,7,8,9] ?_ sH ?CNa18
 case CNa18=>rfl
 rintro (⟨a2,r2⟩|⟨r2,e2⟩) h2<;>conv=>whnf
 rotate_left
 ·try refine RunsS.panicU ?_
  exact UnwS.pan Tryz.func131 (EndS.mk ((Rs.bad r2 e2:Rs Am)) ((by unfold SynM.outP;rw [bnd_ok h1.symm,bnd_bad h2.symm])) [] sH rfl rfl (okPan rfl))
 have s2:=(name_one.1.suf _ _ _ h2.symm).trans s1
 refine RunsS.subR (nx':=11) (l':=[(11,.v (.string a2)),(0,.ptr 0 0),(2,.ptr 10 0)]) (H':=[psB src (ix L r2),tkB L,(10,.cells 55 [.v (.int .i64 a1),.v (.int .i64 b1),.v (.string ⟨#[]⟩),.v (.string ⟨#[]⟩),.v (.bool false),.v (.int .i64 0),.v (.int .i64 0)])]) [] ?_ sH sH
 (try refine gS ?_);conv=>whnf
 refine RunsS.callN (pname_fn src L r2 s2 hL) [0,1,2,3,4,5,6,7,8,9] ?_ sH ?CNa19
 case CNa19=>rfl
 rintro (⟨a3,r3⟩|⟨r3,e3⟩) h3<;>conv=>whnf
 rotate_left
 ·try refine RunsS.panicU ?_
  exact UnwS.pan Tryz.func131 (EndS.mk ((Rs.bad r3 e3:Rs Am)) ((by unfold SynM.outP;rw [bnd_ok h1.symm,bnd_ok h2.symm,bnd_bad h3.symm])) [] sH rfl rfl (okPan rfl))
 have s3:=(name_one.1.suf _ _ _ h3.symm).trans s2
 refine RunsS.subR (nx':=11) (l':=[(14,.v (.string a3)),(0,.ptr 0 0),(2,.ptr 10 0)]) (H':=[psB src (ix L r3),tkB L,(10,.cells 55 [.v (.int .i64 a1),.v (.int .i64 b1),.v (.string a2),.v (.string ⟨#[]⟩),.v (.bool false),.v (.int .i64 0),.v (.int .i64 0)])]) [] ?_ sH sH
 (try refine gS ?_);conv=>whnf
 refine RunsS.callN (pexpect_fn src L r3 s3 hL [B [59]] (by decide)) [0,1,2,3,4,5,6,7,8,9,11] ?_ sH ?CNa20
 case CNa20=>rfl
 rintro (⟨_,r4⟩|⟨r4,e4⟩) h4<;>conv=>whnf
 all_goals rw [skips_s K s3 (V.s 59 (by decide))] at h4
 rotate_left
 ·try refine RunsS.panicU ?_
  exact UnwS.pan Tryz.func131 (EndS.mk ((Rs.bad r4 e4:Rs Am)) ((by unfold SynM.outP;rw [bnd_ok h1.symm,bnd_ok h2.symm,bnd_ok h3.symm,bnd_bad h4.symm])) [] sH rfl rfl (okPan rfl))
 have s4:=((skip_one _ _).1.suf _ _ _ h4.symm).trans s3
 refine RunsS.subR (nx':=11) (l':=[(0,.ptr 0 0),(2,.ptr 10 0)]) (H':=[psB src (ix L r4),tkB L,(10,.cells 55 [.v (.int .i64 a1),.v (.int .i64 b1),.v (.string a2),.v (.string a3),.v (.bool false),.v (.int .i64 0),.v (.int .i64 0)])]) [] ?_ sH sH
 (try refine gS ?_);conv=>whnf
 try refine RunsS.retU ?_
 exact UnwS.ret tab Tryz.func131 rfl (EndS.mk ((Rs.ok ⟨a1,b1,a2,a3,false,0,0⟩ r4:Rs Am)) ((by unfold SynM.outP;rw [bnd_ok h1.symm,bnd_ok h2.symm,bnd_ok h3.symm,bnd_ok h4.symm];rfl)) [] sH rfl rfl (okRet rfl rfl))
end
end Go.Proofs.YtgbeechjghajcaaGreatDoor

namespace Go.SynM
open Go Go.Fw Go.RatM Go.SrcM
open Go.Proofs.YtgbeechjghajcaaGreatDoor (Tok)
theorem optW_no {α:Type} {k:Int} {t:ByteArray} {a:α} {p:P α} {r:List Tok} (h:isT k t r=false):optP k t a p r=.ok a r:=if_neg (by rw [h];exact Bool.false_ne_true)
theorem optW_yes {α:Type} {k:Int} {t:ByteArray} {a:α} {p:P α} {x:Tok} {r:List Tok} {s:Rs α} (h:isT k t (x::r)=true) (hp:p r=s):optP k t a p (x::r)=s:=by rw [←hp];exact if_pos h
end Go.SynM
namespace Go.Proofs.YtgbeechjghajcaaGreatDoor
open Go Go.Fw Go.NatM Go.RatM Go.SrcM Go.SynM
set_option maxRecDepth 100000
set_option maxHeartbeats 99999999
section
variable (src:ByteArray) (L r:List Tok) (hr:r <:+ L) (hL:L.length≤65536) {N:ByteArray→Prop} (K:KL N L) (V:VocN N)
include hr hL K V
theorem pplant_fn:FnS Tryz.prog 66 10 [.ptr 0 0] [psB src (ix L r),tkB L] (fun x:Rs ByteArray=>x=plantP r) (outP src L (fun x=>.v (.string x)) 11):=by
 refine FnS.of Tryz.func66 (by kernel_rfl) rfl Tryz.ntmps66 rfl fun E0 F h w0 cs=>?_
 conv=>whnf
 refine gS ?_;conv=>whnf
 refine RunsS.callN (pname_fn src L r hr hL) [0,1,2,3,4,5,6,7,8,9] ?_ sH ?CNa1
 case CNa1=>rfl
 rintro (⟨a1,r1⟩|⟨r1,e1⟩) h1<;>conv=>whnf
 rotate_left
 ·try refine RunsS.panicU ?_
  exact UnwS.pan Tryz.func66 (EndS.mk ((Rs.bad r1 e1:Rs ByteArray)) ((by unfold plantP;rw [bnd_bad h1.symm])) [] sH rfl rfl (okPan rfl))
 have s1:=(name_one.1.suf _ _ _ h1.symm).trans hr
 refine RunsS.subR (nx':=10) (l':=[(5,.v (.string a1)),(0,.ptr 0 0)]) (H':=[psB src (ix L r1),tkB L]) [] ?_ sH sH
 (try refine gS ?_);conv=>whnf
 refine RunsS.callN (pexpect_fn src L r1 s1 hL [B [59]] (by decide)) [0,1,2,3,4,5,6,7,8,9,10] ?_ sH ?CNa2
 case CNa2=>rfl
 rintro (⟨_,r2⟩|⟨r2,e2⟩) h2<;>conv=>whnf
 all_goals rw [skips_s K s1 (V.s 59 (by decide))] at h2
 rotate_left
 ·try refine RunsS.panicU ?_
  exact UnwS.pan Tryz.func66 (EndS.mk ((Rs.bad r2 e2:Rs ByteArray)) ((by unfold plantP;rw [bnd_ok h1.symm,bnd_bad h2.symm])) [] sH rfl rfl (okPan rfl))
 (try refine gS ?_);conv=>whnf
 try refine RunsS.retU ?_
 exact UnwS.ret tab Tryz.func66 rfl (EndS.mk ((Rs.ok a1 r2:Rs ByteArray)) ((by unfold plantP;rw [bnd_ok h1.symm,bnd_ok h2.symm];rfl)) [] sH rfl rfl (okRet rfl rfl))
theorem pitem_fn:FnS Tryz.prog 63 10 [.ptr 0 0] [psB src (ix L r),tkB L] (fun x:Rs It=>x=itemP r) (outP src L (fun x=>.agg (toV x.row)) 11):=by
 refine FnS.of Tryz.func63 (by kernel_rfl) rfl Tryz.ntmps63 rfl fun E0 F h w0 cs=>?_
 conv=>whnf
 refine gS ?_;conv=>whnf
 refine RunsS.callN (pname_fn src L r hr hL) [0,1,2,3,4,5,6,7,8,9] ?_ sH ?CNa3
 case CNa3=>rfl
 rintro (⟨a1,r1⟩|⟨r1,e1⟩) h1<;>conv=>whnf
 rotate_left
 ·try refine RunsS.panicU ?_
  exact UnwS.pan Tryz.func63 (EndS.mk ((Rs.bad r1 e1:Rs It)) ((by unfold itemP;rw [bnd_bad h1.symm])) [] sH rfl rfl (okPan rfl))
 have s1:=(name_one.1.suf _ _ _ h1.symm).trans hr
 refine RunsS.subR (nx':=11) (l':=[(4,.v (.string a1)),(0,.ptr 0 0),(2,.ptr 10 0)]) (H':=[psB src (ix L r1),tkB L,(10,.cells 83 [.v (.string ⟨#[]⟩),.v (.string ⟨#[]⟩),.v (.int .i64 0),.v (.int .i64 0),.v (.int .i64 0),.v (.int .i64 0)])]) [] ?_ sH sH
 (try refine gS ?_);conv=>whnf
 refine RunsS.callN (pexpect_fn src L r1 s1 hL [B wIn] (by decide)) [0,1,2,3,4,5,6,7,8,9,11] ?_ sH ?CNa4
 case CNa4=>rfl
 rintro (⟨_,r2⟩|⟨r2,e2⟩) h2<;>conv=>whnf
 all_goals rw [skips_w K s1 (V.w wIn (by simp))] at h2
 rotate_left
 ·try refine RunsS.panicU ?_
  exact UnwS.pan Tryz.func63 (EndS.mk ((Rs.bad r2 e2:Rs It)) ((by unfold itemP;rw [bnd_ok h1.symm,bnd_bad h2.symm])) [] sH rfl rfl (okPan rfl))
 have s2:=((skip_one _ _).1.suf _ _ _ h2.symm).trans s1
 refine RunsS.subR (nx':=11) (l':=[(0,.ptr 0 0),(2,.ptr 10 0)]) (H':=[psB src (ix L r2),tkB L,(10,.cells 83 [.v (.string a1),.v (.string ⟨#[]⟩),.v (.int .i64 0),.v (.int .i64 0),.v (.int .i64 0),.v (.int .i64 0)])]) [] ?_ sH sH
 (try refine gS ?_);conv=>whnf
 refine RunsS.callN (pname_fn src L r2 s2 hL) [0,1,2,3,4,5,6,7,8,9] ?_ sH ?CNa5
 case CNa5=>rfl
 rintro (⟨a3,r3⟩|⟨r3,e3⟩) h3<;>conv=>whnf
 rotate_left
 ·try refine RunsS.panicU ?_
  exact UnwS.pan Tryz.func63 (EndS.mk ((Rs.bad r3 e3:Rs It)) ((by unfold itemP;rw [bnd_ok h1.symm,bnd_ok h2.symm,bnd_bad h3.symm])) [] sH rfl rfl (okPan rfl))
 have s3:=(name_one.1.suf _ _ _ h3.symm).trans s2
 refine RunsS.subR (nx':=11) (l':=[(10,.v (.string a3)),(0,.ptr 0 0),(2,.ptr 10 0)]) (H':=[psB src (ix L r3),tkB L,(10,.cells 83 [.v (.string a1),.v (.string ⟨#[]⟩),.v (.int .i64 0),.v (.int .i64 0),.v (.int .i64 0),.v (.int .i64 0)])]) [] ?_ sH sH
 (try refine gS ?_);conv=>whnf
 refine RunsS.callN (pexpect_fn src L r3 s3 hL [B wMass] (by decide)) [0,1,2,3,4,5,6,7,8,9,11] ?_ sH ?CNa6
 case CNa6=>rfl
 rintro (⟨_,r4⟩|⟨r4,e4⟩) h4<;>conv=>whnf
 all_goals rw [skips_w K s3 (V.w wMass (by simp))] at h4
 rotate_left
 ·try refine RunsS.panicU ?_
  exact UnwS.pan Tryz.func63 (EndS.mk ((Rs.bad r4 e4:Rs It)) ((by unfold itemP;rw [bnd_ok h1.symm,bnd_ok h2.symm,bnd_ok h3.symm,bnd_bad h4.symm])) [] sH rfl rfl (okPan rfl))
 have s4:=((skip_one _ _).1.suf _ _ _ h4.symm).trans s3
 refine RunsS.subR (nx':=11) (l':=[(0,.ptr 0 0),(2,.ptr 10 0)]) (H':=[psB src (ix L r4),tkB L,(10,.cells 83 [.v (.string a1),.v (.string a3),.v (.int .i64 0),.v (.int .i64 0),.v (.int .i64 0),.v (.int .i64 0)])]) [] ?_ sH sH
 (try refine gS ?_);conv=>whnf
 refine RunsS.callN (pfrac_fn src L r4 s4 hL K V) [0,1,2,3,4,5,6,7,8,9] ?_ sH ?CNa7
 case CNa7=>rfl
 rintro (⟨⟨a5,b5⟩,r5⟩|⟨r5,e5⟩) h5<;>conv=>whnf
 rotate_left
 ·try refine RunsS.panicU ?_
  exact UnwS.pan Tryz.func63 (EndS.mk ((Rs.bad r5 e5:Rs It)) ((by unfold itemP;rw [bnd_ok h1.symm,bnd_ok h2.symm,bnd_ok h3.symm,bnd_ok h4.symm,bnd_bad h5.symm])) [] sH rfl rfl (okPan rfl))
 have s5:=(frac_g.g.suf _ _ _ h5.symm).trans s4
 refine RunsS.subR (nx':=11) (l':=[(17,.tup [.v (.int .i64 a5),.v (.int .i64 b5)]),(0,.ptr 0 0),(2,.ptr 10 0)]) (H':=[psB src (ix L r5),tkB L,(10,.cells 83 [.v (.string a1),.v (.string a3),.v (.int .i64 0),.v (.int .i64 0),.v (.int .i64 0),.v (.int .i64 0)])]) [] ?_ sH sH
 (try refine gS ?_);conv=>whnf
 refine RunsS.callN (pis_fn src L r5 s5 (B wKeeps)) [0,1,2,3,4,5,6,7,8,9] ?_ sH ?CNa8
 case CNa8=>rfl
 intro _ _
 conv=>whnf
 (try refine gS ?_);conv=>whnf
 cases hA:isA (B wKeeps) r5 with
 |false=>
  have b6:optP 1 (B wKeeps) 0 numP r5=.ok 0 r5:=optW_no (by rw [←isA_w K s5 (V.w wKeeps (by simp)),hA])
  (try refine gS ?_);conv=>whnf
  refine RunsS.callN (pexpect_fn src L r5 s5 hL [B [59]] (by decide)) [0,1,2,3,4,5,6,7,8,9,11] ?_ sH ?CNa9
  case CNa9=>rfl
  rintro (⟨_,r7⟩|⟨r7,e7⟩) h7<;>conv=>whnf
  all_goals rw [skips_s K s5 (V.s 59 (by decide))] at h7
  rotate_left
  ·try refine RunsS.panicU ?_
   exact UnwS.pan Tryz.func63 (EndS.mk ((Rs.bad r7 e7:Rs It)) ((by unfold itemP;rw [bnd_ok h1.symm,bnd_ok h2.symm,bnd_ok h3.symm,bnd_ok h4.symm,bnd_ok h5.symm,bnd_ok b6,bnd_bad h7.symm])) [] sH rfl rfl (okPan rfl))
  have s7:=((skip_one _ _).1.suf _ _ _ h7.symm).trans s5
  refine RunsS.subR (nx':=11) (l':=[(0,.ptr 0 0),(2,.ptr 10 0)]) (H':=[psB src (ix L r7),tkB L,(10,.cells 83 [.v (.string a1),.v (.string a3),.v (.int .i64 a5),.v (.int .i64 b5),.v (.int .i64 0),.v (.int .i64 0)])]) [] ?_ sH sH
  (try refine gS ?_);conv=>whnf
  try refine RunsS.retU ?_
  exact UnwS.ret tab Tryz.func63 rfl (EndS.mk ((Rs.ok ⟨a1,a3,a5,b5,0,0⟩ r7:Rs It)) ((by unfold itemP;rw [bnd_ok h1.symm,bnd_ok h2.symm,bnd_ok h3.symm,bnd_ok h4.symm,bnd_ok h5.symm,bnd_ok b6,bnd_ok h7.symm];rfl)) [] sH rfl rfl (okRet rfl rfl))
 |true=>
  obtain ⟨x,q,rfl⟩:=isA_cons hA
  have hT:isT 1 (B wKeeps) (x::q)=true:=by rw [←isA_w K s5 (V.w wKeeps (by simp)),hA]
  have hx5:=ix_lt s5
  conv=>whnf
  repeat ((first|(guard_target=_∧_;(first|refine oL ?_|refine oR ?_))|(guard_target=Exists _;refine oM ?_));(try intro _);conv=>whnf)
  rw [ix_succ s5]
  refine RunsS.callN (pnumber_fn src L q (suf_tail s5) hL) [0,1,2,3,4,5,6,7,8,9] ?_ sH ?CNa10
  case CNa10=>rfl
  rintro (⟨a6,r6⟩|⟨r6,e6⟩) h6<;>conv=>whnf
  rotate_left
  ·have b6:optP 1 (B wKeeps) 0 numP (x::q)=.bad r6 e6:=optW_yes hT h6.symm
   exact UnwS.pan Tryz.func63 (EndS.mk ((Rs.bad r6 e6:Rs It)) ((by unfold itemP;rw [bnd_ok h1.symm,bnd_ok h2.symm,bnd_ok h3.symm,bnd_ok h4.symm,bnd_ok h5.symm,bnd_bad b6])) [] sH rfl rfl (okPan rfl))
  have s6:=(num_one.1.suf _ _ _ h6.symm).trans (suf_tail s5)
  have b6:optP 1 (B wKeeps) 0 numP (x::q)=.ok a6 r6:=optW_yes hT h6.symm
  refine RunsS.subR (nx':=11) (l':=[(32,.v (.int .i64 a6)),(0,.ptr 0 0),(2,.ptr 10 0)]) (H':=[psB src (ix L r6),tkB L,(10,.cells 83 [.v (.string a1),.v (.string a3),.v (.int .i64 a5),.v (.int .i64 b5),.v (.int .i64 0),.v (.int .i64 0)])]) [] ?_ sH sH
  (try refine gS ?_);conv=>whnf
  refine RunsS.callN (pexpect_fn src L r6 s6 hL [B [59]] (by decide)) [0,1,2,3,4,5,6,7,8,9,11] ?_ sH ?CNa11
  case CNa11=>rfl
  rintro (⟨_,r7⟩|⟨r7,e7⟩) h7<;>conv=>whnf
  all_goals rw [skips_s K s6 (V.s 59 (by decide))] at h7
  rotate_left
  ·try refine RunsS.panicU ?_
   exact UnwS.pan Tryz.func63 (EndS.mk ((Rs.bad r7 e7:Rs It)) ((by unfold itemP;rw [bnd_ok h1.symm,bnd_ok h2.symm,bnd_ok h3.symm,bnd_ok h4.symm,bnd_ok h5.symm,bnd_ok b6,bnd_bad h7.symm])) [] sH rfl rfl (okPan rfl))
  have s7:=((skip_one _ _).1.suf _ _ _ h7.symm).trans s6
  refine RunsS.subR (nx':=11) (l':=[(0,.ptr 0 0),(2,.ptr 10 0)]) (H':=[psB src (ix L r7),tkB L,(10,.cells 83 [.v (.string a1),.v (.string a3),.v (.int .i64 a5),.v (.int .i64 b5),.v (.int .i64 a6),.v (.int .i64 0)])]) [] ?_ sH sH
  (try refine gS ?_);conv=>whnf
  try refine RunsS.retU ?_
  exact UnwS.ret tab Tryz.func63 rfl (EndS.mk ((Rs.ok ⟨a1,a3,a5,b5,a6,0⟩ r7:Rs It)) ((by unfold itemP;rw [bnd_ok h1.symm,bnd_ok h2.symm,bnd_ok h3.symm,bnd_ok h4.symm,bnd_ok h5.symm,bnd_ok b6,bnd_ok h7.symm];rfl)) [] sH rfl rfl (okRet rfl rfl))
theorem punit_fn:FnS Tryz.prog 60 10 [.ptr 0 0] [psB src (ix L r),tkB L] (fun x:Rs Un=>x=unitP r) (outP src L (fun x=>.agg (toV (Un.row x))) 11):=by
 refine FnS.of Tryz.func60 (by kernel_rfl) rfl Tryz.ntmps60 rfl fun E0 F h w0 cs=>?_
 conv=>whnf
 refine gS ?_;conv=>whnf
 refine RunsS.callN (pname_fn src L r hr hL) [0,1,2,3,4,5,6,7,8,9] ?_ sH ?CNa12
 case CNa12=>rfl
 rintro (⟨a1,r1⟩|⟨r1,e1⟩) h1<;>conv=>whnf
 rotate_left
 ·try refine RunsS.panicU ?_
  exact UnwS.pan Tryz.func60 (EndS.mk ((Rs.bad r1 e1:Rs Un)) ((by unfold unitP;rw [bnd_bad h1.symm])) [] sH rfl rfl (okPan rfl))
 have s1:=(name_one.1.suf _ _ _ h1.symm).trans hr
 refine RunsS.subR (nx':=11) (l':=[(4,.v (.string a1)),(0,.ptr 0 0),(2,.ptr 10 0)]) (H':=[psB src (ix L r1),tkB L,(10,.cells 81 [.v (.string ⟨#[]⟩),.v (.string ⟨#[]⟩),.v (.int .i64 0),.v (.int .i64 0),.v (.int .i64 0),.v (.bool false),.v (.string ⟨#[]⟩),.v (.string ⟨#[]⟩)])]) [] ?_ sH sH
 (try refine gS ?_);conv=>whnf
 refine RunsS.callN (pis_fn src L r1 s1 (B [61])) [0,1,2,3,4,5,6,7,8,9] ?_ sH ?CNa13
 case CNa13=>rfl
 intro _ _
 conv=>whnf
 (try refine gS ?_);conv=>whnf
 cases hA:isA (B [61]) r1 with
 |false=>
  have b2:optP 3 (B [61]) (0,0,e0) (bnd fracP fun q=>bnd nameP fun o=>pur (q.1,q.2,o)) r1=.ok (0,0,e0) r1:=optW_no (by rw [←isA_s K s1 (V.s 61 (by decide)),hA])
  (try refine gS ?_);conv=>whnf
  refine RunsS.callN (pexpect_fn src L r1 s1 hL [B [59]] (by decide)) [0,1,2,3,4,5,6,7,8,9,11] ?_ sH ?CNa14
  case CNa14=>rfl
  rintro (⟨_,r3⟩|⟨r3,e3⟩) h3<;>conv=>whnf
  all_goals rw [skips_s K s1 (V.s 59 (by decide))] at h3
  rotate_left
  ·try refine RunsS.panicU ?_
   exact UnwS.pan Tryz.func60 (EndS.mk ((Rs.bad r3 e3:Rs Un)) ((by unfold unitP;rw [bnd_ok h1.symm,bnd_ok b2,bnd_bad h3.symm])) [] sH rfl rfl (okPan rfl))
  have s3:=((skip_one _ _).1.suf _ _ _ h3.symm).trans s1
  refine RunsS.subR (nx':=11) (l':=[(0,.ptr 0 0),(2,.ptr 10 0)]) (H':=[psB src (ix L r3),tkB L,(10,.cells 81 [.v (.string a1),.v (.string ⟨#[]⟩),.v (.int .i64 0),.v (.int .i64 0),.v (.int .i64 0),.v (.bool false),.v (.string ⟨#[]⟩),.v (.string ⟨#[]⟩)])]) [] ?_ sH sH
  (try refine gS ?_);conv=>whnf
  try refine RunsS.retU ?_
  exact UnwS.ret tab Tryz.func60 rfl (EndS.mk ((Rs.ok ⟨a1,e0,0,0,0,zr⟩ r3:Rs Un)) ((by unfold unitP;rw [bnd_ok h1.symm,bnd_ok b2,bnd_ok h3.symm];rfl)) [] sH rfl rfl (okRet rfl rfl))
 |true=>
  obtain ⟨x,q,rfl⟩:=isA_cons hA
  have hT:isT 3 (B [61]) (x::q)=true:=by rw [←isA_s K s1 (V.s 61 (by decide)),hA]
  have hx1:=ix_lt s1
  conv=>whnf
  repeat ((first|(guard_target=_∧_;(first|refine oL ?_|refine oR ?_))|(guard_target=Exists _;refine oM ?_));(try intro _);conv=>whnf)
  rw [ix_succ s1]
  refine RunsS.callN (pfrac_fn src L q (suf_tail s1) hL K V) [0,1,2,3,4,5,6,7,8,9] ?_ sH ?CNa15
  case CNa15=>rfl
  rintro (⟨⟨n,d⟩,r2⟩|⟨r2,e2⟩) h2<;>conv=>whnf
  rotate_left
  ·have b2:optP 3 (B [61]) ((0,0,e0):Int×Int×ByteArray) (bnd fracP fun q=>bnd nameP fun o=>pur (q.1,q.2,o)) (x::q)=.bad r2 e2:=optW_yes hT (bnd_bad h2.symm)
   exact UnwS.pan Tryz.func60 (EndS.mk ((Rs.bad r2 e2:Rs Un)) ((by unfold unitP;rw [bnd_ok h1.symm,bnd_bad b2])) [] sH rfl rfl (okPan rfl))
  have s2:=(frac_g.g.suf _ _ _ h2.symm).trans (suf_tail s1)
  refine RunsS.subR (nx':=11) (l':=[(17,.tup [.v (.int .i64 n),.v (.int .i64 d)]),(0,.ptr 0 0),(2,.ptr 10 0)]) (H':=[psB src (ix L r2),tkB L,(10,.cells 81 [.v (.string a1),.v (.string ⟨#[]⟩),.v (.int .i64 0),.v (.int .i64 0),.v (.int .i64 0),.v (.bool false),.v (.string ⟨#[]⟩),.v (.string ⟨#[]⟩)])]) [] ?_ sH sH
  (try refine gS ?_);conv=>whnf
  refine RunsS.callN (pname_fn src L r2 s2 hL) [0,1,2,3,4,5,6,7,8,9] ?_ sH ?CNa16
  case CNa16=>rfl
  rintro (⟨o,r3⟩|⟨r3,e3⟩) h3'<;>conv=>whnf
  rotate_left
  ·have b2:optP 3 (B [61]) ((0,0,e0):Int×Int×ByteArray) (bnd fracP fun q=>bnd nameP fun o=>pur (q.1,q.2,o)) (x::q)=.bad r3 e3:=optW_yes hT (by rw [bnd_ok h2.symm,bnd_bad h3'.symm])
   exact UnwS.pan Tryz.func60 (EndS.mk ((Rs.bad r3 e3:Rs Un)) ((by unfold unitP;rw [bnd_ok h1.symm,bnd_bad b2])) [] sH rfl rfl (okPan rfl))
  have s3:=(name_one.1.suf _ _ _ h3'.symm).trans s2
  have b2:optP 3 (B [61]) ((0,0,e0):Int×Int×ByteArray) (bnd fracP fun q=>bnd nameP fun o=>pur (q.1,q.2,o)) (x::q)=.ok (n,d,o) r3:=optW_yes hT (by rw [bnd_ok h2.symm,bnd_ok h3'.symm];rfl)
  refine RunsS.subR (nx':=11) (l':=[(23,.v (.string o)),(0,.ptr 0 0),(2,.ptr 10 0)]) (H':=[psB src (ix L r3),tkB L,(10,.cells 81 [.v (.string a1),.v (.string ⟨#[]⟩),.v (.int .i64 n),.v (.int .i64 d),.v (.int .i64 0),.v (.bool false),.v (.string ⟨#[]⟩),.v (.string ⟨#[]⟩)])]) [] ?_ sH sH
  (try refine gS ?_);conv=>whnf
  refine RunsS.callN (pexpect_fn src L r3 s3 hL [B [59]] (by decide)) [0,1,2,3,4,5,6,7,8,9,11] ?_ sH ?CNa17
  case CNa17=>rfl
  rintro (⟨_,r4⟩|⟨r4,e4⟩) h4<;>conv=>whnf
  all_goals rw [skips_s K s3 (V.s 59 (by decide))] at h4
  rotate_left
  ·try refine RunsS.panicU ?_
   exact UnwS.pan Tryz.func60 (EndS.mk ((Rs.bad r4 e4:Rs Un)) ((by unfold unitP;rw [bnd_ok h1.symm,bnd_ok b2,bnd_bad h4.symm])) [] sH rfl rfl (okPan rfl))
  have s4:=((skip_one _ _).1.suf _ _ _ h4.symm).trans s3
  refine RunsS.subR (nx':=11) (l':=[(0,.ptr 0 0),(2,.ptr 10 0)]) (H':=[psB src (ix L r4),tkB L,(10,.cells 81 [.v (.string a1),.v (.string o),.v (.int .i64 n),.v (.int .i64 d),.v (.int .i64 0),.v (.bool false),.v (.string ⟨#[]⟩),.v (.string ⟨#[]⟩)])]) [] ?_ sH sH
  (try refine gS ?_);conv=>whnf
  try refine RunsS.retU ?_
  exact UnwS.ret tab Tryz.func60 rfl (EndS.mk ((Rs.ok ⟨a1,o,n,d,0,zr⟩ r4:Rs Un)) ((by unfold unitP;rw [bnd_ok h1.symm,bnd_ok b2,bnd_ok h4.symm];rfl)) [] sH rfl rfl (okRet rfl rfl))
end
end Go.Proofs.YtgbeechjghajcaaGreatDoor

namespace Go.Proofs.YtgbeechjghajcaaGreatDoor
open Go Go.Fw Go.NatM Go.RatM Go.SrcM Go.SynM
set_option maxRecDepth 100000
set_option maxHeartbeats 99999999
section
variable (src:ByteArray) (L r:List Tok) (hr:r <:+ L) (hL:L.length≤65536) {N:ByteArray→Prop} (K:KL N L) (V:VocN N)
include hr hL K V
theorem pin_fn:FnS Tryz.prog 130 10 [.ptr 0 0] [psB src (ix L r),tkB L] (fun x:Rs Am=>x=inP r) (outP src L (fun x=>.agg (toV x.row)) 11):=by
 refine FnS.of Tryz.func130 (by kernel_rfl) rfl Tryz.ntmps130 rfl fun E0 F h w0 cs=>?_
 conv=>whnf
 refine gS ?_;conv=>whnf
 refine RunsS.callN (pis_fn src L r hr (B wBack)) [0,1,2,3,4,5,6,7,8,9] ?_ sH ?CNa1
 case CNa1=>rfl
 intro _ _
 conv=>whnf
 (try refine gS ?_);conv=>whnf
 cases hA:isA (B wBack) r with
 |false=>
  have b1:optP 1 (B wBack) false (pur true) r=.ok false r:=optW_no (by rw [←isA_w K hr (V.w wBack (by simp)),hA])
  (try refine gS ?_);conv=>whnf
  refine RunsS.callN (pout_fn src L r hr hL K V) [0,1,2,3,4,5,6,7,8,9] ?_ sH ?CNa2
  case CNa2=>rfl
  rintro (⟨a,r1⟩|⟨r1,e1⟩) h1<;>conv=>whnf
  rotate_left
  ·try refine RunsS.panicU ?_
   exact UnwS.pan Tryz.func130 (EndS.mk ((Rs.bad r1 e1:Rs Am)) ((by unfold inP;rw [bnd_ok b1,bnd_bad h1.symm])) [] sH rfl rfl (okPan rfl))
  refine RunsS.subR (nx':=12) (l':=[(16,.agg (toV a.row)),(3,.v (.bool false)),(0,.ptr 0 0),(2,.ptr 10 0)]) (H':=[psB src (ix L r1),tkB L,(10,.cells 55 [.v (.int .i64 0),.v (.int .i64 0),.v (.string ⟨#[]⟩),.v (.string ⟨#[]⟩),.v (.bool false),.v (.int .i64 0),.v (.int .i64 0)])]) [] ?_ sH sH
  (try refine gS ?_);conv=>whnf
  try refine RunsS.retU ?_
  exact UnwS.ret tab Tryz.func130 rfl (EndS.mk ((Rs.ok {a with back:=false} r1:Rs Am)) ((by unfold inP;rw [bnd_ok b1,bnd_ok h1.symm];rfl)) [] sH rfl rfl (okRet rfl rfl))
 |true=>
  obtain ⟨x,q,rfl⟩:=isA_cons hA
  have hT:isT 1 (B wBack) (x::q)=true:=by rw [←isA_w K hr (V.w wBack (by simp)),hA]
  have b1:optP 1 (B wBack) false (pur true) (x::q)=.ok true q:=optW_yes hT rfl
  have hx:=ix_lt hr
  conv=>whnf
  repeat ((first|(guard_target=_∧_;(first|refine oL ?_|refine oR ?_))|(guard_target=Exists _;refine oM ?_));(try intro _);conv=>whnf)
  rw [ix_succ hr]
  refine RunsS.callN (pout_fn src L q (suf_tail hr) hL K V) [0,1,2,3,4,5,6,7,8,9] ?_ sH ?CNa3
  case CNa3=>rfl
  rintro (⟨a,r1⟩|⟨r1,e1⟩) h1<;>conv=>whnf
  rotate_left
  ·try refine RunsS.panicU ?_
   exact UnwS.pan Tryz.func130 (EndS.mk ((Rs.bad r1 e1:Rs Am)) ((by unfold inP;rw [bnd_ok b1,bnd_bad h1.symm])) [] sH rfl rfl (okPan rfl))
  refine RunsS.subR (nx':=12) (l':=[(16,.agg (toV a.row)),(3,.v (.bool true)),(0,.ptr 0 0),(2,.ptr 10 0)]) (H':=[psB src (ix L r1),tkB L,(10,.cells 55 [.v (.int .i64 0),.v (.int .i64 0),.v (.string ⟨#[]⟩),.v (.string ⟨#[]⟩),.v (.bool false),.v (.int .i64 0),.v (.int .i64 0)])]) [] ?_ sH sH
  (try refine gS ?_);conv=>whnf
  try refine RunsS.retU ?_
  exact UnwS.ret tab Tryz.func130 rfl (EndS.mk ((Rs.ok {a with back:=true} r1:Rs Am)) ((by unfold inP;rw [bnd_ok b1,bnd_ok h1.symm];rfl)) [] sH rfl rfl (okRet rfl rfl))
end
end Go.Proofs.YtgbeechjghajcaaGreatDoor

namespace Go.SynM
open Go Go.Fw Go.RatM Go.SrcM
open Go.Proofs.YtgbeechjghajcaaGreatDoor (Tok)
def oneP {α:Type} (p:P α) (most:Nat) (l:List α):P (List α):=fun r=>if most≤l.length then .bad r 2 else bnd p (fun a=>pur (l++[a])) r.tail
end Go.SynM
namespace Go.Proofs.YtgbeechjghajcaaGreatDoor
open Go Go.Fw Go.NatM Go.RatM Go.SrcM Go.SynM
set_option maxRecDepth 100000
set_option maxHeartbeats 99999999
def outL {α:Type} (src:ByteArray) (L:List Tok) (t e sz:Nat) (row:α→List Value) (n:Nat):Rs (List α)→OutS
 | .ok l r=>.ret (.tup []) (n+1) [psB src (ix L r),tkB L,(10,.cells t [.buf n]),(n,.own e sz (rws row l))]
 | .bad r e=>.pan (failV (place src.size e r)) (n+1) [psB src (ix L r),tkB L]
abbrev fnV (g:Nat):SV:=.v (.func (.func g) #[] #[])
abbrev strR (x:ByteArray):List Value:=[.string x]
section
variable (src:ByteArray) (L r:List Tok) (hr:r <:+ L) (hL:L.length≤65536) {N:ByteArray→Prop} (K:KL N L) (V:VocN N)
include hr hL K V
theorem oneCd_fn (l:List Cd) (most:Nat) (hm:most≤1000) (hne:r ≠ []):FnS Tryz.prog 156 12 [.ptr 0 0,.ptr 10 0,.v (.int .i64 most),fnV 128] [psB src (ix L r),tkB L,(10,.cells 53 [.buf 11]),(11,.own 52 4 (rws Cd.row l))]
  (fun x:Rs (List Cd)=>x=oneP condP most l r) (outL src L 53 52 4 Cd.row 12):=by
 have ll:=rws_len Cd.row l
 obtain ⟨x,r,rfl⟩:∃x r',r=x::r':=by cases r with|nil=>exact absurd rfl hne|cons x r=>exact ⟨x,r,rfl⟩
 refine FnS.of Tryz.func156 (by kernel_rfl) rfl Tryz.ntmps156 rfl fun E0 F h w0 cs=>?_
 conv=>whnf
 refine gS ?_;conv=>whnf
 refine RunsS.callN (pfurther_fn src L (x::r) hr hL (rws Cd.row l).length most hne) [0,1,2,3,4,5,6,7,8,9] ?_ sH ?CNa1
 case CNa1=>rfl
 rintro (⟨_,r1⟩|⟨r1,e1⟩) h1<;>conv=>whnf
 rotate_left
 ·by_cases hb:(most:Int)≤((rws Cd.row l).length:Nat)
  ·rw [if_pos hb] at h1
   cases h1
   exact UnwS.pan Tryz.func156 (EndS.mk ((Rs.bad (x::r) 2:Rs (List Cd))) ((by unfold oneP;rw [if_pos (by omega)])) [] sH rfl rfl (okPan rfl))
  rw [if_neg hb] at h1
  cases h1
 by_cases hb:(most:Int)≤((rws Cd.row l).length:Nat)
 ·rw [if_pos hb] at h1
  cases h1
 rw [if_neg hb] at h1
 cases h1
 refine RunsS.subR (nx':=12) (l':=[(0,.ptr 0 0),(1,.ptr 10 0),(3,fnV 128)]) (H':=[psB src (ix L r),tkB L,(10,.cells 53 [.buf 11]),(11,.own 52 4 (rws Cd.row l))]) [] ?_ sH sH
 (try refine gS ?_);conv=>whnf
 refine RunsS.held tab (.fl 0 (.fl 1 (.fl 2 (.fl 3 (.fl 4 (.fl 5 (.e1 6 [3] (.e1 7 [3] (.e1 8 [] (.fl 9 (.e1 10 [] .done))))))))))) (by kernel_rfl) ?_;conv=>whnf
 (try refine gR ?_);conv=>whnf
 conv=>whnf
 refine EffR.callN (pcond_fn src L r (suf_tail hr) hL K V) [0,1,2,3,4,5,6,7,8,9] ?_ sH ?CNa2
 case CNa2=>rfl
 rintro (⟨a,r2⟩|⟨r2,e2⟩) h2<;>conv=>whnf
 rotate_left
 ·try refine RunsS.panicU ?_
  exact UnwS.pan Tryz.func156 (EndS.mk ((Rs.bad r2 e2:Rs (List Cd))) ((by unfold oneP;rw [if_neg (by omega)];exact (bnd_bad h2.symm).symm)) [] sH rfl rfl (okPan rfl))
 conv=>whnf
 try refine oB ?_
 (try refine gR ?_);conv=>whnf
 repeat ((first|(guard_target=_∧_;(first|refine oL ?_|refine oR ?_|refine oB ?_))|(guard_target=Exists _;refine oM ?_));(try intro _);conv=>whnf)
 conv=>whnf
 refine And.intro (appOb2 (by rw [ll];show l.length+1≤1000000;omega)) ?_;conv=>whnf
 conv=>whnf
 repeat ((first|(guard_target=_∧_;(first|refine oL ?_|refine oR ?_|refine oB ?_))|(guard_target=Exists _;refine oM ?_));(try intro _);conv=>whnf)
 (try refine gS ?_);conv=>whnf
 conv=>whnf
 (try refine gS ?_);conv=>whnf
 refine RunsS.rowsEq (rows':=rws Cd.row (l++[a])) 14 ?e1 ?_
 case e1=>unfold rws;rw [List.map_append];rfl
 conv=>whnf
 try refine RunsS.finU ?_
 exact UnwS.ret tab Tryz.func156 rfl (EndS.mk ((Rs.ok (l++[a]) r2:Rs (List Cd))) ((by unfold oneP;rw [if_neg (by omega)];exact (bnd_ok (f:=fun a=>pur (l++[a])) h2.symm).symm)) [(12,14)] sH rfl rfl (okRet rfl rfl))
omit K V in
theorem oneNm_fn (l:List ByteArray) (most:Nat) (hm:most≤1000) (hne:r ≠ []):FnS Tryz.prog 65 12 [.ptr 0 0,.ptr 10 0,.v (.int .i64 most),fnV 121] [psB src (ix L r),tkB L,(10,.cells 25 [.buf 11]),(11,.own 9 1 (rws strR l))]
  (fun x:Rs (List ByteArray)=>x=oneP nameP most l r) (outL src L 25 9 1 strR 12):=by
 have ll:=rws_len strR l
 obtain ⟨x,r,rfl⟩:∃x r',r=x::r':=by cases r with|nil=>exact absurd rfl hne|cons x r=>exact ⟨x,r,rfl⟩
 refine FnS.of Tryz.func65 (by kernel_rfl) rfl Tryz.ntmps65 rfl fun E0 F h w0 cs=>?_
 conv=>whnf
 refine gS ?_;conv=>whnf
 refine RunsS.callN (pfurther_fn src L (x::r) hr hL (rws strR l).length most hne) [0,1,2,3,4,5,6,7,8,9] ?_ sH ?CNa3
 case CNa3=>rfl
 rintro (⟨_,r1⟩|⟨r1,e1⟩) h1<;>conv=>whnf
 rotate_left
 ·by_cases hb:(most:Int)≤((rws strR l).length:Nat)
  ·rw [if_pos hb] at h1
   cases h1
   exact UnwS.pan Tryz.func65 (EndS.mk ((Rs.bad (x::r) 2:Rs (List ByteArray))) ((by unfold oneP;rw [if_pos (by omega)])) [] sH rfl rfl (okPan rfl))
  rw [if_neg hb] at h1
  cases h1
 by_cases hb:(most:Int)≤((rws strR l).length:Nat)
 ·rw [if_pos hb] at h1
  cases h1
 rw [if_neg hb] at h1
 cases h1
 refine RunsS.subR (nx':=12) (l':=[(0,.ptr 0 0),(1,.ptr 10 0),(3,fnV 121)]) (H':=[psB src (ix L r),tkB L,(10,.cells 25 [.buf 11]),(11,.own 9 1 (rws strR l))]) [] ?_ sH sH
 (try refine gS ?_);conv=>whnf
 refine RunsS.held tab (.fl 0 (.fl 1 (.fl 2 (.fl 3 (.fl 4 (.fl 5 (.e1 6 [3] (.e1 7 [3] (.e1 8 [] (.fl 9 (.e1 10 [] .done))))))))))) (by kernel_rfl) ?_;conv=>whnf
 (try refine gR ?_);conv=>whnf
 conv=>whnf
 refine EffR.callN (pname_fn src L r (suf_tail hr) hL) [0,1,2,3,4,5,6,7,8,9] ?_ sH ?CNa4
 case CNa4=>rfl
 rintro (⟨a,r2⟩|⟨r2,e2⟩) h2<;>conv=>whnf
 rotate_left
 ·try refine RunsS.panicU ?_
  exact UnwS.pan Tryz.func65 (EndS.mk ((Rs.bad r2 e2:Rs (List ByteArray))) ((by unfold oneP;rw [if_neg (by omega)];exact (bnd_bad h2.symm).symm)) [] sH rfl rfl (okPan rfl))
 conv=>whnf
 try refine oB ?_
 (try refine gR ?_);conv=>whnf
 repeat ((first|(guard_target=_∧_;(first|refine oL ?_|refine oR ?_|refine oB ?_))|(guard_target=Exists _;refine oM ?_));(try intro _);conv=>whnf)
 conv=>whnf
 refine And.intro (appOb2 (by rw [ll];show l.length+1≤1000000;omega)) ?_;conv=>whnf
 conv=>whnf
 repeat ((first|(guard_target=_∧_;(first|refine oL ?_|refine oR ?_|refine oB ?_))|(guard_target=Exists _;refine oM ?_));(try intro _);conv=>whnf)
 (try refine gS ?_);conv=>whnf
 conv=>whnf
 (try refine gS ?_);conv=>whnf
 refine RunsS.rowsEq (rows':=rws strR (l++[a])) 13 ?e1 ?_
 case e1=>unfold rws;rw [List.map_append];rfl
 conv=>whnf
 try refine RunsS.finU ?_
 exact UnwS.ret tab Tryz.func65 rfl (EndS.mk ((Rs.ok (l++[a]) r2:Rs (List ByteArray))) ((by unfold oneP;rw [if_neg (by omega)];exact (bnd_ok (f:=fun a=>pur (l++[a])) h2.symm).symm)) [(12,13)] sH rfl rfl (okRet rfl rfl))
theorem oneIn_fn (l:List Am) (most:Nat) (hm:most≤1000) (hne:r ≠ []):FnS Tryz.prog 157 12 [.ptr 0 0,.ptr 10 0,.v (.int .i64 most),fnV 130] [psB src (ix L r),tkB L,(10,.cells 56 [.buf 11]),(11,.own 55 7 (rws Am.row l))]
  (fun x:Rs (List Am)=>x=oneP inP most l r) (outL src L 56 55 7 Am.row 12):=by
 have ll:=rws_len Am.row l
 obtain ⟨x,r,rfl⟩:∃x r',r=x::r':=by cases r with|nil=>exact absurd rfl hne|cons x r=>exact ⟨x,r,rfl⟩
 refine FnS.of Tryz.func157 (by kernel_rfl) rfl Tryz.ntmps157 rfl fun E0 F h w0 cs=>?_
 conv=>whnf
 refine gS ?_;conv=>whnf
 refine RunsS.callN (pfurther_fn src L (x::r) hr hL (rws Am.row l).length most hne) [0,1,2,3,4,5,6,7,8,9] ?_ sH ?CNa5
 case CNa5=>rfl
 rintro (⟨_,r1⟩|⟨r1,e1⟩) h1<;>conv=>whnf
 rotate_left
 ·by_cases hb:(most:Int)≤((rws Am.row l).length:Nat)
  ·rw [if_pos hb] at h1
   cases h1
   exact UnwS.pan Tryz.func157 (EndS.mk ((Rs.bad (x::r) 2:Rs (List Am))) ((by unfold oneP;rw [if_pos (by omega)])) [] sH rfl rfl (okPan rfl))
  rw [if_neg hb] at h1
  cases h1
 by_cases hb:(most:Int)≤((rws Am.row l).length:Nat)
 ·rw [if_pos hb] at h1
  cases h1
 rw [if_neg hb] at h1
 cases h1
 refine RunsS.subR (nx':=12) (l':=[(0,.ptr 0 0),(1,.ptr 10 0),(3,fnV 130)]) (H':=[psB src (ix L r),tkB L,(10,.cells 56 [.buf 11]),(11,.own 55 7 (rws Am.row l))]) [] ?_ sH sH
 (try refine gS ?_);conv=>whnf
 refine RunsS.held tab (.fl 0 (.fl 1 (.fl 2 (.fl 3 (.fl 4 (.fl 5 (.e1 6 [3] (.e1 7 [3] (.e1 8 [] (.fl 9 (.e1 10 [] .done))))))))))) (by kernel_rfl) ?_;conv=>whnf
 (try refine gR ?_);conv=>whnf
 conv=>whnf
 refine EffR.callN (pin_fn src L r (suf_tail hr) hL K V) [0,1,2,3,4,5,6,7,8,9] ?_ sH ?CNa6
 case CNa6=>rfl
 rintro (⟨a,r2⟩|⟨r2,e2⟩) h2<;>conv=>whnf
 rotate_left
 ·try refine RunsS.panicU ?_
  exact UnwS.pan Tryz.func157 (EndS.mk ((Rs.bad r2 e2:Rs (List Am))) ((by unfold oneP;rw [if_neg (by omega)];exact (bnd_bad h2.symm).symm)) [] sH rfl rfl (okPan rfl))
 conv=>whnf
 try refine oB ?_
 (try refine gR ?_);conv=>whnf
 repeat ((first|(guard_target=_∧_;(first|refine oL ?_|refine oR ?_|refine oB ?_))|(guard_target=Exists _;refine oM ?_));(try intro _);conv=>whnf)
 conv=>whnf
 refine And.intro (appOb2 (by rw [ll];show l.length+1≤1000000;omega)) ?_;conv=>whnf
 conv=>whnf
 repeat ((first|(guard_target=_∧_;(first|refine oL ?_|refine oR ?_|refine oB ?_))|(guard_target=Exists _;refine oM ?_));(try intro _);conv=>whnf)
 (try refine gS ?_);conv=>whnf
 conv=>whnf
 (try refine gS ?_);conv=>whnf
 refine RunsS.rowsEq (rows':=rws Am.row (l++[a])) 14 ?e1 ?_
 case e1=>unfold rws;rw [List.map_append];rfl
 conv=>whnf
 try refine RunsS.finU ?_
 exact UnwS.ret tab Tryz.func157 rfl (EndS.mk ((Rs.ok (l++[a]) r2:Rs (List Am))) ((by unfold oneP;rw [if_neg (by omega)];exact (bnd_ok (f:=fun a=>pur (l++[a])) h2.symm).symm)) [(12,14)] sH rfl rfl (okRet rfl rfl))
theorem oneOut_fn (l:List Am) (most:Nat) (hm:most≤1000) (hne:r ≠ []):FnS Tryz.prog 157 12 [.ptr 0 0,.ptr 10 0,.v (.int .i64 most),fnV 131] [psB src (ix L r),tkB L,(10,.cells 56 [.buf 11]),(11,.own 55 7 (rws Am.row l))]
  (fun x:Rs (List Am)=>x=oneP SynM.outP most l r) (outL src L 56 55 7 Am.row 12):=by
 have ll:=rws_len Am.row l
 obtain ⟨x,r,rfl⟩:∃x r',r=x::r':=by cases r with|nil=>exact absurd rfl hne|cons x r=>exact ⟨x,r,rfl⟩
 refine FnS.of Tryz.func157 (by kernel_rfl) rfl Tryz.ntmps157 rfl fun E0 F h w0 cs=>?_
 conv=>whnf
 refine gS ?_;conv=>whnf
 refine RunsS.callN (pfurther_fn src L (x::r) hr hL (rws Am.row l).length most hne) [0,1,2,3,4,5,6,7,8,9] ?_ sH ?CNa7
 case CNa7=>rfl
 rintro (⟨_,r1⟩|⟨r1,e1⟩) h1<;>conv=>whnf
 rotate_left
 ·by_cases hb:(most:Int)≤((rws Am.row l).length:Nat)
  ·rw [if_pos hb] at h1
   cases h1
   exact UnwS.pan Tryz.func157 (EndS.mk ((Rs.bad (x::r) 2:Rs (List Am))) ((by unfold oneP;rw [if_pos (by omega)])) [] sH rfl rfl (okPan rfl))
  rw [if_neg hb] at h1
  cases h1
 by_cases hb:(most:Int)≤((rws Am.row l).length:Nat)
 ·rw [if_pos hb] at h1
  cases h1
 rw [if_neg hb] at h1
 cases h1
 refine RunsS.subR (nx':=12) (l':=[(0,.ptr 0 0),(1,.ptr 10 0),(3,fnV 131)]) (H':=[psB src (ix L r),tkB L,(10,.cells 56 [.buf 11]),(11,.own 55 7 (rws Am.row l))]) [] ?_ sH sH
 (try refine gS ?_);conv=>whnf
 refine RunsS.held tab (.fl 0 (.fl 1 (.fl 2 (.fl 3 (.fl 4 (.fl 5 (.e1 6 [3] (.e1 7 [3] (.e1 8 [] (.fl 9 (.e1 10 [] .done))))))))))) (by kernel_rfl) ?_;conv=>whnf
 (try refine gR ?_);conv=>whnf
 conv=>whnf
 refine EffR.callN (pout_fn src L r (suf_tail hr) hL K V) [0,1,2,3,4,5,6,7,8,9] ?_ sH ?CNa8
 case CNa8=>rfl
 rintro (⟨a,r2⟩|⟨r2,e2⟩) h2<;>conv=>whnf
 rotate_left
 ·try refine RunsS.panicU ?_
  exact UnwS.pan Tryz.func157 (EndS.mk ((Rs.bad r2 e2:Rs (List Am))) ((by unfold oneP;rw [if_neg (by omega)];exact (bnd_bad h2.symm).symm)) [] sH rfl rfl (okPan rfl))
 conv=>whnf
 try refine oB ?_
 (try refine gR ?_);conv=>whnf
 repeat ((first|(guard_target=_∧_;(first|refine oL ?_|refine oR ?_|refine oB ?_))|(guard_target=Exists _;refine oM ?_));(try intro _);conv=>whnf)
 conv=>whnf
 refine And.intro (appOb2 (by rw [ll];show l.length+1≤1000000;omega)) ?_;conv=>whnf
 conv=>whnf
 repeat ((first|(guard_target=_∧_;(first|refine oL ?_|refine oR ?_|refine oB ?_))|(guard_target=Exists _;refine oM ?_));(try intro _);conv=>whnf)
 (try refine gS ?_);conv=>whnf
 conv=>whnf
 (try refine gS ?_);conv=>whnf
 refine RunsS.rowsEq (rows':=rws Am.row (l++[a])) 14 ?e1 ?_
 case e1=>unfold rws;rw [List.map_append];rfl
 conv=>whnf
 try refine RunsS.finU ?_
 exact UnwS.ret tab Tryz.func157 rfl (EndS.mk ((Rs.ok (l++[a]) r2:Rs (List Am))) ((by unfold oneP;rw [if_neg (by omega)];exact (bnd_ok (f:=fun a=>pur (l++[a])) h2.symm).symm)) [(12,14)] sH rfl rfl (okRet rfl rfl))
theorem oneRun_fn (l:List Rn) (most:Nat) (hm:most≤1000) (hne:r ≠ []):FnS Tryz.prog 158 12 [.ptr 0 0,.ptr 10 0,.v (.int .i64 most),fnV 133] [psB src (ix L r),tkB L,(10,.cells 59 [.buf 11]),(11,.own 58 3 (rws Rn.row l))]
  (fun x:Rs (List Rn)=>x=oneP runP most l r) (outL src L 59 58 3 Rn.row 12):=by
 have ll:=rws_len Rn.row l
 obtain ⟨x,r,rfl⟩:∃x r',r=x::r':=by cases r with|nil=>exact absurd rfl hne|cons x r=>exact ⟨x,r,rfl⟩
 refine FnS.of Tryz.func158 (by kernel_rfl) rfl Tryz.ntmps158 rfl fun E0 F h w0 cs=>?_
 conv=>whnf
 refine gS ?_;conv=>whnf
 refine RunsS.callN (pfurther_fn src L (x::r) hr hL (rws Rn.row l).length most hne) [0,1,2,3,4,5,6,7,8,9] ?_ sH ?CNa9
 case CNa9=>rfl
 rintro (⟨_,r1⟩|⟨r1,e1⟩) h1<;>conv=>whnf
 rotate_left
 ·by_cases hb:(most:Int)≤((rws Rn.row l).length:Nat)
  ·rw [if_pos hb] at h1
   cases h1
   exact UnwS.pan Tryz.func158 (EndS.mk ((Rs.bad (x::r) 2:Rs (List Rn))) ((by unfold oneP;rw [if_pos (by omega)])) [] sH rfl rfl (okPan rfl))
  rw [if_neg hb] at h1
  cases h1
 by_cases hb:(most:Int)≤((rws Rn.row l).length:Nat)
 ·rw [if_pos hb] at h1
  cases h1
 rw [if_neg hb] at h1
 cases h1
 refine RunsS.subR (nx':=12) (l':=[(0,.ptr 0 0),(1,.ptr 10 0),(3,fnV 133)]) (H':=[psB src (ix L r),tkB L,(10,.cells 59 [.buf 11]),(11,.own 58 3 (rws Rn.row l))]) [] ?_ sH sH
 (try refine gS ?_);conv=>whnf
 refine RunsS.held tab (.fl 0 (.fl 1 (.fl 2 (.fl 3 (.fl 4 (.fl 5 (.e1 6 [3] (.e1 7 [3] (.e1 8 [] (.fl 9 (.e1 10 [] .done))))))))))) (by kernel_rfl) ?_;conv=>whnf
 (try refine gR ?_);conv=>whnf
 conv=>whnf
 refine EffR.callN (prun_fn src L r (suf_tail hr) hL K V) [0,1,2,3,4,5,6,7,8,9] ?_ sH ?CNa10
 case CNa10=>rfl
 rintro (⟨a,r2⟩|⟨r2,e2⟩) h2<;>conv=>whnf
 rotate_left
 ·try refine RunsS.panicU ?_
  exact UnwS.pan Tryz.func158 (EndS.mk ((Rs.bad r2 e2:Rs (List Rn))) ((by unfold oneP;rw [if_neg (by omega)];exact (bnd_bad h2.symm).symm)) [] sH rfl rfl (okPan rfl))
 conv=>whnf
 try refine oB ?_
 (try refine gR ?_);conv=>whnf
 repeat ((first|(guard_target=_∧_;(first|refine oL ?_|refine oR ?_|refine oB ?_))|(guard_target=Exists _;refine oM ?_));(try intro _);conv=>whnf)
 conv=>whnf
 refine And.intro (appOb2 (by rw [ll];show l.length+1≤1000000;omega)) ?_;conv=>whnf
 conv=>whnf
 repeat ((first|(guard_target=_∧_;(first|refine oL ?_|refine oR ?_|refine oB ?_))|(guard_target=Exists _;refine oM ?_));(try intro _);conv=>whnf)
 (try refine gS ?_);conv=>whnf
 conv=>whnf
 (try refine gS ?_);conv=>whnf
 refine RunsS.rowsEq (rows':=rws Rn.row (l++[a])) 14 ?e1 ?_
 case e1=>unfold rws;rw [List.map_append];rfl
 conv=>whnf
 try refine RunsS.finU ?_
 exact UnwS.ret tab Tryz.func158 rfl (EndS.mk ((Rs.ok (l++[a]) r2:Rs (List Rn))) ((by unfold oneP;rw [if_neg (by omega)];exact (bnd_ok (f:=fun a=>pur (l++[a])) h2.symm).symm)) [(12,14)] sH rfl rfl (okRet rfl rfl))
end
end Go.Proofs.YtgbeechjghajcaaGreatDoor

namespace Go.SynM
open Go Go.Fw Go.RatM Go.SrcM
open Go.Proofs.YtgbeechjghajcaaGreatDoor (Tok)
section
variable {α:Type} {k:Int} {t:ByteArray} {p:P α} {m c:Nat} {l:List α} {x:Tok} {q:List Tok}
theorem many_no (h:isT k t q=false):manyP k t p c q=.ok [] q:=by
 cases c with
 |zero=>exact if_neg (by rw [h];exact Bool.false_ne_true)
 |succ c=>exact if_neg (by rw [h];exact Bool.false_ne_true)
def restP (k:Int) (t:ByteArray) (p:P α) (m:Nat) (l:List α):P (List α):=bnd (manyP k t p (m - l.length)) fun l'=>pur (l++l')
theorem rest_no (h:isT k t q=false):restP k t p m l q=.ok l q:=by
 unfold restP
 rw [bnd_ok (many_no h),List.append_nil];rfl
theorem rest_one (hl:l.length≤m) (h:isT k t (x::q)=true):restP k t p m l (x::q)=bnd (oneP p m l) (fun l2=>restP k t p m l2) (x::q):=by
 unfold restP
 by_cases e:m≤l.length
 ·have:m - l.length=0:=by omega
  simp only [bnd,oneP,this,manyP,h,if_true,if_pos e]
 obtain ⟨c,hc⟩:∃c,m - l.length=c+1:=⟨m - l.length - 1,by omega⟩
 simp only [bnd,oneP,hc,manyP,h,if_true,if_neg e,List.tail_cons]
 cases p q with
 |bad r e=>rfl
 |ok a r=>
  have:m - (l++[a]).length=c:=by rw [List.length_append,List.length_singleton];omega
  simp only [pur,this]
  cases manyP k t p c r<;>simp [pur]
theorem many_rest:manyP k t p m q=restP k t p m [] q:=by
 unfold restP
 simp only [bnd,List.length_nil,Nat.sub_zero]
 cases manyP k t p m q<;>rfl
theorem sep_rest (hm:1≤m):sepP p m q=bnd p (fun a=>restP 3 (B [44]) p m [a]) q:=by
 unfold sepP restP
 simp only [bnd]
 cases p q with
 |bad r e=>rfl
 |ok a r=>rfl
theorem one_len {a:List α} {r:List Tok} (hg:Good p) (h:oneP p m l (x::q)=.ok a r):r <:+ q∧a.length≤m∧a.length=l.length+1:=by
 unfold oneP at h
 split at h
 ·cases h
 rcases bnd_cases h with ⟨b,r1,h1,h2⟩|⟨r1,e,_,h2⟩
 ·have h2:(Rs.ok (l++[b]) r1:Rs (List α))=.ok a r:=h2
  cases h2
  exact ⟨hg.suf _ _ _ h1,by rw [List.length_append,List.length_singleton];omega,by rw [List.length_append,List.length_singleton]⟩
 cases h2
end
end Go.SynM
namespace Go.Proofs.YtgbeechjghajcaaGreatDoor
open Go Go.Fw Go.NatM Go.RatM Go.SrcM Go.SynM
set_option maxRecDepth 100000
set_option maxHeartbeats 99999999
def outB {α:Type} (src:ByteArray) (L:List Tok) (e sz:Nat) (row:α→List Value) (n:Nat):Rs (List α)→OutS
 | .ok l r=>.ret (.buf n) (n+1) [psB src (ix L r),tkB L,(n,.own e sz (rws row l))]
 | .bad r e=>.pan (failV (place src.size e r)) (n+1) [psB src (ix L r),tkB L]
section
variable (src:ByteArray) (L r:List Tok) (hr:r <:+ L) (hL:L.length≤65536) {N:ByteArray→Prop} (K:KL N L) (V:VocN N)
include hr hL K V
theorem sepCd_fn (most:Nat) (hm:1≤most) (hm2:most≤1000):FnS Tryz.prog 127 10 [.ptr 0 0,.v (.int .i64 most),fnV 128] [psB src (ix L r),tkB L]
  (fun x:Rs (List Cd)=>x=sepP condP most r) (outB src L 52 4 Cd.row 10):=by
 refine FnS.of Tryz.func127 (by kernel_rfl) rfl Tryz.ntmps127 rfl fun E0 F h w0 cs=>?_
 conv=>whnf
 refine gS ?_;conv=>whnf
 refine RunsS.nilOwn (l':=[(6,.ptr 10 0),(0,.ptr 0 0),(1,.v (.int .i64 most)),(2,fnV 128)]) (H':=[(10,.cells 53 [.buf 11]),psB src (ix L r),tkB L]) 52 4 ?_ (by rfl) (by rfl) (by rfl)
 refine RunsS.held tab (.fl 0 (.fl 1 (.fl 2 (.e1 3 [0] (.e1 4 [0] (.e1 5 [] (.e1 6 [] .done))))))) (by kernel_rfl) ?_;conv=>whnf
 (try refine gR ?_);conv=>whnf
 conv=>whnf
 refine EffR.callN (pcond_fn src L r hr hL K V) [0,1,2,3,4,5,6,7,8,9] ?_ sH ?CNa1
 case CNa1=>rfl
 rintro (⟨a,r1⟩|⟨r1,e1⟩) h1<;>conv=>whnf
 rotate_left
 ·try refine RunsS.panicU ?_
  exact UnwS.pan Tryz.func127 (EndS.mk ((Rs.bad r1 e1:Rs (List Cd))) ((by rw [sep_rest hm];exact (bnd_bad h1.symm).symm)) [] sH rfl rfl (okPan rfl))
 conv=>whnf
 try refine oB ?_
 (try refine gR ?_);conv=>whnf
 repeat ((first|(guard_target=_∧_;(first|refine oL ?_|refine oR ?_|refine oB ?_))|(guard_target=Exists _;refine oM ?_));(try intro _);conv=>whnf)
 conv=>whnf
 refine And.intro (appOb2 (by show 0+1≤1000000;omega)) ?_;conv=>whnf
 conv=>whnf
 repeat ((first|(guard_target=_∧_;(first|refine oL ?_|refine oR ?_|refine oB ?_))|(guard_target=Exists _;refine oM ?_));(try intro _);conv=>whnf)
 (try refine gS ?_);conv=>whnf
 conv=>whnf
 (try refine gS ?_);conv=>whnf
 refine RunsS.rowsEq (rows':=rws Cd.row [a]) 14 ?e1 ?_
 case e1=>rfl
 conv=>whnf
 refine RunsS.subR (nx':=15) (l':=[(6,.ptr 10 0),(0,.ptr 0 0),(1,.v (.int .i64 most)),(2,fnV 128)]) (H':=[psB src (ix L r1),tkB L,(10,.cells 53 [.buf 14]),(14,.own 52 4 (rws Cd.row [a]))]) [] ?_ sH sH
 (try refine gS ?_);conv=>whnf
 have hg:=cond_g.g
 have hs1:=hg.suf _ _ _ h1.symm
 refine RunsS.subR [] (RunsS.loop (fun (⟨l,q⟩:List Cd×List Tok)=>[(6,.ptr 10 0),(0,.ptr 0 0),(1,.v (.int .i64 most)),(2,fnV 128)]) (fun (⟨l,q⟩:List Cd×List Tok)=>[psB src (ix L q),tkB L,(10,.cells 53 [.buf 14]),(14,.own 52 4 (rws Cd.row l))]) 15 (fun (⟨l,q⟩:List Cd×List Tok)=>(q <:+ L∧l.length≤most)∧sepP condP most r=restP 3 (B [44]) condP most l q) (fun (⟨l,q⟩:List Cd×List Tok)=>q.length) ?round2 (([a],r1)) ?J02) sH sH
 case J02=>exact (⟨⟨hs1.trans hr,hm⟩,(sep_rest hm).trans (bnd_ok h1.symm)⟩)
 rintro ⟨l,q⟩ hJ back
 try dsimp only at hJ back
 conv=>whnf
 try dsimp only
 refine gS ?_;conv=>whnf
 refine RunsS.callN (pis_fn src L q hJ.1.1 (B [44])) [0,1,2,3,4,5,6,7,8,9] ?_ sH ?CNa3
 case CNa3=>rfl
 intro _ _
 conv=>whnf
 (try refine gS ?_);conv=>whnf
 cases hA:isA (B [44]) q with
 |false=>
  have hT:isT 3 (B [44]) q=false:=by rw [←isA_s K hJ.1.1 (V.s 44 (by decide)),hA]
  (try refine gS ?_);conv=>whnf
  try refine RunsS.retU ?_
  exact UnwS.ret tab Tryz.func127 rfl (EndS.mk ((Rs.ok l q:Rs (List Cd))) ((hJ.2.trans (rest_no hT)).symm) [(10,14)] sH rfl rfl (okRet rfl rfl))
 |true=>
  obtain ⟨x,q,rfl⟩:=isA_cons hA
  have hT:isT 3 (B [44]) (x::q)=true:=by rw [←isA_s K hJ.1.1 (V.s 44 (by decide)),hA]
  (try refine gS ?_);conv=>whnf
  refine RunsS.callN (oneCd_fn src L (x::q) hJ.1.1 hL K V l most hm2 (List.cons_ne_nil _ _)) [0,1,2,3,4,5,6,7,8,9,10,14] ?_ sH ?CNa4
  case CNa4=>rfl
  rintro (⟨a2,r2⟩|⟨r2,e2⟩) h2<;>conv=>whnf
  rotate_left
  ·try refine RunsS.panicU ?_
   exact UnwS.pan Tryz.func127 (EndS.mk ((Rs.bad r2 e2:Rs (List Cd))) (((hJ.2.trans (rest_one hJ.1.2 hT)).trans (bnd_bad h2.symm)).symm) [] sH rfl rfl (okPan rfl))
  obtain ⟨hs2,hl1,hl2⟩:=one_len hg h2.symm
  refine RunsS.subR (nx':=16) (l':=[(6,.ptr 10 0),(0,.ptr 0 0),(1,.v (.int .i64 most)),(2,fnV 128)]) (H':=[psB src (ix L r2),tkB L,(10,.cells 53 [.buf 15]),(15,.own 52 4 (rws Cd.row a2))]) [] ?_ sH sH
  (try refine gS ?_);conv=>whnf
  refine RunsS.subR [(14,15)] (back ((a2,r2)) (by exact (⟨⟨hs2.trans (suf_tail hJ.1.1),hl1⟩,(hJ.2.trans (rest_one hJ.1.2 hT)).trans (bnd_ok h2.symm)⟩)) (by exact (Nat.lt_succ_of_le hs2.length_le))) sH sH
theorem sepNm_fn (most:Nat) (hm:1≤most) (hm2:most≤1000):FnS Tryz.prog 126 10 [.ptr 0 0,.v (.int .i64 most),fnV 121] [psB src (ix L r),tkB L]
  (fun x:Rs (List ByteArray)=>x=sepP nameP most r) (outB src L 9 1 strR 10):=by
 refine FnS.of Tryz.func126 (by kernel_rfl) rfl Tryz.ntmps126 rfl fun E0 F h w0 cs=>?_
 conv=>whnf
 refine gS ?_;conv=>whnf
 refine RunsS.nilOwn (l':=[(6,.ptr 10 0),(0,.ptr 0 0),(1,.v (.int .i64 most)),(2,fnV 121)]) (H':=[(10,.cells 25 [.buf 11]),psB src (ix L r),tkB L]) 9 1 ?_ (by rfl) (by rfl) (by rfl)
 refine RunsS.held tab (.fl 0 (.fl 1 (.fl 2 (.e1 3 [0] (.e1 4 [0] (.e1 5 [] (.e1 6 [] .done))))))) (by kernel_rfl) ?_;conv=>whnf
 (try refine gR ?_);conv=>whnf
 conv=>whnf
 refine EffR.callN (pname_fn src L r hr hL) [0,1,2,3,4,5,6,7,8,9] ?_ sH ?CNa6
 case CNa6=>rfl
 rintro (⟨a,r1⟩|⟨r1,e1⟩) h1<;>conv=>whnf
 rotate_left
 ·try refine RunsS.panicU ?_
  exact UnwS.pan Tryz.func126 (EndS.mk ((Rs.bad r1 e1:Rs (List ByteArray))) ((by rw [sep_rest hm];exact (bnd_bad h1.symm).symm)) [] sH rfl rfl (okPan rfl))
 conv=>whnf
 try refine oB ?_
 (try refine gR ?_);conv=>whnf
 repeat ((first|(guard_target=_∧_;(first|refine oL ?_|refine oR ?_|refine oB ?_))|(guard_target=Exists _;refine oM ?_));(try intro _);conv=>whnf)
 conv=>whnf
 refine And.intro (appOb2 (by show 0+1≤1000000;omega)) ?_;conv=>whnf
 conv=>whnf
 repeat ((first|(guard_target=_∧_;(first|refine oL ?_|refine oR ?_|refine oB ?_))|(guard_target=Exists _;refine oM ?_));(try intro _);conv=>whnf)
 (try refine gS ?_);conv=>whnf
 conv=>whnf
 (try refine gS ?_);conv=>whnf
 refine RunsS.rowsEq (rows':=rws strR [a]) 13 ?e1 ?_
 case e1=>rfl
 conv=>whnf
 refine RunsS.subR (nx':=14) (l':=[(6,.ptr 10 0),(0,.ptr 0 0),(1,.v (.int .i64 most)),(2,fnV 121)]) (H':=[psB src (ix L r1),tkB L,(10,.cells 25 [.buf 13]),(13,.own 9 1 (rws strR [a]))]) [] ?_ sH sH
 (try refine gS ?_);conv=>whnf
 have hg:=name_g.g
 have hs1:=hg.suf _ _ _ h1.symm
 refine RunsS.subR [] (RunsS.loop (fun (⟨l,q⟩:List ByteArray×List Tok)=>[(6,.ptr 10 0),(0,.ptr 0 0),(1,.v (.int .i64 most)),(2,fnV 121)]) (fun (⟨l,q⟩:List ByteArray×List Tok)=>[psB src (ix L q),tkB L,(10,.cells 25 [.buf 13]),(13,.own 9 1 (rws strR l))]) 14 (fun (⟨l,q⟩:List ByteArray×List Tok)=>(q <:+ L∧l.length≤most)∧sepP nameP most r=restP 3 (B [44]) nameP most l q) (fun (⟨l,q⟩:List ByteArray×List Tok)=>q.length) ?round7 (([a],r1)) ?J07) sH sH
 case J07=>exact (⟨⟨hs1.trans hr,hm⟩,(sep_rest hm).trans (bnd_ok h1.symm)⟩)
 rintro ⟨l,q⟩ hJ back
 try dsimp only at hJ back
 conv=>whnf
 try dsimp only
 refine gS ?_;conv=>whnf
 refine RunsS.callN (pis_fn src L q hJ.1.1 (B [44])) [0,1,2,3,4,5,6,7,8,9] ?_ sH ?CNa8
 case CNa8=>rfl
 intro _ _
 conv=>whnf
 (try refine gS ?_);conv=>whnf
 cases hA:isA (B [44]) q with
 |false=>
  have hT:isT 3 (B [44]) q=false:=by rw [←isA_s K hJ.1.1 (V.s 44 (by decide)),hA]
  (try refine gS ?_);conv=>whnf
  try refine RunsS.retU ?_
  exact UnwS.ret tab Tryz.func126 rfl (EndS.mk ((Rs.ok l q:Rs (List ByteArray))) ((hJ.2.trans (rest_no hT)).symm) [(10,13)] sH rfl rfl (okRet rfl rfl))
 |true=>
  obtain ⟨x,q,rfl⟩:=isA_cons hA
  have hT:isT 3 (B [44]) (x::q)=true:=by rw [←isA_s K hJ.1.1 (V.s 44 (by decide)),hA]
  (try refine gS ?_);conv=>whnf
  refine RunsS.callN (oneNm_fn src L (x::q) hJ.1.1 hL l most hm2 (List.cons_ne_nil _ _)) [0,1,2,3,4,5,6,7,8,9,10,13] ?_ sH ?CNa9
  case CNa9=>rfl
  rintro (⟨a2,r2⟩|⟨r2,e2⟩) h2<;>conv=>whnf
  rotate_left
  ·try refine RunsS.panicU ?_
   exact UnwS.pan Tryz.func126 (EndS.mk ((Rs.bad r2 e2:Rs (List ByteArray))) (((hJ.2.trans (rest_one hJ.1.2 hT)).trans (bnd_bad h2.symm)).symm) [] sH rfl rfl (okPan rfl))
  obtain ⟨hs2,hl1,hl2⟩:=one_len hg h2.symm
  refine RunsS.subR (nx':=15) (l':=[(6,.ptr 10 0),(0,.ptr 0 0),(1,.v (.int .i64 most)),(2,fnV 121)]) (H':=[psB src (ix L r2),tkB L,(10,.cells 25 [.buf 14]),(14,.own 9 1 (rws strR a2))]) [] ?_ sH sH
  (try refine gS ?_);conv=>whnf
  refine RunsS.subR [(13,14)] (back ((a2,r2)) (by exact (⟨⟨hs2.trans (suf_tail hJ.1.1),hl1⟩,(hJ.2.trans (rest_one hJ.1.2 hT)).trans (bnd_ok h2.symm)⟩)) (by exact (Nat.lt_succ_of_le hs2.length_le))) sH sH
theorem begIn_fn (w:List UInt8) (hw:N (B w)) (most:Nat) (hm2:most≤1000):FnS Tryz.prog 129 10 [.ptr 0 0,.v (.string (B w)),.v (.int .i64 most),fnV 130] [psB src (ix L r),tkB L]
  (fun x:Rs (List Am)=>x=manyP 1 (B w) inP most r) (outB src L 55 7 Am.row 10):=by
 refine FnS.of Tryz.func129 (by kernel_rfl) rfl Tryz.ntmps129 rfl fun E0 F h w0 cs=>?_
 conv=>whnf
 refine gS ?_;conv=>whnf
 refine RunsS.nilOwn (l':=[(8,.ptr 10 0),(0,.ptr 0 0),(1,.v (.string (B w))),(2,.v (.int .i64 most)),(3,fnV 130)]) (H':=[(10,.cells 56 [.buf 11]),psB src (ix L r),tkB L]) 55 7 ?_ (by rfl) (by rfl) (by rfl)
 have hg:=in_g.g
 refine RunsS.subR [] (RunsS.loop (fun (⟨l,q⟩:List Am×List Tok)=>[(8,.ptr 10 0),(0,.ptr 0 0),(1,.v (.string (B w))),(2,.v (.int .i64 most)),(3,fnV 130)]) (fun (⟨l,q⟩:List Am×List Tok)=>[psB src (ix L q),tkB L,(10,.cells 56 [.buf 11]),(11,.own 55 7 (rws Am.row l))]) 12 (fun (⟨l,q⟩:List Am×List Tok)=>(q <:+ L∧l.length≤most)∧manyP 1 (B w) inP most r=restP 1 (B w) inP most l q) (fun (⟨l,q⟩:List Am×List Tok)=>q.length) ?round11 (([],r)) ?J011) sH sH
 case J011=>exact (⟨⟨hr,Nat.zero_le _⟩,many_rest⟩)
 rintro ⟨l,q⟩ hJ back
 try dsimp only at hJ back
 conv=>whnf
 try dsimp only
 refine gS ?_;conv=>whnf
 refine RunsS.callN (pis_fn src L q hJ.1.1 (B w)) [0,1,2,3,4,5,6,7,8,9] ?_ sH ?CNa12
 case CNa12=>rfl
 intro _ _
 conv=>whnf
 (try refine gS ?_);conv=>whnf
 cases hA:isA (B w) q with
 |false=>
  have hT:isT 1 (B w) q=false:=by rw [←isA_w K hJ.1.1 hw,hA]
  (try refine gS ?_);conv=>whnf
  try refine RunsS.retU ?_
  exact UnwS.ret tab Tryz.func129 rfl (EndS.mk ((Rs.ok l q:Rs (List Am))) ((hJ.2.trans (rest_no hT)).symm) [(10,11)] sH rfl rfl (okRet rfl rfl))
 |true=>
  obtain ⟨x,q,rfl⟩:=isA_cons hA
  have hT:isT 1 (B w) (x::q)=true:=by rw [←isA_w K hJ.1.1 hw,hA]
  (try refine gS ?_);conv=>whnf
  refine RunsS.callN (oneIn_fn src L (x::q) hJ.1.1 hL K V l most hm2 (List.cons_ne_nil _ _)) [0,1,2,3,4,5,6,7,8,9,10,11] ?_ sH ?CNa13
  case CNa13=>rfl
  rintro (⟨a2,r2⟩|⟨r2,e2⟩) h2<;>conv=>whnf
  rotate_left
  ·try refine RunsS.panicU ?_
   exact UnwS.pan Tryz.func129 (EndS.mk ((Rs.bad r2 e2:Rs (List Am))) (((hJ.2.trans (rest_one hJ.1.2 hT)).trans (bnd_bad h2.symm)).symm) [] sH rfl rfl (okPan rfl))
  obtain ⟨hs2,hl1,hl2⟩:=one_len hg h2.symm
  refine RunsS.subR (nx':=13) (l':=[(8,.ptr 10 0),(0,.ptr 0 0),(1,.v (.string (B w))),(2,.v (.int .i64 most)),(3,fnV 130)]) (H':=[psB src (ix L r2),tkB L,(10,.cells 56 [.buf 12]),(12,.own 55 7 (rws Am.row a2))]) [] ?_ sH sH
  (try refine gS ?_);conv=>whnf
  refine RunsS.subR [(11,12)] (back ((a2,r2)) (by exact (⟨⟨hs2.trans (suf_tail hJ.1.1),hl1⟩,(hJ.2.trans (rest_one hJ.1.2 hT)).trans (bnd_ok h2.symm)⟩)) (by exact (Nat.lt_succ_of_le hs2.length_le))) sH sH
theorem begOut_fn (w:List UInt8) (hw:N (B w)) (most:Nat) (hm2:most≤1000):FnS Tryz.prog 129 10 [.ptr 0 0,.v (.string (B w)),.v (.int .i64 most),fnV 131] [psB src (ix L r),tkB L]
  (fun x:Rs (List Am)=>x=manyP 1 (B w) SynM.outP most r) (outB src L 55 7 Am.row 10):=by
 refine FnS.of Tryz.func129 (by kernel_rfl) rfl Tryz.ntmps129 rfl fun E0 F h w0 cs=>?_
 conv=>whnf
 refine gS ?_;conv=>whnf
 refine RunsS.nilOwn (l':=[(8,.ptr 10 0),(0,.ptr 0 0),(1,.v (.string (B w))),(2,.v (.int .i64 most)),(3,fnV 131)]) (H':=[(10,.cells 56 [.buf 11]),psB src (ix L r),tkB L]) 55 7 ?_ (by rfl) (by rfl) (by rfl)
 have hg:=out_g.g
 refine RunsS.subR [] (RunsS.loop (fun (⟨l,q⟩:List Am×List Tok)=>[(8,.ptr 10 0),(0,.ptr 0 0),(1,.v (.string (B w))),(2,.v (.int .i64 most)),(3,fnV 131)]) (fun (⟨l,q⟩:List Am×List Tok)=>[psB src (ix L q),tkB L,(10,.cells 56 [.buf 11]),(11,.own 55 7 (rws Am.row l))]) 12 (fun (⟨l,q⟩:List Am×List Tok)=>(q <:+ L∧l.length≤most)∧manyP 1 (B w) SynM.outP most r=restP 1 (B w) SynM.outP most l q) (fun (⟨l,q⟩:List Am×List Tok)=>q.length) ?round15 (([],r)) ?J015) sH sH
 case J015=>exact (⟨⟨hr,Nat.zero_le _⟩,many_rest⟩)
 rintro ⟨l,q⟩ hJ back
 try dsimp only at hJ back
 conv=>whnf
 try dsimp only
 refine gS ?_;conv=>whnf
 refine RunsS.callN (pis_fn src L q hJ.1.1 (B w)) [0,1,2,3,4,5,6,7,8,9] ?_ sH ?CNa16
 case CNa16=>rfl
 intro _ _
 conv=>whnf
 (try refine gS ?_);conv=>whnf
 cases hA:isA (B w) q with
 |false=>
  have hT:isT 1 (B w) q=false:=by rw [←isA_w K hJ.1.1 hw,hA]
  (try refine gS ?_);conv=>whnf
  try refine RunsS.retU ?_
  exact UnwS.ret tab Tryz.func129 rfl (EndS.mk ((Rs.ok l q:Rs (List Am))) ((hJ.2.trans (rest_no hT)).symm) [(10,11)] sH rfl rfl (okRet rfl rfl))
 |true=>
  obtain ⟨x,q,rfl⟩:=isA_cons hA
  have hT:isT 1 (B w) (x::q)=true:=by rw [←isA_w K hJ.1.1 hw,hA]
  (try refine gS ?_);conv=>whnf
  refine RunsS.callN (oneOut_fn src L (x::q) hJ.1.1 hL K V l most hm2 (List.cons_ne_nil _ _)) [0,1,2,3,4,5,6,7,8,9,10,11] ?_ sH ?CNa17
  case CNa17=>rfl
  rintro (⟨a2,r2⟩|⟨r2,e2⟩) h2<;>conv=>whnf
  rotate_left
  ·try refine RunsS.panicU ?_
   exact UnwS.pan Tryz.func129 (EndS.mk ((Rs.bad r2 e2:Rs (List Am))) (((hJ.2.trans (rest_one hJ.1.2 hT)).trans (bnd_bad h2.symm)).symm) [] sH rfl rfl (okPan rfl))
  obtain ⟨hs2,hl1,hl2⟩:=one_len hg h2.symm
  refine RunsS.subR (nx':=13) (l':=[(8,.ptr 10 0),(0,.ptr 0 0),(1,.v (.string (B w))),(2,.v (.int .i64 most)),(3,fnV 131)]) (H':=[psB src (ix L r2),tkB L,(10,.cells 56 [.buf 12]),(12,.own 55 7 (rws Am.row a2))]) [] ?_ sH sH
  (try refine gS ?_);conv=>whnf
  refine RunsS.subR [(11,12)] (back ((a2,r2)) (by exact (⟨⟨hs2.trans (suf_tail hJ.1.1),hl1⟩,(hJ.2.trans (rest_one hJ.1.2 hT)).trans (bnd_ok h2.symm)⟩)) (by exact (Nat.lt_succ_of_le hs2.length_le))) sH sH
theorem begRun_fn (w:List UInt8) (hw:N (B w)) (most:Nat) (hm2:most≤1000):FnS Tryz.prog 132 10 [.ptr 0 0,.v (.string (B w)),.v (.int .i64 most),fnV 133] [psB src (ix L r),tkB L]
  (fun x:Rs (List Rn)=>x=manyP 1 (B w) runP most r) (outB src L 58 3 Rn.row 10):=by
 refine FnS.of Tryz.func132 (by kernel_rfl) rfl Tryz.ntmps132 rfl fun E0 F h w0 cs=>?_
 conv=>whnf
 refine gS ?_;conv=>whnf
 refine RunsS.nilOwn (l':=[(8,.ptr 10 0),(0,.ptr 0 0),(1,.v (.string (B w))),(2,.v (.int .i64 most)),(3,fnV 133)]) (H':=[(10,.cells 59 [.buf 11]),psB src (ix L r),tkB L]) 58 3 ?_ (by rfl) (by rfl) (by rfl)
 have hg:=run_g.g
 refine RunsS.subR [] (RunsS.loop (fun (⟨l,q⟩:List Rn×List Tok)=>[(8,.ptr 10 0),(0,.ptr 0 0),(1,.v (.string (B w))),(2,.v (.int .i64 most)),(3,fnV 133)]) (fun (⟨l,q⟩:List Rn×List Tok)=>[psB src (ix L q),tkB L,(10,.cells 59 [.buf 11]),(11,.own 58 3 (rws Rn.row l))]) 12 (fun (⟨l,q⟩:List Rn×List Tok)=>(q <:+ L∧l.length≤most)∧manyP 1 (B w) runP most r=restP 1 (B w) runP most l q) (fun (⟨l,q⟩:List Rn×List Tok)=>q.length) ?round19 (([],r)) ?J019) sH sH
 case J019=>exact (⟨⟨hr,Nat.zero_le _⟩,many_rest⟩)
 rintro ⟨l,q⟩ hJ back
 try dsimp only at hJ back
 conv=>whnf
 try dsimp only
 refine gS ?_;conv=>whnf
 refine RunsS.callN (pis_fn src L q hJ.1.1 (B w)) [0,1,2,3,4,5,6,7,8,9] ?_ sH ?CNa20
 case CNa20=>rfl
 intro _ _
 conv=>whnf
 (try refine gS ?_);conv=>whnf
 cases hA:isA (B w) q with
 |false=>
  have hT:isT 1 (B w) q=false:=by rw [←isA_w K hJ.1.1 hw,hA]
  (try refine gS ?_);conv=>whnf
  try refine RunsS.retU ?_
  exact UnwS.ret tab Tryz.func132 rfl (EndS.mk ((Rs.ok l q:Rs (List Rn))) ((hJ.2.trans (rest_no hT)).symm) [(10,11)] sH rfl rfl (okRet rfl rfl))
 |true=>
  obtain ⟨x,q,rfl⟩:=isA_cons hA
  have hT:isT 1 (B w) (x::q)=true:=by rw [←isA_w K hJ.1.1 hw,hA]
  (try refine gS ?_);conv=>whnf
  refine RunsS.callN (oneRun_fn src L (x::q) hJ.1.1 hL K V l most hm2 (List.cons_ne_nil _ _)) [0,1,2,3,4,5,6,7,8,9,10,11] ?_ sH ?CNa21
  case CNa21=>rfl
  rintro (⟨a2,r2⟩|⟨r2,e2⟩) h2<;>conv=>whnf
  rotate_left
  ·try refine RunsS.panicU ?_
   exact UnwS.pan Tryz.func132 (EndS.mk ((Rs.bad r2 e2:Rs (List Rn))) (((hJ.2.trans (rest_one hJ.1.2 hT)).trans (bnd_bad h2.symm)).symm) [] sH rfl rfl (okPan rfl))
  obtain ⟨hs2,hl1,hl2⟩:=one_len hg h2.symm
  refine RunsS.subR (nx':=13) (l':=[(8,.ptr 10 0),(0,.ptr 0 0),(1,.v (.string (B w))),(2,.v (.int .i64 most)),(3,fnV 133)]) (H':=[psB src (ix L r2),tkB L,(10,.cells 59 [.buf 12]),(12,.own 58 3 (rws Rn.row a2))]) [] ?_ sH sH
  (try refine gS ?_);conv=>whnf
  refine RunsS.subR [(11,12)] (back ((a2,r2)) (by exact (⟨⟨hs2.trans (suf_tail hJ.1.1),hl1⟩,(hJ.2.trans (rest_one hJ.1.2 hT)).trans (bnd_ok h2.symm)⟩)) (by exact (Nat.lt_succ_of_le hs2.length_le))) sH sH
end
end Go.Proofs.YtgbeechjghajcaaGreatDoor

namespace Go.SynM
open Go Go.Fw Go.RatM Go.SrcM
open Go.Proofs.YtgbeechjghajcaaGreatDoor (Tok)
section
variable {L r:List Tok} {N:ByteArray→Prop} (K:KL N L) (hr:r <:+ L)
include K hr
theorem skips_ss {t u:ByteArray} (h:¬N t) (g:¬N u):skipsA [t,u] r=bnd (skip 3 t) (fun _=>skip 3 u) r:=by
 show bnd (skipA t) (fun _=>skipsA [u]) r=_
 simp only [bnd,skipA_s K hr h]
 cases e:skip 3 t r with
 |ok a q=>exact skips_s K (((skip_one _ _).1.suf _ _ _ e).trans hr) g
 |bad q e=>rfl
theorem skips_sw {t u:ByteArray} (h:¬N t) (g:N u):skipsA [t,u] r=bnd (skip 3 t) (fun _=>skip 1 u) r:=by
 show bnd (skipA t) (fun _=>skipsA [u]) r=_
 simp only [bnd,skipA_s K hr h]
 cases e:skip 3 t r with
 |ok a q=>exact skips_w K (((skip_one _ _).1.suf _ _ _ e).trans hr) g
 |bad q e=>rfl
end
theorem bnd_two {α β γ:Type} {p:P α} {q:α→P β} {f:β→P γ} {r:List Tok}:bnd p (fun a=>bnd (q a) f) r=bnd (bnd p q) f r:=by
 simp only [bnd]
 cases p r<;>rfl
end Go.SynM
namespace Go.Proofs.YtgbeechjghajcaaGreatDoor
open Go Go.Fw Go.NatM Go.RatM Go.SrcM Go.SynM
set_option maxRecDepth 100000
set_option maxHeartbeats 99999999
def outF (src:ByteArray) (L:List Tok) (n:Nat):Rs FbV→OutS
 | .ok x r=>.ret (.buf n) (n+1) [psB src (ix L r),tkB L,(n,.own 52 4 (rws Cd.row x.cs))]
 | .bad r e=>.pan (failV (place src.size e r)) (n+1) [psB src (ix L r),tkB L]
def outO (src:ByteArray) (L:List Tok) (n:Nat):Rs OpV→OutS
 | .ok x r=>.ret (.agg [.v (.string x.name),.buf n]) (n+1) [psB src (ix L r),tkB L,(n,.own 9 1 (rws strR x.ch))]
 | .bad r e=>.pan (failV (place src.size e r)) (n+1) [psB src (ix L r),tkB L]
section
variable (src:ByteArray) (L r:List Tok) (hr:r <:+ L) (hL:L.length≤65536) {N:ByteArray→Prop} (K:KL N L) (V:VocN N)
include hr hL K V
theorem pforb_fn:FnS Tryz.prog 75 10 [.ptr 0 0] [psB src (ix L r),tkB L] (fun x:Rs FbV=>x=forbP r) (outF src L 10):=by
 refine FnS.of Tryz.func75 (by kernel_rfl) rfl Tryz.ntmps75 rfl fun E0 F h w0 cs=>?_
 conv=>whnf
 refine gS ?_;conv=>whnf
 refine RunsS.callN (sepCd_fn src L r hr hL K V 6 (by decide) (by decide)) [0,1,2,3,4,5,6,7,8,9] ?_ sH ?CNa1
 case CNa1=>rfl
 rintro (⟨a1,r1⟩|⟨r1,e1⟩) h1<;>conv=>whnf
 rotate_left
 ·try refine RunsS.panicU ?_
  exact UnwS.pan Tryz.func75 (EndS.mk ((Rs.bad r1 e1:Rs FbV)) ((by unfold forbP;rw [bnd_bad h1.symm])) [] sH rfl rfl (okPan rfl))
 have s1:=((good_sep cond_g.g 6).suf _ _ _ h1.symm).trans hr
 refine RunsS.subR (nx':=11) (l':=[(5,.buf 10),(0,.ptr 0 0)]) (H':=[psB src (ix L r1),tkB L,(10,.own 52 4 (rws Cd.row a1))]) [] ?_ sH sH
 (try refine gS ?_);conv=>whnf
 refine RunsS.callN (pexpect_fn src L r1 s1 hL [B [59]] (by decide)) [0,1,2,3,4,5,6,7,8,9,11] ?_ sH ?CNa2
 case CNa2=>rfl
 rintro (⟨_,r2⟩|⟨r2,e2⟩) h2<;>conv=>whnf
 all_goals rw [skips_s K s1 (V.s 59 (by decide))] at h2
 rotate_left
 ·try refine RunsS.panicU ?_
  exact UnwS.pan Tryz.func75 (EndS.mk ((Rs.bad r2 e2:Rs FbV)) ((by unfold forbP;rw [bnd_ok h1.symm,bnd_bad h2.symm])) [] sH rfl rfl (okPan rfl))
 refine RunsS.subR (nx':=12) (l':=[(3,.buf 10),(5,.buf 10),(0,.ptr 0 0)]) (H':=[psB src (ix L r2),tkB L,(10,.own 52 4 (rws Cd.row a1))]) [] ?_ sH sH
 (try refine gS ?_);conv=>whnf
 try refine RunsS.retU ?_
 exact UnwS.ret tab Tryz.func75 rfl (EndS.mk ((Rs.ok ⟨hd0,a1⟩ r2:Rs FbV)) ((by unfold forbP;rw [bnd_ok h1.symm,bnd_ok h2.symm];rfl)) [] sH rfl rfl (okRet rfl rfl))
theorem poptn_fn:FnS Tryz.prog 72 10 [.ptr 0 0] [psB src (ix L r),tkB L] (fun x:Rs OpV=>x=optnP r) (outO src L 10):=by
 refine FnS.of Tryz.func72 (by kernel_rfl) rfl Tryz.ntmps72 rfl fun E0 F h w0 cs=>?_
 conv=>whnf
 refine gS ?_;conv=>whnf
 refine RunsS.callN (pname_fn src L r hr hL) [0,1,2,3,4,5,6,7,8,9] ?_ sH ?CNa3
 case CNa3=>rfl
 rintro (⟨a1,r1⟩|⟨r1,e1⟩) h1<;>conv=>whnf
 rotate_left
 ·try refine RunsS.panicU ?_
  exact UnwS.pan Tryz.func72 (EndS.mk ((Rs.bad r1 e1:Rs OpV)) ((by unfold optnP;rw [bnd_bad h1.symm])) [] sH rfl rfl (okPan rfl))
 have s1:=(name_g.g.suf _ _ _ h1.symm).trans hr
 refine RunsS.subR (nx':=11) (l':=[(4,.v (.string a1)),(2,.ptr 10 0),(0,.ptr 0 0)]) (H':=[psB src (ix L r1),tkB L,(10,.cells 50 [.v (.string ⟨#[]⟩),.v (.slice none 0 0)])]) [] ?_ sH sH
 (try refine gS ?_);conv=>whnf
 refine RunsS.callN (pexpect_fn src L r1 s1 hL [B [123]] (by decide)) [0,1,2,3,4,5,6,7,8,9,11] ?_ sH ?CNa4
 case CNa4=>rfl
 rintro (⟨_,r2⟩|⟨r2,e2⟩) h2<;>conv=>whnf
 all_goals rw [skips_s K s1 (V.s 123 (by decide))] at h2
 rotate_left
 ·try refine RunsS.panicU ?_
  exact UnwS.pan Tryz.func72 (EndS.mk ((Rs.bad r2 e2:Rs OpV)) ((by unfold optnP;rw [bnd_ok h1.symm,bnd_bad h2.symm])) [] sH rfl rfl (okPan rfl))
 have s2:=((skip_one _ _).1.suf _ _ _ h2.symm).trans s1
 refine RunsS.subR (nx':=12) (l':=[(2,.ptr 10 0),(0,.ptr 0 0)]) (H':=[psB src (ix L r2),tkB L,(10,.cells 50 [.v (.string a1),.v (.slice none 0 0)])]) [] ?_ sH sH
 (try refine gS ?_);conv=>whnf
 refine RunsS.callN (sepNm_fn src L r2 s2 hL K V 4 (by decide) (by decide)) [0,1,2,3,4,5,6,7,8,9] ?_ sH ?CNa5
 case CNa5=>rfl
 rintro (⟨a3,r3⟩|⟨r3,e3⟩) h3<;>conv=>whnf
 rotate_left
 ·try refine RunsS.panicU ?_
  exact UnwS.pan Tryz.func72 (EndS.mk ((Rs.bad r3 e3:Rs OpV)) ((by unfold optnP;rw [bnd_ok h1.symm,bnd_ok h2.symm,bnd_bad h3.symm])) [] sH rfl rfl (okPan rfl))
 have s3:=((good_sep name_g.g 4).suf _ _ _ h3.symm).trans s2
 refine RunsS.subR (nx':=13) (l':=[(10,.buf 12),(2,.ptr 10 0),(0,.ptr 0 0)]) (H':=[psB src (ix L r3),tkB L,(12,.own 9 1 (rws strR a3)),(10,.cells 50 [.v (.string a1),.v (.slice none 0 0)])]) [] ?_ sH sH
 (try refine gS ?_);conv=>whnf
 refine RunsS.callN (pexpect_fn src L r3 s3 hL [B [125],B [59]] (by decide)) [0,1,2,3,4,5,6,7,8,9,13] ?_ sH ?CNa6
 case CNa6=>rfl
 rintro (⟨_,r4⟩|⟨r4,e4⟩) h4<;>conv=>whnf
 all_goals rw [skips_ss K s3 (V.s 125 (by decide)) (V.s 59 (by decide))] at h4
 rotate_left
 ·try refine RunsS.panicU ?_
  exact UnwS.pan Tryz.func72 (EndS.mk ((Rs.bad r4 e4:Rs OpV)) ((by unfold optnP;rw [bnd_ok h1.symm,bnd_ok h2.symm,bnd_ok h3.symm,bnd_two,bnd_bad h4.symm])) [] sH rfl rfl (okPan rfl))
 refine RunsS.subR (nx':=14) (l':=[(2,.ptr 10 0),(0,.ptr 0 0)]) (H':=[psB src (ix L r4),tkB L,(12,.own 9 1 (rws strR a3)),(10,.cells 50 [.v (.string a1),.buf 12])]) [] ?_ sH sH
 (try refine gS ?_);conv=>whnf
 try refine RunsS.retU ?_
 exact UnwS.ret tab Tryz.func72 rfl (EndS.mk ((Rs.ok ⟨a1,hd0,a3⟩ r4:Rs OpV)) ((by unfold optnP;rw [bnd_ok h1.symm,bnd_ok h2.symm,bnd_ok h3.symm,bnd_two,bnd_ok h4.symm];rfl)) [(10,12)] sH rfl rfl (okRet rfl rfl))
end
end Go.Proofs.YtgbeechjghajcaaGreatDoor

namespace Go.Proofs.YtgbeechjghajcaaGreatDoor
open Go Go.Fw Go.NatM Go.RatM Go.SrcM Go.SynM
set_option maxRecDepth 100000
set_option maxHeartbeats 99999999
def outR (src:ByteArray) (L:List Tok) (n:Nat):Rs RcV→OutS
 | .ok x r=>.ret (.agg [.v (.string x.item),.v (.string x.plant),.v (.int .i64 x.fr),.v (.int .i64 x.to),.buf n,.buf (n+1),.buf (n+2),.v (.int .i64 x.rwN),.v (.int .i64 x.rwD),.v (.int .i64 x.yN),.v (.int .i64 x.yD),.v (.int .i64 x.tN),.v (.int .i64 x.tD),.v (.int .i64 x.lead),.buf (n+3),.v (.int .i64 x.inum),.v (.int .i64 x.pnum)]) (n+4) [psB src (ix L r),tkB L,(n,.own 52 4 (rws Cd.row x.cs)),(n+1,.own 55 7 (rws Am.row x.inn)),(n+2,.own 55 7 (rws Am.row x.out)),(n+3,.own 58 3 (rws Rn.row x.runs))]
 | .bad r e=>.pan (failV (place src.size e r)) (n+1) [psB src (ix L r),tkB L]
section
variable (src:ByteArray) (L r:List Tok) (hr:r <:+ L) (hL:L.length≤65536) {N:ByteArray→Prop} (K:KL N L) (V:VocN N)
include hr hL K V
theorem prec_fn:FnS Tryz.prog 78 10 [.ptr 0 0] [psB src (ix L r),tkB L] (fun x:Rs RcV=>x=recP r) (outR src L 10):=by
 refine FnS.of Tryz.func78 (by kernel_rfl) rfl Tryz.ntmps78 rfl fun E0 F h w0 cs=>?_
 conv=>whnf
 refine gS ?_;conv=>whnf
 refine RunsS.callN (pname_fn src L r hr hL) [0,1,2,3,4,5,6,7,8,9] ?_ sH ?CNa1
 case CNa1=>rfl
 rintro (⟨a1,r1⟩|⟨r1,e1⟩) h1<;>conv=>whnf
 rotate_left
 ·try refine RunsS.panicU ?_
  exact UnwS.pan Tryz.func78 (EndS.mk ((Rs.bad r1 e1:Rs RcV)) ((by unfold recP;rw [bnd_bad h1.symm])) [] sH rfl rfl (okPan rfl))
 have s1:=((name_g.g).suf _ _ _ h1.symm).trans hr
 refine RunsS.subR (nx':=11) (l':=[(4,.v (.string a1)),(2,.ptr 10 0),(0,.ptr 0 0)]) (H':=[psB src (ix L r1),tkB L,(10,.cells 61 [.v (.string ⟨#[]⟩),.v (.string ⟨#[]⟩),.v (.int .i64 0),.v (.int .i64 0),.v (.slice none 0 0),.v (.slice none 0 0),.v (.slice none 0 0),.v (.int .i64 0),.v (.int .i64 0),.v (.int .i64 0),.v (.int .i64 0),.v (.int .i64 0),.v (.int .i64 0),.v (.int .i64 0),.v (.slice none 0 0),.v (.int .i64 0),.v (.int .i64 0)])]) [] ?_ sH sH
 (try refine gS ?_);conv=>whnf
 refine RunsS.callN (pexpect_fn src L r1 s1 hL [B wAt] (by decide)) [0,1,2,3,4,5,6,7,8,9,11] ?_ sH ?CNa2
 case CNa2=>rfl
 rintro (⟨_,r2⟩|⟨r2,e2⟩) h2<;>conv=>whnf
 all_goals rw [skips_w K s1 (V.w wAt (by simp))] at h2
 rotate_left
 ·try refine RunsS.panicU ?_
  exact UnwS.pan Tryz.func78 (EndS.mk ((Rs.bad r2 e2:Rs RcV)) ((by unfold recP;rw [bnd_ok h1.symm,bnd_bad h2.symm])) [] sH rfl rfl (okPan rfl))
 have s2:=(((skip_one _ _).1).suf _ _ _ h2.symm).trans s1
 refine RunsS.subR (nx':=11) (l':=[(2,.ptr 10 0),(0,.ptr 0 0)]) (H':=[psB src (ix L r2),tkB L,(10,.cells 61 [.v (.string a1),.v (.string ⟨#[]⟩),.v (.int .i64 0),.v (.int .i64 0),.v (.slice none 0 0),.v (.slice none 0 0),.v (.slice none 0 0),.v (.int .i64 0),.v (.int .i64 0),.v (.int .i64 0),.v (.int .i64 0),.v (.int .i64 0),.v (.int .i64 0),.v (.int .i64 0),.v (.slice none 0 0),.v (.int .i64 0),.v (.int .i64 0)])]) [] ?_ sH sH
 (try refine gS ?_);conv=>whnf
 refine RunsS.callN (pname_fn src L r2 s2 hL) [0,1,2,3,4,5,6,7,8,9] ?_ sH ?CNa3
 case CNa3=>rfl
 rintro (⟨a3,r3⟩|⟨r3,e3⟩) h3<;>conv=>whnf
 rotate_left
 ·try refine RunsS.panicU ?_
  exact UnwS.pan Tryz.func78 (EndS.mk ((Rs.bad r3 e3:Rs RcV)) ((by unfold recP;rw [bnd_ok h1.symm,bnd_ok h2.symm,bnd_bad h3.symm])) [] sH rfl rfl (okPan rfl))
 have s3:=((name_g.g).suf _ _ _ h3.symm).trans s2
 refine RunsS.subR (nx':=11) (l':=[(10,.v (.string a3)),(2,.ptr 10 0),(0,.ptr 0 0)]) (H':=[psB src (ix L r3),tkB L,(10,.cells 61 [.v (.string a1),.v (.string ⟨#[]⟩),.v (.int .i64 0),.v (.int .i64 0),.v (.slice none 0 0),.v (.slice none 0 0),.v (.slice none 0 0),.v (.int .i64 0),.v (.int .i64 0),.v (.int .i64 0),.v (.int .i64 0),.v (.int .i64 0),.v (.int .i64 0),.v (.int .i64 0),.v (.slice none 0 0),.v (.int .i64 0),.v (.int .i64 0)])]) [] ?_ sH sH
 (try refine gS ?_);conv=>whnf
 refine RunsS.callN (pexpect_fn src L r3 s3 hL [B wFrom] (by decide)) [0,1,2,3,4,5,6,7,8,9,11] ?_ sH ?CNa4
 case CNa4=>rfl
 rintro (⟨_,r4⟩|⟨r4,e4⟩) h4<;>conv=>whnf
 all_goals rw [skips_w K s3 (V.w wFrom (by simp))] at h4
 rotate_left
 ·try refine RunsS.panicU ?_
  exact UnwS.pan Tryz.func78 (EndS.mk ((Rs.bad r4 e4:Rs RcV)) ((by unfold recP;rw [bnd_ok h1.symm,bnd_ok h2.symm,bnd_ok h3.symm,bnd_bad h4.symm])) [] sH rfl rfl (okPan rfl))
 have s4:=(((skip_one _ _).1).suf _ _ _ h4.symm).trans s3
 refine RunsS.subR (nx':=11) (l':=[(2,.ptr 10 0),(0,.ptr 0 0)]) (H':=[psB src (ix L r4),tkB L,(10,.cells 61 [.v (.string a1),.v (.string a3),.v (.int .i64 0),.v (.int .i64 0),.v (.slice none 0 0),.v (.slice none 0 0),.v (.slice none 0 0),.v (.int .i64 0),.v (.int .i64 0),.v (.int .i64 0),.v (.int .i64 0),.v (.int .i64 0),.v (.int .i64 0),.v (.int .i64 0),.v (.slice none 0 0),.v (.int .i64 0),.v (.int .i64 0)])]) [] ?_ sH sH
 (try refine gS ?_);conv=>whnf
 refine RunsS.callN (pnumber_fn src L r4 s4 hL) [0,1,2,3,4,5,6,7,8,9] ?_ sH ?CNa5
 case CNa5=>rfl
 rintro (⟨a5,r5⟩|⟨r5,e5⟩) h5<;>conv=>whnf
 rotate_left
 ·try refine RunsS.panicU ?_
  exact UnwS.pan Tryz.func78 (EndS.mk ((Rs.bad r5 e5:Rs RcV)) ((by unfold recP;rw [bnd_ok h1.symm,bnd_ok h2.symm,bnd_ok h3.symm,bnd_ok h4.symm,bnd_bad h5.symm])) [] sH rfl rfl (okPan rfl))
 have s5:=((num_g.g).suf _ _ _ h5.symm).trans s4
 refine RunsS.subR (nx':=11) (l':=[(16,.v (.int .i64 a5)),(2,.ptr 10 0),(0,.ptr 0 0)]) (H':=[psB src (ix L r5),tkB L,(10,.cells 61 [.v (.string a1),.v (.string a3),.v (.int .i64 0),.v (.int .i64 0),.v (.slice none 0 0),.v (.slice none 0 0),.v (.slice none 0 0),.v (.int .i64 0),.v (.int .i64 0),.v (.int .i64 0),.v (.int .i64 0),.v (.int .i64 0),.v (.int .i64 0),.v (.int .i64 0),.v (.slice none 0 0),.v (.int .i64 0),.v (.int .i64 0)])]) [] ?_ sH sH
 (try refine gS ?_);conv=>whnf
 refine RunsS.callN (pexpect_fn src L r5 s5 hL [B wTo] (by decide)) [0,1,2,3,4,5,6,7,8,9,11] ?_ sH ?CNa6
 case CNa6=>rfl
 rintro (⟨_,r6⟩|⟨r6,e6⟩) h6<;>conv=>whnf
 all_goals rw [skips_w K s5 (V.w wTo (by simp))] at h6
 rotate_left
 ·try refine RunsS.panicU ?_
  exact UnwS.pan Tryz.func78 (EndS.mk ((Rs.bad r6 e6:Rs RcV)) ((by unfold recP;rw [bnd_ok h1.symm,bnd_ok h2.symm,bnd_ok h3.symm,bnd_ok h4.symm,bnd_ok h5.symm,bnd_bad h6.symm])) [] sH rfl rfl (okPan rfl))
 have s6:=(((skip_one _ _).1).suf _ _ _ h6.symm).trans s5
 refine RunsS.subR (nx':=11) (l':=[(2,.ptr 10 0),(0,.ptr 0 0)]) (H':=[psB src (ix L r6),tkB L,(10,.cells 61 [.v (.string a1),.v (.string a3),.v (.int .i64 a5),.v (.int .i64 0),.v (.slice none 0 0),.v (.slice none 0 0),.v (.slice none 0 0),.v (.int .i64 0),.v (.int .i64 0),.v (.int .i64 0),.v (.int .i64 0),.v (.int .i64 0),.v (.int .i64 0),.v (.int .i64 0),.v (.slice none 0 0),.v (.int .i64 0),.v (.int .i64 0)])]) [] ?_ sH sH
 (try refine gS ?_);conv=>whnf
 refine RunsS.callN (pnumber_fn src L r6 s6 hL) [0,1,2,3,4,5,6,7,8,9] ?_ sH ?CNa7
 case CNa7=>rfl
 rintro (⟨a7,r7⟩|⟨r7,e7⟩) h7<;>conv=>whnf
 rotate_left
 ·try refine RunsS.panicU ?_
  exact UnwS.pan Tryz.func78 (EndS.mk ((Rs.bad r7 e7:Rs RcV)) ((by unfold recP;rw [bnd_ok h1.symm,bnd_ok h2.symm,bnd_ok h3.symm,bnd_ok h4.symm,bnd_ok h5.symm,bnd_ok h6.symm,bnd_bad h7.symm])) [] sH rfl rfl (okPan rfl))
 have s7:=((num_g.g).suf _ _ _ h7.symm).trans s6
 refine RunsS.subR (nx':=11) (l':=[(22,.v (.int .i64 a7)),(2,.ptr 10 0),(0,.ptr 0 0)]) (H':=[psB src (ix L r7),tkB L,(10,.cells 61 [.v (.string a1),.v (.string a3),.v (.int .i64 a5),.v (.int .i64 0),.v (.slice none 0 0),.v (.slice none 0 0),.v (.slice none 0 0),.v (.int .i64 0),.v (.int .i64 0),.v (.int .i64 0),.v (.int .i64 0),.v (.int .i64 0),.v (.int .i64 0),.v (.int .i64 0),.v (.slice none 0 0),.v (.int .i64 0),.v (.int .i64 0)])]) [] ?_ sH sH
 (try refine gS ?_);conv=>whnf
 refine RunsS.subR (nx':=11) (l':=[(24,.ptr 0 0),(2,.ptr 10 0),(0,.ptr 0 0)]) (H':=[psB src (ix L r7),tkB L,(10,.cells 61 [.v (.string a1),.v (.string a3),.v (.int .i64 a5),.v (.int .i64 a7),.v (.slice none 0 0),.v (.slice none 0 0),.v (.slice none 0 0),.v (.int .i64 0),.v (.int .i64 0),.v (.int .i64 0),.v (.int .i64 0),.v (.int .i64 0),.v (.int .i64 0),.v (.int .i64 0),.v (.slice none 0 0),.v (.int .i64 0),.v (.int .i64 0)])]) [] ?_ sH sH
 refine RunsS.nilOwn (l':=[(24,.ptr 0 0),(2,.ptr 10 0),(0,.ptr 0 0)]) (H':=[psB src (ix L r7),tkB L,(10,.cells 61 [.v (.string a1),.v (.string a3),.v (.int .i64 a5),.v (.int .i64 a7),.buf 11,.v (.slice none 0 0),.v (.slice none 0 0),.v (.int .i64 0),.v (.int .i64 0),.v (.int .i64 0),.v (.int .i64 0),.v (.int .i64 0),.v (.int .i64 0),.v (.int .i64 0),.v (.slice none 0 0),.v (.int .i64 0),.v (.int .i64 0)])]) 52 4 ?_ (by rfl) (by rfl) (by rfl)
 refine RunsS.callN (pis_fn src L r7 s7 (B wIf)) [0,1,2,3,4,5,6,7,8,9] ?_ sH ?CNa8
 case CNa8=>rfl
 intro _ _
 conv=>whnf
 (try refine gS ?_);conv=>whnf
 cases hA:isA (B wIf) r7 with
 |false=>
  have b8:optP 1 (B wIf) [] (sepP condP 6) r7=.ok [] r7:=optW_no (by rw [←isA_w K s7 (V.w wIf (by simp)),hA])
  (try refine gS ?_);conv=>whnf
  refine RunsS.callN (pexpect_fn src L r7 s7 hL [B [123]] (by decide)) [0,1,2,3,4,5,6,7,8,9,12] ?_ sH ?CNa9
  case CNa9=>rfl
  rintro (⟨_,r9⟩|⟨r9,e9⟩) h9<;>conv=>whnf
  all_goals rw [skips_s K s7 (V.s 123 (by decide))] at h9
  rotate_left
  ·try refine RunsS.panicU ?_
   exact UnwS.pan Tryz.func78 (EndS.mk ((Rs.bad r9 e9:Rs RcV)) ((by unfold recP;rw [bnd_ok h1.symm,bnd_ok h2.symm,bnd_ok h3.symm,bnd_ok h4.symm,bnd_ok h5.symm,bnd_ok h6.symm,bnd_ok h7.symm,bnd_ok b8,bnd_bad h9.symm])) [] sH rfl rfl (okPan rfl))
  have s9:=(((skip_one _ _).1).suf _ _ _ h9.symm).trans s7
  refine RunsS.subR (nx':=12) (l':=[(2,.ptr 10 0),(0,.ptr 0 0)]) (H':=[psB src (ix L r9),tkB L,(10,.cells 61 [.v (.string a1),.v (.string a3),.v (.int .i64 a5),.v (.int .i64 a7),.buf 11,.v (.slice none 0 0),.v (.slice none 0 0),.v (.int .i64 0),.v (.int .i64 0),.v (.int .i64 0),.v (.int .i64 0),.v (.int .i64 0),.v (.int .i64 0),.v (.int .i64 0),.v (.slice none 0 0),.v (.int .i64 0),.v (.int .i64 0)]),(11,.own 52 4 (rws Cd.row []))]) [] ?_ sH sH
  (try refine gS ?_);conv=>whnf
  refine RunsS.callN (begIn_fn src L r9 s9 hL K V wIn (V.w wIn (by simp)) 8 (by decide)) [0,1,2,3,4,5,6,7,8,9] ?_ sH ?CNa10
  case CNa10=>rfl
  rintro (⟨a10,r10⟩|⟨r10,e10⟩) h10<;>conv=>whnf
  rotate_left
  ·try refine RunsS.panicU ?_
   exact UnwS.pan Tryz.func78 (EndS.mk ((Rs.bad r10 e10:Rs RcV)) ((by unfold recP;rw [bnd_ok h1.symm,bnd_ok h2.symm,bnd_ok h3.symm,bnd_ok h4.symm,bnd_ok h5.symm,bnd_ok h6.symm,bnd_ok h7.symm,bnd_ok b8,bnd_ok h9.symm,bnd_bad h10.symm])) [] sH rfl rfl (okPan rfl))
  have s10:=((good_many in_g.g 8).suf _ _ _ h10.symm).trans s9
  refine RunsS.subR (nx':=13) (l':=[(40,.buf 12),(2,.ptr 10 0),(0,.ptr 0 0)]) (H':=[psB src (ix L r10),tkB L,(10,.cells 61 [.v (.string a1),.v (.string a3),.v (.int .i64 a5),.v (.int .i64 a7),.buf 11,.v (.slice none 0 0),.v (.slice none 0 0),.v (.int .i64 0),.v (.int .i64 0),.v (.int .i64 0),.v (.int .i64 0),.v (.int .i64 0),.v (.int .i64 0),.v (.int .i64 0),.v (.slice none 0 0),.v (.int .i64 0),.v (.int .i64 0)]),(11,.own 52 4 (rws Cd.row [])),(12,.own 55 7 (rws Am.row a10))]) [] ?_ sH sH
  (try refine gS ?_);conv=>whnf
  refine RunsS.callN (begOut_fn src L r10 s10 hL K V wOut (V.w wOut (by simp)) 8 (by decide)) [0,1,2,3,4,5,6,7,8,9] ?_ sH ?CNa11
  case CNa11=>rfl
  rintro (⟨a11,r11⟩|⟨r11,e11⟩) h11<;>conv=>whnf
  rotate_left
  ·try refine RunsS.panicU ?_
   exact UnwS.pan Tryz.func78 (EndS.mk ((Rs.bad r11 e11:Rs RcV)) ((by unfold recP;rw [bnd_ok h1.symm,bnd_ok h2.symm,bnd_ok h3.symm,bnd_ok h4.symm,bnd_ok h5.symm,bnd_ok h6.symm,bnd_ok h7.symm,bnd_ok b8,bnd_ok h9.symm,bnd_ok h10.symm,bnd_bad h11.symm])) [] sH rfl rfl (okPan rfl))
  have s11:=((good_many out_g.g 8).suf _ _ _ h11.symm).trans s10
  refine RunsS.subR (nx':=14) (l':=[(43,.buf 13),(2,.ptr 10 0),(0,.ptr 0 0)]) (H':=[psB src (ix L r11),tkB L,(10,.cells 61 [.v (.string a1),.v (.string a3),.v (.int .i64 a5),.v (.int .i64 a7),.buf 11,.buf 12,.v (.slice none 0 0),.v (.int .i64 0),.v (.int .i64 0),.v (.int .i64 0),.v (.int .i64 0),.v (.int .i64 0),.v (.int .i64 0),.v (.int .i64 0),.v (.slice none 0 0),.v (.int .i64 0),.v (.int .i64 0)]),(11,.own 52 4 (rws Cd.row [])),(12,.own 55 7 (rws Am.row a10)),(13,.own 55 7 (rws Am.row a11))]) [] ?_ sH sH
  (try refine gS ?_);conv=>whnf
  refine RunsS.callN (pexpect_fn src L r11 s11 hL [B wRework] (by decide)) [0,1,2,3,4,5,6,7,8,9,14] ?_ sH ?CNa12
  case CNa12=>rfl
  rintro (⟨_,r12⟩|⟨r12,e12⟩) h12<;>conv=>whnf
  all_goals rw [skips_w K s11 (V.w wRework (by simp))] at h12
  rotate_left
  ·try refine RunsS.panicU ?_
   exact UnwS.pan Tryz.func78 (EndS.mk ((Rs.bad r12 e12:Rs RcV)) ((by unfold recP;rw [bnd_ok h1.symm,bnd_ok h2.symm,bnd_ok h3.symm,bnd_ok h4.symm,bnd_ok h5.symm,bnd_ok h6.symm,bnd_ok h7.symm,bnd_ok b8,bnd_ok h9.symm,bnd_ok h10.symm,bnd_ok h11.symm,bnd_bad h12.symm])) [] sH rfl rfl (okPan rfl))
  have s12:=(((skip_one _ _).1).suf _ _ _ h12.symm).trans s11
  refine RunsS.subR (nx':=14) (l':=[(2,.ptr 10 0),(0,.ptr 0 0)]) (H':=[psB src (ix L r12),tkB L,(10,.cells 61 [.v (.string a1),.v (.string a3),.v (.int .i64 a5),.v (.int .i64 a7),.buf 11,.buf 12,.buf 13,.v (.int .i64 0),.v (.int .i64 0),.v (.int .i64 0),.v (.int .i64 0),.v (.int .i64 0),.v (.int .i64 0),.v (.int .i64 0),.v (.slice none 0 0),.v (.int .i64 0),.v (.int .i64 0)]),(11,.own 52 4 (rws Cd.row [])),(12,.own 55 7 (rws Am.row a10)),(13,.own 55 7 (rws Am.row a11))]) [] ?_ sH sH
  (try refine gS ?_);conv=>whnf
  refine RunsS.callN (pfrac_fn src L r12 s12 hL K V) [0,1,2,3,4,5,6,7,8,9] ?_ sH ?CNa13
  case CNa13=>rfl
  rintro (⟨⟨a13,b13⟩,r13⟩|⟨r13,e13⟩) h13<;>conv=>whnf
  rotate_left
  ·try refine RunsS.panicU ?_
   exact UnwS.pan Tryz.func78 (EndS.mk ((Rs.bad r13 e13:Rs RcV)) ((by unfold recP;rw [bnd_ok h1.symm,bnd_ok h2.symm,bnd_ok h3.symm,bnd_ok h4.symm,bnd_ok h5.symm,bnd_ok h6.symm,bnd_ok h7.symm,bnd_ok b8,bnd_ok h9.symm,bnd_ok h10.symm,bnd_ok h11.symm,bnd_ok h12.symm,bnd_bad h13.symm])) [] sH rfl rfl (okPan rfl))
  have s13:=((frac_g.g).suf _ _ _ h13.symm).trans s12
  refine RunsS.subR (nx':=14) (l':=[(50,.tup [.v (.int .i64 a13),.v (.int .i64 b13)]),(2,.ptr 10 0),(0,.ptr 0 0)]) (H':=[psB src (ix L r13),tkB L,(10,.cells 61 [.v (.string a1),.v (.string a3),.v (.int .i64 a5),.v (.int .i64 a7),.buf 11,.buf 12,.buf 13,.v (.int .i64 0),.v (.int .i64 0),.v (.int .i64 0),.v (.int .i64 0),.v (.int .i64 0),.v (.int .i64 0),.v (.int .i64 0),.v (.slice none 0 0),.v (.int .i64 0),.v (.int .i64 0)]),(11,.own 52 4 (rws Cd.row [])),(12,.own 55 7 (rws Am.row a10)),(13,.own 55 7 (rws Am.row a11))]) [] ?_ sH sH
  (try refine gS ?_);conv=>whnf
  refine RunsS.callN (pexpect_fn src L r13 s13 hL [B [59],B wYield] (by decide)) [0,1,2,3,4,5,6,7,8,9,14] ?_ sH ?CNa14
  case CNa14=>rfl
  rintro (⟨_,r14⟩|⟨r14,e14⟩) h14<;>conv=>whnf
  all_goals rw [skips_sw K s13 (V.s 59 (by decide)) (V.w wYield (by simp))] at h14
  rotate_left
  ·try refine RunsS.panicU ?_
   exact UnwS.pan Tryz.func78 (EndS.mk ((Rs.bad r14 e14:Rs RcV)) ((by unfold recP;rw [bnd_ok h1.symm,bnd_ok h2.symm,bnd_ok h3.symm,bnd_ok h4.symm,bnd_ok h5.symm,bnd_ok h6.symm,bnd_ok h7.symm,bnd_ok b8,bnd_ok h9.symm,bnd_ok h10.symm,bnd_ok h11.symm,bnd_ok h12.symm,bnd_ok h13.symm,bnd_two,bnd_bad h14.symm])) [] sH rfl rfl (okPan rfl))
  have s14:=((good_bnd (skip_one _ _).1 fun _=>(skip_one _ _).1).suf _ _ _ h14.symm).trans s13
  refine RunsS.subR (nx':=14) (l':=[(2,.ptr 10 0),(0,.ptr 0 0)]) (H':=[psB src (ix L r14),tkB L,(10,.cells 61 [.v (.string a1),.v (.string a3),.v (.int .i64 a5),.v (.int .i64 a7),.buf 11,.buf 12,.buf 13,.v (.int .i64 a13),.v (.int .i64 b13),.v (.int .i64 0),.v (.int .i64 0),.v (.int .i64 0),.v (.int .i64 0),.v (.int .i64 0),.v (.slice none 0 0),.v (.int .i64 0),.v (.int .i64 0)]),(11,.own 52 4 (rws Cd.row [])),(12,.own 55 7 (rws Am.row a10)),(13,.own 55 7 (rws Am.row a11))]) [] ?_ sH sH
  (try refine gS ?_);conv=>whnf
  refine RunsS.callN (pfrac_fn src L r14 s14 hL K V) [0,1,2,3,4,5,6,7,8,9] ?_ sH ?CNa15
  case CNa15=>rfl
  rintro (⟨⟨a15,b15⟩,r15⟩|⟨r15,e15⟩) h15<;>conv=>whnf
  rotate_left
  ·try refine RunsS.panicU ?_
   exact UnwS.pan Tryz.func78 (EndS.mk ((Rs.bad r15 e15:Rs RcV)) ((by unfold recP;rw [bnd_ok h1.symm,bnd_ok h2.symm,bnd_ok h3.symm,bnd_ok h4.symm,bnd_ok h5.symm,bnd_ok h6.symm,bnd_ok h7.symm,bnd_ok b8,bnd_ok h9.symm,bnd_ok h10.symm,bnd_ok h11.symm,bnd_ok h12.symm,bnd_ok h13.symm,bnd_two,bnd_ok h14.symm,bnd_bad h15.symm])) [] sH rfl rfl (okPan rfl))
  have s15:=((frac_g.g).suf _ _ _ h15.symm).trans s14
  refine RunsS.subR (nx':=14) (l':=[(60,.tup [.v (.int .i64 a15),.v (.int .i64 b15)]),(2,.ptr 10 0),(0,.ptr 0 0)]) (H':=[psB src (ix L r15),tkB L,(10,.cells 61 [.v (.string a1),.v (.string a3),.v (.int .i64 a5),.v (.int .i64 a7),.buf 11,.buf 12,.buf 13,.v (.int .i64 a13),.v (.int .i64 b13),.v (.int .i64 0),.v (.int .i64 0),.v (.int .i64 0),.v (.int .i64 0),.v (.int .i64 0),.v (.slice none 0 0),.v (.int .i64 0),.v (.int .i64 0)]),(11,.own 52 4 (rws Cd.row [])),(12,.own 55 7 (rws Am.row a10)),(13,.own 55 7 (rws Am.row a11))]) [] ?_ sH sH
  (try refine gS ?_);conv=>whnf
  refine RunsS.callN (pexpect_fn src L r15 s15 hL [B wWithin] (by decide)) [0,1,2,3,4,5,6,7,8,9,14] ?_ sH ?CNa16
  case CNa16=>rfl
  rintro (⟨_,r16⟩|⟨r16,e16⟩) h16<;>conv=>whnf
  all_goals rw [skips_w K s15 (V.w wWithin (by simp))] at h16
  rotate_left
  ·try refine RunsS.panicU ?_
   exact UnwS.pan Tryz.func78 (EndS.mk ((Rs.bad r16 e16:Rs RcV)) ((by unfold recP;rw [bnd_ok h1.symm,bnd_ok h2.symm,bnd_ok h3.symm,bnd_ok h4.symm,bnd_ok h5.symm,bnd_ok h6.symm,bnd_ok h7.symm,bnd_ok b8,bnd_ok h9.symm,bnd_ok h10.symm,bnd_ok h11.symm,bnd_ok h12.symm,bnd_ok h13.symm,bnd_two,bnd_ok h14.symm,bnd_ok h15.symm,bnd_bad h16.symm])) [] sH rfl rfl (okPan rfl))
  have s16:=(((skip_one _ _).1).suf _ _ _ h16.symm).trans s15
  refine RunsS.subR (nx':=14) (l':=[(2,.ptr 10 0),(0,.ptr 0 0)]) (H':=[psB src (ix L r16),tkB L,(10,.cells 61 [.v (.string a1),.v (.string a3),.v (.int .i64 a5),.v (.int .i64 a7),.buf 11,.buf 12,.buf 13,.v (.int .i64 a13),.v (.int .i64 b13),.v (.int .i64 a15),.v (.int .i64 b15),.v (.int .i64 0),.v (.int .i64 0),.v (.int .i64 0),.v (.slice none 0 0),.v (.int .i64 0),.v (.int .i64 0)]),(11,.own 52 4 (rws Cd.row [])),(12,.own 55 7 (rws Am.row a10)),(13,.own 55 7 (rws Am.row a11))]) [] ?_ sH sH
  (try refine gS ?_);conv=>whnf
  refine RunsS.callN (pfrac_fn src L r16 s16 hL K V) [0,1,2,3,4,5,6,7,8,9] ?_ sH ?CNa17
  case CNa17=>rfl
  rintro (⟨⟨a17,b17⟩,r17⟩|⟨r17,e17⟩) h17<;>conv=>whnf
  rotate_left
  ·try refine RunsS.panicU ?_
   exact UnwS.pan Tryz.func78 (EndS.mk ((Rs.bad r17 e17:Rs RcV)) ((by unfold recP;rw [bnd_ok h1.symm,bnd_ok h2.symm,bnd_ok h3.symm,bnd_ok h4.symm,bnd_ok h5.symm,bnd_ok h6.symm,bnd_ok h7.symm,bnd_ok b8,bnd_ok h9.symm,bnd_ok h10.symm,bnd_ok h11.symm,bnd_ok h12.symm,bnd_ok h13.symm,bnd_two,bnd_ok h14.symm,bnd_ok h15.symm,bnd_ok h16.symm,bnd_bad h17.symm])) [] sH rfl rfl (okPan rfl))
  have s17:=((frac_g.g).suf _ _ _ h17.symm).trans s16
  refine RunsS.subR (nx':=14) (l':=[(70,.tup [.v (.int .i64 a17),.v (.int .i64 b17)]),(2,.ptr 10 0),(0,.ptr 0 0)]) (H':=[psB src (ix L r17),tkB L,(10,.cells 61 [.v (.string a1),.v (.string a3),.v (.int .i64 a5),.v (.int .i64 a7),.buf 11,.buf 12,.buf 13,.v (.int .i64 a13),.v (.int .i64 b13),.v (.int .i64 a15),.v (.int .i64 b15),.v (.int .i64 0),.v (.int .i64 0),.v (.int .i64 0),.v (.slice none 0 0),.v (.int .i64 0),.v (.int .i64 0)]),(11,.own 52 4 (rws Cd.row [])),(12,.own 55 7 (rws Am.row a10)),(13,.own 55 7 (rws Am.row a11))]) [] ?_ sH sH
  (try refine gS ?_);conv=>whnf
  refine RunsS.callN (pexpect_fn src L r17 s17 hL [B [59],B wLead] (by decide)) [0,1,2,3,4,5,6,7,8,9,14] ?_ sH ?CNa18
  case CNa18=>rfl
  rintro (⟨_,r18⟩|⟨r18,e18⟩) h18<;>conv=>whnf
  all_goals rw [skips_sw K s17 (V.s 59 (by decide)) (V.w wLead (by simp))] at h18
  rotate_left
  ·try refine RunsS.panicU ?_
   exact UnwS.pan Tryz.func78 (EndS.mk ((Rs.bad r18 e18:Rs RcV)) ((by unfold recP;rw [bnd_ok h1.symm,bnd_ok h2.symm,bnd_ok h3.symm,bnd_ok h4.symm,bnd_ok h5.symm,bnd_ok h6.symm,bnd_ok h7.symm,bnd_ok b8,bnd_ok h9.symm,bnd_ok h10.symm,bnd_ok h11.symm,bnd_ok h12.symm,bnd_ok h13.symm,bnd_two,bnd_ok h14.symm,bnd_ok h15.symm,bnd_ok h16.symm,bnd_ok h17.symm,bnd_two,bnd_bad h18.symm])) [] sH rfl rfl (okPan rfl))
  have s18:=((good_bnd (skip_one _ _).1 fun _=>(skip_one _ _).1).suf _ _ _ h18.symm).trans s17
  refine RunsS.subR (nx':=14) (l':=[(2,.ptr 10 0),(0,.ptr 0 0)]) (H':=[psB src (ix L r18),tkB L,(10,.cells 61 [.v (.string a1),.v (.string a3),.v (.int .i64 a5),.v (.int .i64 a7),.buf 11,.buf 12,.buf 13,.v (.int .i64 a13),.v (.int .i64 b13),.v (.int .i64 a15),.v (.int .i64 b15),.v (.int .i64 a17),.v (.int .i64 b17),.v (.int .i64 0),.v (.slice none 0 0),.v (.int .i64 0),.v (.int .i64 0)]),(11,.own 52 4 (rws Cd.row [])),(12,.own 55 7 (rws Am.row a10)),(13,.own 55 7 (rws Am.row a11))]) [] ?_ sH sH
  (try refine gS ?_);conv=>whnf
  refine RunsS.callN (pnumber_fn src L r18 s18 hL) [0,1,2,3,4,5,6,7,8,9] ?_ sH ?CNa19
  case CNa19=>rfl
  rintro (⟨a19,r19⟩|⟨r19,e19⟩) h19<;>conv=>whnf
  rotate_left
  ·try refine RunsS.panicU ?_
   exact UnwS.pan Tryz.func78 (EndS.mk ((Rs.bad r19 e19:Rs RcV)) ((by unfold recP;rw [bnd_ok h1.symm,bnd_ok h2.symm,bnd_ok h3.symm,bnd_ok h4.symm,bnd_ok h5.symm,bnd_ok h6.symm,bnd_ok h7.symm,bnd_ok b8,bnd_ok h9.symm,bnd_ok h10.symm,bnd_ok h11.symm,bnd_ok h12.symm,bnd_ok h13.symm,bnd_two,bnd_ok h14.symm,bnd_ok h15.symm,bnd_ok h16.symm,bnd_ok h17.symm,bnd_two,bnd_ok h18.symm,bnd_bad h19.symm])) [] sH rfl rfl (okPan rfl))
  have s19:=((num_g.g).suf _ _ _ h19.symm).trans s18
  refine RunsS.subR (nx':=14) (l':=[(79,.v (.int .i64 a19)),(2,.ptr 10 0),(0,.ptr 0 0)]) (H':=[psB src (ix L r19),tkB L,(10,.cells 61 [.v (.string a1),.v (.string a3),.v (.int .i64 a5),.v (.int .i64 a7),.buf 11,.buf 12,.buf 13,.v (.int .i64 a13),.v (.int .i64 b13),.v (.int .i64 a15),.v (.int .i64 b15),.v (.int .i64 a17),.v (.int .i64 b17),.v (.int .i64 0),.v (.slice none 0 0),.v (.int .i64 0),.v (.int .i64 0)]),(11,.own 52 4 (rws Cd.row [])),(12,.own 55 7 (rws Am.row a10)),(13,.own 55 7 (rws Am.row a11))]) [] ?_ sH sH
  (try refine gS ?_);conv=>whnf
  refine RunsS.callN (pexpect_fn src L r19 s19 hL [B [59]] (by decide)) [0,1,2,3,4,5,6,7,8,9,14] ?_ sH ?CNa20
  case CNa20=>rfl
  rintro (⟨_,r20⟩|⟨r20,e20⟩) h20<;>conv=>whnf
  all_goals rw [skips_s K s19 (V.s 59 (by decide))] at h20
  rotate_left
  ·try refine RunsS.panicU ?_
   exact UnwS.pan Tryz.func78 (EndS.mk ((Rs.bad r20 e20:Rs RcV)) ((by unfold recP;rw [bnd_ok h1.symm,bnd_ok h2.symm,bnd_ok h3.symm,bnd_ok h4.symm,bnd_ok h5.symm,bnd_ok h6.symm,bnd_ok h7.symm,bnd_ok b8,bnd_ok h9.symm,bnd_ok h10.symm,bnd_ok h11.symm,bnd_ok h12.symm,bnd_ok h13.symm,bnd_two,bnd_ok h14.symm,bnd_ok h15.symm,bnd_ok h16.symm,bnd_ok h17.symm,bnd_two,bnd_ok h18.symm,bnd_ok h19.symm,bnd_bad h20.symm])) [] sH rfl rfl (okPan rfl))
  have s20:=(((skip_one _ _).1).suf _ _ _ h20.symm).trans s19
  refine RunsS.subR (nx':=14) (l':=[(2,.ptr 10 0),(0,.ptr 0 0)]) (H':=[psB src (ix L r20),tkB L,(10,.cells 61 [.v (.string a1),.v (.string a3),.v (.int .i64 a5),.v (.int .i64 a7),.buf 11,.buf 12,.buf 13,.v (.int .i64 a13),.v (.int .i64 b13),.v (.int .i64 a15),.v (.int .i64 b15),.v (.int .i64 a17),.v (.int .i64 b17),.v (.int .i64 a19),.v (.slice none 0 0),.v (.int .i64 0),.v (.int .i64 0)]),(11,.own 52 4 (rws Cd.row [])),(12,.own 55 7 (rws Am.row a10)),(13,.own 55 7 (rws Am.row a11))]) [] ?_ sH sH
  (try refine gS ?_);conv=>whnf
  refine RunsS.callN (begRun_fn src L r20 s20 hL K V wRun (V.w wRun (by simp)) 8 (by decide)) [0,1,2,3,4,5,6,7,8,9] ?_ sH ?CNa21
  case CNa21=>rfl
  rintro (⟨a21,r21⟩|⟨r21,e21⟩) h21<;>conv=>whnf
  rotate_left
  ·try refine RunsS.panicU ?_
   exact UnwS.pan Tryz.func78 (EndS.mk ((Rs.bad r21 e21:Rs RcV)) ((by unfold recP;rw [bnd_ok h1.symm,bnd_ok h2.symm,bnd_ok h3.symm,bnd_ok h4.symm,bnd_ok h5.symm,bnd_ok h6.symm,bnd_ok h7.symm,bnd_ok b8,bnd_ok h9.symm,bnd_ok h10.symm,bnd_ok h11.symm,bnd_ok h12.symm,bnd_ok h13.symm,bnd_two,bnd_ok h14.symm,bnd_ok h15.symm,bnd_ok h16.symm,bnd_ok h17.symm,bnd_two,bnd_ok h18.symm,bnd_ok h19.symm,bnd_ok h20.symm,bnd_bad h21.symm])) [] sH rfl rfl (okPan rfl))
  have s21:=((good_many run_g.g 8).suf _ _ _ h21.symm).trans s20
  refine RunsS.subR (nx':=15) (l':=[(85,.buf 14),(2,.ptr 10 0),(0,.ptr 0 0)]) (H':=[psB src (ix L r21),tkB L,(10,.cells 61 [.v (.string a1),.v (.string a3),.v (.int .i64 a5),.v (.int .i64 a7),.buf 11,.buf 12,.buf 13,.v (.int .i64 a13),.v (.int .i64 b13),.v (.int .i64 a15),.v (.int .i64 b15),.v (.int .i64 a17),.v (.int .i64 b17),.v (.int .i64 a19),.v (.slice none 0 0),.v (.int .i64 0),.v (.int .i64 0)]),(11,.own 52 4 (rws Cd.row [])),(12,.own 55 7 (rws Am.row a10)),(13,.own 55 7 (rws Am.row a11)),(14,.own 58 3 (rws Rn.row a21))]) [] ?_ sH sH
  (try refine gS ?_);conv=>whnf
  refine RunsS.callN (pexpect_fn src L r21 s21 hL [B [125]] (by decide)) [0,1,2,3,4,5,6,7,8,9,15] ?_ sH ?CNa22
  case CNa22=>rfl
  rintro (⟨_,r22⟩|⟨r22,e22⟩) h22<;>conv=>whnf
  all_goals rw [skips_s K s21 (V.s 125 (by decide))] at h22
  rotate_left
  ·try refine RunsS.panicU ?_
   exact UnwS.pan Tryz.func78 (EndS.mk ((Rs.bad r22 e22:Rs RcV)) ((by unfold recP;rw [bnd_ok h1.symm,bnd_ok h2.symm,bnd_ok h3.symm,bnd_ok h4.symm,bnd_ok h5.symm,bnd_ok h6.symm,bnd_ok h7.symm,bnd_ok b8,bnd_ok h9.symm,bnd_ok h10.symm,bnd_ok h11.symm,bnd_ok h12.symm,bnd_ok h13.symm,bnd_two,bnd_ok h14.symm,bnd_ok h15.symm,bnd_ok h16.symm,bnd_ok h17.symm,bnd_two,bnd_ok h18.symm,bnd_ok h19.symm,bnd_ok h20.symm,bnd_ok h21.symm,bnd_bad h22.symm])) [] sH rfl rfl (okPan rfl))
  have s22:=(((skip_one _ _).1).suf _ _ _ h22.symm).trans s21
  refine RunsS.subR (nx':=15) (l':=[(2,.ptr 10 0),(0,.ptr 0 0)]) (H':=[psB src (ix L r22),tkB L,(10,.cells 61 [.v (.string a1),.v (.string a3),.v (.int .i64 a5),.v (.int .i64 a7),.buf 11,.buf 12,.buf 13,.v (.int .i64 a13),.v (.int .i64 b13),.v (.int .i64 a15),.v (.int .i64 b15),.v (.int .i64 a17),.v (.int .i64 b17),.v (.int .i64 a19),.buf 14,.v (.int .i64 0),.v (.int .i64 0)]),(11,.own 52 4 (rws Cd.row [])),(12,.own 55 7 (rws Am.row a10)),(13,.own 55 7 (rws Am.row a11)),(14,.own 58 3 (rws Rn.row a21))]) [] ?_ sH sH
  (try refine gS ?_);conv=>whnf
  try refine RunsS.retU ?_
  exact UnwS.ret tab Tryz.func78 rfl (EndS.mk ((Rs.ok ⟨a1,a3,a5,a7,hd0,[],hd0,a10,hd0,a11,a13,b13,a15,b15,a17,b17,a19,hd0,a21,0,0⟩ r22:Rs RcV)) ((by unfold recP;rw [bnd_ok h1.symm,bnd_ok h2.symm,bnd_ok h3.symm,bnd_ok h4.symm,bnd_ok h5.symm,bnd_ok h6.symm,bnd_ok h7.symm,bnd_ok b8,bnd_ok h9.symm,bnd_ok h10.symm,bnd_ok h11.symm,bnd_ok h12.symm,bnd_ok h13.symm,bnd_two,bnd_ok h14.symm,bnd_ok h15.symm,bnd_ok h16.symm,bnd_ok h17.symm,bnd_two,bnd_ok h18.symm,bnd_ok h19.symm,bnd_ok h20.symm,bnd_ok h21.symm,bnd_ok h22.symm];rfl)) [(10,11),(11,12),(12,13),(13,14)] sH rfl rfl (okRet rfl rfl))
 |true=>
  obtain ⟨x,q,rfl⟩:=isA_cons hA
  have hT:isT 1 (B wIf) (x::q)=true:=by rw [←isA_w K s7 (V.w wIf (by simp)),hA]
  have hx:=ix_lt s7
  conv=>whnf
  repeat ((first|(guard_target=_∧_;(first|refine oL ?_|refine oR ?_))|(guard_target=Exists _;refine oM ?_));(try intro _);conv=>whnf)
  rw [ix_succ s7]
  refine RunsS.callN (sepCd_fn src L q (suf_tail s7) hL K V 6 (by decide) (by decide)) [0,1,2,3,4,5,6,7,8,9] ?_ sH ?CNa23
  case CNa23=>rfl
  rintro (⟨a8,r8⟩|⟨r8,e8⟩) h8<;>conv=>whnf
  rotate_left
  ·have b8:optP 1 (B wIf) [] (sepP condP 6) (x::q)=.bad r8 e8:=optW_yes hT h8.symm
   exact UnwS.pan Tryz.func78 (EndS.mk ((Rs.bad r8 e8:Rs RcV)) ((by unfold recP;rw [bnd_ok h1.symm,bnd_ok h2.symm,bnd_ok h3.symm,bnd_ok h4.symm,bnd_ok h5.symm,bnd_ok h6.symm,bnd_ok h7.symm,bnd_bad b8])) [] sH rfl rfl (okPan rfl))
  have b8:optP 1 (B wIf) [] (sepP condP 6) (x::q)=.ok a8 r8:=optW_yes hT h8.symm
  have s8:=((good_sep cond_g.g 6).suf _ _ _ h8.symm).trans (suf_tail s7)
  refine RunsS.subR (nx':=13) (l':=[(34,.buf 12),(2,.ptr 10 0),(0,.ptr 0 0)]) (H':=[psB src (ix L r8),tkB L,(10,.cells 61 [.v (.string a1),.v (.string a3),.v (.int .i64 a5),.v (.int .i64 a7),.buf 11,.v (.slice none 0 0),.v (.slice none 0 0),.v (.int .i64 0),.v (.int .i64 0),.v (.int .i64 0),.v (.int .i64 0),.v (.int .i64 0),.v (.int .i64 0),.v (.int .i64 0),.v (.slice none 0 0),.v (.int .i64 0),.v (.int .i64 0)]),(12,.own 52 4 (rws Cd.row a8))]) [] ?_ sH sH
  (try refine gS ?_);conv=>whnf
  refine RunsS.callN (pexpect_fn src L r8 s8 hL [B [123]] (by decide)) [0,1,2,3,4,5,6,7,8,9,13] ?_ sH ?CNa24
  case CNa24=>rfl
  rintro (⟨_,r9⟩|⟨r9,e9⟩) h9<;>conv=>whnf
  all_goals rw [skips_s K s8 (V.s 123 (by decide))] at h9
  rotate_left
  ·try refine RunsS.panicU ?_
   exact UnwS.pan Tryz.func78 (EndS.mk ((Rs.bad r9 e9:Rs RcV)) ((by unfold recP;rw [bnd_ok h1.symm,bnd_ok h2.symm,bnd_ok h3.symm,bnd_ok h4.symm,bnd_ok h5.symm,bnd_ok h6.symm,bnd_ok h7.symm,bnd_ok b8,bnd_bad h9.symm])) [] sH rfl rfl (okPan rfl))
  have s9:=(((skip_one _ _).1).suf _ _ _ h9.symm).trans s8
  refine RunsS.subR (nx':=13) (l':=[(2,.ptr 10 0),(0,.ptr 0 0)]) (H':=[psB src (ix L r9),tkB L,(10,.cells 61 [.v (.string a1),.v (.string a3),.v (.int .i64 a5),.v (.int .i64 a7),.buf 12,.v (.slice none 0 0),.v (.slice none 0 0),.v (.int .i64 0),.v (.int .i64 0),.v (.int .i64 0),.v (.int .i64 0),.v (.int .i64 0),.v (.int .i64 0),.v (.int .i64 0),.v (.slice none 0 0),.v (.int .i64 0),.v (.int .i64 0)]),(12,.own 52 4 (rws Cd.row a8))]) [] ?_ sH sH
  (try refine gS ?_);conv=>whnf
  refine RunsS.callN (begIn_fn src L r9 s9 hL K V wIn (V.w wIn (by simp)) 8 (by decide)) [0,1,2,3,4,5,6,7,8,9] ?_ sH ?CNa25
  case CNa25=>rfl
  rintro (⟨a10,r10⟩|⟨r10,e10⟩) h10<;>conv=>whnf
  rotate_left
  ·try refine RunsS.panicU ?_
   exact UnwS.pan Tryz.func78 (EndS.mk ((Rs.bad r10 e10:Rs RcV)) ((by unfold recP;rw [bnd_ok h1.symm,bnd_ok h2.symm,bnd_ok h3.symm,bnd_ok h4.symm,bnd_ok h5.symm,bnd_ok h6.symm,bnd_ok h7.symm,bnd_ok b8,bnd_ok h9.symm,bnd_bad h10.symm])) [] sH rfl rfl (okPan rfl))
  have s10:=((good_many in_g.g 8).suf _ _ _ h10.symm).trans s9
  refine RunsS.subR (nx':=14) (l':=[(40,.buf 13),(2,.ptr 10 0),(0,.ptr 0 0)]) (H':=[psB src (ix L r10),tkB L,(10,.cells 61 [.v (.string a1),.v (.string a3),.v (.int .i64 a5),.v (.int .i64 a7),.buf 12,.v (.slice none 0 0),.v (.slice none 0 0),.v (.int .i64 0),.v (.int .i64 0),.v (.int .i64 0),.v (.int .i64 0),.v (.int .i64 0),.v (.int .i64 0),.v (.int .i64 0),.v (.slice none 0 0),.v (.int .i64 0),.v (.int .i64 0)]),(12,.own 52 4 (rws Cd.row a8)),(13,.own 55 7 (rws Am.row a10))]) [] ?_ sH sH
  (try refine gS ?_);conv=>whnf
  refine RunsS.callN (begOut_fn src L r10 s10 hL K V wOut (V.w wOut (by simp)) 8 (by decide)) [0,1,2,3,4,5,6,7,8,9] ?_ sH ?CNa26
  case CNa26=>rfl
  rintro (⟨a11,r11⟩|⟨r11,e11⟩) h11<;>conv=>whnf
  rotate_left
  ·try refine RunsS.panicU ?_
   exact UnwS.pan Tryz.func78 (EndS.mk ((Rs.bad r11 e11:Rs RcV)) ((by unfold recP;rw [bnd_ok h1.symm,bnd_ok h2.symm,bnd_ok h3.symm,bnd_ok h4.symm,bnd_ok h5.symm,bnd_ok h6.symm,bnd_ok h7.symm,bnd_ok b8,bnd_ok h9.symm,bnd_ok h10.symm,bnd_bad h11.symm])) [] sH rfl rfl (okPan rfl))
  have s11:=((good_many out_g.g 8).suf _ _ _ h11.symm).trans s10
  refine RunsS.subR (nx':=15) (l':=[(43,.buf 14),(2,.ptr 10 0),(0,.ptr 0 0)]) (H':=[psB src (ix L r11),tkB L,(10,.cells 61 [.v (.string a1),.v (.string a3),.v (.int .i64 a5),.v (.int .i64 a7),.buf 12,.buf 13,.v (.slice none 0 0),.v (.int .i64 0),.v (.int .i64 0),.v (.int .i64 0),.v (.int .i64 0),.v (.int .i64 0),.v (.int .i64 0),.v (.int .i64 0),.v (.slice none 0 0),.v (.int .i64 0),.v (.int .i64 0)]),(12,.own 52 4 (rws Cd.row a8)),(13,.own 55 7 (rws Am.row a10)),(14,.own 55 7 (rws Am.row a11))]) [] ?_ sH sH
  (try refine gS ?_);conv=>whnf
  refine RunsS.callN (pexpect_fn src L r11 s11 hL [B wRework] (by decide)) [0,1,2,3,4,5,6,7,8,9,15] ?_ sH ?CNa27
  case CNa27=>rfl
  rintro (⟨_,r12⟩|⟨r12,e12⟩) h12<;>conv=>whnf
  all_goals rw [skips_w K s11 (V.w wRework (by simp))] at h12
  rotate_left
  ·try refine RunsS.panicU ?_
   exact UnwS.pan Tryz.func78 (EndS.mk ((Rs.bad r12 e12:Rs RcV)) ((by unfold recP;rw [bnd_ok h1.symm,bnd_ok h2.symm,bnd_ok h3.symm,bnd_ok h4.symm,bnd_ok h5.symm,bnd_ok h6.symm,bnd_ok h7.symm,bnd_ok b8,bnd_ok h9.symm,bnd_ok h10.symm,bnd_ok h11.symm,bnd_bad h12.symm])) [] sH rfl rfl (okPan rfl))
  have s12:=(((skip_one _ _).1).suf _ _ _ h12.symm).trans s11
  refine RunsS.subR (nx':=15) (l':=[(2,.ptr 10 0),(0,.ptr 0 0)]) (H':=[psB src (ix L r12),tkB L,(10,.cells 61 [.v (.string a1),.v (.string a3),.v (.int .i64 a5),.v (.int .i64 a7),.buf 12,.buf 13,.buf 14,.v (.int .i64 0),.v (.int .i64 0),.v (.int .i64 0),.v (.int .i64 0),.v (.int .i64 0),.v (.int .i64 0),.v (.int .i64 0),.v (.slice none 0 0),.v (.int .i64 0),.v (.int .i64 0)]),(12,.own 52 4 (rws Cd.row a8)),(13,.own 55 7 (rws Am.row a10)),(14,.own 55 7 (rws Am.row a11))]) [] ?_ sH sH
  (try refine gS ?_);conv=>whnf
  refine RunsS.callN (pfrac_fn src L r12 s12 hL K V) [0,1,2,3,4,5,6,7,8,9] ?_ sH ?CNa28
  case CNa28=>rfl
  rintro (⟨⟨a13,b13⟩,r13⟩|⟨r13,e13⟩) h13<;>conv=>whnf
  rotate_left
  ·try refine RunsS.panicU ?_
   exact UnwS.pan Tryz.func78 (EndS.mk ((Rs.bad r13 e13:Rs RcV)) ((by unfold recP;rw [bnd_ok h1.symm,bnd_ok h2.symm,bnd_ok h3.symm,bnd_ok h4.symm,bnd_ok h5.symm,bnd_ok h6.symm,bnd_ok h7.symm,bnd_ok b8,bnd_ok h9.symm,bnd_ok h10.symm,bnd_ok h11.symm,bnd_ok h12.symm,bnd_bad h13.symm])) [] sH rfl rfl (okPan rfl))
  have s13:=((frac_g.g).suf _ _ _ h13.symm).trans s12
  refine RunsS.subR (nx':=15) (l':=[(50,.tup [.v (.int .i64 a13),.v (.int .i64 b13)]),(2,.ptr 10 0),(0,.ptr 0 0)]) (H':=[psB src (ix L r13),tkB L,(10,.cells 61 [.v (.string a1),.v (.string a3),.v (.int .i64 a5),.v (.int .i64 a7),.buf 12,.buf 13,.buf 14,.v (.int .i64 0),.v (.int .i64 0),.v (.int .i64 0),.v (.int .i64 0),.v (.int .i64 0),.v (.int .i64 0),.v (.int .i64 0),.v (.slice none 0 0),.v (.int .i64 0),.v (.int .i64 0)]),(12,.own 52 4 (rws Cd.row a8)),(13,.own 55 7 (rws Am.row a10)),(14,.own 55 7 (rws Am.row a11))]) [] ?_ sH sH
  (try refine gS ?_);conv=>whnf
  refine RunsS.callN (pexpect_fn src L r13 s13 hL [B [59],B wYield] (by decide)) [0,1,2,3,4,5,6,7,8,9,15] ?_ sH ?CNa29
  case CNa29=>rfl
  rintro (⟨_,r14⟩|⟨r14,e14⟩) h14<;>conv=>whnf
  all_goals rw [skips_sw K s13 (V.s 59 (by decide)) (V.w wYield (by simp))] at h14
  rotate_left
  ·try refine RunsS.panicU ?_
   exact UnwS.pan Tryz.func78 (EndS.mk ((Rs.bad r14 e14:Rs RcV)) ((by unfold recP;rw [bnd_ok h1.symm,bnd_ok h2.symm,bnd_ok h3.symm,bnd_ok h4.symm,bnd_ok h5.symm,bnd_ok h6.symm,bnd_ok h7.symm,bnd_ok b8,bnd_ok h9.symm,bnd_ok h10.symm,bnd_ok h11.symm,bnd_ok h12.symm,bnd_ok h13.symm,bnd_two,bnd_bad h14.symm])) [] sH rfl rfl (okPan rfl))
  have s14:=((good_bnd (skip_one _ _).1 fun _=>(skip_one _ _).1).suf _ _ _ h14.symm).trans s13
  refine RunsS.subR (nx':=15) (l':=[(2,.ptr 10 0),(0,.ptr 0 0)]) (H':=[psB src (ix L r14),tkB L,(10,.cells 61 [.v (.string a1),.v (.string a3),.v (.int .i64 a5),.v (.int .i64 a7),.buf 12,.buf 13,.buf 14,.v (.int .i64 a13),.v (.int .i64 b13),.v (.int .i64 0),.v (.int .i64 0),.v (.int .i64 0),.v (.int .i64 0),.v (.int .i64 0),.v (.slice none 0 0),.v (.int .i64 0),.v (.int .i64 0)]),(12,.own 52 4 (rws Cd.row a8)),(13,.own 55 7 (rws Am.row a10)),(14,.own 55 7 (rws Am.row a11))]) [] ?_ sH sH
  (try refine gS ?_);conv=>whnf
  refine RunsS.callN (pfrac_fn src L r14 s14 hL K V) [0,1,2,3,4,5,6,7,8,9] ?_ sH ?CNa30
  case CNa30=>rfl
  rintro (⟨⟨a15,b15⟩,r15⟩|⟨r15,e15⟩) h15<;>conv=>whnf
  rotate_left
  ·try refine RunsS.panicU ?_
   exact UnwS.pan Tryz.func78 (EndS.mk ((Rs.bad r15 e15:Rs RcV)) ((by unfold recP;rw [bnd_ok h1.symm,bnd_ok h2.symm,bnd_ok h3.symm,bnd_ok h4.symm,bnd_ok h5.symm,bnd_ok h6.symm,bnd_ok h7.symm,bnd_ok b8,bnd_ok h9.symm,bnd_ok h10.symm,bnd_ok h11.symm,bnd_ok h12.symm,bnd_ok h13.symm,bnd_two,bnd_ok h14.symm,bnd_bad h15.symm])) [] sH rfl rfl (okPan rfl))
  have s15:=((frac_g.g).suf _ _ _ h15.symm).trans s14
  refine RunsS.subR (nx':=15) (l':=[(60,.tup [.v (.int .i64 a15),.v (.int .i64 b15)]),(2,.ptr 10 0),(0,.ptr 0 0)]) (H':=[psB src (ix L r15),tkB L,(10,.cells 61 [.v (.string a1),.v (.string a3),.v (.int .i64 a5),.v (.int .i64 a7),.buf 12,.buf 13,.buf 14,.v (.int .i64 a13),.v (.int .i64 b13),.v (.int .i64 0),.v (.int .i64 0),.v (.int .i64 0),.v (.int .i64 0),.v (.int .i64 0),.v (.slice none 0 0),.v (.int .i64 0),.v (.int .i64 0)]),(12,.own 52 4 (rws Cd.row a8)),(13,.own 55 7 (rws Am.row a10)),(14,.own 55 7 (rws Am.row a11))]) [] ?_ sH sH
  (try refine gS ?_);conv=>whnf
  refine RunsS.callN (pexpect_fn src L r15 s15 hL [B wWithin] (by decide)) [0,1,2,3,4,5,6,7,8,9,15] ?_ sH ?CNa31
  case CNa31=>rfl
  rintro (⟨_,r16⟩|⟨r16,e16⟩) h16<;>conv=>whnf
  all_goals rw [skips_w K s15 (V.w wWithin (by simp))] at h16
  rotate_left
  ·try refine RunsS.panicU ?_
   exact UnwS.pan Tryz.func78 (EndS.mk ((Rs.bad r16 e16:Rs RcV)) ((by unfold recP;rw [bnd_ok h1.symm,bnd_ok h2.symm,bnd_ok h3.symm,bnd_ok h4.symm,bnd_ok h5.symm,bnd_ok h6.symm,bnd_ok h7.symm,bnd_ok b8,bnd_ok h9.symm,bnd_ok h10.symm,bnd_ok h11.symm,bnd_ok h12.symm,bnd_ok h13.symm,bnd_two,bnd_ok h14.symm,bnd_ok h15.symm,bnd_bad h16.symm])) [] sH rfl rfl (okPan rfl))
  have s16:=(((skip_one _ _).1).suf _ _ _ h16.symm).trans s15
  refine RunsS.subR (nx':=15) (l':=[(2,.ptr 10 0),(0,.ptr 0 0)]) (H':=[psB src (ix L r16),tkB L,(10,.cells 61 [.v (.string a1),.v (.string a3),.v (.int .i64 a5),.v (.int .i64 a7),.buf 12,.buf 13,.buf 14,.v (.int .i64 a13),.v (.int .i64 b13),.v (.int .i64 a15),.v (.int .i64 b15),.v (.int .i64 0),.v (.int .i64 0),.v (.int .i64 0),.v (.slice none 0 0),.v (.int .i64 0),.v (.int .i64 0)]),(12,.own 52 4 (rws Cd.row a8)),(13,.own 55 7 (rws Am.row a10)),(14,.own 55 7 (rws Am.row a11))]) [] ?_ sH sH
  (try refine gS ?_);conv=>whnf
  refine RunsS.callN (pfrac_fn src L r16 s16 hL K V) [0,1,2,3,4,5,6,7,8,9] ?_ sH ?CNa32
  case CNa32=>rfl
  rintro (⟨⟨a17,b17⟩,r17⟩|⟨r17,e17⟩) h17<;>conv=>whnf
  rotate_left
  ·try refine RunsS.panicU ?_
   exact UnwS.pan Tryz.func78 (EndS.mk ((Rs.bad r17 e17:Rs RcV)) ((by unfold recP;rw [bnd_ok h1.symm,bnd_ok h2.symm,bnd_ok h3.symm,bnd_ok h4.symm,bnd_ok h5.symm,bnd_ok h6.symm,bnd_ok h7.symm,bnd_ok b8,bnd_ok h9.symm,bnd_ok h10.symm,bnd_ok h11.symm,bnd_ok h12.symm,bnd_ok h13.symm,bnd_two,bnd_ok h14.symm,bnd_ok h15.symm,bnd_ok h16.symm,bnd_bad h17.symm])) [] sH rfl rfl (okPan rfl))
  have s17:=((frac_g.g).suf _ _ _ h17.symm).trans s16
  refine RunsS.subR (nx':=15) (l':=[(70,.tup [.v (.int .i64 a17),.v (.int .i64 b17)]),(2,.ptr 10 0),(0,.ptr 0 0)]) (H':=[psB src (ix L r17),tkB L,(10,.cells 61 [.v (.string a1),.v (.string a3),.v (.int .i64 a5),.v (.int .i64 a7),.buf 12,.buf 13,.buf 14,.v (.int .i64 a13),.v (.int .i64 b13),.v (.int .i64 a15),.v (.int .i64 b15),.v (.int .i64 0),.v (.int .i64 0),.v (.int .i64 0),.v (.slice none 0 0),.v (.int .i64 0),.v (.int .i64 0)]),(12,.own 52 4 (rws Cd.row a8)),(13,.own 55 7 (rws Am.row a10)),(14,.own 55 7 (rws Am.row a11))]) [] ?_ sH sH
  (try refine gS ?_);conv=>whnf
  refine RunsS.callN (pexpect_fn src L r17 s17 hL [B [59],B wLead] (by decide)) [0,1,2,3,4,5,6,7,8,9,15] ?_ sH ?CNa33
  case CNa33=>rfl
  rintro (⟨_,r18⟩|⟨r18,e18⟩) h18<;>conv=>whnf
  all_goals rw [skips_sw K s17 (V.s 59 (by decide)) (V.w wLead (by simp))] at h18
  rotate_left
  ·try refine RunsS.panicU ?_
   exact UnwS.pan Tryz.func78 (EndS.mk ((Rs.bad r18 e18:Rs RcV)) ((by unfold recP;rw [bnd_ok h1.symm,bnd_ok h2.symm,bnd_ok h3.symm,bnd_ok h4.symm,bnd_ok h5.symm,bnd_ok h6.symm,bnd_ok h7.symm,bnd_ok b8,bnd_ok h9.symm,bnd_ok h10.symm,bnd_ok h11.symm,bnd_ok h12.symm,bnd_ok h13.symm,bnd_two,bnd_ok h14.symm,bnd_ok h15.symm,bnd_ok h16.symm,bnd_ok h17.symm,bnd_two,bnd_bad h18.symm])) [] sH rfl rfl (okPan rfl))
  have s18:=((good_bnd (skip_one _ _).1 fun _=>(skip_one _ _).1).suf _ _ _ h18.symm).trans s17
  refine RunsS.subR (nx':=15) (l':=[(2,.ptr 10 0),(0,.ptr 0 0)]) (H':=[psB src (ix L r18),tkB L,(10,.cells 61 [.v (.string a1),.v (.string a3),.v (.int .i64 a5),.v (.int .i64 a7),.buf 12,.buf 13,.buf 14,.v (.int .i64 a13),.v (.int .i64 b13),.v (.int .i64 a15),.v (.int .i64 b15),.v (.int .i64 a17),.v (.int .i64 b17),.v (.int .i64 0),.v (.slice none 0 0),.v (.int .i64 0),.v (.int .i64 0)]),(12,.own 52 4 (rws Cd.row a8)),(13,.own 55 7 (rws Am.row a10)),(14,.own 55 7 (rws Am.row a11))]) [] ?_ sH sH
  (try refine gS ?_);conv=>whnf
  refine RunsS.callN (pnumber_fn src L r18 s18 hL) [0,1,2,3,4,5,6,7,8,9] ?_ sH ?CNa34
  case CNa34=>rfl
  rintro (⟨a19,r19⟩|⟨r19,e19⟩) h19<;>conv=>whnf
  rotate_left
  ·try refine RunsS.panicU ?_
   exact UnwS.pan Tryz.func78 (EndS.mk ((Rs.bad r19 e19:Rs RcV)) ((by unfold recP;rw [bnd_ok h1.symm,bnd_ok h2.symm,bnd_ok h3.symm,bnd_ok h4.symm,bnd_ok h5.symm,bnd_ok h6.symm,bnd_ok h7.symm,bnd_ok b8,bnd_ok h9.symm,bnd_ok h10.symm,bnd_ok h11.symm,bnd_ok h12.symm,bnd_ok h13.symm,bnd_two,bnd_ok h14.symm,bnd_ok h15.symm,bnd_ok h16.symm,bnd_ok h17.symm,bnd_two,bnd_ok h18.symm,bnd_bad h19.symm])) [] sH rfl rfl (okPan rfl))
  have s19:=((num_g.g).suf _ _ _ h19.symm).trans s18
  refine RunsS.subR (nx':=15) (l':=[(79,.v (.int .i64 a19)),(2,.ptr 10 0),(0,.ptr 0 0)]) (H':=[psB src (ix L r19),tkB L,(10,.cells 61 [.v (.string a1),.v (.string a3),.v (.int .i64 a5),.v (.int .i64 a7),.buf 12,.buf 13,.buf 14,.v (.int .i64 a13),.v (.int .i64 b13),.v (.int .i64 a15),.v (.int .i64 b15),.v (.int .i64 a17),.v (.int .i64 b17),.v (.int .i64 0),.v (.slice none 0 0),.v (.int .i64 0),.v (.int .i64 0)]),(12,.own 52 4 (rws Cd.row a8)),(13,.own 55 7 (rws Am.row a10)),(14,.own 55 7 (rws Am.row a11))]) [] ?_ sH sH
  (try refine gS ?_);conv=>whnf
  refine RunsS.callN (pexpect_fn src L r19 s19 hL [B [59]] (by decide)) [0,1,2,3,4,5,6,7,8,9,15] ?_ sH ?CNa35
  case CNa35=>rfl
  rintro (⟨_,r20⟩|⟨r20,e20⟩) h20<;>conv=>whnf
  all_goals rw [skips_s K s19 (V.s 59 (by decide))] at h20
  rotate_left
  ·try refine RunsS.panicU ?_
   exact UnwS.pan Tryz.func78 (EndS.mk ((Rs.bad r20 e20:Rs RcV)) ((by unfold recP;rw [bnd_ok h1.symm,bnd_ok h2.symm,bnd_ok h3.symm,bnd_ok h4.symm,bnd_ok h5.symm,bnd_ok h6.symm,bnd_ok h7.symm,bnd_ok b8,bnd_ok h9.symm,bnd_ok h10.symm,bnd_ok h11.symm,bnd_ok h12.symm,bnd_ok h13.symm,bnd_two,bnd_ok h14.symm,bnd_ok h15.symm,bnd_ok h16.symm,bnd_ok h17.symm,bnd_two,bnd_ok h18.symm,bnd_ok h19.symm,bnd_bad h20.symm])) [] sH rfl rfl (okPan rfl))
  have s20:=(((skip_one _ _).1).suf _ _ _ h20.symm).trans s19
  refine RunsS.subR (nx':=15) (l':=[(2,.ptr 10 0),(0,.ptr 0 0)]) (H':=[psB src (ix L r20),tkB L,(10,.cells 61 [.v (.string a1),.v (.string a3),.v (.int .i64 a5),.v (.int .i64 a7),.buf 12,.buf 13,.buf 14,.v (.int .i64 a13),.v (.int .i64 b13),.v (.int .i64 a15),.v (.int .i64 b15),.v (.int .i64 a17),.v (.int .i64 b17),.v (.int .i64 a19),.v (.slice none 0 0),.v (.int .i64 0),.v (.int .i64 0)]),(12,.own 52 4 (rws Cd.row a8)),(13,.own 55 7 (rws Am.row a10)),(14,.own 55 7 (rws Am.row a11))]) [] ?_ sH sH
  (try refine gS ?_);conv=>whnf
  refine RunsS.callN (begRun_fn src L r20 s20 hL K V wRun (V.w wRun (by simp)) 8 (by decide)) [0,1,2,3,4,5,6,7,8,9] ?_ sH ?CNa36
  case CNa36=>rfl
  rintro (⟨a21,r21⟩|⟨r21,e21⟩) h21<;>conv=>whnf
  rotate_left
  ·try refine RunsS.panicU ?_
   exact UnwS.pan Tryz.func78 (EndS.mk ((Rs.bad r21 e21:Rs RcV)) ((by unfold recP;rw [bnd_ok h1.symm,bnd_ok h2.symm,bnd_ok h3.symm,bnd_ok h4.symm,bnd_ok h5.symm,bnd_ok h6.symm,bnd_ok h7.symm,bnd_ok b8,bnd_ok h9.symm,bnd_ok h10.symm,bnd_ok h11.symm,bnd_ok h12.symm,bnd_ok h13.symm,bnd_two,bnd_ok h14.symm,bnd_ok h15.symm,bnd_ok h16.symm,bnd_ok h17.symm,bnd_two,bnd_ok h18.symm,bnd_ok h19.symm,bnd_ok h20.symm,bnd_bad h21.symm])) [] sH rfl rfl (okPan rfl))
  have s21:=((good_many run_g.g 8).suf _ _ _ h21.symm).trans s20
  refine RunsS.subR (nx':=16) (l':=[(85,.buf 15),(2,.ptr 10 0),(0,.ptr 0 0)]) (H':=[psB src (ix L r21),tkB L,(10,.cells 61 [.v (.string a1),.v (.string a3),.v (.int .i64 a5),.v (.int .i64 a7),.buf 12,.buf 13,.buf 14,.v (.int .i64 a13),.v (.int .i64 b13),.v (.int .i64 a15),.v (.int .i64 b15),.v (.int .i64 a17),.v (.int .i64 b17),.v (.int .i64 a19),.v (.slice none 0 0),.v (.int .i64 0),.v (.int .i64 0)]),(12,.own 52 4 (rws Cd.row a8)),(13,.own 55 7 (rws Am.row a10)),(14,.own 55 7 (rws Am.row a11)),(15,.own 58 3 (rws Rn.row a21))]) [] ?_ sH sH
  (try refine gS ?_);conv=>whnf
  refine RunsS.callN (pexpect_fn src L r21 s21 hL [B [125]] (by decide)) [0,1,2,3,4,5,6,7,8,9,16] ?_ sH ?CNa37
  case CNa37=>rfl
  rintro (⟨_,r22⟩|⟨r22,e22⟩) h22<;>conv=>whnf
  all_goals rw [skips_s K s21 (V.s 125 (by decide))] at h22
  rotate_left
  ·try refine RunsS.panicU ?_
   exact UnwS.pan Tryz.func78 (EndS.mk ((Rs.bad r22 e22:Rs RcV)) ((by unfold recP;rw [bnd_ok h1.symm,bnd_ok h2.symm,bnd_ok h3.symm,bnd_ok h4.symm,bnd_ok h5.symm,bnd_ok h6.symm,bnd_ok h7.symm,bnd_ok b8,bnd_ok h9.symm,bnd_ok h10.symm,bnd_ok h11.symm,bnd_ok h12.symm,bnd_ok h13.symm,bnd_two,bnd_ok h14.symm,bnd_ok h15.symm,bnd_ok h16.symm,bnd_ok h17.symm,bnd_two,bnd_ok h18.symm,bnd_ok h19.symm,bnd_ok h20.symm,bnd_ok h21.symm,bnd_bad h22.symm])) [] sH rfl rfl (okPan rfl))
  have s22:=(((skip_one _ _).1).suf _ _ _ h22.symm).trans s21
  refine RunsS.subR (nx':=16) (l':=[(2,.ptr 10 0),(0,.ptr 0 0)]) (H':=[psB src (ix L r22),tkB L,(10,.cells 61 [.v (.string a1),.v (.string a3),.v (.int .i64 a5),.v (.int .i64 a7),.buf 12,.buf 13,.buf 14,.v (.int .i64 a13),.v (.int .i64 b13),.v (.int .i64 a15),.v (.int .i64 b15),.v (.int .i64 a17),.v (.int .i64 b17),.v (.int .i64 a19),.buf 15,.v (.int .i64 0),.v (.int .i64 0)]),(12,.own 52 4 (rws Cd.row a8)),(13,.own 55 7 (rws Am.row a10)),(14,.own 55 7 (rws Am.row a11)),(15,.own 58 3 (rws Rn.row a21))]) [] ?_ sH sH
  (try refine gS ?_);conv=>whnf
  try refine RunsS.retU ?_
  exact UnwS.ret tab Tryz.func78 rfl (EndS.mk ((Rs.ok ⟨a1,a3,a5,a7,hd0,a8,hd0,a10,hd0,a11,a13,b13,a15,b15,a17,b17,a19,hd0,a21,0,0⟩ r22:Rs RcV)) ((by unfold recP;rw [bnd_ok h1.symm,bnd_ok h2.symm,bnd_ok h3.symm,bnd_ok h4.symm,bnd_ok h5.symm,bnd_ok h6.symm,bnd_ok h7.symm,bnd_ok b8,bnd_ok h9.symm,bnd_ok h10.symm,bnd_ok h11.symm,bnd_ok h12.symm,bnd_ok h13.symm,bnd_two,bnd_ok h14.symm,bnd_ok h15.symm,bnd_ok h16.symm,bnd_ok h17.symm,bnd_two,bnd_ok h18.symm,bnd_ok h19.symm,bnd_ok h20.symm,bnd_ok h21.symm,bnd_ok h22.symm];rfl)) [(10,12),(11,13),(12,14),(13,15)] sH rfl rfl (okRet rfl rfl))
end
end Go.Proofs.YtgbeechjghajcaaGreatDoor

namespace Go.Proofs.YtgbeechjghajcaaGreatDoor
open Go Go.Fw Go.NatM Go.RatM Go.SrcM Go.SynM
set_option maxRecDepth 100000
set_option maxHeartbeats 99999999
def bufsK (k n:Nat):List SV:=[2,3,4,5,6,7,8,9].map fun j=>.buf (if j=k+2 then n else j)
def outK {α:Type} (src:ByteArray) (L:List Tok) (k e sz:Nat) (row:α→List Value) (n:Nat):Rs (List α)→OutS
 | .ok l r=>.ret (.tup []) (n+1) [(0,.cells 67 (.v (.string src)::.buf 1::.v (.int .i64 (ix L r))::bufsK k n)),tkB L,(n,.own e sz (rws row l))]
 | .bad r e=>.pan (failV (place src.size e r)) (n+1) [psB src (ix L r),tkB L]
section
variable (src:ByteArray) (L r:List Tok) (hr:r <:+ L) (hL:L.length≤65536) {N:ByteArray→Prop} (K:KL N L) (V:VocN N)
include hr hL K V
theorem oneUn_fn (l:List Un) (most:Nat) (hm:most≤1000) (hne:r ≠ []):FnS Tryz.prog 59 10 [.ptr 0 0,.ptr 0 3,.v (.int .i64 most),fnV 60] [psB src (ix L r),tkB L,(2,.own 81 8 (rws Un.row l))]
  (fun x:Rs (List Un)=>x=oneP unitP most l r) (outK src L 0 81 8 Un.row 10):=by
 have ll:=rws_len Un.row l
 obtain ⟨x,r,rfl⟩:∃x r',r=x::r':=by cases r with|nil=>exact absurd rfl hne|cons x r=>exact ⟨x,r,rfl⟩
 refine FnS.of Tryz.func59 (by kernel_rfl) rfl Tryz.ntmps59 rfl fun E0 F h w0 cs=>?_
 conv=>whnf
 refine gS ?_;conv=>whnf
 refine RunsS.callN (pfurther_fn src L (x::r) hr hL (rws Un.row l).length most hne) [0,1,2,3,4,5,6,7,8,9] ?_ sH ?CNa1
 case CNa1=>rfl
 rintro (⟨_,r1⟩|⟨r1,e1⟩) h1<;>conv=>whnf
 rotate_left
 ·by_cases hb:(most:Int)≤((rws Un.row l).length:Nat)
  ·rw [if_pos hb] at h1
   cases h1
   exact UnwS.pan Tryz.func59 (EndS.mk ((Rs.bad (x::r) 2:Rs (List Un))) ((by unfold oneP;rw [if_pos (by omega)])) [] sH rfl rfl (okPan rfl))
  rw [if_neg hb] at h1
  cases h1
 by_cases hb:(most:Int)≤((rws Un.row l).length:Nat)
 ·rw [if_pos hb] at h1
  cases h1
 rw [if_neg hb] at h1
 cases h1
 refine RunsS.subR (nx':=10) (l':=[(0,.ptr 0 0),(1,.ptr 0 3),(3,fnV 60)]) (H':=[psB src (ix L r),tkB L,(2,.own 81 8 (rws Un.row l))]) [] ?_ sH sH
 (try refine gS ?_);conv=>whnf
 refine RunsS.held tab (.fl 0 (.fl 1 (.fl 2 (.fl 3 (.fl 4 (.fl 5 (.e1 6 [3] (.e1 7 [3] (.e1 8 [] (.fl 9 (.e1 10 [] .done))))))))))) (by kernel_rfl) ?_;conv=>whnf
 (try refine gR ?_);conv=>whnf
 conv=>whnf
 refine EffR.callN (punit_fn src L r (suf_tail hr) hL K V) [0,1,2,3,4,5,6,7,8,9] ?_ sH ?CNa2
 case CNa2=>rfl
 rintro (⟨a,r2⟩|⟨r2,e2⟩) h2<;>conv=>whnf
 rotate_left
 ·try refine RunsS.panicU ?_
  exact UnwS.pan Tryz.func59 (EndS.mk ((Rs.bad r2 e2:Rs (List Un))) ((by unfold oneP;rw [if_neg (by omega)];exact (bnd_bad h2.symm).symm)) [] sH rfl rfl (okPan rfl))
 conv=>whnf
 try refine oB ?_
 (try refine gR ?_);conv=>whnf
 repeat ((first|(guard_target=_∧_;(first|refine oL ?_|refine oR ?_|refine oB ?_))|(guard_target=Exists _;refine oM ?_));(try intro _);conv=>whnf)
 conv=>whnf
 refine And.intro (appOb2 (by rw [ll];show l.length+1≤1000000;omega)) ?_;conv=>whnf
 conv=>whnf
 repeat ((first|(guard_target=_∧_;(first|refine oL ?_|refine oR ?_|refine oB ?_))|(guard_target=Exists _;refine oM ?_));(try intro _);conv=>whnf)
 (try refine gS ?_);conv=>whnf
 conv=>whnf
 (try refine gS ?_);conv=>whnf
 refine RunsS.rowsEq (rows':=rws Un.row (l++[a])) 12 ?e1 ?_
 case e1=>unfold rws;rw [List.map_append];rfl
 conv=>whnf
 try refine RunsS.finU ?_
 exact UnwS.ret tab Tryz.func59 rfl (EndS.mk ((Rs.ok (l++[a]) r2:Rs (List Un))) ((by unfold oneP;rw [if_neg (by omega)];exact (bnd_ok (f:=fun a=>pur (l++[a])) h2.symm).symm)) [(10,12)] sH rfl rfl (okRet rfl rfl))
theorem oneIt_fn (l:List It) (most:Nat) (hm:most≤1000) (hne:r ≠ []):FnS Tryz.prog 62 10 [.ptr 0 0,.ptr 0 4,.v (.int .i64 most),fnV 63] [psB src (ix L r),tkB L,(3,.own 83 6 (rws It.row l))]
  (fun x:Rs (List It)=>x=oneP itemP most l r) (outK src L 1 83 6 It.row 10):=by
 have ll:=rws_len It.row l
 obtain ⟨x,r,rfl⟩:∃x r',r=x::r':=by cases r with|nil=>exact absurd rfl hne|cons x r=>exact ⟨x,r,rfl⟩
 refine FnS.of Tryz.func62 (by kernel_rfl) rfl Tryz.ntmps62 rfl fun E0 F h w0 cs=>?_
 conv=>whnf
 refine gS ?_;conv=>whnf
 refine RunsS.callN (pfurther_fn src L (x::r) hr hL (rws It.row l).length most hne) [0,1,2,3,4,5,6,7,8,9] ?_ sH ?CNa3
 case CNa3=>rfl
 rintro (⟨_,r1⟩|⟨r1,e1⟩) h1<;>conv=>whnf
 rotate_left
 ·by_cases hb:(most:Int)≤((rws It.row l).length:Nat)
  ·rw [if_pos hb] at h1
   cases h1
   exact UnwS.pan Tryz.func62 (EndS.mk ((Rs.bad (x::r) 2:Rs (List It))) ((by unfold oneP;rw [if_pos (by omega)])) [] sH rfl rfl (okPan rfl))
  rw [if_neg hb] at h1
  cases h1
 by_cases hb:(most:Int)≤((rws It.row l).length:Nat)
 ·rw [if_pos hb] at h1
  cases h1
 rw [if_neg hb] at h1
 cases h1
 refine RunsS.subR (nx':=10) (l':=[(0,.ptr 0 0),(1,.ptr 0 4),(3,fnV 63)]) (H':=[psB src (ix L r),tkB L,(3,.own 83 6 (rws It.row l))]) [] ?_ sH sH
 (try refine gS ?_);conv=>whnf
 refine RunsS.held tab (.fl 0 (.fl 1 (.fl 2 (.fl 3 (.fl 4 (.fl 5 (.e1 6 [3] (.e1 7 [3] (.e1 8 [] (.fl 9 (.e1 10 [] .done))))))))))) (by kernel_rfl) ?_;conv=>whnf
 (try refine gR ?_);conv=>whnf
 conv=>whnf
 refine EffR.callN (pitem_fn src L r (suf_tail hr) hL K V) [0,1,2,3,4,5,6,7,8,9] ?_ sH ?CNa4
 case CNa4=>rfl
 rintro (⟨a,r2⟩|⟨r2,e2⟩) h2<;>conv=>whnf
 rotate_left
 ·try refine RunsS.panicU ?_
  exact UnwS.pan Tryz.func62 (EndS.mk ((Rs.bad r2 e2:Rs (List It))) ((by unfold oneP;rw [if_neg (by omega)];exact (bnd_bad h2.symm).symm)) [] sH rfl rfl (okPan rfl))
 conv=>whnf
 try refine oB ?_
 (try refine gR ?_);conv=>whnf
 repeat ((first|(guard_target=_∧_;(first|refine oL ?_|refine oR ?_|refine oB ?_))|(guard_target=Exists _;refine oM ?_));(try intro _);conv=>whnf)
 conv=>whnf
 refine And.intro (appOb2 (by rw [ll];show l.length+1≤1000000;omega)) ?_;conv=>whnf
 conv=>whnf
 repeat ((first|(guard_target=_∧_;(first|refine oL ?_|refine oR ?_|refine oB ?_))|(guard_target=Exists _;refine oM ?_));(try intro _);conv=>whnf)
 (try refine gS ?_);conv=>whnf
 conv=>whnf
 (try refine gS ?_);conv=>whnf
 refine RunsS.rowsEq (rows':=rws It.row (l++[a])) 12 ?e1 ?_
 case e1=>unfold rws;rw [List.map_append];rfl
 conv=>whnf
 try refine RunsS.finU ?_
 exact UnwS.ret tab Tryz.func62 rfl (EndS.mk ((Rs.ok (l++[a]) r2:Rs (List It))) ((by unfold oneP;rw [if_neg (by omega)];exact (bnd_ok (f:=fun a=>pur (l++[a])) h2.symm).symm)) [(10,12)] sH rfl rfl (okRet rfl rfl))
theorem onePl_fn (l:List ByteArray) (most:Nat) (hm:most≤1000) (hne:r ≠ []):FnS Tryz.prog 65 10 [.ptr 0 0,.ptr 0 5,.v (.int .i64 most),fnV 66] [psB src (ix L r),tkB L,(4,.own 9 1 (rws strR l))]
  (fun x:Rs (List ByteArray)=>x=oneP plantP most l r) (outK src L 2 9 1 strR 10):=by
 have ll:=rws_len strR l
 obtain ⟨x,r,rfl⟩:∃x r',r=x::r':=by cases r with|nil=>exact absurd rfl hne|cons x r=>exact ⟨x,r,rfl⟩
 refine FnS.of Tryz.func65 (by kernel_rfl) rfl Tryz.ntmps65 rfl fun E0 F h w0 cs=>?_
 conv=>whnf
 refine gS ?_;conv=>whnf
 refine RunsS.callN (pfurther_fn src L (x::r) hr hL (rws strR l).length most hne) [0,1,2,3,4,5,6,7,8,9] ?_ sH ?CNa5
 case CNa5=>rfl
 rintro (⟨_,r1⟩|⟨r1,e1⟩) h1<;>conv=>whnf
 rotate_left
 ·by_cases hb:(most:Int)≤((rws strR l).length:Nat)
  ·rw [if_pos hb] at h1
   cases h1
   exact UnwS.pan Tryz.func65 (EndS.mk ((Rs.bad (x::r) 2:Rs (List ByteArray))) ((by unfold oneP;rw [if_pos (by omega)])) [] sH rfl rfl (okPan rfl))
  rw [if_neg hb] at h1
  cases h1
 by_cases hb:(most:Int)≤((rws strR l).length:Nat)
 ·rw [if_pos hb] at h1
  cases h1
 rw [if_neg hb] at h1
 cases h1
 refine RunsS.subR (nx':=10) (l':=[(0,.ptr 0 0),(1,.ptr 0 5),(3,fnV 66)]) (H':=[psB src (ix L r),tkB L,(4,.own 9 1 (rws strR l))]) [] ?_ sH sH
 (try refine gS ?_);conv=>whnf
 refine RunsS.held tab (.fl 0 (.fl 1 (.fl 2 (.fl 3 (.fl 4 (.fl 5 (.e1 6 [3] (.e1 7 [3] (.e1 8 [] (.fl 9 (.e1 10 [] .done))))))))))) (by kernel_rfl) ?_;conv=>whnf
 (try refine gR ?_);conv=>whnf
 conv=>whnf
 refine EffR.callN (pplant_fn src L r (suf_tail hr) hL K V) [0,1,2,3,4,5,6,7,8,9] ?_ sH ?CNa6
 case CNa6=>rfl
 rintro (⟨a,r2⟩|⟨r2,e2⟩) h2<;>conv=>whnf
 rotate_left
 ·try refine RunsS.panicU ?_
  exact UnwS.pan Tryz.func65 (EndS.mk ((Rs.bad r2 e2:Rs (List ByteArray))) ((by unfold oneP;rw [if_neg (by omega)];exact (bnd_bad h2.symm).symm)) [] sH rfl rfl (okPan rfl))
 conv=>whnf
 try refine oB ?_
 (try refine gR ?_);conv=>whnf
 repeat ((first|(guard_target=_∧_;(first|refine oL ?_|refine oR ?_|refine oB ?_))|(guard_target=Exists _;refine oM ?_));(try intro _);conv=>whnf)
 conv=>whnf
 refine And.intro (appOb2 (by rw [ll];show l.length+1≤1000000;omega)) ?_;conv=>whnf
 conv=>whnf
 repeat ((first|(guard_target=_∧_;(first|refine oL ?_|refine oR ?_|refine oB ?_))|(guard_target=Exists _;refine oM ?_));(try intro _);conv=>whnf)
 (try refine gS ?_);conv=>whnf
 conv=>whnf
 (try refine gS ?_);conv=>whnf
 refine RunsS.rowsEq (rows':=rws strR (l++[a])) 12 ?e1 ?_
 case e1=>unfold rws;rw [List.map_append];rfl
 conv=>whnf
 try refine RunsS.finU ?_
 exact UnwS.ret tab Tryz.func65 rfl (EndS.mk ((Rs.ok (l++[a]) r2:Rs (List ByteArray))) ((by unfold oneP;rw [if_neg (by omega)];exact (bnd_ok (f:=fun a=>pur (l++[a])) h2.symm).symm)) [(10,12)] sH rfl rfl (okRet rfl rfl))
theorem oneMc_fn (l:List Mc) (most:Nat) (hm:most≤1000) (hne:r ≠ []):FnS Tryz.prog 68 10 [.ptr 0 0,.ptr 0 6,.v (.int .i64 most),fnV 69] [psB src (ix L r),tkB L,(5,.own 85 4 (rws Mc.row l))]
  (fun x:Rs (List Mc)=>x=oneP machP most l r) (outK src L 3 85 4 Mc.row 10):=by
 have ll:=rws_len Mc.row l
 obtain ⟨x,r,rfl⟩:∃x r',r=x::r':=by cases r with|nil=>exact absurd rfl hne|cons x r=>exact ⟨x,r,rfl⟩
 refine FnS.of Tryz.func68 (by kernel_rfl) rfl Tryz.ntmps68 rfl fun E0 F h w0 cs=>?_
 conv=>whnf
 refine gS ?_;conv=>whnf
 refine RunsS.callN (pfurther_fn src L (x::r) hr hL (rws Mc.row l).length most hne) [0,1,2,3,4,5,6,7,8,9] ?_ sH ?CNa7
 case CNa7=>rfl
 rintro (⟨_,r1⟩|⟨r1,e1⟩) h1<;>conv=>whnf
 rotate_left
 ·by_cases hb:(most:Int)≤((rws Mc.row l).length:Nat)
  ·rw [if_pos hb] at h1
   cases h1
   exact UnwS.pan Tryz.func68 (EndS.mk ((Rs.bad (x::r) 2:Rs (List Mc))) ((by unfold oneP;rw [if_pos (by omega)])) [] sH rfl rfl (okPan rfl))
  rw [if_neg hb] at h1
  cases h1
 by_cases hb:(most:Int)≤((rws Mc.row l).length:Nat)
 ·rw [if_pos hb] at h1
  cases h1
 rw [if_neg hb] at h1
 cases h1
 refine RunsS.subR (nx':=10) (l':=[(0,.ptr 0 0),(1,.ptr 0 6),(3,fnV 69)]) (H':=[psB src (ix L r),tkB L,(5,.own 85 4 (rws Mc.row l))]) [] ?_ sH sH
 (try refine gS ?_);conv=>whnf
 refine RunsS.held tab (.fl 0 (.fl 1 (.fl 2 (.fl 3 (.fl 4 (.fl 5 (.e1 6 [3] (.e1 7 [3] (.e1 8 [] (.fl 9 (.e1 10 [] .done))))))))))) (by kernel_rfl) ?_;conv=>whnf
 (try refine gR ?_);conv=>whnf
 conv=>whnf
 refine EffR.callN (pmach_fn src L r (suf_tail hr) hL K V) [0,1,2,3,4,5,6,7,8,9] ?_ sH ?CNa8
 case CNa8=>rfl
 rintro (⟨a,r2⟩|⟨r2,e2⟩) h2<;>conv=>whnf
 rotate_left
 ·try refine RunsS.panicU ?_
  exact UnwS.pan Tryz.func68 (EndS.mk ((Rs.bad r2 e2:Rs (List Mc))) ((by unfold oneP;rw [if_neg (by omega)];exact (bnd_bad h2.symm).symm)) [] sH rfl rfl (okPan rfl))
 conv=>whnf
 try refine oB ?_
 (try refine gR ?_);conv=>whnf
 repeat ((first|(guard_target=_∧_;(first|refine oL ?_|refine oR ?_|refine oB ?_))|(guard_target=Exists _;refine oM ?_));(try intro _);conv=>whnf)
 conv=>whnf
 refine And.intro (appOb2 (by rw [ll];show l.length+1≤1000000;omega)) ?_;conv=>whnf
 conv=>whnf
 repeat ((first|(guard_target=_∧_;(first|refine oL ?_|refine oR ?_|refine oB ?_))|(guard_target=Exists _;refine oM ?_));(try intro _);conv=>whnf)
 (try refine gS ?_);conv=>whnf
 conv=>whnf
 (try refine gS ?_);conv=>whnf
 refine RunsS.rowsEq (rows':=rws Mc.row (l++[a])) 12 ?e1 ?_
 case e1=>unfold rws;rw [List.map_append];rfl
 conv=>whnf
 try refine RunsS.finU ?_
 exact UnwS.ret tab Tryz.func68 rfl (EndS.mk ((Rs.ok (l++[a]) r2:Rs (List Mc))) ((by unfold oneP;rw [if_neg (by omega)];exact (bnd_ok (f:=fun a=>pur (l++[a])) h2.symm).symm)) [(10,12)] sH rfl rfl (okRet rfl rfl))
theorem oneSw_fn (l:List Sw) (most:Nat) (hm:most≤1000) (hne:r ≠ []):FnS Tryz.prog 80 10 [.ptr 0 0,.ptr 0 10,.v (.int .i64 most),fnV 81] [psB src (ix L r),tkB L,(9,.own 89 4 (rws Sw.row l))]
  (fun x:Rs (List Sw)=>x=oneP swapP most l r) (outK src L 7 89 4 Sw.row 10):=by
 have ll:=rws_len Sw.row l
 obtain ⟨x,r,rfl⟩:∃x r',r=x::r':=by cases r with|nil=>exact absurd rfl hne|cons x r=>exact ⟨x,r,rfl⟩
 refine FnS.of Tryz.func80 (by kernel_rfl) rfl Tryz.ntmps80 rfl fun E0 F h w0 cs=>?_
 conv=>whnf
 refine gS ?_;conv=>whnf
 refine RunsS.callN (pfurther_fn src L (x::r) hr hL (rws Sw.row l).length most hne) [0,1,2,3,4,5,6,7,8,9] ?_ sH ?CNa9
 case CNa9=>rfl
 rintro (⟨_,r1⟩|⟨r1,e1⟩) h1<;>conv=>whnf
 rotate_left
 ·by_cases hb:(most:Int)≤((rws Sw.row l).length:Nat)
  ·rw [if_pos hb] at h1
   cases h1
   exact UnwS.pan Tryz.func80 (EndS.mk ((Rs.bad (x::r) 2:Rs (List Sw))) ((by unfold oneP;rw [if_pos (by omega)])) [] sH rfl rfl (okPan rfl))
  rw [if_neg hb] at h1
  cases h1
 by_cases hb:(most:Int)≤((rws Sw.row l).length:Nat)
 ·rw [if_pos hb] at h1
  cases h1
 rw [if_neg hb] at h1
 cases h1
 refine RunsS.subR (nx':=10) (l':=[(0,.ptr 0 0),(1,.ptr 0 10),(3,fnV 81)]) (H':=[psB src (ix L r),tkB L,(9,.own 89 4 (rws Sw.row l))]) [] ?_ sH sH
 (try refine gS ?_);conv=>whnf
 refine RunsS.held tab (.fl 0 (.fl 1 (.fl 2 (.fl 3 (.fl 4 (.fl 5 (.e1 6 [3] (.e1 7 [3] (.e1 8 [] (.fl 9 (.e1 10 [] .done))))))))))) (by kernel_rfl) ?_;conv=>whnf
 (try refine gR ?_);conv=>whnf
 conv=>whnf
 refine EffR.callN (pswap_fn src L r (suf_tail hr) hL K V) [0,1,2,3,4,5,6,7,8,9] ?_ sH ?CNa10
 case CNa10=>rfl
 rintro (⟨a,r2⟩|⟨r2,e2⟩) h2<;>conv=>whnf
 rotate_left
 ·try refine RunsS.panicU ?_
  exact UnwS.pan Tryz.func80 (EndS.mk ((Rs.bad r2 e2:Rs (List Sw))) ((by unfold oneP;rw [if_neg (by omega)];exact (bnd_bad h2.symm).symm)) [] sH rfl rfl (okPan rfl))
 conv=>whnf
 try refine oB ?_
 (try refine gR ?_);conv=>whnf
 repeat ((first|(guard_target=_∧_;(first|refine oL ?_|refine oR ?_|refine oB ?_))|(guard_target=Exists _;refine oM ?_));(try intro _);conv=>whnf)
 conv=>whnf
 refine And.intro (appOb2 (by rw [ll];show l.length+1≤1000000;omega)) ?_;conv=>whnf
 conv=>whnf
 repeat ((first|(guard_target=_∧_;(first|refine oL ?_|refine oR ?_|refine oB ?_))|(guard_target=Exists _;refine oM ?_));(try intro _);conv=>whnf)
 (try refine gS ?_);conv=>whnf
 conv=>whnf
 (try refine gS ?_);conv=>whnf
 refine RunsS.rowsEq (rows':=rws Sw.row (l++[a])) 12 ?e1 ?_
 case e1=>unfold rws;rw [List.map_append];rfl
 conv=>whnf
 try refine RunsS.finU ?_
 exact UnwS.ret tab Tryz.func80 rfl (EndS.mk ((Rs.ok (l++[a]) r2:Rs (List Sw))) ((by unfold oneP;rw [if_neg (by omega)];exact (bnd_ok (f:=fun a=>pur (l++[a])) h2.symm).symm)) [(10,12)] sH rfl rfl (okRet rfl rfl))
end
end Go.Proofs.YtgbeechjghajcaaGreatDoor

namespace Go.SynM
open Go Go.Fw Go.RatM Go.SrcM
open Go.Proofs.YtgbeechjghajcaaGreatDoor (Tok)
section
variable {α β:Type}
def Rs.fm (f:α→β):Rs α→Rs β
 | .ok a r=>.ok (f a) r
 | .bad r e=>.bad r e
def Rs.all (Q:α→Prop):Rs α→Prop
 | .ok a _=>Q a
 | .bad _ _=>True
def moreP (p:P α) (most n:Nat):P α:=fun r=>if most≤n then .bad r 2 else p r.tail
theorem one_more {p:P α} {most:Nat} {l:List α} {r:List Tok}:oneP p most l r=(moreP p most l.length r).fm fun a=>l++[a]:=by
 unfold oneP moreP bnd
 split
 ·rfl
 cases p r.tail<;>rfl
end
theorem optn_bare {r r':List Tok} {a:OpV} (h:optnP r=.ok a r'):a.bare=a:=by
 unfold optnP at h
 simp only [bnd,pur] at h
 repeat' (split at h)
 all_goals first|(cases h;done)|(have:=(Rs.ok.inj h).1;subst this;rfl)
theorem forb_bare {r r':List Tok} {a:FbV} (h:forbP r=.ok a r'):a.bare=a:=by
 unfold forbP at h
 simp only [bnd,pur] at h
 repeat' (split at h)
 all_goals first|(cases h;done)|(have:=(Rs.ok.inj h).1;subst this;rfl)
theorem rec_bare {r r':List Tok} {a:RcV} (h:recP r=.ok a r'):a.bare=a:=by
 have G:∀ {α:Type} {p:P α} {f:α→P RcV},(∀a r r' x,f a r=.ok x r'→x.bare=x) → ∀r r' x,bnd p f r=.ok x r'→x.bare=x:=fun hf r r' x h=>by
  unfold bnd at h
  split at h
  ·exact hf _ _ _ _ h
  cases h
 unfold recP at h
 revert h
 iterate 24 refine G (fun _=>?_) r r' a;clear r r' a;intro r r' a
 exact fun h=>by have:=(Rs.ok.inj h).1;subst this;rfl
end Go.SynM
namespace Go.Proofs.YtgbeechjghajcaaGreatDoor
open Go Go.Fw Go.NatM Go.RatM Go.SrcM Go.SynM
set_option maxRecDepth 100000
set_option maxHeartbeats 99999999
def outN {α:Type} (src:ByteArray) (L:List Tok) (k e sz:Nat) (row:α→List Value) (l:List α) (n:Nat):Rs α→OutS
 | .ok a r=>.ret (.tup []) (n+1) [(0,.cells 67 (.v (.string src)::.buf 1::.v (.int .i64 (ix L r))::bufsK k n)),tkB L,(n,.own e sz (rws row (l++[a])))]
 | .bad r e=>.pan (failV (place src.size e r)) (n+1) [psB src (ix L r),tkB L]
section
variable (src:ByteArray) (L r:List Tok) (hr:r <:+ L) (hL:L.length≤65536) {N:ByteArray→Prop} (K:KL N L) (V:VocN N)
include hr hL K V
theorem oneOp_fn (l:List OpV) (most:Nat) (hm:most≤1000) (hne:r ≠ []):FnX Tryz.prog 71 10 [.ptr 0 0,.ptr 0 7,.v (.int .i64 most),fnV 72] [psB src (ix L r),tkB L,(6,.own 50 2 (rws OpV.row l))] (fun _ _=>True)
  (fun (x:Rs OpV) G h=>x.fm OpV.bare=moreP optnP most l.length r∧x.all fun o=>o.ok G h) (outN src L 4 50 2 OpV.row l 10):=by
 have ll:=rws_len OpV.row l
 obtain ⟨x,r,rfl⟩:∃x r',r=x::r':=by cases r with|nil=>exact absurd rfl hne|cons x r=>exact ⟨x,r,rfl⟩
 refine FnX.of Tryz.func71 (by kernel_rfl) rfl Tryz.ntmps71 rfl fun E0 F G h N hP w0 cs=>?_
 conv=>whnf
 refine gS ?_;conv=>whnf
 refine RunsS.callN (pfurther_fn src L (x::r) hr hL (rws OpV.row l).length most hne) [0,1,2,3,4,5,6,7,8,9] ?_ sH ?CNa1
 case CNa1=>rfl
 rintro (⟨_,r1⟩|⟨r1,e1⟩) h1<;>conv=>whnf
 rotate_left
 ·by_cases hb:(most:Int)≤((rws OpV.row l).length:Nat)
  ·rw [if_pos hb] at h1
   cases h1
   exact UnwS.pan Tryz.func71 (EndX.mk (N) ((Rs.bad (x::r) 2:Rs OpV)) (fun h U=>⟨by unfold moreP;rw [if_pos (by omega)];rfl,trivial⟩) [] sH rfl rfl (okPan rfl))
  rw [if_neg hb] at h1
  cases h1
 by_cases hb:(most:Int)≤((rws OpV.row l).length:Nat)
 ·rw [if_pos hb] at h1
  cases h1
 rw [if_neg hb] at h1
 cases h1
 refine RunsS.subR (nx':=10) (l':=[(0,.ptr 0 0),(1,.ptr 0 7),(3,fnV 72)]) (H':=[psB src (ix L r),tkB L,(6,.own 50 2 (rws OpV.row l))]) [] ?_ sH sH
 (try refine gS ?_);conv=>whnf
 refine RunsS.held tab (.fl 0 (.fl 1 (.fl 2 (.fl 3 (.fl 4 (.fl 5 (.e1 6 [3] (.e1 7 [3] (.e1 8 [] (.fl 9 (.e1 10 [] .done))))))))))) (by kernel_rfl) ?_;conv=>whnf
 (try refine gR ?_);conv=>whnf
 conv=>whnf
 refine EffR.callN (poptn_fn src L r (suf_tail hr) hL K V) [0,1,2,3,4,5,6,7,8,9] ?_ sH ?CNa2
 case CNa2=>rfl
 rintro (⟨a,r2⟩|⟨r2,e2⟩) h2<;>conv=>whnf
 rotate_left
 ·exact UnwS.pan Tryz.func71 (EndX.mk (N) ((Rs.bad r2 e2:Rs OpV)) (fun h U=>⟨by unfold moreP;rw [if_neg (by omega)];exact h2,trivial⟩) [] sH rfl rfl (okPan rfl))
 conv=>whnf
 try refine oB ?_
 refine RunsR.concY (n:=a.ch.length) (N.gsub) 10 ?_ (hlen:=rws_len _ _)
 intro F1 a1 c1 G1 hh1 N1 R1
 conv=>whnf
 (try refine gR ?_);conv=>whnf
 repeat ((first|(guard_target=_∧_;(first|refine oL ?_|refine oR ?_|refine oB ?_))|(guard_target=Exists _;refine oM ?_));(try intro _);conv=>whnf)
 conv=>whnf
 refine And.intro (appOb2 (by rw [ll];show l.length+1≤1000000;omega)) ?_;conv=>whnf
 conv=>whnf
 repeat ((first|(guard_target=_∧_;(first|refine oL ?_|refine oR ?_|refine oB ?_))|(guard_target=Exists _;refine oM ?_));(try intro _);conv=>whnf)
 (try refine gS ?_);conv=>whnf
 conv=>whnf
 (try refine gS ?_);conv=>whnf
 refine RunsS.rowsEq (rows':=rws OpV.row (l++[⟨a.name,⟨a1,c1⟩,a.ch⟩])) 12 ?e1 ?_
 case e1=>unfold rws;rw [List.map_append];rfl
 conv=>whnf
 try refine RunsS.finU ?_
 exact UnwS.ret tab Tryz.func71 rfl (EndX.mk (N.trans N1) ((Rs.ok ⟨a.name,⟨a1,c1⟩,a.ch⟩ r2:Rs OpV)) (fun h U=>⟨by unfold moreP;rw [if_neg (by omega)];exact (congrArg (fun y=>Rs.ok y r2) (optn_bare h2.symm)).trans h2,R1.up U⟩) [(10,12)] sH rfl rfl (okRet rfl rfl))
theorem oneFb_fn (l:List FbV) (most:Nat) (hm:most≤1000) (hne:r ≠ []):FnX Tryz.prog 74 10 [.ptr 0 0,.ptr 0 8,.v (.int .i64 most),fnV 75] [psB src (ix L r),tkB L,(7,.own 53 1 (rws FbV.row l))] (fun _ _=>True)
  (fun (x:Rs FbV) G h=>x.fm FbV.bare=moreP forbP most l.length r∧x.all fun o=>o.ok G h) (outN src L 5 53 1 FbV.row l 10):=by
 have ll:=rws_len FbV.row l
 obtain ⟨x,r,rfl⟩:∃x r',r=x::r':=by cases r with|nil=>exact absurd rfl hne|cons x r=>exact ⟨x,r,rfl⟩
 refine FnX.of Tryz.func74 (by kernel_rfl) rfl Tryz.ntmps74 rfl fun E0 F G h N hP w0 cs=>?_
 conv=>whnf
 refine gS ?_;conv=>whnf
 refine RunsS.callN (pfurther_fn src L (x::r) hr hL (rws FbV.row l).length most hne) [0,1,2,3,4,5,6,7,8,9] ?_ sH ?CNa3
 case CNa3=>rfl
 rintro (⟨_,r1⟩|⟨r1,e1⟩) h1<;>conv=>whnf
 rotate_left
 ·by_cases hb:(most:Int)≤((rws FbV.row l).length:Nat)
  ·rw [if_pos hb] at h1
   cases h1
   exact UnwS.pan Tryz.func74 (EndX.mk (N) ((Rs.bad (x::r) 2:Rs FbV)) (fun h U=>⟨by unfold moreP;rw [if_pos (by omega)];rfl,trivial⟩) [] sH rfl rfl (okPan rfl))
  rw [if_neg hb] at h1
  cases h1
 by_cases hb:(most:Int)≤((rws FbV.row l).length:Nat)
 ·rw [if_pos hb] at h1
  cases h1
 rw [if_neg hb] at h1
 cases h1
 refine RunsS.subR (nx':=10) (l':=[(0,.ptr 0 0),(1,.ptr 0 8),(3,fnV 75)]) (H':=[psB src (ix L r),tkB L,(7,.own 53 1 (rws FbV.row l))]) [] ?_ sH sH
 (try refine gS ?_);conv=>whnf
 refine RunsS.held tab (.fl 0 (.fl 1 (.fl 2 (.fl 3 (.fl 4 (.fl 5 (.e1 6 [3] (.e1 7 [3] (.e1 8 [] (.fl 9 (.e1 10 [] .done))))))))))) (by kernel_rfl) ?_;conv=>whnf
 (try refine gR ?_);conv=>whnf
 conv=>whnf
 refine EffR.callN (pforb_fn src L r (suf_tail hr) hL K V) [0,1,2,3,4,5,6,7,8,9] ?_ sH ?CNa4
 case CNa4=>rfl
 rintro (⟨a,r2⟩|⟨r2,e2⟩) h2<;>conv=>whnf
 rotate_left
 ·exact UnwS.pan Tryz.func74 (EndX.mk (N) ((Rs.bad r2 e2:Rs FbV)) (fun h U=>⟨by unfold moreP;rw [if_neg (by omega)];exact h2,trivial⟩) [] sH rfl rfl (okPan rfl))
 conv=>whnf
 try refine oB ?_
 refine RunsR.concY (n:=a.cs.length) (N.gsub) 10 ?_ (hlen:=rws_len _ _)
 intro F1 a1 c1 G1 hh1 N1 R1
 conv=>whnf
 (try refine gR ?_);conv=>whnf
 repeat ((first|(guard_target=_∧_;(first|refine oL ?_|refine oR ?_|refine oB ?_))|(guard_target=Exists _;refine oM ?_));(try intro _);conv=>whnf)
 conv=>whnf
 refine And.intro (appOb2 (by rw [ll];show l.length+1≤1000000;omega)) ?_;conv=>whnf
 conv=>whnf
 repeat ((first|(guard_target=_∧_;(first|refine oL ?_|refine oR ?_|refine oB ?_))|(guard_target=Exists _;refine oM ?_));(try intro _);conv=>whnf)
 (try refine gS ?_);conv=>whnf
 conv=>whnf
 (try refine gS ?_);conv=>whnf
 refine RunsS.rowsEq (rows':=rws FbV.row (l++[⟨⟨a1,c1⟩,a.cs⟩])) 12 ?e1 ?_
 case e1=>unfold rws;rw [List.map_append];rfl
 conv=>whnf
 try refine RunsS.finU ?_
 exact UnwS.ret tab Tryz.func74 rfl (EndX.mk (N.trans N1) ((Rs.ok ⟨⟨a1,c1⟩,a.cs⟩ r2:Rs FbV)) (fun h U=>⟨by unfold moreP;rw [if_neg (by omega)];exact (congrArg (fun y=>Rs.ok y r2) (forb_bare h2.symm)).trans h2,R1.up U⟩) [(10,12)] sH rfl rfl (okRet rfl rfl))
theorem oneRc_fn (l:List RcV) (most:Nat) (hm:most≤1000) (hne:r ≠ []):FnX Tryz.prog 77 10 [.ptr 0 0,.ptr 0 9,.v (.int .i64 most),fnV 78] [psB src (ix L r),tkB L,(8,.own 61 17 (rws RcV.row l))] (fun _ _=>True)
  (fun (x:Rs RcV) G h=>x.fm RcV.bare=moreP recP most l.length r∧x.all fun o=>o.ok G h) (outN src L 6 61 17 RcV.row l 10):=by
 have ll:=rws_len RcV.row l
 obtain ⟨x,r,rfl⟩:∃x r',r=x::r':=by cases r with|nil=>exact absurd rfl hne|cons x r=>exact ⟨x,r,rfl⟩
 refine FnX.of Tryz.func77 (by kernel_rfl) rfl Tryz.ntmps77 rfl fun E0 F G h N hP w0 cs=>?_
 conv=>whnf
 refine gS ?_;conv=>whnf
 refine RunsS.callN (pfurther_fn src L (x::r) hr hL (rws RcV.row l).length most hne) [0,1,2,3,4,5,6,7,8,9] ?_ sH ?CNa5
 case CNa5=>rfl
 rintro (⟨_,r1⟩|⟨r1,e1⟩) h1<;>conv=>whnf
 rotate_left
 ·by_cases hb:(most:Int)≤((rws RcV.row l).length:Nat)
  ·rw [if_pos hb] at h1
   cases h1
   exact UnwS.pan Tryz.func77 (EndX.mk (N) ((Rs.bad (x::r) 2:Rs RcV)) (fun h U=>⟨by unfold moreP;rw [if_pos (by omega)];rfl,trivial⟩) [] sH rfl rfl (okPan rfl))
  rw [if_neg hb] at h1
  cases h1
 by_cases hb:(most:Int)≤((rws RcV.row l).length:Nat)
 ·rw [if_pos hb] at h1
  cases h1
 rw [if_neg hb] at h1
 cases h1
 refine RunsS.subR (nx':=10) (l':=[(0,.ptr 0 0),(1,.ptr 0 9),(3,fnV 78)]) (H':=[psB src (ix L r),tkB L,(8,.own 61 17 (rws RcV.row l))]) [] ?_ sH sH
 (try refine gS ?_);conv=>whnf
 refine RunsS.held tab (.fl 0 (.fl 1 (.fl 2 (.fl 3 (.fl 4 (.fl 5 (.e1 6 [3] (.e1 7 [3] (.e1 8 [] (.fl 9 (.e1 10 [] .done))))))))))) (by kernel_rfl) ?_;conv=>whnf
 (try refine gR ?_);conv=>whnf
 conv=>whnf
 refine EffR.callN (prec_fn src L r (suf_tail hr) hL K V) [0,1,2,3,4,5,6,7,8,9] ?_ sH ?CNa6
 case CNa6=>rfl
 rintro (⟨a,r2⟩|⟨r2,e2⟩) h2<;>conv=>whnf
 rotate_left
 ·exact UnwS.pan Tryz.func77 (EndX.mk (N) ((Rs.bad r2 e2:Rs RcV)) (fun h U=>⟨by unfold moreP;rw [if_neg (by omega)];exact h2,trivial⟩) [] sH rfl rfl (okPan rfl))
 conv=>whnf
 try refine oB ?_
 refine RunsR.concY (n:=a.cs.length) (N.gsub) 10 ?_ (hlen:=rws_len _ _)
 intro F1 a1 c1 G1 hh1 N1 R1
 conv=>whnf
 refine RunsR.concY (n:=a.inn.length) (N1.gsub) 11 ?_ (hlen:=rws_len _ _)
 intro F2 a2 c2 G2 hh2 N2 R2
 conv=>whnf
 refine RunsR.concY (n:=a.out.length) (N2.gsub) 12 ?_ (hlen:=rws_len _ _)
 intro F3 a3 c3 G3 hh3 N3 R3
 conv=>whnf
 refine RunsR.concY (n:=a.runs.length) (N3.gsub) 13 ?_ (hlen:=rws_len _ _)
 intro F4 a4 c4 G4 hh4 N4 R4
 conv=>whnf
 (try refine gR ?_);conv=>whnf
 repeat ((first|(guard_target=_∧_;(first|refine oL ?_|refine oR ?_|refine oB ?_))|(guard_target=Exists _;refine oM ?_));(try intro _);conv=>whnf)
 conv=>whnf
 refine And.intro (appOb2 (by rw [ll];show l.length+1≤1000000;omega)) ?_;conv=>whnf
 conv=>whnf
 repeat ((first|(guard_target=_∧_;(first|refine oL ?_|refine oR ?_|refine oB ?_))|(guard_target=Exists _;refine oM ?_));(try intro _);conv=>whnf)
 (try refine gS ?_);conv=>whnf
 conv=>whnf
 (try refine gS ?_);conv=>whnf
 refine RunsS.rowsEq (rows':=rws RcV.row (l++[⟨a.item,a.plant,a.fr,a.to,⟨a1,c1⟩,a.cs,⟨a2,c2⟩,a.inn,⟨a3,c3⟩,a.out,a.rwN,a.rwD,a.yN,a.yD,a.tN,a.tD,a.lead,⟨a4,c4⟩,a.runs,a.inum,a.pnum⟩])) 15 ?e1 ?_
 case e1=>unfold rws;rw [List.map_append];rfl
 conv=>whnf
 try refine RunsS.finU ?_
 exact UnwS.ret tab Tryz.func77 rfl (EndX.mk (((N.trans N1).trans N2).trans (N3.trans N4)) ((Rs.ok ⟨a.item,a.plant,a.fr,a.to,⟨a1,c1⟩,a.cs,⟨a2,c2⟩,a.inn,⟨a3,c3⟩,a.out,a.rwN,a.rwD,a.yN,a.yD,a.tN,a.tD,a.lead,⟨a4,c4⟩,a.runs,a.inum,a.pnum⟩ r2:Rs RcV)) (fun h U=>⟨by unfold moreP;rw [if_neg (by omega)];exact (congrArg (fun y=>Rs.ok y r2) (rec_bare h2.symm)).trans h2,⟨((R1.up (Now.step N1.gsub N2)).up ((Now.step N2.gsub N3).trans (Now.step N3.gsub N4))).up U,(R2.up ((Now.step N2.gsub N3).trans (Now.step N3.gsub N4))).up U,(R3.up (Now.step N3.gsub N4)).up U,R4.up U⟩⟩) [(10,15)] sH rfl rfl (okRet rfl rfl))
end
end Go.Proofs.YtgbeechjghajcaaGreatDoor

namespace Go.Proofs.YtgbeechjghajcaaGreatDoor
open Go Go.Fw Go.NatM Go.RatM Go.SrcM Go.SynM
set_option maxRecDepth 100000
set_option maxHeartbeats 99999999
section
variable (src:ByteArray) (L r:List Tok) (hr:r <:+ L) (hL:L.length≤65536) {N:ByteArray→Prop} (K:KL N L) (V:VocN N)
include hr hL K V
theorem defUnit_fn (l:List Un) (hne:r ≠ []):FnS Tryz.prog 58 10 [.ptr 0 0] [psB src (ix L r),tkB L,(2,.own 81 8 (rws Un.row l))]
  (fun x:Rs (List Un)=>x=oneP unitP 32 l r) (outK src L 0 81 8 Un.row 10):=by
 refine FnS.of Tryz.func58 (by kernel_rfl) rfl Tryz.ntmps58 rfl fun E0 F h w0 cs=>?_
 conv=>whnf
 refine gS ?_;conv=>whnf
 refine RunsS.callN (oneUn_fn src L r hr hL K V l 32 (by decide) hne) [0,1,2,3,4,5,6,7,8,9] ?_ sH ?CNa1
 case CNa1=>rfl
 rintro (⟨a,r2⟩|⟨r2,e2⟩) h2<;>conv=>whnf
 ·try refine gS ?_
  conv=>whnf
  try refine RunsS.finU ?_
  exact UnwS.ret tab Tryz.func58 rfl (EndS.mk ((Rs.ok a r2:Rs (List Un))) (h2) [] sH rfl rfl (okRet rfl rfl))
 try refine RunsS.panicU ?_
 exact UnwS.pan Tryz.func58 (EndS.mk ((Rs.bad r2 e2:Rs (List Un))) (h2) [] sH rfl rfl (okPan rfl))
theorem defItem_fn (l:List It) (hne:r ≠ []):FnS Tryz.prog 61 10 [.ptr 0 0] [psB src (ix L r),tkB L,(3,.own 83 6 (rws It.row l))]
  (fun x:Rs (List It)=>x=oneP itemP 32 l r) (outK src L 1 83 6 It.row 10):=by
 refine FnS.of Tryz.func61 (by kernel_rfl) rfl Tryz.ntmps61 rfl fun E0 F h w0 cs=>?_
 conv=>whnf
 refine gS ?_;conv=>whnf
 refine RunsS.callN (oneIt_fn src L r hr hL K V l 32 (by decide) hne) [0,1,2,3,4,5,6,7,8,9] ?_ sH ?CNa2
 case CNa2=>rfl
 rintro (⟨a,r2⟩|⟨r2,e2⟩) h2<;>conv=>whnf
 ·try refine gS ?_
  conv=>whnf
  try refine RunsS.finU ?_
  exact UnwS.ret tab Tryz.func61 rfl (EndS.mk ((Rs.ok a r2:Rs (List It))) (h2) [] sH rfl rfl (okRet rfl rfl))
 try refine RunsS.panicU ?_
 exact UnwS.pan Tryz.func61 (EndS.mk ((Rs.bad r2 e2:Rs (List It))) (h2) [] sH rfl rfl (okPan rfl))
theorem defPlant_fn (l:List ByteArray) (hne:r ≠ []):FnS Tryz.prog 64 10 [.ptr 0 0] [psB src (ix L r),tkB L,(4,.own 9 1 (rws strR l))]
  (fun x:Rs (List ByteArray)=>x=oneP plantP 8 l r) (outK src L 2 9 1 strR 10):=by
 refine FnS.of Tryz.func64 (by kernel_rfl) rfl Tryz.ntmps64 rfl fun E0 F h w0 cs=>?_
 conv=>whnf
 refine gS ?_;conv=>whnf
 refine RunsS.callN (onePl_fn src L r hr hL K V l 8 (by decide) hne) [0,1,2,3,4,5,6,7,8,9] ?_ sH ?CNa3
 case CNa3=>rfl
 rintro (⟨a,r2⟩|⟨r2,e2⟩) h2<;>conv=>whnf
 ·try refine gS ?_
  conv=>whnf
  try refine RunsS.finU ?_
  exact UnwS.ret tab Tryz.func64 rfl (EndS.mk ((Rs.ok a r2:Rs (List ByteArray))) (h2) [] sH rfl rfl (okRet rfl rfl))
 try refine RunsS.panicU ?_
 exact UnwS.pan Tryz.func64 (EndS.mk ((Rs.bad r2 e2:Rs (List ByteArray))) (h2) [] sH rfl rfl (okPan rfl))
theorem defMachine_fn (l:List Mc) (hne:r ≠ []):FnS Tryz.prog 67 10 [.ptr 0 0] [psB src (ix L r),tkB L,(5,.own 85 4 (rws Mc.row l))]
  (fun x:Rs (List Mc)=>x=oneP machP 16 l r) (outK src L 3 85 4 Mc.row 10):=by
 refine FnS.of Tryz.func67 (by kernel_rfl) rfl Tryz.ntmps67 rfl fun E0 F h w0 cs=>?_
 conv=>whnf
 refine gS ?_;conv=>whnf
 refine RunsS.callN (oneMc_fn src L r hr hL K V l 16 (by decide) hne) [0,1,2,3,4,5,6,7,8,9] ?_ sH ?CNa4
 case CNa4=>rfl
 rintro (⟨a,r2⟩|⟨r2,e2⟩) h2<;>conv=>whnf
 ·try refine gS ?_
  conv=>whnf
  try refine RunsS.finU ?_
  exact UnwS.ret tab Tryz.func67 rfl (EndS.mk ((Rs.ok a r2:Rs (List Mc))) (h2) [] sH rfl rfl (okRet rfl rfl))
 try refine RunsS.panicU ?_
 exact UnwS.pan Tryz.func67 (EndS.mk ((Rs.bad r2 e2:Rs (List Mc))) (h2) [] sH rfl rfl (okPan rfl))
theorem defOption_fn (l:List OpV) (hne:r ≠ []):FnX Tryz.prog 70 10 [.ptr 0 0] [psB src (ix L r),tkB L,(6,.own 50 2 (rws OpV.row l))] (fun _ _=>True)
  (fun (x:Rs OpV) G h=>x.fm OpV.bare=moreP optnP 6 l.length r∧x.all fun o=>o.ok G h) (outN src L 4 50 2 OpV.row l 10):=by
 refine FnX.of Tryz.func70 (by kernel_rfl) rfl Tryz.ntmps70 rfl fun E0 F G h N hP w0 cs=>?_
 conv=>whnf
 refine gS ?_;conv=>whnf
 refine RunsS.callY (N.gsub) (oneOp_fn src L r hr hL K V l 6 (by decide) hne) (fun _ _=>trivial) [0,1,2,3,4,5,6,7,8,9] sH ?CNa5 ?_
 case CNa5=>rfl
 rintro _ x G1 h1 N1 J1
 cases x<;>conv=>whnf
 ·rename_i a r2
  (try refine gS ?_);conv=>whnf
  try refine RunsS.finU ?_
  exact UnwS.ret tab Tryz.func70 rfl (eX (N.trans N1) ((Rs.ok a r2:Rs OpV)) (fun h U=>⟨J1.1,J1.2.up U⟩))
 rename_i r2 e2
 exact UnwS.pan Tryz.func70 (EndX.mk (N.trans N1) ((Rs.bad r2 e2:Rs OpV)) (fun h U=>⟨J1.1,trivial⟩) [] sH rfl rfl (okPan rfl))
theorem defForbid_fn (l:List FbV) (hne:r ≠ []):FnX Tryz.prog 73 10 [.ptr 0 0] [psB src (ix L r),tkB L,(7,.own 53 1 (rws FbV.row l))] (fun _ _=>True)
  (fun (x:Rs FbV) G h=>x.fm FbV.bare=moreP forbP 16 l.length r∧x.all fun o=>o.ok G h) (outN src L 5 53 1 FbV.row l 10):=by
 refine FnX.of Tryz.func73 (by kernel_rfl) rfl Tryz.ntmps73 rfl fun E0 F G h N hP w0 cs=>?_
 conv=>whnf
 refine gS ?_;conv=>whnf
 refine RunsS.callY (N.gsub) (oneFb_fn src L r hr hL K V l 16 (by decide) hne) (fun _ _=>trivial) [0,1,2,3,4,5,6,7,8,9] sH ?CNa6 ?_
 case CNa6=>rfl
 rintro _ x G1 h1 N1 J1
 cases x<;>conv=>whnf
 ·rename_i a r2
  (try refine gS ?_);conv=>whnf
  try refine RunsS.finU ?_
  exact UnwS.ret tab Tryz.func73 rfl (eX (N.trans N1) ((Rs.ok a r2:Rs FbV)) (fun h U=>⟨J1.1,J1.2.up U⟩))
 rename_i r2 e2
 exact UnwS.pan Tryz.func73 (EndX.mk (N.trans N1) ((Rs.bad r2 e2:Rs FbV)) (fun h U=>⟨J1.1,trivial⟩) [] sH rfl rfl (okPan rfl))
theorem defMake_fn (l:List RcV) (hne:r ≠ []):FnX Tryz.prog 76 10 [.ptr 0 0] [psB src (ix L r),tkB L,(8,.own 61 17 (rws RcV.row l))] (fun _ _=>True)
  (fun (x:Rs RcV) G h=>x.fm RcV.bare=moreP recP 64 l.length r∧x.all fun o=>o.ok G h) (outN src L 6 61 17 RcV.row l 10):=by
 refine FnX.of Tryz.func76 (by kernel_rfl) rfl Tryz.ntmps76 rfl fun E0 F G h N hP w0 cs=>?_
 conv=>whnf
 refine gS ?_;conv=>whnf
 refine RunsS.callY (N.gsub) (oneRc_fn src L r hr hL K V l 64 (by decide) hne) (fun _ _=>trivial) [0,1,2,3,4,5,6,7,8,9] sH ?CNa7 ?_
 case CNa7=>rfl
 rintro _ x G1 h1 N1 J1
 cases x<;>conv=>whnf
 ·rename_i a r2
  (try refine gS ?_);conv=>whnf
  try refine RunsS.finU ?_
  exact UnwS.ret tab Tryz.func76 rfl (eX (N.trans N1) ((Rs.ok a r2:Rs RcV)) (fun h U=>⟨J1.1,J1.2.up U⟩))
 rename_i r2 e2
 exact UnwS.pan Tryz.func76 (EndX.mk (N.trans N1) ((Rs.bad r2 e2:Rs RcV)) (fun h U=>⟨J1.1,trivial⟩) [] sH rfl rfl (okPan rfl))
theorem defSwap_fn (l:List Sw) (hne:r ≠ []):FnS Tryz.prog 79 10 [.ptr 0 0] [psB src (ix L r),tkB L,(9,.own 89 4 (rws Sw.row l))]
  (fun x:Rs (List Sw)=>x=oneP swapP 32 l r) (outK src L 7 89 4 Sw.row 10):=by
 refine FnS.of Tryz.func79 (by kernel_rfl) rfl Tryz.ntmps79 rfl fun E0 F h w0 cs=>?_
 conv=>whnf
 refine gS ?_;conv=>whnf
 refine RunsS.callN (oneSw_fn src L r hr hL K V l 32 (by decide) hne) [0,1,2,3,4,5,6,7,8,9] ?_ sH ?CNa8
 case CNa8=>rfl
 rintro (⟨a,r2⟩|⟨r2,e2⟩) h2<;>conv=>whnf
 ·try refine gS ?_
  conv=>whnf
  try refine RunsS.finU ?_
  exact UnwS.ret tab Tryz.func79 rfl (EndS.mk ((Rs.ok a r2:Rs (List Sw))) (h2) [] sH rfl rfl (okRet rfl rfl))
 try refine RunsS.panicU ?_
 exact UnwS.pan Tryz.func79 (EndS.mk ((Rs.bad r2 e2:Rs (List Sw))) (h2) [] sH rfl rfl (okPan rfl))
end
abbrev defsE:List (Value×Value):=[(.string (B wUnit),.func (.func 58) #[] #[]),(.string (B wItem),.func (.func 61) #[] #[]),(.string (B wPlant),.func (.func 64) #[] #[]),(.string (B wMachine),.func (.func 67) #[] #[]),(.string (B wOption),.func (.func 70) #[] #[]),(.string (B wForbid),.func (.func 73) #[] #[]),(.string (B wMake),.func (.func 76) #[] #[]),(.string (B wSwap),.func (.func 79) #[] #[])]
theorem mpT:Tryz.prog.underlying 68=some (.map 9 70):=by kernel_rfl
theorem stT:Tryz.prog.underlying 9=some .string:=by kernel_rfl
theorem mem0 {es:List (Value×Value)} {k:ByteArray} (ks:List ByteArray) (he:es.map Prod.fst=ks.map Value.string) (h:∀x∈ks,x≠k):MapGet es (.string k) none:=fun p hp e=>by
 have:p.1∈ks.map Value.string:=he▸List.mem_map_of_mem hp
 obtain ⟨k',h1,h2⟩:=List.mem_map.1 this
 rw [e] at h2
 cases h2
 exact h _ h1 rfl
theorem mem1 {es:List (Value×Value)} {k:ByteArray} {v:Value} (es1 es2:List (Value×Value)) (h:es=es1++(.string k,v)::es2) (h1:MapGet es1 (.string k) none) (h2:MapGet es2 (.string k) none):MapGet es (.string k) (some v):=by
 subst h
 refine ⟨⟨_,List.mem_append_right _ (List.mem_cons_self ..),rfl⟩,fun p hp he=>?_⟩
 rcases List.mem_append.1 hp with hp|hp
 ·exact absurd he (h1 p hp)
 rcases List.mem_cons.1 hp with rfl|hp
 ·rfl
 exact absurd he (h2 p hp)
abbrev wds:List ByteArray:=[B wUnit,B wItem,B wPlant,B wMachine,B wOption,B wForbid,B wMake,B wSwap]
theorem defs_fn:FnS Tryz.prog 23 0 [] [] (fun _:Unit=>True) (fun _=>.ret (.buf 0) 1 [(0,.map .string defsE)]):=by
 refine FnS.of Tryz.func23 (by kernel_rfl) rfl Tryz.ntmps23 rfl fun E0 F h w0 cs=>?_
 conv=>whnf
 refine gS ?_;conv=>whnf
 refine RunsS.makeMap .string ?_
 (try refine gS ?_);conv=>whnf
 refine RunsS.insert mpT stT (mem0 (k:=B wUnit) (wds.take 0) rfl (by decide)) rfl ?_
 (try refine gS ?_);conv=>whnf
 refine RunsS.insert mpT stT (mem0 (k:=B wItem) (wds.take 1) rfl (by decide)) rfl ?_
 (try refine gS ?_);conv=>whnf
 refine RunsS.insert mpT stT (mem0 (k:=B wPlant) (wds.take 2) rfl (by decide)) rfl ?_
 (try refine gS ?_);conv=>whnf
 refine RunsS.insert mpT stT (mem0 (k:=B wMachine) (wds.take 3) rfl (by decide)) rfl ?_
 (try refine gS ?_);conv=>whnf
 refine RunsS.insert mpT stT (mem0 (k:=B wOption) (wds.take 4) rfl (by decide)) rfl ?_
 (try refine gS ?_);conv=>whnf
 refine RunsS.insert mpT stT (mem0 (k:=B wForbid) (wds.take 5) rfl (by decide)) rfl ?_
 (try refine gS ?_);conv=>whnf
 refine RunsS.insert mpT stT (mem0 (k:=B wMake) (wds.take 6) rfl (by decide)) rfl ?_
 (try refine gS ?_);conv=>whnf
 refine RunsS.insert mpT stT (mem0 (k:=B wSwap) (wds.take 7) rfl (by decide)) rfl ?_
 (try refine gS ?_);conv=>whnf
 try refine RunsS.retU ?_
 exact UnwS.ret tab Tryz.func23 rfl (eN () trivial)
def defF (t:ByteArray):Option Value:=
 if t=B wUnit then some (.func (.func 58) #[] #[]) else if t=B wItem then some (.func (.func 61) #[] #[]) else if t=B wPlant then some (.func (.func 64) #[] #[]) else if t=B wMachine then some (.func (.func 67) #[] #[]) else if t=B wOption then some (.func (.func 70) #[] #[]) else if t=B wForbid then some (.func (.func 73) #[] #[]) else if t=B wMake then some (.func (.func 76) #[] #[]) else if t=B wSwap then some (.func (.func 79) #[] #[]) else none
theorem def_get (t:ByteArray):MapGet defsE (.string t) (defF t):=by
 unfold defF
 repeat' split
 ·rename_i h;subst h;exact mem1 (defsE.take 0) (defsE.drop 1) rfl (mem0 (wds.take 0) rfl (by decide)) (mem0 (wds.drop 1) rfl (by decide))
 ·rename_i h;subst h;exact mem1 (defsE.take 1) (defsE.drop 2) rfl (mem0 (wds.take 1) rfl (by decide)) (mem0 (wds.drop 2) rfl (by decide))
 ·rename_i h;subst h;exact mem1 (defsE.take 2) (defsE.drop 3) rfl (mem0 (wds.take 2) rfl (by decide)) (mem0 (wds.drop 3) rfl (by decide))
 ·rename_i h;subst h;exact mem1 (defsE.take 3) (defsE.drop 4) rfl (mem0 (wds.take 3) rfl (by decide)) (mem0 (wds.drop 4) rfl (by decide))
 ·rename_i h;subst h;exact mem1 (defsE.take 4) (defsE.drop 5) rfl (mem0 (wds.take 4) rfl (by decide)) (mem0 (wds.drop 5) rfl (by decide))
 ·rename_i h;subst h;exact mem1 (defsE.take 5) (defsE.drop 6) rfl (mem0 (wds.take 5) rfl (by decide)) (mem0 (wds.drop 6) rfl (by decide))
 ·rename_i h;subst h;exact mem1 (defsE.take 6) (defsE.drop 7) rfl (mem0 (wds.take 6) rfl (by decide)) (mem0 (wds.drop 7) rfl (by decide))
 ·rename_i h;subst h;exact mem1 (defsE.take 7) (defsE.drop 8) rfl (mem0 (wds.take 7) rfl (by decide)) (mem0 (wds.drop 8) rfl (by decide))
 exact mem0 wds rfl (by simp only [List.forall_mem_cons];exact ⟨Ne.symm (by assumption),Ne.symm (by assumption),Ne.symm (by assumption),Ne.symm (by assumption),Ne.symm (by assumption),Ne.symm (by assumption),Ne.symm (by assumption),Ne.symm (by assumption),fun _ h=>nomatch h⟩)
end Go.Proofs.YtgbeechjghajcaaGreatDoor

namespace Go.SynM
open Go Go.Fw Go.RatM Go.SrcM
open Go.Proofs.YtgbeechjghajcaaGreatDoor (Tok)
section
variable {s:SrcV} {x:Tok} {r:List Tok}
theorem isW_is {t:ByteArray} (hk:x.kind=1) (ht:x.text=t):isT 1 t (x::r)=true:=by simp only [isT,hk,ht];decide
theorem isW_no {t u:ByteArray} (ht:x.text=t) (h:t≠u):isT 1 u (x::r)=false:=by simp only [isT,ht];exact decide_eq_false fun e=>h e.2
theorem brW_no {α:Type} {t:ByteArray} {n most:Nat} {p q:P α} (h:isT 1 t r=false):brP t n most p q r=q r:=by simp only [brP,h];rfl
theorem brW_is {α:Type} {t:ByteArray} {n most:Nat} {p:P α} {q:P SrcV} {f:α→P SrcV} (h:isT 1 t r=true):brP t n most (bnd p f) q r=bnd (moreP p most n) f r:=by
 simp only [brP,h,if_true,bnd,moreP]
 split<;>rfl
theorem def_units (hk:x.kind=1) (ht:x.text=B wUnit):defP s (x::r)=bnd (moreP unitP 32 s.units.length) (fun a=>pur {s with units:=s.units++[a]}) (x::r):=by
 unfold defP
 rw [brW_is (isW_is hk ht)]
theorem def_items (hk:x.kind=1) (ht:x.text=B wItem):defP s (x::r)=bnd (moreP itemP 32 s.items.length) (fun a=>pur {s with items:=s.items++[a]}) (x::r):=by
 unfold defP
 rw [brW_no (isW_no ht (by decide)),brW_is (isW_is hk ht)]
theorem def_plants (hk:x.kind=1) (ht:x.text=B wPlant):defP s (x::r)=bnd (moreP plantP 8 s.plants.length) (fun a=>pur {s with plants:=s.plants++[a]}) (x::r):=by
 unfold defP
 rw [brW_no (isW_no ht (by decide)),brW_no (isW_no ht (by decide)),brW_is (isW_is hk ht)]
theorem def_machines (hk:x.kind=1) (ht:x.text=B wMachine):defP s (x::r)=bnd (moreP machP 16 s.machines.length) (fun a=>pur {s with machines:=s.machines++[a]}) (x::r):=by
 unfold defP
 rw [brW_no (isW_no ht (by decide)),brW_no (isW_no ht (by decide)),brW_no (isW_no ht (by decide)),brW_is (isW_is hk ht)]
theorem def_options (hk:x.kind=1) (ht:x.text=B wOption):defP s (x::r)=bnd (moreP optnP 6 s.options.length) (fun a=>pur {s with options:=s.options++[a]}) (x::r):=by
 unfold defP
 rw [brW_no (isW_no ht (by decide)),brW_no (isW_no ht (by decide)),brW_no (isW_no ht (by decide)),brW_no (isW_no ht (by decide)),brW_is (isW_is hk ht)]
theorem def_forbids (hk:x.kind=1) (ht:x.text=B wForbid):defP s (x::r)=bnd (moreP forbP 16 s.forbids.length) (fun a=>pur {s with forbids:=s.forbids++[a]}) (x::r):=by
 unfold defP
 rw [brW_no (isW_no ht (by decide)),brW_no (isW_no ht (by decide)),brW_no (isW_no ht (by decide)),brW_no (isW_no ht (by decide)),brW_no (isW_no ht (by decide)),brW_is (isW_is hk ht)]
theorem def_recipes (hk:x.kind=1) (ht:x.text=B wMake):defP s (x::r)=bnd (moreP recP 64 s.recipes.length) (fun a=>pur {s with recipes:=s.recipes++[a]}) (x::r):=by
 unfold defP
 rw [brW_no (isW_no ht (by decide)),brW_no (isW_no ht (by decide)),brW_no (isW_no ht (by decide)),brW_no (isW_no ht (by decide)),brW_no (isW_no ht (by decide)),brW_no (isW_no ht (by decide)),brW_is (isW_is hk ht)]
theorem def_swaps (hk:x.kind=1) (ht:x.text=B wSwap):defP s (x::r)=bnd (moreP swapP 32 s.swaps.length) (fun a=>pur {s with swaps:=s.swaps++[a]}) (x::r):=by
 unfold defP
 rw [brW_no (isW_no ht (by decide)),brW_no (isW_no ht (by decide)),brW_no (isW_no ht (by decide)),brW_no (isW_no ht (by decide)),brW_no (isW_no ht (by decide)),brW_no (isW_no ht (by decide)),brW_no (isW_no ht (by decide)),brW_is (isW_is hk ht)]
theorem def_none (h:x.kind≠1∨(x.text≠B wUnit∧x.text≠B wItem∧x.text≠B wPlant∧x.text≠B wMachine∧x.text≠B wOption∧x.text≠B wForbid∧x.text≠B wMake∧x.text≠B wSwap)):defP s (x::r)=.bad (x::r) 100:=by
 have G:∀t ∈ [wUnit,wItem,wPlant,wMachine,wOption,wForbid,wMake,wSwap],isT 1 (B t) (x::r)=false:=fun t ht=>by
  refine decide_eq_false fun e=>?_
  rcases h with h|h
  ·exact h e.1
  simp only [List.mem_cons,List.not_mem_nil,or_false] at ht
  rcases ht with rfl|rfl|rfl|rfl|rfl|rfl|rfl|rfl<;>simp [e.2] at h
 simp only [List.forall_mem_cons] at G
 obtain ⟨g1,g2,g3,g4,g5,g6,g7,g8,-⟩:=G
 unfold defP
 rw [brW_no g1,brW_no g2,brW_no g3,brW_no g4,brW_no g5,brW_no g6,brW_no g7,brW_no g8];rfl
theorem word_cases (t:ByteArray):t=B wUnit∨t=B wItem∨t=B wPlant∨t=B wMachine∨t=B wOption∨t=B wForbid∨t=B wMake∨t=B wSwap∨(t≠B wUnit∧t≠B wItem∧t≠B wPlant∧t≠B wMachine∧t≠B wOption∧t≠B wForbid∧t≠B wMake∧t≠B wSwap):=by
 by_cases h1:t=B wUnit
 ·exact .inl h1
 by_cases h2:t=B wItem
 ·exact .inr (.inl h2)
 by_cases h3:t=B wPlant
 ·exact .inr (.inr (.inl h3))
 by_cases h4:t=B wMachine
 ·exact .inr (.inr (.inr (.inl h4)))
 by_cases h5:t=B wOption
 ·exact .inr (.inr (.inr (.inr (.inl h5))))
 by_cases h6:t=B wForbid
 ·exact .inr (.inr (.inr (.inr (.inr (.inl h6)))))
 by_cases h7:t=B wMake
 ·exact .inr (.inr (.inr (.inr (.inr (.inr (.inl h7))))))
 by_cases h8:t=B wSwap
 ·exact .inr (.inr (.inr (.inr (.inr (.inr (.inr (.inl h8)))))))
 exact .inr (.inr (.inr (.inr (.inr (.inr (.inr (.inr ⟨h1,h2,h3,h4,h5,h6,h7,h8⟩)))))))
end
abbrev restD (s:SrcV) (r:List Tok):Rs SrcV:=defsP (r.length+1) s r
theorem rest_nil (s:SrcV):restD s []=.ok s []:=rfl
theorem rest_bad {s:SrcV} {x:Tok} {r r':List Tok} {e:Nat} (h:defP s (x::r)=.bad r' e):restD s (x::r)=.bad r' e:=by
 show (if x::r=[] then Rs.ok s [] else bnd (defP s) (defsP (x::r).length) (x::r))=_
 rw [if_neg (List.cons_ne_nil _ _),bnd_bad h]
theorem rest_more {s s':SrcV} {x:Tok} {r r':List Tok} (hl:r'.length≤r.length) (h:defP s (x::r)=.ok s' r'):restD s (x::r)=restD s' r':=by
 show (if x::r=[] then Rs.ok s [] else bnd (defP s) (defsP (x::r).length) (x::r))=_
 rw [if_neg (List.cons_ne_nil _ _),bnd_ok h]
 exact defs_more _ _ _ _ (by simp only [List.length_cons];omega) (Nat.lt_succ_self _)
theorem more_suf {α:Type} {p:P α} {most n:Nat} {x:Tok} {q r:List Tok} {a:α} (hg:Good p) (h:moreP p most n (x::q)=.ok a r):r <:+ q:=by
 unfold moreP at h
 split at h
 ·cases h
 exact hg.suf _ _ _ h
theorem fm_ok {α β:Type} {f:α→β} {y:Rs α} {b:β} {r:List Tok} (h:y.fm f=.ok b r):∃a,y=.ok a r∧f a=b:=by
 cases y with
 |ok a r'=>cases h;exact ⟨a,rfl,rfl⟩
 |bad=>cases h
theorem fm_bad {α β:Type} {f:α→β} {y:Rs α} {e:Nat} {r:List Tok} (h:y.fm f=.bad r e):y=.bad r e:=by
 cases y with
 |ok a r'=>cases h
 |bad=>cases h;rfl
end Go.SynM
namespace Go.Proofs.YtgbeechjghajcaaGreatDoor
open Go Go.Fw Go.NatM Go.RatM Go.SrcM Go.SynM
set_option maxRecDepth 100000
set_option maxHeartbeats 99999999
theorem sign_not {t:ByteArray} (h1:t.size=1) (h2:cls (byteAt t 0)=4):¬NmP t:=fun h=>by
 have:=h.2.1
 rw [h2] at this
 cases this
theorem kl_of {l:List Tok} (h:AllV l):KL NmP l:=⟨fun x hx=>by
 rcases h x hx with h|h|h
 ·exact .inl ⟨h.1,h.2.1⟩
 ·exact .inr (.inl ⟨h.1,h.2.2.1⟩)
 exact .inr (.inr ⟨h.1,sign_not h.2.1 h.2.2.1⟩)⟩
structure PsX where
 s:SrcV
 at_:Int
 e:Int
 U:Value
 I:Value
 P:Value
 M:Value
 O:Value
 F:Value
 R:Value
 S:Value
structure PsJ (q:SrcV ⊕ (Int×Int)) (y:PsX) (G:Nat→Prop) (h:Array Obj):Prop where
 top:TopF G h y.U y.I y.P y.M y.O y.F y.R y.S y.s
 res:match q with
  | .inl x=>y.s.bare=x∧y.at_=0∧y.e=0
  | .inr p=>y.s=noSrc∧y.at_=p.1∧y.e=p.2
def psOut (y:PsX):OutS:=.ret (.tup [srcA y.U y.I y.P y.M y.O y.F y.R y.S,.v (.int .i64 y.at_),.v (.int .i64 y.e)]) 0 []
abbrev nil8:List SV:=[.v nilV,.v nilV,.v nilV,.v nilV,.v nilV,.v nilV,.v nilV,.v nilV]
theorem parseDN_fn:FnDS Tryz.prog 22 3 [.ptr 0 0,.ptr 1 0,.ptr 2 0] [] .returning (fun _:Unit=>True) (fun _=>⟨.returning,3,[]⟩):=by
 refine FnDS.of Tryz.func22 (by kernel_rfl) rfl Tryz.ntmps22 rfl fun E0 F h w0 c0 cs=>?_
 (try refine gS ?_);conv=>whnf
 refine RunsS.recoverN ?_
 (try refine gS ?_);conv=>whnf
 refine RunsS.effV (fun E h=>eff_neNil0 Tryz.underlying20) ?_
 (try refine gS ?_);conv=>whnf
 refine RunsS.finU (UnwS.retD tab Tryz.func22 rfl (EndD.mk () trivial [] trivial rfl rfl rfl))
theorem parseDP_fn (y z:Value) (q:Int×Nat):FnDS Tryz.prog 22 3 [.ptr 0 0,.ptr 1 0,.ptr 2 0] [(0,.cells 32 nil8),(1,.cells 3 [.v y]),(2,.cells 33 [.v z])] (.panicking (failV q)) (fun _:Unit=>True)
  (fun _=>⟨.panicking [{v:=.iface 63 (.agg #[.int .i64 q.1,.int .i64 (q.2:Int)]),recovered:=true}],3,[(0,.cells 32 nil8),(1,.cells 3 [.v (.int .i64 q.1)]),(2,.cells 33 [.v (.int .i64 (q.2:Int))])]⟩):=by
 refine FnDS.of Tryz.func22 (by kernel_rfl) rfl Tryz.ntmps22 rfl fun E0 F h w0 c0 cs=>?_
 (try refine gS ?_);conv=>whnf
 refine RunsS.recoverP ?_
 (try refine gS ?_);conv=>whnf
 refine RunsS.effV (fun E h=>eff_assert Tryz.underlying63 (fun _ e=>by cases e)) ?_
 (try refine gS ?_);conv=>whnf
 refine RunsS.held tab (.fl 0 (.fl 1 (.fl 2 (.fl 3 (.fl 4 (.e1 5 [2,4] (.e1 6 [4] (.e1 7 [] .done)))))))) (by kernel_rfl) ?_;conv=>whnf
 (try refine gR ?_);conv=>whnf
 repeat ((first|(guard_target=_∧_;(first|refine oL ?_|refine oR ?_|refine oB ?_))|(guard_target=Exists _;refine oM ?_));(try intro _);conv=>whnf)
 (try refine gS ?_);conv=>whnf
 refine RunsS.finU (UnwS.retD tab Tryz.func22 rfl (EndD.mk () trivial [] ⟨by rfl,by rfl,by rfl,trivial⟩ rfl rfl rfl))
theorem parseBig_fn (src:ByteArray) (hs:65536<src.size):FnX Tryz.prog 11 0 [.v (.string src)] [] (fun _ _=>True) (fun y G h=>PsJ (.inr (0,2)) y G h) psOut:=by
 refine FnX.of Tryz.func11 (by kernel_rfl) rfl Tryz.ntmps11 rfl fun E0 F G h N hP w0 cs=>?_
 conv=>whnf
 refine gS ?_;conv=>whnf
 refine RunsS.callV (fun Ez Hz Az Sz K=>big_fn src hs) ?_
 conv=>whnf
 (try refine gS ?_);conv=>whnf
 repeat ((first|(guard_target=_∧_;(first|refine oL ?_|refine oR ?_))|(guard_target=Exists _;refine oM ?_));(try intro _);conv=>whnf)
 (try refine gS ?_);conv=>whnf
 refine RunsS.held tab (.fl 0 (.fl 1 (.fl 2 (.e1 3 [1,2] (.e1 4 [2] (.e1 5 [] .done)))))) (by kernel_rfl) ?_;conv=>whnf
 (try refine gR ?_);conv=>whnf
 repeat ((first|(guard_target=_∧_;(first|refine oL ?_|refine oR ?_|refine oB ?_))|(guard_target=Exists _;refine oM ?_));(try intro _);conv=>whnf)
 (try refine gS ?_);conv=>whnf
 try refine RunsS.retU ?_
 exact UnwS.ret tab Tryz.func11 rfl (eX (N) (⟨noSrc,0,2,nilV,nilV,nilV,nilV,nilV,nilV,nilV,nilV⟩) (fun h U=>⟨TopF.none _ _,rfl,rfl,rfl⟩))
theorem word_kind {L q:List Tok} {x:Tok} {t:ByteArray} (h:AllV L) (hq:x::q <:+ L) (ht:x.text=t) (hn:NmP t):x.kind=1:=by
 rcases h x (hq.subset (List.mem_cons_self ..)) with h|h|h
 ·exact h.1
 ·rw [←ht,h.2.1] at hn;exact absurd hn nm_e0
 rw [←ht] at hn;exact absurd hn (sign_not h.2.1 h.2.2.1)
theorem fnZ (w:World):(zeroValue 70).run Tryz.prog w=.ok .nilFunc w:=by kernel_rfl
theorem parseOk_fn (src:ByteArray) (hs:src.size≤65536) {tl:List (Nat×Tk)} (hl:lexS (bs src) 0=.inl tl):FnX Tryz.prog 11 0 [.v (.string src)] [] (fun _ _=>True) (fun y G h=>PsJ (parseP src) y G h) psOut:=by
 have hV:=(lex_allV hl).1
 have hn:=(lexS_len _ (bs src) 0 tl rfl hl).1
 rw [bs_len] at hn
 obtain ⟨q0,hq0⟩:∃q,q=parseP src:=⟨_,rfl⟩
 rw [←hq0]
 have hq0:q0=match restD noS (toksP tl) with
   | .ok x _=>.inl x
   | .bad r e=>.inr ((place src.size e r).1,((place src.size e r).2:Int)):=by
  rw [hq0];unfold parseP;rw [hl];rfl
 have CL:=lexOk_fn hs hl
 obtain ⟨L,hL⟩:∃L,L=toksP tl:=⟨_,rfl⟩
 have hLn:L.length≤65536:=by rw [hL];unfold toksP;rw [List.length_map];omega
 rw [←hL] at hV hq0 CL
 clear hL hl hn
 have KT:=kl_of hV
 have V:=vocN
 have lm:(L.map Tok.row).length=L.length:=List.length_map _
 refine FnX.of Tryz.func11 (by kernel_rfl) rfl Tryz.ntmps11 rfl fun E0 F G h N hP w0 cs=>?_
 conv=>whnf
 refine gS ?_;conv=>whnf
 refine RunsS.callN (CL) [] ?_ sH ?CNa1
 case CNa1=>rfl
 intro _ _
 conv=>whnf
 (try refine gS ?_);conv=>whnf
 repeat ((first|(guard_target=_∧_;(first|refine oL ?_|refine oR ?_))|(guard_target=Exists _;refine oM ?_));(try intro _);conv=>whnf)
 refine RunsS.deferU ?_
 (try refine gS ?_);conv=>whnf
 refine RunsS.callN (defs_fn) [] ?_ sH ?CNa2
 case CNa2=>rfl
 intro _ _
 conv=>whnf
 (try refine gS ?_);conv=>whnf
 refine RunsS.subR (nx':=6) (l':=[(2,.ptr 0 0),(3,.ptr 1 0),(4,.ptr 2 0),(6,.ptr 4 0),(7,.buf 5)]) (H':=[(0,.cells 32 nil8),(1,.cells 3 [.v (.int .i64 0)]),(2,.cells 33 [.v (.int .i64 0)]),(3,.own 47 4 (L.map Tok.row)),(4,.cells 67 [.v (.string src),.buf 3,.v (.int .i64 0),.v nilV,.v nilV,.v nilV,.v nilV,.v nilV,.v nilV,.v nilV,.v nilV]),(5,.map .string defsE)]) [] ?_ sH sH
 refine RunsS.nilOwn (l':=[(2,.ptr 0 0),(3,.ptr 1 0),(4,.ptr 2 0),(6,.ptr 4 0),(7,.buf 5)]) (H':=[(0,.cells 32 nil8),(1,.cells 3 [.v (.int .i64 0)]),(2,.cells 33 [.v (.int .i64 0)]),(3,.own 47 4 (L.map Tok.row)),(4,.cells 67 [.v (.string src),.buf 3,.v (.int .i64 0),.buf 6,.v nilV,.v nilV,.v nilV,.v nilV,.v nilV,.v nilV,.v nilV]),(5,.map .string defsE)]) 81 8 ?_ (by rfl) (by rfl) (by rfl)
 refine RunsS.nilOwn (l':=[(2,.ptr 0 0),(3,.ptr 1 0),(4,.ptr 2 0),(6,.ptr 4 0),(7,.buf 5)]) (H':=[(6,.own 81 8 []),(0,.cells 32 nil8),(1,.cells 3 [.v (.int .i64 0)]),(2,.cells 33 [.v (.int .i64 0)]),(3,.own 47 4 (L.map Tok.row)),(4,.cells 67 [.v (.string src),.buf 3,.v (.int .i64 0),.buf 6,.buf 7,.v nilV,.v nilV,.v nilV,.v nilV,.v nilV,.v nilV]),(5,.map .string defsE)]) 83 6 ?_ (by rfl) (by rfl) (by rfl)
 refine RunsS.nilOwn (l':=[(2,.ptr 0 0),(3,.ptr 1 0),(4,.ptr 2 0),(6,.ptr 4 0),(7,.buf 5)]) (H':=[(7,.own 83 6 []),(6,.own 81 8 []),(0,.cells 32 nil8),(1,.cells 3 [.v (.int .i64 0)]),(2,.cells 33 [.v (.int .i64 0)]),(3,.own 47 4 (L.map Tok.row)),(4,.cells 67 [.v (.string src),.buf 3,.v (.int .i64 0),.buf 6,.buf 7,.buf 8,.v nilV,.v nilV,.v nilV,.v nilV,.v nilV]),(5,.map .string defsE)]) 9 1 ?_ (by rfl) (by rfl) (by rfl)
 refine RunsS.nilOwn (l':=[(2,.ptr 0 0),(3,.ptr 1 0),(4,.ptr 2 0),(6,.ptr 4 0),(7,.buf 5)]) (H':=[(8,.own 9 1 []),(7,.own 83 6 []),(6,.own 81 8 []),(0,.cells 32 nil8),(1,.cells 3 [.v (.int .i64 0)]),(2,.cells 33 [.v (.int .i64 0)]),(3,.own 47 4 (L.map Tok.row)),(4,.cells 67 [.v (.string src),.buf 3,.v (.int .i64 0),.buf 6,.buf 7,.buf 8,.buf 9,.v nilV,.v nilV,.v nilV,.v nilV]),(5,.map .string defsE)]) 85 4 ?_ (by rfl) (by rfl) (by rfl)
 refine RunsS.nilOwn (l':=[(2,.ptr 0 0),(3,.ptr 1 0),(4,.ptr 2 0),(6,.ptr 4 0),(7,.buf 5)]) (H':=[(9,.own 85 4 []),(8,.own 9 1 []),(7,.own 83 6 []),(6,.own 81 8 []),(0,.cells 32 nil8),(1,.cells 3 [.v (.int .i64 0)]),(2,.cells 33 [.v (.int .i64 0)]),(3,.own 47 4 (L.map Tok.row)),(4,.cells 67 [.v (.string src),.buf 3,.v (.int .i64 0),.buf 6,.buf 7,.buf 8,.buf 9,.buf 10,.v nilV,.v nilV,.v nilV]),(5,.map .string defsE)]) 50 2 ?_ (by rfl) (by rfl) (by rfl)
 refine RunsS.nilOwn (l':=[(2,.ptr 0 0),(3,.ptr 1 0),(4,.ptr 2 0),(6,.ptr 4 0),(7,.buf 5)]) (H':=[(10,.own 50 2 []),(9,.own 85 4 []),(8,.own 9 1 []),(7,.own 83 6 []),(6,.own 81 8 []),(0,.cells 32 nil8),(1,.cells 3 [.v (.int .i64 0)]),(2,.cells 33 [.v (.int .i64 0)]),(3,.own 47 4 (L.map Tok.row)),(4,.cells 67 [.v (.string src),.buf 3,.v (.int .i64 0),.buf 6,.buf 7,.buf 8,.buf 9,.buf 10,.buf 11,.v nilV,.v nilV]),(5,.map .string defsE)]) 53 1 ?_ (by rfl) (by rfl) (by rfl)
 refine RunsS.nilOwn (l':=[(2,.ptr 0 0),(3,.ptr 1 0),(4,.ptr 2 0),(6,.ptr 4 0),(7,.buf 5)]) (H':=[(11,.own 53 1 []),(10,.own 50 2 []),(9,.own 85 4 []),(8,.own 9 1 []),(7,.own 83 6 []),(6,.own 81 8 []),(0,.cells 32 nil8),(1,.cells 3 [.v (.int .i64 0)]),(2,.cells 33 [.v (.int .i64 0)]),(3,.own 47 4 (L.map Tok.row)),(4,.cells 67 [.v (.string src),.buf 3,.v (.int .i64 0),.buf 6,.buf 7,.buf 8,.buf 9,.buf 10,.buf 11,.buf 12,.v nilV]),(5,.map .string defsE)]) 61 17 ?_ (by rfl) (by rfl) (by rfl)
 refine RunsS.nilOwn (l':=[(2,.ptr 0 0),(3,.ptr 1 0),(4,.ptr 2 0),(6,.ptr 4 0),(7,.buf 5)]) (H':=[(12,.own 61 17 []),(11,.own 53 1 []),(10,.own 50 2 []),(9,.own 85 4 []),(8,.own 9 1 []),(7,.own 83 6 []),(6,.own 81 8 []),(0,.cells 32 nil8),(1,.cells 3 [.v (.int .i64 0)]),(2,.cells 33 [.v (.int .i64 0)]),(3,.own 47 4 (L.map Tok.row)),(4,.cells 67 [.v (.string src),.buf 3,.v (.int .i64 0),.buf 6,.buf 7,.buf 8,.buf 9,.buf 10,.buf 11,.buf 12,.buf 13]),(5,.map .string defsE)]) 89 4 ?_ (by rfl) (by rfl) (by rfl)
 have i0:(0:Int)=ix L L:=by show (0:Int)=((L.length - L.length:Nat):Int);rw [Nat.sub_self];rfl
 refine RunsS.subR (nx':=14) (l':=[(2,.ptr 0 0),(3,.ptr 1 0),(4,.ptr 2 0),(6,.ptr 4 0),(7,.buf 5)]) (H':=[(0,.cells 32 nil8),(1,.cells 3 [.v (.int .i64 0)]),(2,.cells 33 [.v (.int .i64 0)]),(3,.own 47 4 (L.map Tok.row)),(4,.cells 67 [.v (.string src),.buf 3,.v (.int .i64 0),.buf 6,.buf 7,.buf 8,.buf 9,.buf 10,.buf 11,.buf 12,.buf 13]),(5,.map .string defsE),(6,.own 81 8 []),(7,.own 83 6 []),(8,.own 9 1 []),(9,.own 85 4 []),(10,.own 50 2 []),(11,.own 53 1 []),(12,.own 61 17 []),(13,.own 89 4 [])]) [] ?_ sH sH
 rw [show ((4,.cells 67 [.v (.string src),.buf 3,.v (.int .i64 0),.buf 6,.buf 7,.buf 8,.buf 9,.buf 10,.buf 11,.buf 12,.buf 13]):Nat×Fw.Blk)=(4,.cells 67 [.v (.string src),.buf 3,.v (.int .i64 (ix L L)),.buf 6,.buf 7,.buf 8,.buf 9,.buf 10,.buf 11,.buf 12,.buf 13]) from by rw [←i0]]
 refine RunsS.subR [] (RunsS.loopB (fun (⟨s,q,F',G',h'⟩:SrcV×List Tok×(Nat→Prop)×(Nat→Prop)×Array Obj)=>(F',h')) (fun (⟨s,q,F',G',h'⟩:SrcV×List Tok×(Nat→Prop)×(Nat→Prop)×Array Obj)=>[(2,.ptr 0 0),(3,.ptr 1 0),(4,.ptr 2 0),(6,.ptr 4 0),(7,.buf 5)]) (fun (⟨s,q,F',G',h'⟩:SrcV×List Tok×(Nat→Prop)×(Nat→Prop)×Array Obj)=>[(0,.cells 32 nil8),(1,.cells 3 [.v (.int .i64 0)]),(2,.cells 33 [.v (.int .i64 0)]),(3,.own 47 4 (L.map Tok.row)),(4,.cells 67 [.v (.string src),.buf 3,.v (.int .i64 (ix L q)),.buf 6,.buf 7,.buf 8,.buf 9,.buf 10,.buf 11,.buf 12,.buf 13]),(5,.map .string defsE),(6,.own 81 8 (rws Un.row s.units)),(7,.own 83 6 (rws It.row s.items)),(8,.own 9 1 (rws strR s.plants)),(9,.own 85 4 (rws Mc.row s.machines)),(10,.own 50 2 (rws OpV.row s.options)),(11,.own 53 1 (rws FbV.row s.forbids)),(12,.own 61 17 (rws RcV.row s.recipes)),(13,.own 89 4 (rws Sw.row s.swaps))]) 14 (fun (⟨s,q,F',G',h'⟩:SrcV×List Tok×(Nat→Prop)×(Nat→Prop)×Array Obj)=>((Now F G h F' G' h'∧s.sub G' h')∧q <:+ L)∧restD noS L=restD s.bare q) (fun (⟨s,q,F',G',h'⟩:SrcV×List Tok×(Nat→Prop)×(Nat→Prop)×Array Obj)=>q.length) ?round3 (⟨noS,L,F,G,h⟩) ?J03) sH sH
 case J03=>exact (⟨⟨⟨N,⟨fun _ h=>absurd h List.not_mem_nil,fun _ h=>absurd h List.not_mem_nil,fun _ h=>absurd h List.not_mem_nil⟩⟩,List.suffix_refl _⟩,rfl⟩)
 rintro ⟨s,q,F',G',h'⟩ hJ back
 try dsimp only at hJ back
 conv=>whnf
 try dsimp only
 refine gS ?_;conv=>whnf
 obtain ⟨⟨⟨N1,hsub⟩,hq⟩,hJ⟩:=hJ
 refine RunsS.held tab (.fl 0 (.fl 1 (.fl 2 (.fl 3 (.fl 4 (.fl 5 (.fl 6 (.fl 7 (.fl 8 (.fl 9 .done)))))))))) (by kernel_rfl) ?_;conv=>whnf
 (try refine gR ?_);conv=>whnf
 conv=>whnf
 refine ⟨fun hk=>?_,fun hk=>?_⟩<;>conv=>whnf
 ·obtain ⟨x,q,rfl⟩:∃x q',q=x::q':=by
   cases q with
   |nil=>rw [ix_nil,lm] at hk;omega
   |cons x q=>exact ⟨x,q,rfl⟩
  have h2:=ix_lt hq
  have hqq:=suf_tail hq
  conv=>whnf
  (try refine gS ?_);conv=>whnf
  refine RunsS.held tab (.fl 0 (.fl 1 (.fl 2 (.fl 3 (.fl 4 (.fl 5 (.fl 6 (.fl 7 (.fl 8 (.fl 9 (.fl 10 (.fl 11 (.e1 12 [] (.fl 13 (.fl 14 (.fl 15 (.fl 16 (.fl 17 .done)))))))))))))))))) (by kernel_rfl) ?_;conv=>whnf
  (try refine gR ?_);conv=>whnf
  repeat ((first|(guard_target=_∧_;(first|refine oL ?_|refine oR ?_|refine oB ?_))|(guard_target=Exists _;refine oM ?_));(try intro _);conv=>whnf)
  conv=>whnf
  refine ⟨_,row_ix hq,?_⟩;conv=>whnf
  conv=>whnf
  rcases word_cases x.text with ht|ht|ht|ht|ht|ht|ht|ht|ht
  ·have hk1:=word_kind hV hq ht (by decide)
   have hd:MapGet defsE (.string x.text) (some (.func (.func 58) #[] #[])):=by
    have:=def_get x.text
    rw [ht] at this ⊢
    exact this
   refine EffR.lookup (some (.func (.func 58) #[] #[])) mpT stT fnZ (hd) (by (conv=>whnf);(repeat (guard_target=_∧_;refine And.intro (by (conv=>whnf);first|rfl|exact trivial) ?_;conv=>whnf));exact trivial) ?_
   conv=>whnf
   (try refine gR ?_);conv=>whnf
   (try refine gS ?_);conv=>whnf
   refine RunsS.callN (defUnit_fn src L (x::q) hq hLn KT V s.units (List.cons_ne_nil _ _)) [4,3,6,7,8,9,10,11,12,13] ?_ sH ?CNa4
   case CNa4=>rfl
   rintro (⟨a,r2⟩|⟨r2,e2⟩) h2<;>conv=>whnf
   rotate_left
   ·have hd2:defP s.bare (x::q)=.bad r2 e2:=by
     rw [def_units (s:=s.bare) (r:=q) hk1 ht]
     rw [one_more] at h2
     exact bnd_bad (fm_bad h2.symm)
    rw [hJ,rest_bad hd2] at hq0
    refine UnwS.deferN (parseDP_fn _ _ (place src.size e2 r2)) [0,1,2] ?_ ⟨by rfl,by rfl,by rfl,trivial⟩ rfl (fun e=>by cases e)
    intro _ _
    conv=>whnf
    refine UnwS.ret tab Tryz.func11 rfl (EndX.mk (N1) (⟨noSrc,(place src.size e2 r2).1,((place src.size e2 r2).2:Int),nilV,nilV,nilV,nilV,nilV,nilV,nilV,nilV⟩:PsX) (fun h U=>⟨TopF.none _ _,by rw [hq0];exact ⟨rfl,rfl,rfl⟩⟩) [] (by exact trivial) rfl rfl (okRet rfl rfl))
   rw [one_more] at h2
   obtain ⟨a,h3,rfl⟩:=fm_ok h2.symm
   have hs2:=more_suf unit_g.g h3
   have hd2:defP s.bare (x::q)=.ok {s with units:=s.units++[a]}.bare r2:=by
    rw [def_units (s:=s.bare) (r:=q) hk1 ht]
    exact bnd_ok h3
   refine RunsS.subR (nx':=15) (l':=[(2,.ptr 0 0),(3,.ptr 1 0),(4,.ptr 2 0),(6,.ptr 4 0),(7,.buf 5)]) (H':=[(0,.cells 32 nil8),(1,.cells 3 [.v (.int .i64 0)]),(2,.cells 33 [.v (.int .i64 0)]),(3,.own 47 4 (L.map Tok.row)),(4,.cells 67 [.v (.string src),.buf 3,.v (.int .i64 (ix L r2)),.buf 14,.buf 7,.buf 8,.buf 9,.buf 10,.buf 11,.buf 12,.buf 13]),(5,.map .string defsE),(14,.own 81 8 (rws Un.row (s.units++[a]))),(7,.own 83 6 (rws It.row {s with units:=s.units++[a]}.items)),(8,.own 9 1 (rws strR {s with units:=s.units++[a]}.plants)),(9,.own 85 4 (rws Mc.row {s with units:=s.units++[a]}.machines)),(10,.own 50 2 (rws OpV.row {s with units:=s.units++[a]}.options)),(11,.own 53 1 (rws FbV.row {s with units:=s.units++[a]}.forbids)),(12,.own 61 17 (rws RcV.row {s with units:=s.units++[a]}.recipes)),(13,.own 89 4 (rws Sw.row {s with units:=s.units++[a]}.swaps))]) [] ?_ sH sH
   (try refine gS ?_);conv=>whnf
   refine RunsS.subR [(6,14)] (back (({s with units:=s.units++[a]},r2,F',G',h')) (by exact (⟨⟨⟨N1,hsub.o,hsub.f,hsub.r⟩,hs2.trans hqq⟩,hJ.trans (rest_more hs2.length_le hd2)⟩)) (by exact (Nat.lt_succ_of_le hs2.length_le))) sH sH
  ·have hk1:=word_kind hV hq ht (by decide)
   have hd:MapGet defsE (.string x.text) (some (.func (.func 61) #[] #[])):=by
    have:=def_get x.text
    rw [ht] at this ⊢
    exact this
   refine EffR.lookup (some (.func (.func 61) #[] #[])) mpT stT fnZ (hd) (by (conv=>whnf);(repeat (guard_target=_∧_;refine And.intro (by (conv=>whnf);first|rfl|exact trivial) ?_;conv=>whnf));exact trivial) ?_
   conv=>whnf
   (try refine gR ?_);conv=>whnf
   (try refine gS ?_);conv=>whnf
   refine RunsS.callN (defItem_fn src L (x::q) hq hLn KT V s.items (List.cons_ne_nil _ _)) [4,3,6,7,8,9,10,11,12,13] ?_ sH ?CNa6
   case CNa6=>rfl
   rintro (⟨a,r2⟩|⟨r2,e2⟩) h2<;>conv=>whnf
   rotate_left
   ·have hd2:defP s.bare (x::q)=.bad r2 e2:=by
     rw [def_items (s:=s.bare) (r:=q) hk1 ht]
     rw [one_more] at h2
     exact bnd_bad (fm_bad h2.symm)
    rw [hJ,rest_bad hd2] at hq0
    refine UnwS.deferN (parseDP_fn _ _ (place src.size e2 r2)) [0,1,2] ?_ ⟨by rfl,by rfl,by rfl,trivial⟩ rfl (fun e=>by cases e)
    intro _ _
    conv=>whnf
    refine UnwS.ret tab Tryz.func11 rfl (EndX.mk (N1) (⟨noSrc,(place src.size e2 r2).1,((place src.size e2 r2).2:Int),nilV,nilV,nilV,nilV,nilV,nilV,nilV,nilV⟩:PsX) (fun h U=>⟨TopF.none _ _,by rw [hq0];exact ⟨rfl,rfl,rfl⟩⟩) [] (by exact trivial) rfl rfl (okRet rfl rfl))
   rw [one_more] at h2
   obtain ⟨a,h3,rfl⟩:=fm_ok h2.symm
   have hs2:=more_suf item_g.g h3
   have hd2:defP s.bare (x::q)=.ok {s with items:=s.items++[a]}.bare r2:=by
    rw [def_items (s:=s.bare) (r:=q) hk1 ht]
    exact bnd_ok h3
   refine RunsS.subR (nx':=15) (l':=[(2,.ptr 0 0),(3,.ptr 1 0),(4,.ptr 2 0),(6,.ptr 4 0),(7,.buf 5)]) (H':=[(0,.cells 32 nil8),(1,.cells 3 [.v (.int .i64 0)]),(2,.cells 33 [.v (.int .i64 0)]),(3,.own 47 4 (L.map Tok.row)),(4,.cells 67 [.v (.string src),.buf 3,.v (.int .i64 (ix L r2)),.buf 6,.buf 14,.buf 8,.buf 9,.buf 10,.buf 11,.buf 12,.buf 13]),(5,.map .string defsE),(6,.own 81 8 (rws Un.row {s with items:=s.items++[a]}.units)),(14,.own 83 6 (rws It.row (s.items++[a]))),(8,.own 9 1 (rws strR {s with items:=s.items++[a]}.plants)),(9,.own 85 4 (rws Mc.row {s with items:=s.items++[a]}.machines)),(10,.own 50 2 (rws OpV.row {s with items:=s.items++[a]}.options)),(11,.own 53 1 (rws FbV.row {s with items:=s.items++[a]}.forbids)),(12,.own 61 17 (rws RcV.row {s with items:=s.items++[a]}.recipes)),(13,.own 89 4 (rws Sw.row {s with items:=s.items++[a]}.swaps))]) [] ?_ sH sH
   (try refine gS ?_);conv=>whnf
   refine RunsS.subR [(7,14)] (back (({s with items:=s.items++[a]},r2,F',G',h')) (by exact (⟨⟨⟨N1,hsub.o,hsub.f,hsub.r⟩,hs2.trans hqq⟩,hJ.trans (rest_more hs2.length_le hd2)⟩)) (by exact (Nat.lt_succ_of_le hs2.length_le))) sH sH
  ·have hk1:=word_kind hV hq ht (by decide)
   have hd:MapGet defsE (.string x.text) (some (.func (.func 64) #[] #[])):=by
    have:=def_get x.text
    rw [ht] at this ⊢
    exact this
   refine EffR.lookup (some (.func (.func 64) #[] #[])) mpT stT fnZ (hd) (by (conv=>whnf);(repeat (guard_target=_∧_;refine And.intro (by (conv=>whnf);first|rfl|exact trivial) ?_;conv=>whnf));exact trivial) ?_
   conv=>whnf
   (try refine gR ?_);conv=>whnf
   (try refine gS ?_);conv=>whnf
   refine RunsS.callN (defPlant_fn src L (x::q) hq hLn KT V s.plants (List.cons_ne_nil _ _)) [4,3,6,7,8,9,10,11,12,13] ?_ sH ?CNa8
   case CNa8=>rfl
   rintro (⟨a,r2⟩|⟨r2,e2⟩) h2<;>conv=>whnf
   rotate_left
   ·have hd2:defP s.bare (x::q)=.bad r2 e2:=by
     rw [def_plants (s:=s.bare) (r:=q) hk1 ht]
     rw [one_more] at h2
     exact bnd_bad (fm_bad h2.symm)
    rw [hJ,rest_bad hd2] at hq0
    refine UnwS.deferN (parseDP_fn _ _ (place src.size e2 r2)) [0,1,2] ?_ ⟨by rfl,by rfl,by rfl,trivial⟩ rfl (fun e=>by cases e)
    intro _ _
    conv=>whnf
    refine UnwS.ret tab Tryz.func11 rfl (EndX.mk (N1) (⟨noSrc,(place src.size e2 r2).1,((place src.size e2 r2).2:Int),nilV,nilV,nilV,nilV,nilV,nilV,nilV,nilV⟩:PsX) (fun h U=>⟨TopF.none _ _,by rw [hq0];exact ⟨rfl,rfl,rfl⟩⟩) [] (by exact trivial) rfl rfl (okRet rfl rfl))
   rw [one_more] at h2
   obtain ⟨a,h3,rfl⟩:=fm_ok h2.symm
   have hs2:=more_suf plant_g.g h3
   have hd2:defP s.bare (x::q)=.ok {s with plants:=s.plants++[a]}.bare r2:=by
    rw [def_plants (s:=s.bare) (r:=q) hk1 ht]
    exact bnd_ok h3
   refine RunsS.subR (nx':=15) (l':=[(2,.ptr 0 0),(3,.ptr 1 0),(4,.ptr 2 0),(6,.ptr 4 0),(7,.buf 5)]) (H':=[(0,.cells 32 nil8),(1,.cells 3 [.v (.int .i64 0)]),(2,.cells 33 [.v (.int .i64 0)]),(3,.own 47 4 (L.map Tok.row)),(4,.cells 67 [.v (.string src),.buf 3,.v (.int .i64 (ix L r2)),.buf 6,.buf 7,.buf 14,.buf 9,.buf 10,.buf 11,.buf 12,.buf 13]),(5,.map .string defsE),(6,.own 81 8 (rws Un.row {s with plants:=s.plants++[a]}.units)),(7,.own 83 6 (rws It.row {s with plants:=s.plants++[a]}.items)),(14,.own 9 1 (rws strR (s.plants++[a]))),(9,.own 85 4 (rws Mc.row {s with plants:=s.plants++[a]}.machines)),(10,.own 50 2 (rws OpV.row {s with plants:=s.plants++[a]}.options)),(11,.own 53 1 (rws FbV.row {s with plants:=s.plants++[a]}.forbids)),(12,.own 61 17 (rws RcV.row {s with plants:=s.plants++[a]}.recipes)),(13,.own 89 4 (rws Sw.row {s with plants:=s.plants++[a]}.swaps))]) [] ?_ sH sH
   (try refine gS ?_);conv=>whnf
   refine RunsS.subR [(8,14)] (back (({s with plants:=s.plants++[a]},r2,F',G',h')) (by exact (⟨⟨⟨N1,hsub.o,hsub.f,hsub.r⟩,hs2.trans hqq⟩,hJ.trans (rest_more hs2.length_le hd2)⟩)) (by exact (Nat.lt_succ_of_le hs2.length_le))) sH sH
  ·have hk1:=word_kind hV hq ht (by decide)
   have hd:MapGet defsE (.string x.text) (some (.func (.func 67) #[] #[])):=by
    have:=def_get x.text
    rw [ht] at this ⊢
    exact this
   refine EffR.lookup (some (.func (.func 67) #[] #[])) mpT stT fnZ (hd) (by (conv=>whnf);(repeat (guard_target=_∧_;refine And.intro (by (conv=>whnf);first|rfl|exact trivial) ?_;conv=>whnf));exact trivial) ?_
   conv=>whnf
   (try refine gR ?_);conv=>whnf
   (try refine gS ?_);conv=>whnf
   refine RunsS.callN (defMachine_fn src L (x::q) hq hLn KT V s.machines (List.cons_ne_nil _ _)) [4,3,6,7,8,9,10,11,12,13] ?_ sH ?CNa10
   case CNa10=>rfl
   rintro (⟨a,r2⟩|⟨r2,e2⟩) h2<;>conv=>whnf
   rotate_left
   ·have hd2:defP s.bare (x::q)=.bad r2 e2:=by
     rw [def_machines (s:=s.bare) (r:=q) hk1 ht]
     rw [one_more] at h2
     exact bnd_bad (fm_bad h2.symm)
    rw [hJ,rest_bad hd2] at hq0
    refine UnwS.deferN (parseDP_fn _ _ (place src.size e2 r2)) [0,1,2] ?_ ⟨by rfl,by rfl,by rfl,trivial⟩ rfl (fun e=>by cases e)
    intro _ _
    conv=>whnf
    refine UnwS.ret tab Tryz.func11 rfl (EndX.mk (N1) (⟨noSrc,(place src.size e2 r2).1,((place src.size e2 r2).2:Int),nilV,nilV,nilV,nilV,nilV,nilV,nilV,nilV⟩:PsX) (fun h U=>⟨TopF.none _ _,by rw [hq0];exact ⟨rfl,rfl,rfl⟩⟩) [] (by exact trivial) rfl rfl (okRet rfl rfl))
   rw [one_more] at h2
   obtain ⟨a,h3,rfl⟩:=fm_ok h2.symm
   have hs2:=more_suf mach_g.g h3
   have hd2:defP s.bare (x::q)=.ok {s with machines:=s.machines++[a]}.bare r2:=by
    rw [def_machines (s:=s.bare) (r:=q) hk1 ht]
    exact bnd_ok h3
   refine RunsS.subR (nx':=15) (l':=[(2,.ptr 0 0),(3,.ptr 1 0),(4,.ptr 2 0),(6,.ptr 4 0),(7,.buf 5)]) (H':=[(0,.cells 32 nil8),(1,.cells 3 [.v (.int .i64 0)]),(2,.cells 33 [.v (.int .i64 0)]),(3,.own 47 4 (L.map Tok.row)),(4,.cells 67 [.v (.string src),.buf 3,.v (.int .i64 (ix L r2)),.buf 6,.buf 7,.buf 8,.buf 14,.buf 10,.buf 11,.buf 12,.buf 13]),(5,.map .string defsE),(6,.own 81 8 (rws Un.row {s with machines:=s.machines++[a]}.units)),(7,.own 83 6 (rws It.row {s with machines:=s.machines++[a]}.items)),(8,.own 9 1 (rws strR {s with machines:=s.machines++[a]}.plants)),(14,.own 85 4 (rws Mc.row (s.machines++[a]))),(10,.own 50 2 (rws OpV.row {s with machines:=s.machines++[a]}.options)),(11,.own 53 1 (rws FbV.row {s with machines:=s.machines++[a]}.forbids)),(12,.own 61 17 (rws RcV.row {s with machines:=s.machines++[a]}.recipes)),(13,.own 89 4 (rws Sw.row {s with machines:=s.machines++[a]}.swaps))]) [] ?_ sH sH
   (try refine gS ?_);conv=>whnf
   refine RunsS.subR [(9,14)] (back (({s with machines:=s.machines++[a]},r2,F',G',h')) (by exact (⟨⟨⟨N1,hsub.o,hsub.f,hsub.r⟩,hs2.trans hqq⟩,hJ.trans (rest_more hs2.length_le hd2)⟩)) (by exact (Nat.lt_succ_of_le hs2.length_le))) sH sH
  ·have hk1:=word_kind hV hq ht (by decide)
   have hd:MapGet defsE (.string x.text) (some (.func (.func 70) #[] #[])):=by
    have:=def_get x.text
    rw [ht] at this ⊢
    exact this
   refine EffR.lookup (some (.func (.func 70) #[] #[])) mpT stT fnZ (hd) (by (conv=>whnf);(repeat (guard_target=_∧_;refine And.intro (by (conv=>whnf);first|rfl|exact trivial) ?_;conv=>whnf));exact trivial) ?_
   conv=>whnf
   (try refine gR ?_);conv=>whnf
   (try refine gS ?_);conv=>whnf
   refine RunsS.callY (N1.gsub) (defOption_fn src L (x::q) hq hLn KT V s.options (List.cons_ne_nil _ _)) (fun _ _=>trivial) [4,3,6,7,8,9,10,11,12,13] sH ?CNa12 ?_
   case CNa12=>rfl
   rintro _ y G2 h2' N2 ⟨h2,J2⟩
   cases y with
   |bad r2 e2=>
    conv=>whnf
    have hd2:defP s.bare (x::q)=.bad r2 e2:=by
     rw [def_options (s:=s.bare) (r:=q) hk1 ht]
     exact bnd_bad (by simpa [SrcV.bare,Rs.fm] using h2.symm)
    rw [hJ,rest_bad hd2] at hq0
    refine UnwS.deferN (parseDP_fn _ _ (place src.size e2 r2)) [0,1,2] ?_ ⟨by rfl,by rfl,by rfl,trivial⟩ rfl (fun e=>by cases e)
    intro _ _
    conv=>whnf
    refine UnwS.ret tab Tryz.func11 rfl (EndX.mk (N1.trans N2) (⟨noSrc,(place src.size e2 r2).1,((place src.size e2 r2).2:Int),nilV,nilV,nilV,nilV,nilV,nilV,nilV,nilV⟩:PsX) (fun h U=>⟨TopF.none _ _,by rw [hq0];exact ⟨rfl,rfl,rfl⟩⟩) [] (by exact trivial) rfl rfl (okRet rfl rfl))
   |ok a r2=>
    conv=>whnf
    have h2:moreP optnP 6 s.bare.options.length (x::q)=.ok a.bare r2:=by simpa [SrcV.bare,Rs.fm] using h2.symm
    have hs2:=more_suf optn_g.g h2
    have hd2:defP s.bare (x::q)=.ok {s with options:=s.options++[a]}.bare r2:=by
     rw [def_options (s:=s.bare) (r:=q) hk1 ht,bnd_ok h2]
     show Rs.ok _ _=Rs.ok _ _
     simp [SrcV.bare]
    have hsub2:=hsub.up (Now.step N1.gsub N2)
    refine RunsS.subR (nx':=15) (l':=[(2,.ptr 0 0),(3,.ptr 1 0),(4,.ptr 2 0),(6,.ptr 4 0),(7,.buf 5)]) (H':=[(0,.cells 32 nil8),(1,.cells 3 [.v (.int .i64 0)]),(2,.cells 33 [.v (.int .i64 0)]),(3,.own 47 4 (L.map Tok.row)),(4,.cells 67 [.v (.string src),.buf 3,.v (.int .i64 (ix L r2)),.buf 6,.buf 7,.buf 8,.buf 9,.buf 14,.buf 11,.buf 12,.buf 13]),(5,.map .string defsE),(6,.own 81 8 (rws Un.row s.units)),(7,.own 83 6 (rws It.row s.items)),(8,.own 9 1 (rws strR s.plants)),(9,.own 85 4 (rws Mc.row s.machines)),(14,.own 50 2 (rws OpV.row (s.options++[a]))),(11,.own 53 1 (rws FbV.row s.forbids)),(12,.own 61 17 (rws RcV.row s.recipes)),(13,.own 89 4 (rws Sw.row s.swaps))]) [] ?_ sH sH
    (try refine gS ?_);conv=>whnf
    refine RunsS.subR [(10,14)] (back (({s with options:=s.options++[a]},r2,_,G2,h2')) (by exact (⟨⟨⟨N1.trans N2,⟨mem_snoc hsub2.o J2,hsub2.f,hsub2.r⟩⟩,hs2.trans hqq⟩,hJ.trans (rest_more hs2.length_le hd2)⟩)) (by exact (Nat.lt_succ_of_le hs2.length_le))) sH sH
  ·have hk1:=word_kind hV hq ht (by decide)
   have hd:MapGet defsE (.string x.text) (some (.func (.func 73) #[] #[])):=by
    have:=def_get x.text
    rw [ht] at this ⊢
    exact this
   refine EffR.lookup (some (.func (.func 73) #[] #[])) mpT stT fnZ (hd) (by (conv=>whnf);(repeat (guard_target=_∧_;refine And.intro (by (conv=>whnf);first|rfl|exact trivial) ?_;conv=>whnf));exact trivial) ?_
   conv=>whnf
   (try refine gR ?_);conv=>whnf
   (try refine gS ?_);conv=>whnf
   refine RunsS.callY (N1.gsub) (defForbid_fn src L (x::q) hq hLn KT V s.forbids (List.cons_ne_nil _ _)) (fun _ _=>trivial) [4,3,6,7,8,9,10,11,12,13] sH ?CNa14 ?_
   case CNa14=>rfl
   rintro _ y G2 h2' N2 ⟨h2,J2⟩
   cases y with
   |bad r2 e2=>
    conv=>whnf
    have hd2:defP s.bare (x::q)=.bad r2 e2:=by
     rw [def_forbids (s:=s.bare) (r:=q) hk1 ht]
     exact bnd_bad (by simpa [SrcV.bare,Rs.fm] using h2.symm)
    rw [hJ,rest_bad hd2] at hq0
    refine UnwS.deferN (parseDP_fn _ _ (place src.size e2 r2)) [0,1,2] ?_ ⟨by rfl,by rfl,by rfl,trivial⟩ rfl (fun e=>by cases e)
    intro _ _
    conv=>whnf
    refine UnwS.ret tab Tryz.func11 rfl (EndX.mk (N1.trans N2) (⟨noSrc,(place src.size e2 r2).1,((place src.size e2 r2).2:Int),nilV,nilV,nilV,nilV,nilV,nilV,nilV,nilV⟩:PsX) (fun h U=>⟨TopF.none _ _,by rw [hq0];exact ⟨rfl,rfl,rfl⟩⟩) [] (by exact trivial) rfl rfl (okRet rfl rfl))
   |ok a r2=>
    conv=>whnf
    have h2:moreP forbP 16 s.bare.forbids.length (x::q)=.ok a.bare r2:=by simpa [SrcV.bare,Rs.fm] using h2.symm
    have hs2:=more_suf forb_g.g h2
    have hd2:defP s.bare (x::q)=.ok {s with forbids:=s.forbids++[a]}.bare r2:=by
     rw [def_forbids (s:=s.bare) (r:=q) hk1 ht,bnd_ok h2]
     show Rs.ok _ _=Rs.ok _ _
     simp [SrcV.bare]
    have hsub2:=hsub.up (Now.step N1.gsub N2)
    refine RunsS.subR (nx':=15) (l':=[(2,.ptr 0 0),(3,.ptr 1 0),(4,.ptr 2 0),(6,.ptr 4 0),(7,.buf 5)]) (H':=[(0,.cells 32 nil8),(1,.cells 3 [.v (.int .i64 0)]),(2,.cells 33 [.v (.int .i64 0)]),(3,.own 47 4 (L.map Tok.row)),(4,.cells 67 [.v (.string src),.buf 3,.v (.int .i64 (ix L r2)),.buf 6,.buf 7,.buf 8,.buf 9,.buf 10,.buf 14,.buf 12,.buf 13]),(5,.map .string defsE),(6,.own 81 8 (rws Un.row s.units)),(7,.own 83 6 (rws It.row s.items)),(8,.own 9 1 (rws strR s.plants)),(9,.own 85 4 (rws Mc.row s.machines)),(10,.own 50 2 (rws OpV.row s.options)),(14,.own 53 1 (rws FbV.row (s.forbids++[a]))),(12,.own 61 17 (rws RcV.row s.recipes)),(13,.own 89 4 (rws Sw.row s.swaps))]) [] ?_ sH sH
    (try refine gS ?_);conv=>whnf
    refine RunsS.subR [(11,14)] (back (({s with forbids:=s.forbids++[a]},r2,_,G2,h2')) (by exact (⟨⟨⟨N1.trans N2,⟨hsub2.o,mem_snoc hsub2.f J2,hsub2.r⟩⟩,hs2.trans hqq⟩,hJ.trans (rest_more hs2.length_le hd2)⟩)) (by exact (Nat.lt_succ_of_le hs2.length_le))) sH sH
  ·have hk1:=word_kind hV hq ht (by decide)
   have hd:MapGet defsE (.string x.text) (some (.func (.func 76) #[] #[])):=by
    have:=def_get x.text
    rw [ht] at this ⊢
    exact this
   refine EffR.lookup (some (.func (.func 76) #[] #[])) mpT stT fnZ (hd) (by (conv=>whnf);(repeat (guard_target=_∧_;refine And.intro (by (conv=>whnf);first|rfl|exact trivial) ?_;conv=>whnf));exact trivial) ?_
   conv=>whnf
   (try refine gR ?_);conv=>whnf
   (try refine gS ?_);conv=>whnf
   refine RunsS.callY (N1.gsub) (defMake_fn src L (x::q) hq hLn KT V s.recipes (List.cons_ne_nil _ _)) (fun _ _=>trivial) [4,3,6,7,8,9,10,11,12,13] sH ?CNa16 ?_
   case CNa16=>rfl
   rintro _ y G2 h2' N2 ⟨h2,J2⟩
   cases y with
   |bad r2 e2=>
    conv=>whnf
    have hd2:defP s.bare (x::q)=.bad r2 e2:=by
     rw [def_recipes (s:=s.bare) (r:=q) hk1 ht]
     exact bnd_bad (by simpa [SrcV.bare,Rs.fm] using h2.symm)
    rw [hJ,rest_bad hd2] at hq0
    refine UnwS.deferN (parseDP_fn _ _ (place src.size e2 r2)) [0,1,2] ?_ ⟨by rfl,by rfl,by rfl,trivial⟩ rfl (fun e=>by cases e)
    intro _ _
    conv=>whnf
    refine UnwS.ret tab Tryz.func11 rfl (EndX.mk (N1.trans N2) (⟨noSrc,(place src.size e2 r2).1,((place src.size e2 r2).2:Int),nilV,nilV,nilV,nilV,nilV,nilV,nilV,nilV⟩:PsX) (fun h U=>⟨TopF.none _ _,by rw [hq0];exact ⟨rfl,rfl,rfl⟩⟩) [] (by exact trivial) rfl rfl (okRet rfl rfl))
   |ok a r2=>
    conv=>whnf
    have h2:moreP recP 64 s.bare.recipes.length (x::q)=.ok a.bare r2:=by simpa [SrcV.bare,Rs.fm] using h2.symm
    have hs2:=more_suf rec_g.g h2
    have hd2:defP s.bare (x::q)=.ok {s with recipes:=s.recipes++[a]}.bare r2:=by
     rw [def_recipes (s:=s.bare) (r:=q) hk1 ht,bnd_ok h2]
     show Rs.ok _ _=Rs.ok _ _
     simp [SrcV.bare]
    have hsub2:=hsub.up (Now.step N1.gsub N2)
    refine RunsS.subR (nx':=15) (l':=[(2,.ptr 0 0),(3,.ptr 1 0),(4,.ptr 2 0),(6,.ptr 4 0),(7,.buf 5)]) (H':=[(0,.cells 32 nil8),(1,.cells 3 [.v (.int .i64 0)]),(2,.cells 33 [.v (.int .i64 0)]),(3,.own 47 4 (L.map Tok.row)),(4,.cells 67 [.v (.string src),.buf 3,.v (.int .i64 (ix L r2)),.buf 6,.buf 7,.buf 8,.buf 9,.buf 10,.buf 11,.buf 14,.buf 13]),(5,.map .string defsE),(6,.own 81 8 (rws Un.row s.units)),(7,.own 83 6 (rws It.row s.items)),(8,.own 9 1 (rws strR s.plants)),(9,.own 85 4 (rws Mc.row s.machines)),(10,.own 50 2 (rws OpV.row s.options)),(11,.own 53 1 (rws FbV.row s.forbids)),(14,.own 61 17 (rws RcV.row (s.recipes++[a]))),(13,.own 89 4 (rws Sw.row s.swaps))]) [] ?_ sH sH
    (try refine gS ?_);conv=>whnf
    refine RunsS.subR [(12,14)] (back (({s with recipes:=s.recipes++[a]},r2,_,G2,h2')) (by exact (⟨⟨⟨N1.trans N2,⟨hsub2.o,hsub2.f,mem_snoc hsub2.r J2⟩⟩,hs2.trans hqq⟩,hJ.trans (rest_more hs2.length_le hd2)⟩)) (by exact (Nat.lt_succ_of_le hs2.length_le))) sH sH
  ·have hk1:=word_kind hV hq ht (by decide)
   have hd:MapGet defsE (.string x.text) (some (.func (.func 79) #[] #[])):=by
    have:=def_get x.text
    rw [ht] at this ⊢
    exact this
   refine EffR.lookup (some (.func (.func 79) #[] #[])) mpT stT fnZ (hd) (by (conv=>whnf);(repeat (guard_target=_∧_;refine And.intro (by (conv=>whnf);first|rfl|exact trivial) ?_;conv=>whnf));exact trivial) ?_
   conv=>whnf
   (try refine gR ?_);conv=>whnf
   (try refine gS ?_);conv=>whnf
   refine RunsS.callN (defSwap_fn src L (x::q) hq hLn KT V s.swaps (List.cons_ne_nil _ _)) [4,3,6,7,8,9,10,11,12,13] ?_ sH ?CNa18
   case CNa18=>rfl
   rintro (⟨a,r2⟩|⟨r2,e2⟩) h2<;>conv=>whnf
   rotate_left
   ·have hd2:defP s.bare (x::q)=.bad r2 e2:=by
     rw [def_swaps (s:=s.bare) (r:=q) hk1 ht]
     rw [one_more] at h2
     exact bnd_bad (fm_bad h2.symm)
    rw [hJ,rest_bad hd2] at hq0
    refine UnwS.deferN (parseDP_fn _ _ (place src.size e2 r2)) [0,1,2] ?_ ⟨by rfl,by rfl,by rfl,trivial⟩ rfl (fun e=>by cases e)
    intro _ _
    conv=>whnf
    refine UnwS.ret tab Tryz.func11 rfl (EndX.mk (N1) (⟨noSrc,(place src.size e2 r2).1,((place src.size e2 r2).2:Int),nilV,nilV,nilV,nilV,nilV,nilV,nilV,nilV⟩:PsX) (fun h U=>⟨TopF.none _ _,by rw [hq0];exact ⟨rfl,rfl,rfl⟩⟩) [] (by exact trivial) rfl rfl (okRet rfl rfl))
   rw [one_more] at h2
   obtain ⟨a,h3,rfl⟩:=fm_ok h2.symm
   have hs2:=more_suf swap_g.g h3
   have hd2:defP s.bare (x::q)=.ok {s with swaps:=s.swaps++[a]}.bare r2:=by
    rw [def_swaps (s:=s.bare) (r:=q) hk1 ht]
    exact bnd_ok h3
   refine RunsS.subR (nx':=15) (l':=[(2,.ptr 0 0),(3,.ptr 1 0),(4,.ptr 2 0),(6,.ptr 4 0),(7,.buf 5)]) (H':=[(0,.cells 32 nil8),(1,.cells 3 [.v (.int .i64 0)]),(2,.cells 33 [.v (.int .i64 0)]),(3,.own 47 4 (L.map Tok.row)),(4,.cells 67 [.v (.string src),.buf 3,.v (.int .i64 (ix L r2)),.buf 6,.buf 7,.buf 8,.buf 9,.buf 10,.buf 11,.buf 12,.buf 14]),(5,.map .string defsE),(6,.own 81 8 (rws Un.row {s with swaps:=s.swaps++[a]}.units)),(7,.own 83 6 (rws It.row {s with swaps:=s.swaps++[a]}.items)),(8,.own 9 1 (rws strR {s with swaps:=s.swaps++[a]}.plants)),(9,.own 85 4 (rws Mc.row {s with swaps:=s.swaps++[a]}.machines)),(10,.own 50 2 (rws OpV.row {s with swaps:=s.swaps++[a]}.options)),(11,.own 53 1 (rws FbV.row {s with swaps:=s.swaps++[a]}.forbids)),(12,.own 61 17 (rws RcV.row {s with swaps:=s.swaps++[a]}.recipes)),(14,.own 89 4 (rws Sw.row (s.swaps++[a])))]) [] ?_ sH sH
   (try refine gS ?_);conv=>whnf
   refine RunsS.subR [(13,14)] (back (({s with swaps:=s.swaps++[a]},r2,F',G',h')) (by exact (⟨⟨⟨N1,hsub.o,hsub.f,hsub.r⟩,hs2.trans hqq⟩,hJ.trans (rest_more hs2.length_le hd2)⟩)) (by exact (Nat.lt_succ_of_le hs2.length_le))) sH sH
  have hd:MapGet defsE (.string x.text) none:=by
   have:=def_get x.text
   unfold defF at this
   simpa [ht] using this
  refine EffR.lookup none mpT stT fnZ (hd) (by (conv=>whnf);(repeat (guard_target=_∧_;refine And.intro (by (conv=>whnf);first|rfl|exact trivial) ?_;conv=>whnf));exact trivial) ?_
  conv=>whnf
  (try refine gR ?_);conv=>whnf
  (try refine gS ?_);conv=>whnf
  refine RunsS.callN (pfail_fn src L (x::q) hq 100) [4,3,6,7,8,9,10,11,12,13] ?_ sH ?CNa20
  case CNa20=>rfl
  intro _ _
  conv=>whnf
  have hd2:defP s.bare (x::q)=.bad (x::q) 100:=def_none (.inr ht)
  rw [hJ,rest_bad hd2] at hq0
  refine UnwS.deferN (parseDP_fn _ _ (place src.size 100 (x::q))) [0,1,2] ?_ ⟨by rfl,by rfl,by rfl,trivial⟩ rfl (fun e=>by cases e)
  intro _ _
  conv=>whnf
  refine UnwS.ret tab Tryz.func11 rfl (EndX.mk (N1) (⟨noSrc,(place src.size 100 (x::q)).1,((place src.size 100 (x::q)).2:Int),nilV,nilV,nilV,nilV,nilV,nilV,nilV,nilV⟩:PsX) (fun h U=>⟨TopF.none _ _,by rw [hq0];exact ⟨rfl,rfl,rfl⟩⟩) [] (by exact trivial) rfl rfl (okRet rfl rfl))
 have hq0':q=[]:=by
  cases q with
  |nil=>rfl
  |cons x q=>have:=ix_lt hq;omega
 subst hq0'
 rw [hJ,rest_nil] at hq0
 refine RunsS.concY (n:=s.units.length) (N1.gsub) 6 ?_ (hlen:=rws_len _ _)
 intro F2 a2 c2 G2 h2 N2 R2
 conv=>whnf
 refine RunsS.concY (n:=s.items.length) (N2.gsub) 7 ?_ (hlen:=rws_len _ _)
 intro F3 a3 c3 G3 h3 N3 R3
 conv=>whnf
 refine RunsS.concY (n:=s.plants.length) (N3.gsub) 8 ?_ (hlen:=rws_len _ _)
 intro F4 a4 c4 G4 h4 N4 R4
 conv=>whnf
 refine RunsS.concY (n:=s.machines.length) (N4.gsub) 9 ?_ (hlen:=rws_len _ _)
 intro F5 a5 c5 G5 h5 N5 R5
 conv=>whnf
 refine RunsS.concY (n:=s.options.length) (N5.gsub) 10 ?_ (hlen:=rws_len _ _)
 intro F6 a6 c6 G6 h6 N6 R6
 conv=>whnf
 refine RunsS.concY (n:=s.forbids.length) (N6.gsub) 11 ?_ (hlen:=rws_len _ _)
 intro F7 a7 c7 G7 h7 N7 R7
 conv=>whnf
 refine RunsS.concY (n:=s.recipes.length) (N7.gsub) 12 ?_ (hlen:=rws_len _ _)
 intro F8 a8 c8 G8 h8 N8 R8
 conv=>whnf
 refine RunsS.concY (n:=s.swaps.length) (N8.gsub) 13 ?_ (hlen:=rws_len _ _)
 intro F9 a9 c9 G9 h9 N9 R9
 conv=>whnf
 have T9:TopF G9 h9 (.slice a2 s.units.length c2) (.slice a3 s.items.length c3) (.slice a4 s.plants.length c4) (.slice a5 s.machines.length c5) (.slice a6 s.options.length c6) (.slice a7 s.forbids.length c7) (.slice a8 s.recipes.length c8) (.slice a9 s.swaps.length c9) s:=
  ⟨(((((((R2).up (Now.step N2.gsub N3)).up (Now.step N3.gsub N4)).up (Now.step N4.gsub N5)).up (Now.step N5.gsub N6)).up (Now.step N6.gsub N7)).up (Now.step N7.gsub N8)).up (Now.step N8.gsub N9),((((((R3).up (Now.step N3.gsub N4)).up (Now.step N4.gsub N5)).up (Now.step N5.gsub N6)).up (Now.step N6.gsub N7)).up (Now.step N7.gsub N8)).up (Now.step N8.gsub N9),(((((R4).up (Now.step N4.gsub N5)).up (Now.step N5.gsub N6)).up (Now.step N6.gsub N7)).up (Now.step N7.gsub N8)).up (Now.step N8.gsub N9),((((R5).up (Now.step N5.gsub N6)).up (Now.step N6.gsub N7)).up (Now.step N7.gsub N8)).up (Now.step N8.gsub N9),(((R6).up (Now.step N6.gsub N7)).up (Now.step N7.gsub N8)).up (Now.step N8.gsub N9),((R7).up (Now.step N7.gsub N8)).up (Now.step N8.gsub N9),(R8).up (Now.step N8.gsub N9),R9,((((((((hsub).up (Now.step N1.gsub N2)).up (Now.step N2.gsub N3)).up (Now.step N3.gsub N4)).up (Now.step N4.gsub N5)).up (Now.step N5.gsub N6)).up (Now.step N6.gsub N7)).up (Now.step N7.gsub N8)).up (Now.step N8.gsub N9)⟩
 (try refine gS ?_);conv=>whnf
 refine RunsS.retU ?_
 refine UnwS.deferN parseDN_fn [0,1,2] ?_ trivial rfl (fun e=>by cases e)
 intro _ _
 conv=>whnf
 refine UnwS.ret tab Tryz.func11 rfl (EndX.mk (((((((((N1).trans N2).trans N3).trans N4).trans N5).trans N6).trans N7).trans N8).trans N9) (⟨s,0,0,_,_,_,_,_,_,_,_⟩:PsX) (fun h U=>⟨T9.up U,by rw [hq0];exact ⟨rfl,rfl,rfl⟩⟩) [] (by exact trivial) rfl rfl (okRet rfl rfl))
end Go.Proofs.YtgbeechjghajcaaGreatDoor

namespace Go.Proofs.YtgbeechjghajcaaGreatDoor
open Go Go.Fw Go.NatM Go.RatM Go.SrcM Go.SynM
set_option maxRecDepth 100000
set_option maxHeartbeats 99999999
theorem rparseErr_fn (src:ByteArray) (hs:src.size≤65536) {q:Nat} (hl:lexS (bs src) 0=.inr q):FnX Tryz.prog 12 0 [.v (.string src)] [] (fun _ _=>True) (fun y G h=>PsJ (parseP src) y G h) psOut:=by
 have hq:parseP src=.inr ((q:Int),50):=by unfold parseP;rw [hl]
 rw [hq]
 refine FnX.of Tryz.func12 (by kernel_rfl) rfl Tryz.ntmps12 rfl fun E0 F G h N hP w0 cs=>?_
 conv=>whnf
 refine gS ?_;conv=>whnf
 refine RunsS.callN (rlexErr_fn hs hl) [] ?_ sH ?CNa1
 case CNa1=>rfl
 intro _ _
 conv=>whnf
 (try refine gS ?_);conv=>whnf
 repeat ((first|(guard_target=_∧_;(first|refine oL ?_|refine oR ?_))|(guard_target=Exists _;refine oM ?_));(try intro _);conv=>whnf)
 try refine RunsS.retU ?_
 exact UnwS.ret tab Tryz.func12 rfl (eX (N) ((⟨noSrc,q,50,nilV,nilV,nilV,nilV,nilV,nilV,nilV,nilV⟩:PsX)) (fun h U=>⟨TopF.none _ _,rfl,rfl,rfl⟩))
theorem parseErr_fn (src:ByteArray) (hs:src.size≤65536) {q:Nat} (hl:lexS (bs src) 0=.inr q):FnX Tryz.prog 11 0 [.v (.string src)] [] (fun _ _=>True) (fun y G h=>PsJ (parseP src) y G h) psOut:=by
 have hq:parseP src=.inr ((q:Int),50):=by unfold parseP;rw [hl]
 rw [hq]
 refine FnX.of Tryz.func11 (by kernel_rfl) rfl Tryz.ntmps11 rfl fun E0 F G h N hP w0 cs=>?_
 conv=>whnf
 refine gS ?_;conv=>whnf
 refine RunsS.callN (lexErr_fn hs hl) [] ?_ sH ?CNa2
 case CNa2=>rfl
 intro _ _
 conv=>whnf
 (try refine gS ?_);conv=>whnf
 repeat ((first|(guard_target=_∧_;(first|refine oL ?_|refine oR ?_))|(guard_target=Exists _;refine oM ?_));(try intro _);conv=>whnf)
 refine RunsS.held tab (.fl 0 (.fl 1 (.fl 2 (.e1 3 [1,2] (.e1 4 [2] (.e1 5 [] .done)))))) (by kernel_rfl) ?_;conv=>whnf
 (try refine gR ?_);conv=>whnf
 repeat ((first|(guard_target=_∧_;(first|refine oL ?_|refine oR ?_|refine oB ?_))|(guard_target=Exists _;refine oM ?_));(try intro _);conv=>whnf)
 (try refine gS ?_);conv=>whnf
 try refine RunsS.retU ?_
 exact UnwS.ret tab Tryz.func11 rfl (eX (N) ((⟨noSrc,q,50,nilV,nilV,nilV,nilV,nilV,nilV,nilV,nilV⟩:PsX)) (fun h U=>⟨TopF.none _ _,rfl,rfl,rfl⟩))
theorem parse_fn (src:ByteArray) (hs:src.size≤65536):FnX Tryz.prog 11 0 [.v (.string src)] [] (fun _ _=>True) (fun y G h=>PsJ (parseP src) y G h) psOut:=by
 cases hl:lexS (bs src) 0 with
 |inl l=>exact parseOk_fn src hs hl
 |inr q=>exact parseErr_fn src hs hl
end Go.Proofs.YtgbeechjghajcaaGreatDoor

namespace Go.Proofs.YtgbeechjghajcaaGreatDoor
open Go Go.Fw Go.NatM Go.RatM Go.SrcM Go.SynM
set_option maxRecDepth 100000
abbrev x1:ByteArray:=B []
abbrev x2:ByteArray:=B [112,108,97,110,116,32,53,59]
abbrev x3:ByteArray:=B [112,108,97,110,116]
abbrev x4:ByteArray:=B [117,110,105,116,32,109,32,61,32,49,32,47,32,110,59]
abbrev x5:ByteArray:=B [109,97,107,101,32,97,32,97,116,32,101,32,102,114,111,109,32,48,32,116,111,32,57,32,105,102,32,99,32,61,32,100,32,123,32,105,110,32,98,97,99,107,32,49,47,50,32,107,103,32,98,59,32,111,117,116,32,51,47,49,32,107,103,32,97,59,32,114,101,119,111,114,107,32,48,47,49,59,32,121,105,101,108,100,32,49,47,49,32,119,105,116,104,105,110,32,48,47,49,59,32,108,101,97,100,32,50,59,32,114,117,110,32,109,32,52,59,32,125]
def wantR (h1 h2 h3 h4:Hd):RcV:=⟨B [97],B [101],0,9,h1,[⟨B [99],B [100],0,0⟩],h2,[⟨1,2,B [107,103],B [98],true,0,0⟩],h3,[⟨3,1,B [107,103],B [97],false,0,0⟩],0,1,1,1,0,1,2,h4,[⟨B [109],4,0⟩],0,0⟩
def wantS (h1 h2 h3 h4:Hd):SrcV:={noSrc with recipes:=[wantR h1 h2 h3 h4]}
theorem p1:parseP x1=.inl noSrc:=by kernel_rfl
theorem p2:parseP x2=.inr (6,100):=by kernel_rfl
theorem p3:parseP x3=.inr (5,100):=by kernel_rfl
theorem p4:parseP x4=.inr (13,100):=by kernel_rfl
theorem p5:parseP x5=.inl (wantS hd0 hd0 hd0 hd0):=by kernel_rfl
def eastS:SrcV:={noSrc with plants:=[B [101,97,115,116]]}
def noneS (h:Hd):SrcV:={noSrc with options:=[⟨B [97],h,[]⟩]}
theorem east_good:eastS.good NmP:=(src_good (by decide)).1 (by unfold Pr.good;constructor<;>kernel_rfl)
theorem none_bad (h:Hd):¬(noneS h).good NmP:=fun g=>by
 have:=g.O _ (List.mem_cons_self ..)
 exact absurd this.2.1.1 (Nat.not_succ_le_zero 0)
theorem east_print:printA eastS=(B [112,108,97,110,116,32,101,97,115,116,32,59],0):=(print_ok east_good).trans (by rw [show joinB (srcT eastS)=B [112,108,97,110,116,32,101,97,115,116,32,59] from by kernel_rfl])
theorem none_print (h:Hd):printA (noneS h)=(⟨#[]⟩,100):=print_no (none_bad h)
theorem want_no:wantS hd0 hd0 hd0 hd0≠noSrc:=fun h=>by
 have:=congrArg (fun s:SrcV=>s.recipes.length) h
 cases this
end Go.Proofs.YtgbeechjghajcaaGreatDoor

namespace Go.Proofs.YtgbeechjghajcaaGreatDoor
open Go Go.Fw Go.NatM Go.RatM Go.SrcM Go.SynM
set_option maxRecDepth 100000
set_option maxHeartbeats 99999999
theorem sane_syn_fn:FnX Tryz.prog 10 0 [] [] (fun G h=>PowT G h) (fun (_:Unit) _ _=>True) (fun _=>.ret (.v (.bool true)) 0 []):=by
 refine FnX.of Tryz.func10 (by kernel_rfl) rfl Tryz.ntmps10 rfl fun E0 F G h N hP w0 cs=>?_
 conv=>whnf
 refine gS ?_;conv=>whnf
 refine RunsS.callY (N.gsub) (parse_fn x1 (by decide)) (fun _ _=>trivial) [] sH ?CNa1 ?_
 case CNa1=>rfl
 rintro _ ⟨s1,a1,e1,y1,y2,y3,y4,y5,y6,y7,y8⟩ G1 h1 N1 J1
 rw [p1] at J1
 obtain ⟨b1,rfl,rfl⟩:=J1.res
 have T1:TopF G1 h1 y1 y2 y3 y4 y5 y6 y7 y8 s1:=J1.top
 obtain ⟨pU1,qU1,pI1,qI1,pP1,qP1,pM1,qM1,pO1,qO1,pF1,qF1,pR1,qR1,pS1,qS1,rfl,rfl,rfl,rfl,rfl,rfl,rfl,rfl⟩:=topShapes T1
 conv=>whnf
 (try refine gS ?_);conv=>whnf
 refine RunsS.subR (nx':=1) (l':=[(1,.ptr 0 0),(2,intA 0),(3,intA 0)]) (H':=[(0,.cells 32 [.v (.slice pU1 s1.units.length qU1),.v (.slice pI1 s1.items.length qI1),.v (.slice pP1 s1.plants.length qP1),.v (.slice pM1 s1.machines.length qM1),.v (.slice pO1 s1.options.length qO1),.v (.slice pF1 s1.forbids.length qF1),.v (.slice pR1 s1.recipes.length qR1),.v (.slice pS1 s1.swaps.length qS1)])]) [] ?_ sH sH
 refine RunsS.callY (N1.gsub) (parse_fn x2 (by decide)) (fun _ _=>trivial) [] sH ?CNa2 ?_
 case CNa2=>rfl
 rintro _ ⟨s2,a2,e2,y1,y2,y3,y4,y5,y6,y7,y8⟩ G2 h2 N2 J2
 rw [p2] at J2
 obtain ⟨rfl,rfl,rfl⟩:=J2.res
 have T2:TopF G2 h2 y1 y2 y3 y4 y5 y6 y7 y8 noSrc:=J2.top
 obtain ⟨pU2,qU2,pI2,qI2,pP2,qP2,pM2,qM2,pO2,qO2,pF2,qF2,pR2,qR2,pS2,qS2,rfl,rfl,rfl,rfl,rfl,rfl,rfl,rfl⟩:=topShapes T2
 conv=>whnf
 (try refine gS ?_);conv=>whnf
 refine RunsS.subR (nx':=1) (l':=[(1,.ptr 0 0),(2,intA 0),(3,intA 0),(5,intA 6),(6,intA 100)]) (H':=[(0,.cells 32 [.v (.slice pU1 s1.units.length qU1),.v (.slice pI1 s1.items.length qI1),.v (.slice pP1 s1.plants.length qP1),.v (.slice pM1 s1.machines.length qM1),.v (.slice pO1 s1.options.length qO1),.v (.slice pF1 s1.forbids.length qF1),.v (.slice pR1 s1.recipes.length qR1),.v (.slice pS1 s1.swaps.length qS1)])]) [] ?_ sH sH
 refine RunsS.callY (N2.gsub) (parse_fn x3 (by decide)) (fun _ _=>trivial) [] sH ?CNa3 ?_
 case CNa3=>rfl
 rintro _ ⟨s3,a3,e3,y1,y2,y3,y4,y5,y6,y7,y8⟩ G3 h3 N3 J3
 rw [p3] at J3
 obtain ⟨rfl,rfl,rfl⟩:=J3.res
 have T3:TopF G3 h3 y1 y2 y3 y4 y5 y6 y7 y8 noSrc:=J3.top
 obtain ⟨pU3,qU3,pI3,qI3,pP3,qP3,pM3,qM3,pO3,qO3,pF3,qF3,pR3,qR3,pS3,qS3,rfl,rfl,rfl,rfl,rfl,rfl,rfl,rfl⟩:=topShapes T3
 conv=>whnf
 (try refine gS ?_);conv=>whnf
 refine RunsS.subR (nx':=1) (l':=[(1,.ptr 0 0),(2,intA 0),(3,intA 0),(5,intA 6),(6,intA 100),(8,intA 5),(9,intA 100)]) (H':=[(0,.cells 32 [.v (.slice pU1 s1.units.length qU1),.v (.slice pI1 s1.items.length qI1),.v (.slice pP1 s1.plants.length qP1),.v (.slice pM1 s1.machines.length qM1),.v (.slice pO1 s1.options.length qO1),.v (.slice pF1 s1.forbids.length qF1),.v (.slice pR1 s1.recipes.length qR1),.v (.slice pS1 s1.swaps.length qS1)])]) [] ?_ sH sH
 refine RunsS.callY (N3.gsub) (parse_fn x4 (by decide)) (fun _ _=>trivial) [] sH ?CNa4 ?_
 case CNa4=>rfl
 rintro _ ⟨s4,a4,e4,y1,y2,y3,y4,y5,y6,y7,y8⟩ G4 h4 N4 J4
 rw [p4] at J4
 obtain ⟨rfl,rfl,rfl⟩:=J4.res
 have T4:TopF G4 h4 y1 y2 y3 y4 y5 y6 y7 y8 noSrc:=J4.top
 obtain ⟨pU4,qU4,pI4,qI4,pP4,qP4,pM4,qM4,pO4,qO4,pF4,qF4,pR4,qR4,pS4,qS4,rfl,rfl,rfl,rfl,rfl,rfl,rfl,rfl⟩:=topShapes T4
 conv=>whnf
 (try refine gS ?_);conv=>whnf
 refine RunsS.subR (nx':=3) (l':=[(1,.ptr 0 0),(2,intA 0),(3,intA 0),(5,intA 6),(6,intA 100),(8,intA 5),(9,intA 100),(11,intA 13),(12,intA 100),(44,.agg [.v nilV,.v nilV,.buf 2,.v nilV,.v nilV,.v nilV,.v nilV,.v nilV])]) (H':=[(0,.cells 32 [.v (.slice pU1 s1.units.length qU1),.v (.slice pI1 s1.items.length qI1),.v (.slice pP1 s1.plants.length qP1),.v (.slice pM1 s1.machines.length qM1),.v (.slice pO1 s1.options.length qO1),.v (.slice pF1 s1.forbids.length qF1),.v (.slice pR1 s1.recipes.length qR1),.v (.slice pS1 s1.swaps.length qS1)]),(2,.own 9 1 (rwsB eastS.plants))]) [] ?_ sH sH
 refine RunsS.concY (n:=1) (N4.gsub) 2 ?_ (hlen:=rfl)
 intro F5 a5 c5 G5 h5 N5 R5
 conv=>whnf
 have V5:=((Now.step N.gsub N1).trans (Now.step N1.gsub N2)).trans ((Now.step N2.gsub N3).trans ((Now.step N3.gsub N4).trans (Now.step N4.gsub N5)))
 have P5:=(hP.up V5).up ⟨N5.gsub,fun _ _=>rfl⟩
 refine RunsS.callT (TopW.tok _ _ _ _ _ _ _ _ _) (⟨⟨RoF.nil _ _ _,RoF.nil _ _ _,RoF.up ⟨N5.gsub,fun _ _=>rfl⟩ R5,RoF.nil _ _ _,RoF.nil _ _ _,RoF.nil _ _ _,RoF.nil _ _ _,RoF.nil _ _ _,fun _ h=>absurd h List.not_mem_nil,fun _ h=>absurd h List.not_mem_nil,fun _ h=>absurd h List.not_mem_nil⟩,P5⟩) (print_fn eastS (by decide)) [] sH ?CNa5 ?_
 case CNa5=>rfl
 rintro _ _
 rw [east_print]
 conv=>whnf
 (try refine gS ?_);conv=>whnf
 refine RunsS.subR (nx':=4) (l':=[(1,.ptr 0 0),(2,intA 0),(3,intA 0),(5,intA 6),(6,intA 100),(8,intA 5),(9,intA 100),(11,intA 13),(12,intA 100),(13,strA (B [112,108,97,110,116,32,101,97,115,116,32,59])),(14,intA 0),(51,.agg [.v nilV,.v nilV,.v nilV,.v nilV,.buf 3,.v nilV,.v nilV,.v nilV])]) (H':=[(0,.cells 32 [.v (.slice pU1 s1.units.length qU1),.v (.slice pI1 s1.items.length qI1),.v (.slice pP1 s1.plants.length qP1),.v (.slice pM1 s1.machines.length qM1),.v (.slice pO1 s1.options.length qO1),.v (.slice pF1 s1.forbids.length qF1),.v (.slice pR1 s1.recipes.length qR1),.v (.slice pS1 s1.swaps.length qS1)]),(3,.own 50 2 (rws OpV.row (noneS hd0).options))]) [] ?_ sH sH
 refine RunsS.concY (n:=1) (N5.gsub) 3 ?_ (hlen:=rfl)
 intro F6 a6 c6 G6 h6 N6 R6
 conv=>whnf
 have P6:=(hP.up (V5.trans (Now.step N5.gsub N6))).up ⟨N6.gsub,fun _ _=>rfl⟩
 refine RunsS.callT (TopW.tok _ _ _ _ _ _ _ _ _) (⟨⟨RoF.nil _ _ _,RoF.nil _ _ _,RoF.nil _ _ _,RoF.nil _ _ _,RoF.up ⟨N6.gsub,fun _ _=>rfl⟩ R6,RoF.nil _ _ _,RoF.nil _ _ _,RoF.nil _ _ _,fun o h=>by rw [List.mem_singleton.1 h];exact RoF.nil _ _ _,fun _ h=>absurd h List.not_mem_nil,fun _ h=>absurd h List.not_mem_nil⟩,P6⟩) (print_fn (noneS hd0) (by decide)) [] sH ?CNa6 ?_
 case CNa6=>rfl
 rintro _ _
 rw [none_print]
 conv=>whnf
 (try refine gS ?_);conv=>whnf
 refine RunsS.subR (nx':=4) (l':=[(1,.ptr 0 0),(2,intA 0),(3,intA 0),(5,intA 6),(6,intA 100),(8,intA 5),(9,intA 100),(11,intA 13),(12,intA 100),(13,strA (B [112,108,97,110,116,32,101,97,115,116,32,59])),(14,intA 0),(16,intA 100)]) (H':=[(0,.cells 32 [.v (.slice pU1 s1.units.length qU1),.v (.slice pI1 s1.items.length qI1),.v (.slice pP1 s1.plants.length qP1),.v (.slice pM1 s1.machines.length qM1),.v (.slice pO1 s1.options.length qO1),.v (.slice pF1 s1.forbids.length qF1),.v (.slice pR1 s1.recipes.length qR1),.v (.slice pS1 s1.swaps.length qS1)])]) [] ?_ sH sH
 refine RunsS.callY (N6.gsub) (parse_fn x5 (by decide)) (fun _ _=>trivial) [] sH ?CNa7 ?_
 case CNa7=>rfl
 rintro _ ⟨s7,a7,e7,y1,y2,y3,y4,y5,y6,y7,y8⟩ G7 h7 N7 J7
 rw [p5] at J7
 obtain ⟨b7,rfl,rfl⟩:=J7.res
 have T7:TopF G7 h7 y1 y2 y3 y4 y5 y6 y7 y8 s7:=J7.top
 obtain ⟨pU7,qU7,pI7,qI7,pP7,qP7,pM7,qM7,pO7,qO7,pF7,qF7,pR7,qR7,pS7,qS7,rfl,rfl,rfl,rfl,rfl,rfl,rfl,rfl⟩:=topShapes T7
 conv=>whnf
 (try refine gS ?_);conv=>whnf
 refine RunsS.subR (nx':=9) (l':=[(1,.ptr 0 0),(2,intA 0),(3,intA 0),(5,intA 6),(6,intA 100),(8,intA 5),(9,intA 100),(11,intA 13),(12,intA 100),(13,strA (B [112,108,97,110,116,32,101,97,115,116,32,59])),(14,intA 0),(16,intA 100),(17,.ptr 4 0),(18,intA 0),(19,intA 0),(68,.agg [strA (B [97]),strA (B [101]),intA 0,intA 9,.buf 5,.buf 6,.buf 7,intA 0,intA 1,intA 1,intA 1,intA 0,intA 1,intA 2,.buf 8,intA 0,intA 0])]) (H':=[(0,.cells 32 [.v (.slice pU1 s1.units.length qU1),.v (.slice pI1 s1.items.length qI1),.v (.slice pP1 s1.plants.length qP1),.v (.slice pM1 s1.machines.length qM1),.v (.slice pO1 s1.options.length qO1),.v (.slice pF1 s1.forbids.length qF1),.v (.slice pR1 s1.recipes.length qR1),.v (.slice pS1 s1.swaps.length qS1)]),(4,.cells 32 [.v (.slice pU7 s7.units.length qU7),.v (.slice pI7 s7.items.length qI7),.v (.slice pP7 s7.plants.length qP7),.v (.slice pM7 s7.machines.length qM7),.v (.slice pO7 s7.options.length qO7),.v (.slice pF7 s7.forbids.length qF7),.v (.slice pR7 s7.recipes.length qR7),.v (.slice pS7 s7.swaps.length qS7)]),(5,.own 52 4 (rws Cd.row (wantR hd0 hd0 hd0 hd0).cs)),(6,.own 55 7 (rws Am.row (wantR hd0 hd0 hd0 hd0).inn)),(7,.own 55 7 (rws Am.row (wantR hd0 hd0 hd0 hd0).out)),(8,.own 58 3 (rws Rn.row (wantR hd0 hd0 hd0 hd0).runs))]) [] ?_ sH sH
 refine RunsS.concY (n:=1) (N7.gsub) 5 ?_ (hlen:=rfl)
 intro F8 a8 c8 G8 h8 N8 R8
 conv=>whnf
 refine RunsS.concY (n:=1) (N8.gsub) 6 ?_ (hlen:=rfl)
 intro F9 a9 c9 G9 h9 N9 R9
 conv=>whnf
 refine RunsS.concY (n:=1) (N9.gsub) 7 ?_ (hlen:=rfl)
 intro F10 a10 c10 G10 h10 N10 R10
 conv=>whnf
 refine RunsS.concY (n:=1) (N10.gsub) 8 ?_ (hlen:=rfl)
 intro F11 a11 c11 G11 h11 N11 R11
 conv=>whnf
 (try refine gS ?_);conv=>whnf
 repeat ((first|(guard_target=_∧_;(first|refine oL ?_|refine oR ?_))|(guard_target=Exists _;refine oM ?_));(try intro _);conv=>whnf)
 refine RunsS.concY (n:=1) (N11.gsub) 9 ?_ (hlen:=rfl)
 intro F12 a12 c12 G12 h12 N12 R12
 conv=>whnf
 have hq:noSrc.bare=noSrc:=rfl
 have U1:=T1.up ((((((((((((Now.step N1.gsub N2).trans (Now.step N2.gsub N3)).trans (Now.step N3.gsub N4)).trans (Now.step N4.gsub N5)).trans (Now.step N5.gsub N6)).trans (Now.step N6.gsub N7)).trans (Now.step N7.gsub N8)).trans (Now.step N8.gsub N9)).trans (Now.step N9.gsub N10)).trans (Now.step N10.gsub N11)).trans (Now.step N11.gsub N12)).trans ⟨N12.gsub,fun _ _=>rfl⟩)
 have U7:=T7.up ((((((Now.step N7.gsub N8).trans (Now.step N8.gsub N9)).trans (Now.step N9.gsub N10)).trans (Now.step N10.gsub N11)).trans (Now.step N11.gsub N12)).trans ⟨N12.gsub,fun _ _=>rfl⟩)
 have UW:TopF F12 h12 nilV nilV nilV nilV nilV nilV (.slice a12 1 c12) nilV (wantS ⟨a8,c8⟩ ⟨a9,c9⟩ ⟨a10,c10⟩ ⟨a11,c11⟩):=⟨RoF.nil _ _ _,RoF.nil _ _ _,RoF.nil _ _ _,RoF.nil _ _ _,RoF.nil _ _ _,RoF.nil _ _ _,RoF.up ⟨N12.gsub,fun _ _=>rfl⟩ R12,RoF.nil _ _ _,fun _ h=>absurd h List.not_mem_nil,fun _ h=>absurd h List.not_mem_nil,fun o h=>by
  rw [List.mem_singleton.1 h]
  exact ⟨R8.up (((((Now.step N8.gsub N9).trans (Now.step N9.gsub N10)).trans (Now.step N10.gsub N11)).trans (Now.step N11.gsub N12)).trans ⟨N12.gsub,fun _ _=>rfl⟩),R9.up ((((Now.step N9.gsub N10).trans (Now.step N10.gsub N11)).trans (Now.step N11.gsub N12)).trans ⟨N12.gsub,fun _ _=>rfl⟩),R10.up (((Now.step N10.gsub N11).trans (Now.step N11.gsub N12)).trans ⟨N12.gsub,fun _ _=>rfl⟩),R11.up ((Now.step N11.gsub N12).trans ⟨N12.gsub,fun _ _=>rfl⟩)⟩⟩
 refine RunsS.subR (nx':=11) (l':=[(1,.ptr 0 0),(2,intA 0),(3,intA 0),(5,intA 6),(6,intA 100),(8,intA 5),(9,intA 100),(11,intA 13),(12,intA 100),(13,strA (B [112,108,97,110,116,32,101,97,115,116,32,59])),(14,intA 0),(16,intA 100),(17,.ptr 4 0),(18,intA 0),(19,intA 0),(20,.ptr 10 0),(77,.v (.bool true)),(78,.agg [.v (.slice pU1 s1.units.length qU1),.v (.slice pI1 s1.items.length qI1),.v (.slice pP1 s1.plants.length qP1),.v (.slice pM1 s1.machines.length qM1),.v (.slice pO1 s1.options.length qO1),.v (.slice pF1 s1.forbids.length qF1),.v (.slice pR1 s1.recipes.length qR1),.v (.slice pS1 s1.swaps.length qS1)]),(79,.agg [.v nilV,.v nilV,.v nilV,.v nilV,.v nilV,.v nilV,.v nilV,.v nilV])]) (H':=[(0,.cells 32 [.v (.slice pU1 s1.units.length qU1),.v (.slice pI1 s1.items.length qI1),.v (.slice pP1 s1.plants.length qP1),.v (.slice pM1 s1.machines.length qM1),.v (.slice pO1 s1.options.length qO1),.v (.slice pF1 s1.forbids.length qF1),.v (.slice pR1 s1.recipes.length qR1),.v (.slice pS1 s1.swaps.length qS1)]),(4,.cells 32 [.v (.slice pU7 s7.units.length qU7),.v (.slice pI7 s7.items.length qI7),.v (.slice pP7 s7.plants.length qP7),.v (.slice pM7 s7.machines.length qM7),.v (.slice pO7 s7.options.length qO7),.v (.slice pF7 s7.forbids.length qF7),.v (.slice pR7 s7.recipes.length qR7),.v (.slice pS7 s7.swaps.length qS7)]),(10,.cells 32 [.v nilV,.v nilV,.v nilV,.v nilV,.v nilV,.v nilV,.v (.slice a12 1 c12),.v nilV])]) [] ?_ sH sH
 have C1:=sSame_fn (vU:=.slice pU1 s1.units.length qU1) (vI:=.slice pI1 s1.items.length qI1) (vP:=.slice pP1 s1.plants.length qP1) (vM:=.slice pM1 s1.machines.length qM1) (vO:=.slice pO1 s1.options.length qO1) (vF:=.slice pF1 s1.forbids.length qF1) (vR:=.slice pR1 s1.recipes.length qR1) (vS:=.slice pS1 s1.swaps.length qS1) (wU:=nilV) (wI:=nilV) (wP:=nilV) (wM:=nilV) (wO:=nilV) (wF:=nilV) (wR:=nilV) (wS:=nilV) s1 noSrc
 rw [eqB_yes (b1.trans hq.symm)] at C1
 refine RunsS.callT (Two2T.tok _ _ _ _ _ _ _ _ _ _ _ _ _ _ _ _ _ _) (⟨U1,TopF.none _ _⟩) (C1) [] sH ?CNa8 ?_
 case CNa8=>rfl
 intro _ _
 conv=>whnf
 (try refine gS ?_);conv=>whnf
 repeat ((first|(guard_target=_∧_;(first|refine oL ?_|refine oR ?_))|(guard_target=Exists _;refine oM ?_));(try intro _);conv=>whnf)
 refine And.intro (fun _=>?_) (fun hn=>absurd (rfl) hn)
 conv=>whnf
 repeat ((first|(guard_target=_∧_;(first|refine oL ?_|refine oR ?_))|(guard_target=Exists _;refine oM ?_));(try intro _);conv=>whnf)
 have wq:(wantS ⟨a8,c8⟩ ⟨a9,c9⟩ ⟨a10,c10⟩ ⟨a11,c11⟩).bare=wantS hd0 hd0 hd0 hd0:=rfl
 have C2:=sSame_fn (vU:=.slice pU7 s7.units.length qU7) (vI:=.slice pI7 s7.items.length qI7) (vP:=.slice pP7 s7.plants.length qP7) (vM:=.slice pM7 s7.machines.length qM7) (vO:=.slice pO7 s7.options.length qO7) (vF:=.slice pF7 s7.forbids.length qF7) (vR:=.slice pR7 s7.recipes.length qR7) (vS:=.slice pS7 s7.swaps.length qS7) (wU:=nilV) (wI:=nilV) (wP:=nilV) (wM:=nilV) (wO:=nilV) (wF:=nilV) (wR:=.slice a12 1 c12) (wS:=nilV) s7 (wantS ⟨a8,c8⟩ ⟨a9,c9⟩ ⟨a10,c10⟩ ⟨a11,c11⟩)
 rw [eqB_yes (b7.trans wq.symm)] at C2
 refine RunsS.callT (Two2T.tok _ _ _ _ _ _ _ _ _ _ _ _ _ _ _ _ _ _) (⟨U7,UW⟩) (C2) [] sH ?CNa9 ?_
 case CNa9=>rfl
 intro _ _
 conv=>whnf
 (try refine gS ?_);conv=>whnf
 have C3:=same_fn (vU:=.slice pU7 s7.units.length qU7) (vI:=.slice pI7 s7.items.length qI7) (vP:=.slice pP7 s7.plants.length qP7) (vM:=.slice pM7 s7.machines.length qM7) (vO:=.slice pO7 s7.options.length qO7) (vF:=.slice pF7 s7.forbids.length qF7) (vR:=.slice pR7 s7.recipes.length qR7) (vS:=.slice pS7 s7.swaps.length qS7) (wU:=nilV) (wI:=nilV) (wP:=nilV) (wM:=nilV) (wO:=nilV) (wF:=nilV) (wR:=.slice a12 1 c12) (wS:=nilV) s7 (wantS ⟨a8,c8⟩ ⟨a9,c9⟩ ⟨a10,c10⟩ ⟨a11,c11⟩)
 rw [eqB_yes (b7.trans wq.symm)] at C3
 refine RunsS.callT (Two2T.tok _ _ _ _ _ _ _ _ _ _ _ _ _ _ _ _ _ _) (⟨U7,UW⟩) (C3) [] sH ?CNa10 ?_
 case CNa10=>rfl
 intro _ _
 conv=>whnf
 (try refine gS ?_);conv=>whnf
 have C4:=same_fn (vU:=.slice pU7 s7.units.length qU7) (vI:=.slice pI7 s7.items.length qI7) (vP:=.slice pP7 s7.plants.length qP7) (vM:=.slice pM7 s7.machines.length qM7) (vO:=.slice pO7 s7.options.length qO7) (vF:=.slice pF7 s7.forbids.length qF7) (vR:=.slice pR7 s7.recipes.length qR7) (vS:=.slice pS7 s7.swaps.length qS7) (wU:=.slice pU1 s1.units.length qU1) (wI:=.slice pI1 s1.items.length qI1) (wP:=.slice pP1 s1.plants.length qP1) (wM:=.slice pM1 s1.machines.length qM1) (wO:=.slice pO1 s1.options.length qO1) (wF:=.slice pF1 s1.forbids.length qF1) (wR:=.slice pR1 s1.recipes.length qR1) (wS:=.slice pS1 s1.swaps.length qS1) s7 s1
 rw [eqB_no (fun e=>want_no (b7.symm.trans (e.trans b1)))] at C4
 refine RunsS.callT (Two2T.tok _ _ _ _ _ _ _ _ _ _ _ _ _ _ _ _ _ _) (⟨U7,U1⟩) (C4) [] sH ?CNa11 ?_
 case CNa11=>rfl
 intro _ _
 conv=>whnf
 (try refine gS ?_);conv=>whnf
 try refine RunsS.retU ?_
 exact UnwS.ret tab Tryz.func10 rfl (eX (((((((((((N.trans N1).trans N2).trans N3).trans N4).trans N5).trans N6).trans N7).trans N8).trans N9).trans N10).trans (N11.trans N12)) (()) (fun _ _=>trivial))
end Go.Proofs.YtgbeechjghajcaaGreatDoor

namespace Go.Proofs.YtgbeechjghajcaaGreatDoor
open Go Go.Fw Go.NatM Go.RatM Go.SrcM Go.SynM
set_option maxRecDepth 100000
set_option maxHeartbeats 99999999
section
variable {vU vI vP vM vO vF vR vS wU wI wP wM wO wF wR wS:Value}
theorem sSameY_fn {a b:SrcV} (e:a.bare=b.bare):FnT Tryz.prog (Two2T vU vI vP vM vO vF vR vS wU wI wP wM wO wF wR wS a b) 13 0 [srcA vU vI vP vM vO vF vR vS,srcA wU wI wP wM wO wF wR wS] [] (fun _:Unit=>True) (fun _=>.ret (.v (.bool true)) 0 []):=by
 have:=sSame_fn (vU:=vU) (vI:=vI) (vP:=vP) (vM:=vM) (vO:=vO) (vF:=vF) (vR:=vR) (vS:=vS) (wU:=wU) (wI:=wI) (wP:=wP) (wM:=wM) (wO:=wO) (wF:=wF) (wR:=wR) (wS:=wS) a b
 rwa [eqB_yes e] at this
end
end Go.Proofs.YtgbeechjghajcaaGreatDoor
