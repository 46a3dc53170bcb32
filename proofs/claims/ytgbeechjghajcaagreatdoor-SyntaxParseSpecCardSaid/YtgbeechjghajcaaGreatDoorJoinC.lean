/- Texts of this seat, joined: Package lex: what Lex computes, over lists of bytes; plain. Package lex: Lex. Package lex: the reference's classes of byte -/
import Derived.Test.YtgbeechjghajcaaGreatDoorJoinB
import Derived.Shelf.Lays
import Derived.Shelf.LaysM
import Derived.Shelf.Strings.BuilderX
import Derived.Shelf.Strings.OnBuilder
import Derived.Shelf.Strings.Search3
import Derived.Shelf.Strconv.Itoa3
import Derived.Below
set_option linter.unusedVariables false
set_option linter.unusedSimpArgs false
namespace Go.Proofs.YtgbeechjghajcaaGreatDoor
open Go Go.Fw
abbrev Bs:=List UInt8
abbrev bs (s:ByteArray):Bs:=s.data.toList
theorem bs_len (s:ByteArray):(bs s).length=s.size:=rfl
theorem bs_drop {s:ByteArray} {i:Nat} (hi:i<s.size):∃c,(bs s).drop i=c::(bs s).drop (i+1)∧c.toNat=byteAt s i:=by
 refine ⟨(bs s)[i]'hi,List.drop_eq_getElem_cons hi,?_⟩
 unfold byteAt
 rw [List.getD_eq_getElem?_getD,List.getElem?_eq_getElem hi];rfl
theorem bs_extract (s:ByteArray) (i j:Nat):bs (s.extract i j)=((bs s).take j).drop i:=by
 simp [bs,List.drop_take]
def runL (p:Nat→Bool):Bs→Nat
 | []=>0
 |c::r=>if p c.toNat then runL p r+1 else 0
theorem runL_le (p:Nat→Bool):∀b,runL p b≤b.length
 | []=>Nat.le_refl _
 |c::r=>by
  have:=runL_le p r
  simp only [runL,List.length_cons]
  split<;>omega
theorem runL_mem {p:Nat→Bool}:∀ {b:Bs},∀c∈b.take (runL p b),p c.toNat=true
 | [],c,h=>by simp at h
 |x::r,c,h=>by
  simp only [runL] at h
  split at h
  ·rename_i hp
   simp only [List.take_succ_cons,List.mem_cons] at h
   rcases h with rfl|h
   ·exact hp
   exact runL_mem c h
  simp at h
theorem runL_pos {p:Nat→Bool} {c:UInt8} {r:Bs} (h:p c.toNat=true):0<runL p (c::r):=by simp [runL,h]
theorem runE_eq (s:ByteArray) (p:Nat→Bool) (i:Nat) (hi:i≤s.size):runE s p i=i+runL p ((bs s).drop i):=by
 induction h:s.size - i generalizing i with
 |zero=>
  unfold runE
  rw [dif_neg (by omega),List.drop_eq_nil_of_le (by rw [bs_len];omega)];rfl
 |succ n ih=>
  obtain ⟨c,h1,h2⟩:=bs_drop (s:=s) (i:=i) (by omega)
  unfold runE
  rw [dif_pos (by omega),h1,←h2]
  simp only [runL]
  split
  ·rw [ih (i+1) (by omega) (by omega)];omega
  omega
def numL:Bs→Nat→Option Nat
 | [],a=>some a
 |c::r,a=>if 10*a+(c.toNat - 48)≤1099511627776 then numL r (10*a+(c.toNat - 48)) else none
theorem numF_eq (s:ByteArray) (e:Nat) (he:e≤s.size) (i a:Nat):numF s e i a=numL (((bs s).take e).drop i) a:=by
 induction h:e - i generalizing i a with
 |zero=>
  unfold numF
  rw [if_neg (by omega),List.drop_eq_nil_of_le (by simp;omega)];rfl
 |succ n ih=>
  unfold numF
  have hi:i<((bs s).take e).length:=by rw [List.length_take,bs_len];omega
  rw [if_pos (by omega),List.drop_eq_getElem_cons hi]
  simp only [numL]
  have hb:byteAt s i=(((bs s).take e)[i]'hi).toNat:=by
   rw [List.getElem_take]
   unfold byteAt
   rw [List.getD_eq_getElem?_getD,List.getElem?_eq_getElem (by rw [List.length_take,bs_len] at hi;rw [show s.data.toList.length=s.size from rfl];omega)];rfl
  rw [hb]
  split
  ·exact ih (i+1) _ (by omega)
  rfl
inductive Tk where
 |name (b:Bs)
 |num (n:Nat)
 |sign (c:UInt8)
def Tk.tok (p:Nat):Tk→Tok
 | .name b=>⟨1,p,⟨b.toArray⟩,0⟩
 | .num n=>⟨2,p,⟨#[]⟩,n⟩
 | .sign c=>⟨3,p,⟨#[c]⟩,0⟩
def nmC:Nat→Bool:=inRun 2 3 95
def dgC:Nat→Bool:=inRun 3 3 48
def stepS:Bs→Option (Option Tk×Nat)
 | []=>none
 |c::r=>
  if cls c.toNat=0 then none
  else if cls c.toNat=1 then some (none,1)
  else if cls c.toNat=2 then (if 32<runL nmC (c::r) then none else some (some (.name ((c::r).take (runL nmC (c::r)))),runL nmC (c::r)))
  else if cls c.toNat=3 then (if 1<runL dgC (c::r)∧c.toNat=48 then none else
   match numL ((c::r).take (runL dgC (c::r))) 0 with
   |none=>none
   |some n=>some (some (.num n),runL dgC (c::r)))
  else if c=47∧r.head? = some 47 then some (none,runL notLf (c::r))
  else some (some (.sign c),1)
theorem stepS_ok {b:Bs} {t:Option Tk} {k:Nat} (h:stepS b=some (t,k)):0<k∧k≤b.length:=by
 cases b with
 |nil=>cases h
 |cons c r=>
  have hin:∀ {a b f:Int},cls c.toNat=a→inRun a b f c.toNat=true:=fun h=>by simp [inRun,h]
  simp only [stepS] at h
  repeat' (split at h)
  all_goals first|(cases h;done)|skip
  all_goals cases h
  ·simp
  ·exact ⟨runL_pos (hin (by assumption)),runL_le _ _⟩
  ·exact ⟨runL_pos (hin (by assumption)),runL_le _ _⟩
  ·rename_i hc
   exact ⟨runL_pos (by rw [hc.1];decide),runL_le _ _⟩
  simp
def addTk (p:Nat) (t:Option Tk) (l:List (Nat×Tk)):List (Nat×Tk):=match t with
 |none=>l
 |some t=>(p,t)::l
def lexN:Nat→Bs→Nat→List (Nat×Tk) ⊕ Nat
 |0,_,_=>.inl []
 |_+1,[],_=>.inl []
 |f+1,c::r,p=>match stepS (c::r) with
  |none=>.inr p
  |some (t,k)=>match lexN f ((c::r).drop k) (p+k) with
   | .inr q=>.inr q
   | .inl l=>.inl (addTk p t l)
def lexS (b:Bs) (p:Nat):List (Nat×Tk) ⊕ Nat:=lexN b.length b p
theorem lexN_more:∀(f:Nat) (b:Bs) (p:Nat),b.length≤f→lexN f b p=lexN b.length b p:=by
 intro f
 induction f using Nat.strongRecOn with
 |_ f ih=>
  intro b p hf
  cases b with
  |nil=>cases f<;>rfl
  |cons c r=>
   cases f with
   |zero=>simp at hf
   |succ f=>
    simp only [lexN,List.length_cons] at hf ⊢
    split
    ·rfl
    rename_i t k hk
    have:=stepS_ok hk
    simp only [List.length_cons] at this
    rw [ih f (by omega) _ _ (by simp;omega),ih r.length (by omega) _ _ (by simp;omega)]
theorem lexS_nil (p:Nat):lexS [] p=.inl []:=rfl
theorem lexS_cons {b:Bs} (hb:b ≠ []) (p:Nat):lexS b p=match stepS b with
  |none=>.inr p
  |some (t,k)=>match lexS (b.drop k) (p+k) with
   | .inr q=>.inr q
   | .inl l=>.inl (addTk p t l):=by
 cases b with
 |nil=>exact absurd rfl hb
 |cons c r=>
  unfold lexS
  simp only [List.length_cons,lexN]
  split
  ·rfl
  rename_i t k hk
  have:=stepS_ok hk
  simp only [List.length_cons] at this
  rw [lexN_more r.length _ _ (by simp;omega)]
theorem toArray_ext (s:ByteArray):(⟨(bs s).toArray⟩:ByteArray)=s:=by cases s;rfl
theorem stepL_eq (src:ByteArray) (pos:Nat) (hp:pos<src.size) (l:List Tok):stepL src pos l=match stepS ((bs src).drop pos) with
  |none=>none
  |some (t,k)=>some (pos+k,l++(addTk pos t []).map fun q=>q.2.tok q.1):=by
 obtain ⟨c,h1,h2⟩:=bs_drop hp
 have hn:nameE src pos=pos+runL nmC ((bs src).drop pos):=runE_eq _ _ _ (by omega)
 have hd:numE src pos=pos+runL dgC ((bs src).drop pos):=runE_eq _ _ _ (by omega)
 have hl:runE src notLf pos=pos+runL notLf ((bs src).drop pos):=runE_eq _ _ _ (by omega)
 have hx:∀k,src.extract pos (pos+k)=⟨(((bs src).drop pos).take k).toArray⟩:=fun k=>by
  rw [←toArray_ext (src.extract pos (pos+k)),bs_extract,List.take_drop,Nat.add_comm]
 have hdl:runL dgC ((bs src).drop pos)≤src.size - pos:=by
  have:=runL_le dgC ((bs src).drop pos)
  rwa [List.length_drop,bs_len] at this
 have hf:numF src (numE src pos) pos 0=numL (((bs src).drop pos).take (runL dgC ((bs src).drop pos))) 0:=by
  rw [hd,numF_eq _ _ (by omega),List.take_drop,Nat.add_comm]
 have hcm:comm src pos↔(c=47∧((bs src).drop (pos+1)).head? = some 47):=by
  have e0:src.extract pos src.size=⟨((bs src).drop pos).toArray⟩:=by
   rw [←toArray_ext (src.extract pos src.size),bs_extract,List.take_of_length_le (by rw [bs_len];exact Nat.le_refl _)]
  unfold comm
  rw [e0,h1]
  cases hr:(bs src).drop (pos+1) with
  |nil=>
   constructor
   ·intro h
    have:=h.1
    simp [ByteArray.size] at this
   rintro ⟨_,h⟩
   simp at h
  |cons d r=>
   constructor
   ·rintro ⟨_,h⟩
    have h:=congrArg bs h
    rw [bs_extract] at h
    simp [ByteArray.size,bs] at h
    simp [h.1,h.2]
   rintro ⟨rfl,h⟩
   simp at h
   subst h
   refine ⟨by simp [ByteArray.size],?_⟩
   rw [←toArray_ext (ByteArray.extract _ _ _),bs_extract]
   simp [ByteArray.size,bs]
 rw [hd] at hf
 simp only [stepL,hn,hd,hl,hf,hcm,←h2,Nat.add_sub_cancel_left,hx]
 rw [h1]
 simp only [stepS]
 split
 ·rfl
 split
 ·simp [addTk]
 split
 ·split
  ·rfl
  simp [addTk,Tk.tok]
 split
 ·split
  ·rfl
  split<;>simp_all [addTk,Tk.tok]
 split
 ·simp [addTk]
 simp [addTk,Tk.tok]
def toksP (l:List (Nat×Tk)):List Tok:=l.map fun q=>q.2.tok q.1
theorem lexG_eq (src:ByteArray) (pos:Nat) (hp:pos≤src.size) (l:List Tok):lexG src pos l=match lexS ((bs src).drop pos) pos with
  | .inl l'=>.inl (l++toksP l')
  | .inr q=>.inr q:=by
 induction h:src.size - pos using Nat.strongRecOn generalizing pos l with
 |_ n ih=>
  unfold lexG
  split
  ·rename_i hlt
   have hs:=stepL_eq src pos hlt l
   have hne:(bs src).drop pos ≠ []:=fun e=>by
    have:=congrArg List.length e
    rw [List.length_drop,bs_len] at this
    simp at this
    omega
   rw [lexS_cons hne]
   split
   ·rename_i h0
    rw [h0] at hs
    cases hss:stepS ((bs src).drop pos) with
    |none=>rfl
    |some q=>rw [hss] at hs;cases hs
   rename_i p' l' h0
   have hok:=stepL_ok hlt h0
   rw [h0] at hs
   cases hss:stepS ((bs src).drop pos) with
   |none=>rw [hss] at hs;cases hs
   |some q=>
    obtain ⟨t,k⟩:=q
    rw [hss] at hs
    simp only [Option.some.injEq,Prod.mk.injEq] at hs
    obtain ⟨rfl,rfl⟩:=hs
    rw [ih _ (by omega) (pos+k) (by omega) _ rfl]
    dsimp only
    rw [List.drop_drop]
    cases lexS ((bs src).drop (pos+k)) (pos+k) with
    |inr q=>rfl
    |inl l'=>cases t<;>simp [addTk,toksP]
  rw [List.drop_eq_nil_of_le (by rw [bs_len];omega)]
  simp [lexS_nil,toksP]
end Go.Proofs.YtgbeechjghajcaaGreatDoor

namespace Go.Proofs.YtgbeechjghajcaaGreatDoor
open Go Go.Fw
set_option maxRecDepth 100000
set_option maxHeartbeats 99999999
def lexA (src:ByteArray):List Tok ⊕ Nat:=lexG src 0 []
def lexO (src:ByteArray):OutS:=match lexA src with
 | .inl l=>.ret (.tup [.buf 0,.v (.int .i64 0),.v (.int .i64 0)]) 1 [toksB l 0]
 | .inr p=>.ret (.tup [.v (.slice none 0 0),.v (.int .i64 p),.v (.int .i64 50)]) 0 []
theorem lexG_none {src:ByteArray} {pos:Nat} {l:List Tok} (hp:pos<src.size) (h:stepL src pos l=none):lexG src pos l=.inr pos:=by
 unfold lexG
 rw [dif_pos hp]
 split
 ·rfl
 rename_i h'
 rw [h] at h';cases h'
theorem lexG_some {src:ByteArray} {pos:Nat} {l:List Tok} (hp:pos<src.size) {p':Nat} {l':List Tok} (h:stepL src pos l=some (p',l')):lexG src pos l=lexG src p' l':=by
 conv=>lhs;unfold lexG
 rw [dif_pos hp]
 split
 ·rename_i h'
  rw [h] at h';cases h'
 rename_i h'
 rw [h] at h';cases h';rfl
theorem numO_step (src:ByteArray) (pos:Nat) (l:List Tok) (hq:cls (byteAt src pos)=3):numO src pos (numE src pos) l=match stepL src pos l with
  |none=>.pan (placeP pos) 2 [scB src pos,toksB l 1]
  |some (p',l')=>.ret (.tup []) 3 [scB src p' 2,toksB l' 2]:=by
 simp only [numO,stepL,hq]
 by_cases hb:1<numE src pos - pos∧byteAt src pos=48
 ·simp [hb]
 rw [if_neg hb]
 cases hz:numF src (numE src pos) pos 0 with
 |none=>simp [hb]
 |some n=>simp [hb]
theorem cls_cases (c:Nat):cls c=0∨cls c=1∨cls c=2∨cls c=3∨cls c=4:=by
 unfold cls
 repeat' split
 all_goals simp
abbrev scB3 (src:ByteArray) (pos:Int) (b:Nat):Nat×Blk:=(3,.cells 112 (scn src pos (.buf b)))
theorem lex_fn (src:ByteArray) (hs:src.size≤65536):FnS Tryz.prog 19 0 [.v (.string src)] [] (fun _:Unit=>True) (fun _=>lexO src):=by
 obtain ⟨o,ho⟩:∃o,o=lexO src:=⟨_,rfl⟩
 rw [←ho]
 unfold lexO lexA at ho
 refine FnS.of Tryz.func19 (by kernel_rfl) rfl Tryz.ntmps19 rfl fun E0 F h w0 cs=>?_
 conv=>whnf
 refine gS ?_;conv=>whnf
 repeat ((first|refine oM ?_|refine oL ?_|refine oR ?_);(try intro _);conv=>whnf)
 refine RunsS.deferU ?_
 (try refine gS ?_);conv=>whnf
 repeat ((first|refine oM ?_|refine oL ?_|refine oR ?_);(try intro _);conv=>whnf)
 refine RunsS.callV (fun Ez Hz Az Sz K=>classes_fn) ?_
 conv=>whnf
 (try refine gS ?_);conv=>whnf
 repeat ((first|refine oM ?_|refine oL ?_|refine oR ?_);(try intro _);conv=>whnf)
 refine RunsS.subR (nx':=4) (l':=[(5,.ptr 3 0),(4,.ptr 2 0),(3,.ptr 1 0),(2,.ptr 0 0),(0,.v (.string src))]) (H':=[(3,.cells 112 (scn src 0 (.v (.slice none 0 0)))),(2,.cells 33 [.v (.int .i64 0)]),(1,.cells 3 [.v (.int .i64 0)]),(0,.cells 42 [.v (.slice none 0 0)])]) [] ?_ sH sH
 refine RunsS.nilOwn (l':=[(5,.ptr 3 0),(4,.ptr 2 0),(3,.ptr 1 0),(2,.ptr 0 0),(0,.v (.string src))]) (H':=[(3,.cells 112 (scn src 0 (.buf 4))),(2,.cells 33 [.v (.int .i64 0)]),(1,.cells 3 [.v (.int .i64 0)]),(0,.cells 42 [.v (.slice none 0 0)])]) 47 4 ?_ (by rfl) (by rfl) (by rfl)
 refine RunsS.subR [] (RunsS.loop (fun (⟨pos,l⟩:Nat×List Tok)=>[(5,.ptr 3 0),(4,.ptr 2 0),(3,.ptr 1 0),(2,.ptr 0 0),(0,.v (.string src))]) (fun (⟨pos,l⟩:Nat×List Tok)=>[scB3 src pos 4,toksB l 4,(2,.cells 33 [.v (.int .i64 0)]),(1,.cells 3 [.v (.int .i64 0)]),(0,.cells 42 [.v (.slice none 0 0)])]) 5 (fun (⟨pos,l⟩:Nat×List Tok)=>(pos≤src.size∧l.length≤pos)∧lexG src 0 []=lexG src pos l) (fun (⟨pos,l⟩:Nat×List Tok)=>src.size - pos) ?round1 ((0,[])) ?J01) sH sH
 case J01=>exact (⟨by exact ⟨Nat.zero_le _,Nat.zero_le _⟩,rfl⟩)
 rintro ⟨pos,l⟩ hJ back
 try dsimp only at hJ back
 conv=>whnf
 try dsimp only
 refine gS ?_;conv=>whnf
 repeat ((first|refine oM ?_|refine oL ?_|refine oR ?_);(try intro _);conv=>whnf)
 refine ⟨fun hk=>?_,fun hk=>?_⟩<;>conv=>whnf
 ·obtain ⟨c,hc⟩:∃c,c=byteAt src ((pos:Int)).toNat:=⟨_,rfl⟩
  have hb:c<256:=by rw [hc];exact byteAt_lt src pos
  conv=>whnf
  repeat ((first|refine oM ?_|refine oL ?_|refine oR ?_);(try intro _);conv=>whnf)
  refine RunsS.held tab (.fl 0 (.fl 1 (.fl 2 (.fl 3 (.fl 4 (.fl 5 (.fl 6 (.fl 7 (.fl 8 (.fl 9 (.fl 10 (.fl 11 (.fl 12 (.fl 13 (.fl 14 (.fl 15 (.fl 16 (.e1 17 [] .done)))))))))))))))))) (by kernel_rfl) ?_;conv=>whnf
  (try refine gR ?_);conv=>whnf
  repeat ((first|refine oM ?_|refine oL ?_|refine oR ?_|refine oB ?_);(try intro _);conv=>whnf)
  (try refine gS ?_);conv=>whnf
  repeat ((first|refine oM ?_|refine oL ?_|refine oR ?_);(try intro _);conv=>whnf)
  rw [←hc]
  conv=>whnf
  repeat ((first|refine oM ?_|refine oL ?_|refine oR ?_);(try intro _);conv=>whnf)
  have hcc:c=byteAt src pos:=hc
  rw [ldR_at (scn_cls hb) (by rfl) (by rfl) (by rfl)]
  have hP:pos<src.size:=by omega
  rcases cls_cases c with hq|hq|hq|hq|hq<;>rw [hq]
  ·have hs0:stepL src pos l=none:=by simp only [stepL,←hcc,hq,if_true]
   rw [hJ.2,lexG_none hP hs0] at ho
   subst ho
   (try refine gR ?_);conv=>whnf
   repeat ((first|refine oM ?_|refine oL ?_|refine oR ?_|refine oB ?_);(try intro _);conv=>whnf)
   (try refine gS ?_);conv=>whnf
   repeat ((first|refine oM ?_|refine oL ?_|refine oR ?_);(try intro _);conv=>whnf)
   refine EffR.callN (wrong_fn src pos) [3,4] ?_ sH ?CNa2
   case CNa2=>rfl
   intro _ _
   conv=>whnf
   try refine oB ?_
   (try refine gR ?_);conv=>whnf
   repeat ((first|refine oM ?_|refine oL ?_|refine oR ?_|refine oB ?_);(try intro _);conv=>whnf)
   (try refine gS ?_);conv=>whnf
   repeat ((first|refine oM ?_|refine oL ?_|refine oR ?_);(try intro _);conv=>whnf)
   refine UnwS.deferN (lexDP_fn _ _ _ pos) [0,1,2] ?_ ⟨by rfl,by rfl,by rfl,trivial⟩ rfl (fun e=>by cases e)
   intro _ _
   (conv=>whnf)
   refine UnwS.ret tab Tryz.func19 rfl (EndS.mk () trivial [] (by exact trivial) rfl rfl (okRet rfl rfl))
  ·have hs0:stepL src pos l=some (pos+1,l):=by simp [stepL,←hcc,hq]
   (try refine gR ?_);conv=>whnf
   repeat ((first|refine oM ?_|refine oL ?_|refine oR ?_|refine oB ?_);(try intro _);conv=>whnf)
   (try refine gS ?_);conv=>whnf
   repeat ((first|refine oM ?_|refine oL ?_|refine oR ?_);(try intro _);conv=>whnf)
   refine EffR.callN (pass_fn src pos ⟨by omega,by omega⟩) [3,4] ?_ sH ?CNa3
   case CNa3=>rfl
   intro _ _
   conv=>whnf
   try refine oB ?_
   (try refine gR ?_);conv=>whnf
   repeat ((first|refine oM ?_|refine oL ?_|refine oR ?_|refine oB ?_);(try intro _);conv=>whnf)
   (try refine gS ?_);conv=>whnf
   repeat ((first|refine oM ?_|refine oL ?_|refine oR ?_);(try intro _);conv=>whnf)
   refine RunsS.subR [] (back ((pos+1,l)) (by exact (⟨by dsimp only;omega,hJ.2.trans (lexG_some hP hs0)⟩)) (by (try dsimp only);omega)) sH sH
  ·by_cases hbad:32<nameE src pos - pos
   ·have C:=name_fn src hs pos (by omega) l (by omega)
    simp only [endO,if_pos hbad] at C
    have hs0:stepL src pos l=none:=by simp [stepL,←hcc,hq,hbad]
    rw [hJ.2,lexG_none hP hs0] at ho
    subst ho
    (try refine gR ?_);conv=>whnf
    repeat ((first|refine oM ?_|refine oL ?_|refine oR ?_|refine oB ?_);(try intro _);conv=>whnf)
    (try refine gS ?_);conv=>whnf
    repeat ((first|refine oM ?_|refine oL ?_|refine oR ?_);(try intro _);conv=>whnf)
    refine EffR.callN (C) [3,4] ?_ sH ?CNa5
    case CNa5=>rfl
    intro _ _
    conv=>whnf
    try refine oB ?_
    (try refine gR ?_);conv=>whnf
    repeat ((first|refine oM ?_|refine oL ?_|refine oR ?_|refine oB ?_);(try intro _);conv=>whnf)
    (try refine gS ?_);conv=>whnf
    repeat ((first|refine oM ?_|refine oL ?_|refine oR ?_);(try intro _);conv=>whnf)
    refine UnwS.deferN (lexDP_fn _ _ _ pos) [0,1,2] ?_ ⟨by rfl,by rfl,by rfl,trivial⟩ rfl (fun e=>by cases e)
    intro _ _
    (conv=>whnf)
    refine UnwS.ret tab Tryz.func19 rfl (EndS.mk () trivial [] (by exact trivial) rfl rfl (okRet rfl rfl))
   have C:=name_fn src hs pos (by omega) l (by omega)
   simp only [endO,if_neg hbad] at C
   have hs0:stepL src pos l=some (nameE src pos,l++[⟨1,pos,src.extract pos (nameE src pos),0⟩]):=by simp [stepL,←hcc,hq,hbad]
   have hok:=stepL_ok hP hs0
   (try refine gR ?_);conv=>whnf
   repeat ((first|refine oM ?_|refine oL ?_|refine oR ?_|refine oB ?_);(try intro _);conv=>whnf)
   (try refine gS ?_);conv=>whnf
   repeat ((first|refine oM ?_|refine oL ?_|refine oR ?_);(try intro _);conv=>whnf)
   refine EffR.callN (C) [3,4] ?_ sH ?CNa6
   case CNa6=>rfl
   intro _ _
   conv=>whnf
   try refine oB ?_
   (try refine gR ?_);conv=>whnf
   repeat ((first|refine oM ?_|refine oL ?_|refine oR ?_|refine oB ?_);(try intro _);conv=>whnf)
   (try refine gS ?_);conv=>whnf
   repeat ((first|refine oM ?_|refine oL ?_|refine oR ?_);(try intro _);conv=>whnf)
   refine RunsS.subR [(4,5)] (back ((nameE src pos,l++[⟨1,pos,src.extract pos (nameE src pos),0⟩])) (by exact (⟨by dsimp only;omega,hJ.2.trans (lexG_some hP hs0)⟩)) (by (try dsimp only);omega)) sH sH
  ·have hd:pos<numE src pos:=runE_gt hP (by rw [←hcc];simp [inRun,hq])
   cases hs0:stepL src pos l with
   |none=>
    have C:=number_fn src hs pos (by omega) hd l (by omega)
    have hO:numO src pos (numE src pos) l=.pan (placeP pos) 2 [scB src pos,toksB l 1]:=by
     have:=numO_step src pos l (by rw [←hcc];exact hq)
     rw [hs0] at this
     exact this
    simp only [hO] at C
    rw [hJ.2,lexG_none hP hs0] at ho
    subst ho
    (try refine gR ?_);conv=>whnf
    repeat ((first|refine oM ?_|refine oL ?_|refine oR ?_|refine oB ?_);(try intro _);conv=>whnf)
    (try refine gS ?_);conv=>whnf
    repeat ((first|refine oM ?_|refine oL ?_|refine oR ?_);(try intro _);conv=>whnf)
    refine EffR.callN (C) [3,4] ?_ sH ?CNa8
    case CNa8=>rfl
    intro _ _
    conv=>whnf
    try refine oB ?_
    (try refine gR ?_);conv=>whnf
    repeat ((first|refine oM ?_|refine oL ?_|refine oR ?_|refine oB ?_);(try intro _);conv=>whnf)
    (try refine gS ?_);conv=>whnf
    repeat ((first|refine oM ?_|refine oL ?_|refine oR ?_);(try intro _);conv=>whnf)
    refine UnwS.deferN (lexDP_fn _ _ _ pos) [0,1,2] ?_ ⟨by rfl,by rfl,by rfl,trivial⟩ rfl (fun e=>by cases e)
    intro _ _
    (conv=>whnf)
    refine UnwS.ret tab Tryz.func19 rfl (EndS.mk () trivial [] (by exact trivial) rfl rfl (okRet rfl rfl))
   |some q=>
    obtain ⟨p',l'⟩:=q
    have hok:=stepL_ok hP hs0
    have C:=number_fn src hs pos (by omega) hd l (by omega)
    have hO:numO src pos (numE src pos) l=.ret (.tup []) 3 [scB src p' 2,toksB l' 2]:=by
     have:=numO_step src pos l (by rw [←hcc];exact hq)
     rw [hs0] at this
     exact this
    simp only [hO] at C
    (try refine gR ?_);conv=>whnf
    repeat ((first|refine oM ?_|refine oL ?_|refine oR ?_|refine oB ?_);(try intro _);conv=>whnf)
    (try refine gS ?_);conv=>whnf
    repeat ((first|refine oM ?_|refine oL ?_|refine oR ?_);(try intro _);conv=>whnf)
    refine EffR.callN (C) [3,4] ?_ sH ?CNa9
    case CNa9=>rfl
    intro _ _
    conv=>whnf
    try refine oB ?_
    (try refine gR ?_);conv=>whnf
    repeat ((first|refine oM ?_|refine oL ?_|refine oR ?_|refine oB ?_);(try intro _);conv=>whnf)
    (try refine gS ?_);conv=>whnf
    repeat ((first|refine oM ?_|refine oL ?_|refine oR ?_);(try intro _);conv=>whnf)
    refine RunsS.subR [(4,5)] (back ((p',l')) (by exact (⟨by dsimp only;omega,hJ.2.trans (lexG_some hP hs0)⟩)) (by (try dsimp only);omega)) sH sH
  have C:=sign_fn src hs pos hP l (by omega)
  by_cases hcm:comm src pos
  ·simp only [signO,if_pos hcm] at C
   have hs0:stepL src pos l=some (runE src notLf pos,l):=by simp only [stepL,←hcc,hq,if_pos hcm];rfl
   have hok:=stepL_ok hP hs0
   (try refine gR ?_);conv=>whnf
   repeat ((first|refine oM ?_|refine oL ?_|refine oR ?_|refine oB ?_);(try intro _);conv=>whnf)
   (try refine gS ?_);conv=>whnf
   repeat ((first|refine oM ?_|refine oL ?_|refine oR ?_);(try intro _);conv=>whnf)
   refine EffR.callN (C) [3,4] ?_ sH ?CNa11
   case CNa11=>rfl
   intro _ _
   conv=>whnf
   try refine oB ?_
   (try refine gR ?_);conv=>whnf
   repeat ((first|refine oM ?_|refine oL ?_|refine oR ?_|refine oB ?_);(try intro _);conv=>whnf)
   (try refine gS ?_);conv=>whnf
   repeat ((first|refine oM ?_|refine oL ?_|refine oR ?_);(try intro _);conv=>whnf)
   refine RunsS.subR [] (back ((runE src notLf pos,l)) (by exact (⟨by dsimp only;omega,hJ.2.trans (lexG_some hP hs0)⟩)) (by (try dsimp only);omega)) sH sH
  simp only [signO,if_neg hcm] at C
  have hs0:stepL src pos l=some (pos+1,l++[⟨3,pos,src.extract pos (pos+1),0⟩]):=by simp only [stepL,←hcc,hq,if_neg hcm];rfl
  have hok:=stepL_ok hP hs0
  (try refine gR ?_);conv=>whnf
  repeat ((first|refine oM ?_|refine oL ?_|refine oR ?_|refine oB ?_);(try intro _);conv=>whnf)
  (try refine gS ?_);conv=>whnf
  repeat ((first|refine oM ?_|refine oL ?_|refine oR ?_);(try intro _);conv=>whnf)
  refine EffR.callN (C) [3,4] ?_ sH ?CNa13
  case CNa13=>rfl
  intro _ _
  conv=>whnf
  try refine oB ?_
  (try refine gR ?_);conv=>whnf
  repeat ((first|refine oM ?_|refine oL ?_|refine oR ?_|refine oB ?_);(try intro _);conv=>whnf)
  (try refine gS ?_);conv=>whnf
  repeat ((first|refine oM ?_|refine oL ?_|refine oR ?_);(try intro _);conv=>whnf)
  refine RunsS.subR [(4,5)] (back ((pos+1,l++[⟨3,pos,src.extract pos (pos+1),0⟩])) (by exact (⟨by dsimp only;omega,hJ.2.trans (lexG_some hP hs0)⟩)) (by (try dsimp only);omega)) sH sH
 conv=>whnf
 repeat ((first|refine oM ?_|refine oL ?_|refine oR ?_);(try intro _);conv=>whnf)
 have hend:lexG src pos l=.inl l:=by
  unfold lexG
  rw [dif_neg (by omega)]
 rw [hJ.2,hend] at ho
 subst ho
 refine RunsS.retU ?_
 refine UnwS.deferN lexDN_fn [0,1,2] ?_ trivial rfl (fun e=>by cases e)
 intro _ _
 conv=>whnf
 refine UnwS.ret tab Tryz.func19 rfl (EndS.mk () trivial [(0,4)] (by exact ⟨by rfl,trivial⟩) rfl rfl (okRet rfl rfl))

theorem cls2 (c:Nat):cls c=2↔(97≤c∧c≤122)∨(65≤c∧c≤90):=by
 unfold cls;repeat' split
 all_goals omega
theorem cls3 (c:Nat):cls c=3↔(48≤c∧c≤57):=by
 unfold cls;repeat' split
 all_goals omega
theorem cls1 (c:Nat):cls c=1↔(c=32∨c=9∨c=10∨c=13):=by
 unfold cls;repeat' split
 all_goals omega
theorem cls4 (c:Nat):cls c=4↔c ∈ [123,125,40,41,44,59,61,35,47,60,33,45,46,58,43]:=by
 unfold cls
 simp only [List.mem_cons,List.not_mem_nil,or_false]
 repeat' split
 all_goals omega
theorem nmC_iff (c:Nat):nmC c=true↔(cls c=2∨cls c=3∨c=95):=by
 simp only [nmC,inRun,Bool.or_eq_true,decide_eq_true_eq]
 omega
theorem dgC_iff (c:Nat):dgC c=true↔cls c=3:=by
 simp only [dgC,inRun,Bool.or_eq_true,decide_eq_true_eq,cls3]
 omega
theorem rLetter_fn {h:Array Obj} (c:Nat):FnV Tryz.prog 83 #[.int .u8 c] h fun r h'=>r=.bool (decide (cls c=2))∧Keeps h.size h h':=by
 refine Fn.ofS (args:=[.int .u8 c]) Tryz.func83 (by kernel_rfl) rfl Tryz.ntmps83 rfl fun w0 cs=>?_
 conv=>whnf
 refine gS ?_;conv=>whnf
 repeat ((first|refine oM ?_|refine oL ?_|refine oR ?_);(try intro _);conv=>whnf)
 repeat' (refine And.intro (fun hs=>?_) (fun hs=>?_)<;>(conv=>whnf))
 all_goals (
  refine RunsS.retU (UnwS.ret tab Tryz.func83 rfl fun Ez Hz Az Sz K=>⟨_,rfl,?_,K.keeps⟩)
  first|exact congrArg Value.bool (decide_eq_true ((cls2 c).2 (by omega))).symm|exact congrArg Value.bool (decide_eq_false (fun e=>by have:=(cls2 c).1 e;omega)).symm|exact congrArg Value.bool (decide_eq_decide.2 ((cls2 c).trans (by omega)).symm))
theorem rFigure_fn {h:Array Obj} (c:Nat):FnV Tryz.prog 86 #[.int .u8 c] h fun r h'=>r=.bool (decide (cls c=3))∧Keeps h.size h h':=by
 refine Fn.ofS (args:=[.int .u8 c]) Tryz.func86 (by kernel_rfl) rfl Tryz.ntmps86 rfl fun w0 cs=>?_
 conv=>whnf
 refine gS ?_;conv=>whnf
 repeat ((first|refine oM ?_|refine oL ?_|refine oR ?_);(try intro _);conv=>whnf)
 repeat' (refine And.intro (fun hs=>?_) (fun hs=>?_)<;>(conv=>whnf))
 all_goals (
  refine RunsS.retU (UnwS.ret tab Tryz.func86 rfl fun Ez Hz Az Sz K=>⟨_,rfl,?_,K.keeps⟩)
  first|exact congrArg Value.bool (decide_eq_true ((cls3 c).2 (by omega))).symm|exact congrArg Value.bool (decide_eq_false (fun e=>by have:=(cls3 c).1 e;omega)).symm|exact congrArg Value.bool (decide_eq_decide.2 ((cls3 c).trans (by omega)).symm))
theorem rSpace_fn {h:Array Obj} (c:Nat):FnV Tryz.prog 82 #[.int .u8 c] h fun r h'=>r=.bool (decide (cls c=1))∧Keeps h.size h h':=by
 refine Fn.ofS (args:=[.int .u8 c]) Tryz.func82 (by kernel_rfl) rfl Tryz.ntmps82 rfl fun w0 cs=>?_
 conv=>whnf
 refine gS ?_;conv=>whnf
 repeat ((first|refine oM ?_|refine oL ?_|refine oR ?_);(try intro _);conv=>whnf)
 repeat' (refine And.intro (fun hs=>?_) (fun hs=>?_)<;>(conv=>whnf))
 all_goals (
  refine RunsS.retU (UnwS.ret tab Tryz.func82 rfl fun Ez Hz Az Sz K=>⟨_,rfl,?_,K.keeps⟩)
  first|exact congrArg Value.bool (decide_eq_true ((cls1 c).2 (by omega))).symm|exact congrArg Value.bool (decide_eq_false (fun e=>by have:=(cls1 c).1 e;omega)).symm|exact congrArg Value.bool (decide_eq_decide.2 ((cls1 c).trans (by omega)).symm))
theorem rPart_fn {h:Array Obj} (c:Nat):FnV Tryz.prog 84 #[.int .u8 c] h fun r h'=>r=.bool (nmC c)∧Keeps h.size h h':=by
 refine Fn.ofS (args:=[.int .u8 c]) Tryz.func84 (by kernel_rfl) rfl Tryz.ntmps84 rfl fun w0 cs=>?_
 conv=>whnf
 refine gS ?_;conv=>whnf
 repeat ((first|refine oM ?_|refine oL ?_|refine oR ?_);(try intro _);conv=>whnf)
 by_cases h2:cls c=2
 ·refine RunsS.callV (fun Ez Hz Az Sz K=>rLetter_fn c) ?_
  conv=>whnf
  rw [decide_eq_true h2]
  try dsimp only
  (try refine gS ?_);conv=>whnf
  repeat ((first|refine oM ?_|refine oL ?_|refine oR ?_);(try intro _);conv=>whnf)
  refine RunsS.retU (UnwS.ret tab Tryz.func84 rfl fun Ez Hz Az Sz K=>⟨_,rfl,?_,K.keeps⟩)
  exact congrArg Value.bool ((nmC_iff c).2 (.inl h2)).symm
 refine RunsS.callV (fun Ez Hz Az Sz K=>rLetter_fn c) ?_
 conv=>whnf
 rw [decide_eq_false h2]
 try dsimp only
 (try refine gS ?_);conv=>whnf
 repeat ((first|refine oM ?_|refine oL ?_|refine oR ?_);(try intro _);conv=>whnf)
 by_cases h3:cls c=3
 ·refine RunsS.callV (fun Ez Hz Az Sz K=>rFigure_fn c) ?_
  conv=>whnf
  rw [decide_eq_true h3]
  try dsimp only
  (try refine gS ?_);conv=>whnf
  repeat ((first|refine oM ?_|refine oL ?_|refine oR ?_);(try intro _);conv=>whnf)
  refine RunsS.retU (UnwS.ret tab Tryz.func84 rfl fun Ez Hz Az Sz K=>⟨_,rfl,?_,K.keeps⟩)
  exact congrArg Value.bool ((nmC_iff c).2 (.inr (.inl h3))).symm
 refine RunsS.callV (fun Ez Hz Az Sz K=>rFigure_fn c) ?_
 conv=>whnf
 rw [decide_eq_false h3]
 try dsimp only
 (try refine gS ?_);conv=>whnf
 repeat ((first|refine oM ?_|refine oL ?_|refine oR ?_);(try intro _);conv=>whnf)
 refine RunsS.retU (UnwS.ret tab Tryz.func84 rfl fun Ez Hz Az Sz K=>⟨_,rfl,?_,K.keeps⟩)
 refine congrArg Value.bool ?_
 cases hn:nmC c with
 |true=>
  have:=(nmC_iff c).1 hn
  exact decide_eq_true (by omega)
 |false=>
  exact decide_eq_false (fun e=>by
   have:=(nmC_iff c).2 (.inr (.inr (by omega)))
   rw [hn] at this;cases this)
abbrev signB:ByteArray:=⟨#[123,125,40,41,59,44,61,35,47,60,33,45,46,58,43]⟩
theorem sign_get:(∀j,j<15→cls (byteAt signB j)=4)∧(∀c,c ∈ [123,125,40,41,44,59,61,35,47,60,33,45,46,58,43] → ∃j,j<15∧byteAt signB j=c):=by decide
theorem rSign_fn {h:Array Obj} (c:Nat):FnV Tryz.prog 88 #[.int .u8 c] h fun r h'=>r=.bool (decide (cls c=4))∧Keeps h.size h h':=by
 refine Fn.ofS (args:=[.int .u8 c]) Tryz.func88 (by kernel_rfl) rfl Tryz.ntmps88 rfl fun w0 cs=>?_
 conv=>whnf
 refine gS ?_;conv=>whnf
 repeat ((first|refine oM ?_|refine oL ?_|refine oR ?_);(try intro _);conv=>whnf)
 refine RunsS.subR [] (RunsS.loop (fun (i:Nat)=>[(4,.v (.int .i64 i)),(3,.v (.string signB)),(0,.v (.int .u8 c))]) (fun (i:Nat)=>[]) 0 (fun (i:Nat)=>i≤15 ∧ ∀j,j<i→byteAt signB j≠c) (fun (i:Nat)=>15 - i) ?round1 (0) ?J01) sH sH
 case J01=>exact (⟨Nat.zero_le _,fun _ h=>absurd h (Nat.not_lt_zero _)⟩)
 rintro i hJ back
 try dsimp only at hJ back
 conv=>whnf
 try dsimp only
 refine gS ?_;conv=>whnf
 repeat ((first|refine oM ?_|refine oL ?_|refine oR ?_);(try intro _);conv=>whnf)
 refine ⟨fun hk=>?_,fun hk=>?_⟩<;>conv=>whnf
 ·conv=>whnf
  repeat ((first|refine oM ?_|refine oL ?_|refine oR ?_);(try intro _);conv=>whnf)
  have hi:i<15:=by
   have:signB.size=15:=rfl
   omega
  refine ⟨fun hx=>?_,fun hx=>?_⟩<;>conv=>whnf
  ·conv=>whnf
   repeat ((first|refine oM ?_|refine oL ?_|refine oR ?_);(try intro _);conv=>whnf)
   refine RunsS.retU (UnwS.ret tab Tryz.func88 rfl fun Ez Hz Az Sz K=>⟨_,rfl,?_,K.keeps⟩)
   have hx':byteAt signB i=c:=by exact_mod_cast hx
   exact congrArg Value.bool (decide_eq_true (hx'▸sign_get.1 i hi)).symm
  conv=>whnf
  repeat ((first|refine oM ?_|refine oL ?_|refine oR ?_);(try intro _);conv=>whnf)
  have hx':byteAt signB i≠c:=fun e=>hx (by exact_mod_cast e)
  refine RunsS.subR [] (back (i+1) (by exact (⟨hi,fun j hj=>(Nat.lt_succ_iff_lt_or_eq.1 hj).elim (hJ.2 j) (fun e=>e▸hx')⟩)) (by (try dsimp only);omega)) sH sH
 conv=>whnf
 repeat ((first|refine oM ?_|refine oL ?_|refine oR ?_);(try intro _);conv=>whnf)
 refine RunsS.retU (UnwS.ret tab Tryz.func88 rfl fun Ez Hz Az Sz K=>⟨_,rfl,?_,K.keeps⟩)
 have hi:i=15:=by
  have:signB.size=15:=rfl
  omega
 refine congrArg Value.bool (decide_eq_false fun e=>?_).symm
 obtain ⟨j,h1,h2⟩:=sign_get.2 c ((cls4 c).1 e)
 exact hJ.2 j (by omega) h2
abbrev NameP (s:ByteArray):Prop:=(1≤s.size∧s.size≤32)∧cls (byteAt s 0)=2 ∧ ∀i,i<s.size→nmC (byteAt s i)=true
theorem rName_fn {h:Array Obj} (s:ByteArray):FnV Tryz.prog 85 #[.string s] h fun r h'=>r=.bool (decide (NameP s))∧Keeps h.size h h':=by
 refine Fn.ofS (args:=[.string s]) Tryz.func85 (by kernel_rfl) rfl Tryz.ntmps85 rfl fun w0 cs=>?_
 conv=>whnf
 refine gS ?_;conv=>whnf
 repeat ((first|refine oM ?_|refine oL ?_|refine oR ?_);(try intro _);conv=>whnf)
 refine ⟨fun h1=>?_,fun h1=>?_⟩<;>conv=>whnf
 ·conv=>whnf
  repeat ((first|refine oM ?_|refine oL ?_|refine oR ?_);(try intro _);conv=>whnf)
  refine RunsS.retU (UnwS.ret tab Tryz.func85 rfl fun Ez Hz Az Sz K=>⟨_,rfl,?_,K.keeps⟩)
  exact congrArg Value.bool (decide_eq_false fun e=>by have:=e.1;omega).symm
 conv=>whnf
 repeat ((first|refine oM ?_|refine oL ?_|refine oR ?_);(try intro _);conv=>whnf)
 refine ⟨fun h2=>?_,fun h2=>?_⟩<;>conv=>whnf
 ·conv=>whnf
  repeat ((first|refine oM ?_|refine oL ?_|refine oR ?_);(try intro _);conv=>whnf)
  refine RunsS.retU (UnwS.ret tab Tryz.func85 rfl fun Ez Hz Az Sz K=>⟨_,rfl,?_,K.keeps⟩)
  exact congrArg Value.bool (decide_eq_false fun e=>by have:=e.1;omega).symm
 conv=>whnf
 repeat ((first|refine oM ?_|refine oL ?_|refine oR ?_);(try intro _);conv=>whnf)
 by_cases h3:cls (byteAt s 0)=2
 ·refine RunsS.callV (fun Ez Hz Az Sz K=>rLetter_fn (byteAt s 0)) ?_
  conv=>whnf
  rw [decide_eq_true h3]
  try dsimp only
  (try refine gS ?_);conv=>whnf
  repeat ((first|refine oM ?_|refine oL ?_|refine oR ?_);(try intro _);conv=>whnf)
  refine RunsS.subR [] (RunsS.loop (fun (i:Nat)=>[(3,.v (.int .i64 i)),(0,.v (.string s))]) (fun (i:Nat)=>[]) 0 (fun (i:Nat)=>i≤s.size ∧ ∀j,j<i→nmC (byteAt s j)=true) (fun (i:Nat)=>s.size - i) ?round3 (0) ?J03) sH sH
  case J03=>exact (⟨Nat.zero_le _,fun _ h=>absurd h (Nat.not_lt_zero _)⟩)
  rintro i hJ back
  try dsimp only at hJ back
  conv=>whnf
  try dsimp only
  refine gS ?_;conv=>whnf
  repeat ((first|refine oM ?_|refine oL ?_|refine oR ?_);(try intro _);conv=>whnf)
  refine ⟨fun hk=>?_,fun hk=>?_⟩<;>conv=>whnf
  ·conv=>whnf
   repeat ((first|refine oM ?_|refine oL ?_|refine oR ?_);(try intro _);conv=>whnf)
   by_cases h4:nmC (byteAt s i)=true
   ·refine RunsS.callV (fun Ez Hz Az Sz K=>rPart_fn (byteAt s i)) ?_
    conv=>whnf
    rw [h4]
    try dsimp only
    (try refine gS ?_);conv=>whnf
    repeat ((first|refine oM ?_|refine oL ?_|refine oR ?_);(try intro _);conv=>whnf)
    refine RunsS.subR [] (back (i+1) (by exact (⟨by omega,fun j hj=>(Nat.lt_succ_iff_lt_or_eq.1 hj).elim (hJ.2 j) (fun e=>e▸h4)⟩)) (by (try dsimp only);omega)) sH sH
   refine RunsS.callV (fun Ez Hz Az Sz K=>rPart_fn (byteAt s i)) ?_
   conv=>whnf
   rw [Bool.eq_false_iff.2 h4]
   try dsimp only
   (try refine gS ?_);conv=>whnf
   repeat ((first|refine oM ?_|refine oL ?_|refine oR ?_);(try intro _);conv=>whnf)
   refine RunsS.retU (UnwS.ret tab Tryz.func85 rfl fun Ez Hz Az Sz K=>⟨_,rfl,?_,K.keeps⟩)
   exact congrArg Value.bool (decide_eq_false fun e=>h4 (e.2.2 i (by omega))).symm
  conv=>whnf
  repeat ((first|refine oM ?_|refine oL ?_|refine oR ?_);(try intro _);conv=>whnf)
  refine RunsS.retU (UnwS.ret tab Tryz.func85 rfl fun Ez Hz Az Sz K=>⟨_,rfl,?_,K.keeps⟩)
  exact congrArg Value.bool (decide_eq_true (⟨by omega,h3,fun j hj=>hJ.2 j (by omega)⟩:NameP s)).symm
 refine RunsS.callV (fun Ez Hz Az Sz K=>rLetter_fn (byteAt s 0)) ?_
 conv=>whnf
 rw [decide_eq_false h3]
 try dsimp only
 (try refine gS ?_);conv=>whnf
 repeat ((first|refine oM ?_|refine oL ?_|refine oR ?_);(try intro _);conv=>whnf)
 refine RunsS.retU (UnwS.ret tab Tryz.func85 rfl fun Ez Hz Az Sz K=>⟨_,rfl,?_,K.keeps⟩)
 exact congrArg Value.bool (decide_eq_false fun e=>h3 e.2.1).symm
theorem rNumber_fn {h:Array Obj} (s:ByteArray) (hs:0<s.size∧s.size≤65536) (hd:∀i,i<s.size→48≤byteAt s i∧byteAt s i≤57):FnV Tryz.prog 87 #[.string s] h fun r h'=>r=(match numL (bs s) 0 with|none=>.tuple #[.int .i64 0,.bool false]|some n=>.tuple #[.int .i64 n,.bool (decide (s.size=1∨byteAt s 0≠48))])∧Keeps h.size h h':=by
 refine Fn.ofS (args:=[.string s]) Tryz.func87 (by kernel_rfl) rfl Tryz.ntmps87 rfl fun w0 cs=>?_
 conv=>whnf
 refine gS ?_;conv=>whnf
 repeat ((first|refine oM ?_|refine oL ?_|refine oR ?_);(try intro _);conv=>whnf)
 refine RunsS.subR [] (RunsS.loop (fun (⟨i,a⟩:Nat×Nat)=>[(5,.v (.int .i64 i)),(4,.v (.int .i64 a)),(0,.v (.string s))]) (fun (⟨i,a⟩:Nat×Nat)=>[]) 0 (fun (⟨i,a⟩:Nat×Nat)=>(i≤s.size∧a≤1099511627776)∧numL (bs s) 0=numL ((bs s).drop i) a) (fun (⟨i,a⟩:Nat×Nat)=>s.size - i) ?round5 ((0,0)) ?J05) sH sH
 case J05=>exact (⟨⟨Nat.zero_le _,Nat.zero_le _⟩,rfl⟩)
 rintro ⟨i,a⟩ hJ back
 try dsimp only at hJ back
 conv=>whnf
 try dsimp only
 refine gS ?_;conv=>whnf
 repeat ((first|refine oM ?_|refine oL ?_|refine oR ?_);(try intro _);conv=>whnf)
 refine ⟨fun hk=>?_,fun hk=>?_⟩<;>conv=>whnf
 ·obtain ⟨c,e1,e2⟩:=bs_drop (s:=s) (i:=i) (by omega)
  have hdi:=hd i (by omega)
  have hm:10*(a:Int)+(((byteAt s i:Nat):Int) - 48)%256=((10*a+(byteAt s i - 48):Nat):Int):=by omega
  obtain ⟨x,hx⟩:∃x,x=byteAt s ((i:Int)).toNat:=⟨_,rfl⟩
  have hx':byteAt s i=x:=hx.symm
  rw [hx'] at hm hdi
  rw [hx'] at e2
  conv=>whnf
  repeat ((first|refine oM ?_|refine oL ?_|refine oR ?_);(try intro _);conv=>whnf)
  rw [←hx]
  conv=>whnf
  repeat ((first|refine oM ?_|refine oL ?_|refine oR ?_);(try intro _);conv=>whnf)
  rw [hm]
  refine ⟨fun hg=>?_,fun hg=>?_⟩<;>conv=>whnf
  ·conv=>whnf
   repeat ((first|refine oM ?_|refine oL ?_|refine oR ?_);(try intro _);conv=>whnf)
   have hn:numL (bs s) 0=none:=by
    rw [hJ.2,e1]
    simp only [numL,e2]
    rw [if_neg (by omega)]
   rw [hn]
   refine RunsS.retU (UnwS.ret tab Tryz.func87 rfl fun _ _ _ _ K=>⟨_,rfl,rfl,K.keeps⟩)
  conv=>whnf
  repeat ((first|refine oM ?_|refine oL ?_|refine oR ?_);(try intro _);conv=>whnf)
  refine RunsS.subR [] (back ((i+1,10*a+(x - 48))) (by exact (⟨by dsimp only;omega,by rw [hJ.2,e1];simp only [numL,e2];rw [if_pos (by omega)]⟩)) (by (try dsimp only);omega)) sH sH
 conv=>whnf
 repeat ((first|refine oM ?_|refine oL ?_|refine oR ?_);(try intro _);conv=>whnf)
 have hn:numL (bs s) 0=some a:=by
  rw [hJ.2,List.drop_eq_nil_of_le (by rw [bs_len];omega)];rfl
 rw [hn]
 refine RunsS.held tab (.fl 0 (.fl 1 (.fl 2 (.fl 3 (.fl 4 (.fl 5 (.fl 6 (.fl 7 (.fl 8 (.fl 9 (.fl 10 .done))))))))))) (by kernel_rfl) ?_;conv=>whnf
 (try refine gR ?_);conv=>whnf
 repeat ((first|refine oM ?_|refine oL ?_|refine oR ?_|refine oB ?_);(try intro _);conv=>whnf)
 (try refine gS ?_);conv=>whnf
 repeat ((first|refine oM ?_|refine oL ?_|refine oR ?_);(try intro _);conv=>whnf)
 refine ⟨fun h1=>?_,fun h1=>?_⟩<;>conv=>whnf
 ·try refine gR ?_
  conv=>whnf
  repeat ((first|refine oM ?_|refine oL ?_|refine oR ?_|refine oB ?_);(try intro _);conv=>whnf)
  (try refine gS ?_);conv=>whnf
  repeat ((first|refine oM ?_|refine oL ?_|refine oR ?_);(try intro _);conv=>whnf)
  refine RunsS.retU (UnwS.ret tab Tryz.func87 rfl fun Ez Hz Az Sz K=>⟨_,rfl,?_,K.keeps⟩)
  simp [show s.size=1 by omega]
  rfl
 (try refine gR ?_);conv=>whnf
 repeat ((first|refine oM ?_|refine oL ?_|refine oR ?_|refine oB ?_);(try intro _);conv=>whnf)
 (try refine gS ?_);conv=>whnf
 repeat ((first|refine oM ?_|refine oL ?_|refine oR ?_);(try intro _);conv=>whnf)
 refine RunsS.retU (UnwS.ret tab Tryz.func87 rfl fun Ez Hz Az Sz K=>⟨_,rfl,?_,K.keeps⟩)
 have h1':s.size≠1:=by omega
 have:((byteAt s 0:Nat):Int)=48↔byteAt s 0=48:=by omega
 simp [h1',this]
 rfl

theorem byteAt_ex (s:ByteArray) {lo hi i:Nat} (hh:hi≤s.size) (h:lo+i<hi):byteAt (s.extract lo hi) i=byteAt s (lo+i):=by
 unfold byteAt
 have e:(s.extract lo hi).data.toList=((bs s).take hi).drop lo:=bs_extract s lo hi
 rw [e]
 simp only [List.getD_eq_getElem?_getD,List.getElem?_drop,List.getElem?_take,if_pos h]
theorem size_ex (s:ByteArray) {lo hi:Nat} (hh:hi≤s.size):(s.extract lo hi).size=hi - lo:=by
 rw [←bs_len,bs_extract]
 simp [bs_len,Nat.min_eq_left hh]
theorem comm_iff (src:ByteArray) (pos:Nat) (hp:pos<src.size):comm src pos↔(byteAt src pos=47∧pos+1<src.size∧byteAt src (pos+1)=47):=by
 unfold comm
 rw [size_ex src (Nat.le_refl _)]
 have hz:(⟨#[47,47]⟩:ByteArray).size=2:=rfl
 rw [hz]
 constructor
 ·rintro ⟨h1,h2⟩
  have b0:=congrArg (byteAt · 0) h2
  have b1:=congrArg (byteAt · 1) h2
  rw [byteAt_ex _ (by rw [size_ex src (Nat.le_refl _)];exact h1) (by omega),byteAt_ex _ (Nat.le_refl _) (by omega)] at b0 b1
  exact ⟨b0,by omega,b1⟩
 rintro ⟨h1,h2,h3⟩
 refine ⟨by omega,?_⟩
 rw [←toArray_ext (ByteArray.extract _ _ _),bs_extract,bs_extract]
 obtain ⟨c,e1,e2⟩:=bs_drop hp
 obtain ⟨d,e3,e4⟩:=bs_drop h2
 have ht:List.take src.size (bs src)=bs src:=List.take_of_length_le (by rw [bs_len];exact Nat.le_refl _)
 rw [ht,e1,e3]
 have hc:c=47:=UInt8.toNat_inj.1 (by rw [e2,h1];rfl)
 have hd:d=47:=UInt8.toNat_inj.1 (by rw [e4,h3];rfl)
 rw [hc,hd]
 rfl
theorem app_row (l:List Tok) (a b:Int) (t:ByteArray) (n:Int):l.map Tok.row++chunk 4 1 [Value.int .i64 a,.int .i64 b,.string t,.int .i64 n]=(l++[(⟨a,b,t,n⟩:Tok)]).map Tok.row:=by rw [List.map_append];rfl
theorem rlex_fn (src:ByteArray) (hs:src.size≤65536):FnS Tryz.prog 25 0 [.v (.string src)] [] (fun _:Unit=>True) (fun _=>lexO src):=by
 obtain ⟨o,ho⟩:∃o,o=lexO src:=⟨_,rfl⟩
 rw [←ho]
 unfold lexO lexA at ho
 refine FnS.of Tryz.func25 (by kernel_rfl) rfl Tryz.ntmps25 rfl fun E0 F h w0 cs=>?_
 conv=>whnf
 refine gS ?_;conv=>whnf
 repeat ((first|refine oM ?_|refine oL ?_|refine oR ?_);(try intro _);conv=>whnf)
 refine RunsS.subR [] (RunsS.loop (fun (⟨pos,l⟩:Nat×List Tok)=>[(6,.v (.int .i64 pos)),(5,.buf 0),(0,.v (.string src))]) (fun (⟨pos,l⟩:Nat×List Tok)=>[toksB l 0]) 1 (fun (⟨pos,l⟩:Nat×List Tok)=>(pos≤src.size∧l.length≤pos)∧lexG src 0 []=lexG src pos l) (fun (⟨pos,l⟩:Nat×List Tok)=>src.size - pos) ?round1 ((0,[])) ?J01) sH sH
 case J01=>exact (⟨by exact ⟨Nat.zero_le _,Nat.zero_le _⟩,rfl⟩)
 rintro ⟨pos,l⟩ hJ back
 try dsimp only at hJ back
 conv=>whnf
 try dsimp only
 refine gS ?_;conv=>whnf
 repeat ((first|refine oM ?_|refine oL ?_|refine oR ?_);(try intro _);conv=>whnf)
 refine ⟨fun hk=>?_,fun hk=>?_⟩<;>conv=>whnf
 ·have hP:pos<src.size:=by omega
  conv=>whnf
  repeat ((first|refine oM ?_|refine oL ?_|refine oR ?_);(try intro _);conv=>whnf)
  by_cases h1:cls (byteAt src pos)=1
  ·refine RunsS.callV (fun Ez Hz Az Sz K=>rSpace_fn (byteAt src pos)) ?_
   conv=>whnf
   rw [decide_eq_true h1]
   try dsimp only
   (try refine gS ?_);conv=>whnf
   repeat ((first|refine oM ?_|refine oL ?_|refine oR ?_);(try intro _);conv=>whnf)
   have hs0:stepL src pos l=some (pos+1,l):=by simp [stepL,h1]
   refine RunsS.subR [] (back ((pos+1,l)) (by exact (⟨by dsimp only;omega,hJ.2.trans (lexG_some hP hs0)⟩)) (by (try dsimp only);omega)) sH sH
  refine RunsS.callV (fun Ez Hz Az Sz K=>rSpace_fn (byteAt src pos)) ?_
  conv=>whnf
  rw [decide_eq_false h1]
  try dsimp only
  (try refine gS ?_);conv=>whnf
  repeat ((first|refine oM ?_|refine oL ?_|refine oR ?_);(try intro _);conv=>whnf)
  refine ⟨fun ha=>?_,fun ha=>?_⟩<;>conv=>whnf
  ·have h4:cls (byteAt src pos)=4:=by rw [show byteAt src pos=47 by exact_mod_cast ha];decide
   conv=>whnf
   repeat ((first|refine oM ?_|refine oL ?_|refine oR ?_);(try intro _);conv=>whnf)
   refine ⟨fun hb=>?_,fun hb=>?_⟩<;>conv=>whnf
   ·conv=>whnf
    repeat ((first|refine oM ?_|refine oL ?_|refine oR ?_);(try intro _);conv=>whnf)
    refine ⟨fun hc=>?_,fun hc=>?_⟩<;>conv=>whnf
    ·have hcm:comm src pos:=(comm_iff src pos hP).2 ⟨by exact_mod_cast ha,by omega,by exact_mod_cast hc⟩
     have hs0:stepL src pos l=some (runE src notLf pos,l):=by simp only [stepL,h4,if_pos hcm];rfl
     have hok:=stepL_ok hP hs0
     have back0:=back
     have hJ0:=hJ
     conv=>whnf
     repeat ((first|refine oM ?_|refine oL ?_|refine oR ?_);(try intro _);conv=>whnf)
     refine RunsS.subR [] (RunsS.loop (fun (i:Nat)=>[(6,.v (.int .i64 i)),(5,.buf 0),(0,.v (.string src))]) (fun (i:Nat)=>[toksB l 0]) 1 (fun (i:Nat)=>(pos≤i∧i≤src.size)∧runE src notLf pos=runE src notLf i) (fun (i:Nat)=>src.size - i) ?round3 (pos) ?J03) sH sH
     case J03=>exact (⟨by omega,rfl⟩)
     rintro i hJ back
     try dsimp only at hJ back
     conv=>whnf
     try dsimp only
     refine gS ?_;conv=>whnf
     repeat ((first|refine oM ?_|refine oL ?_|refine oR ?_);(try intro _);conv=>whnf)
     refine ⟨fun hi=>?_,fun hi=>?_⟩<;>conv=>whnf
     ·conv=>whnf
      repeat ((first|refine oM ?_|refine oL ?_|refine oR ?_);(try intro _);conv=>whnf)
      refine ⟨fun hx=>?_,fun hx=>?_⟩<;>conv=>whnf
      ·conv=>whnf
       repeat ((first|refine oM ?_|refine oL ?_|refine oR ?_);(try intro _);conv=>whnf)
       have hx':byteAt src i=10:=by exact_mod_cast hx
       have hn:runE src notLf pos=i:=by
        rw [hJ.2]
        unfold runE
        rw [dif_pos (by omega),hx'];rfl
       have back:=back0
       rw [hn] at hs0 hok
       refine RunsS.subR [] (back ((i,l)) (by exact (⟨by dsimp only;omega,hJ0.2.trans (lexG_some hP hs0)⟩)) (by (try dsimp only);omega)) sH sH
      conv=>whnf
      repeat ((first|refine oM ?_|refine oL ?_|refine oR ?_);(try intro _);conv=>whnf)
      have hx':¬byteAt src i=10:=fun e=>hx (by exact_mod_cast e)
      have hn:runE src notLf pos=runE src notLf (i+1):=by
       rw [hJ.2]
       conv=>lhs;unfold runE
       rw [dif_pos (by omega),if_pos (by simp [notLf,hx'])]
      refine RunsS.subR [] (back (i+1) (by exact (⟨by omega,hn⟩)) (by (try dsimp only);omega)) sH sH
     conv=>whnf
     repeat ((first|refine oM ?_|refine oL ?_|refine oR ?_);(try intro _);conv=>whnf)
     have hn:runE src notLf pos=i:=by
      rw [hJ.2]
      unfold runE
      rw [dif_neg (by omega)]
     have back:=back0
     rw [hn] at hs0 hok
     refine RunsS.subR [] (back ((i,l)) (by exact (⟨by dsimp only;omega,hJ0.2.trans (lexG_some hP hs0)⟩)) (by (try dsimp only);omega)) sH sH
    have hcm:¬comm src pos:=fun e=>hc (by have:=((comm_iff src pos hP).1 e).2.2;exact_mod_cast this)
    conv=>whnf
    repeat ((first|refine oM ?_|refine oL ?_|refine oR ?_);(try intro _);conv=>whnf)
    have hs0:stepL src pos l=some (pos+1,l++[⟨3,pos,src.extract pos (pos+1),0⟩]):=by simp only [stepL,h4,if_neg hcm];rfl
    have hok:=stepL_ok hP hs0
    refine RunsS.callV (fun Ez Hz Az Sz K=>rLetter_fn (byteAt src pos)) ?_
    conv=>whnf
    rw [decide_eq_false (by omega)]
    try dsimp only
    (try refine gS ?_);conv=>whnf
    repeat ((first|refine oM ?_|refine oL ?_|refine oR ?_);(try intro _);conv=>whnf)
    refine RunsS.callV (fun Ez Hz Az Sz K=>rFigure_fn (byteAt src pos)) ?_
    conv=>whnf
    rw [decide_eq_false (by omega)]
    try dsimp only
    (try refine gS ?_);conv=>whnf
    repeat ((first|refine oM ?_|refine oL ?_|refine oR ?_);(try intro _);conv=>whnf)
    refine RunsS.callV (fun Ez Hz Az Sz K=>rSign_fn (byteAt src pos)) ?_
    conv=>whnf
    rw [decide_eq_true h4]
    try dsimp only
    (try refine gS ?_);conv=>whnf
    repeat ((first|refine oM ?_|refine oL ?_|refine oR ?_);(try intro _);conv=>whnf)
    refine And.intro (appOb (by rw [List.length_map];omega)) ?_;conv=>whnf
    (try refine gS ?_);conv=>whnf
    repeat ((first|refine oM ?_|refine oL ?_|refine oR ?_);(try intro _);conv=>whnf)
    refine RunsS.rowsEq (2) (app_row l 3 pos (src.extract pos (pos+1)) 0) ?_;conv=>whnf
    refine RunsS.subR [(0,2)] (back ((pos+1,l++[⟨3,pos,src.extract pos (pos+1),0⟩])) (by exact (⟨by dsimp only;omega,hJ.2.trans (lexG_some hP hs0)⟩)) (by (try dsimp only);omega)) sH sH
   have hcm:¬comm src pos:=fun e=>hb (by have:=((comm_iff src pos hP).1 e).2.1;omega)
   conv=>whnf
   repeat ((first|refine oM ?_|refine oL ?_|refine oR ?_);(try intro _);conv=>whnf)
   have hs0:stepL src pos l=some (pos+1,l++[⟨3,pos,src.extract pos (pos+1),0⟩]):=by simp only [stepL,h4,if_neg hcm];rfl
   have hok:=stepL_ok hP hs0
   refine RunsS.callV (fun Ez Hz Az Sz K=>rLetter_fn (byteAt src pos)) ?_
   conv=>whnf
   rw [decide_eq_false (by omega)]
   try dsimp only
   (try refine gS ?_);conv=>whnf
   repeat ((first|refine oM ?_|refine oL ?_|refine oR ?_);(try intro _);conv=>whnf)
   refine RunsS.callV (fun Ez Hz Az Sz K=>rFigure_fn (byteAt src pos)) ?_
   conv=>whnf
   rw [decide_eq_false (by omega)]
   try dsimp only
   (try refine gS ?_);conv=>whnf
   repeat ((first|refine oM ?_|refine oL ?_|refine oR ?_);(try intro _);conv=>whnf)
   refine RunsS.callV (fun Ez Hz Az Sz K=>rSign_fn (byteAt src pos)) ?_
   conv=>whnf
   rw [decide_eq_true h4]
   try dsimp only
   (try refine gS ?_);conv=>whnf
   repeat ((first|refine oM ?_|refine oL ?_|refine oR ?_);(try intro _);conv=>whnf)
   refine And.intro (appOb (by rw [List.length_map];omega)) ?_;conv=>whnf
   (try refine gS ?_);conv=>whnf
   repeat ((first|refine oM ?_|refine oL ?_|refine oR ?_);(try intro _);conv=>whnf)
   refine RunsS.rowsEq (2) (app_row l 3 pos (src.extract pos (pos+1)) 0) ?_;conv=>whnf
   refine RunsS.subR [(0,2)] (back ((pos+1,l++[⟨3,pos,src.extract pos (pos+1),0⟩])) (by exact (⟨by dsimp only;omega,hJ.2.trans (lexG_some hP hs0)⟩)) (by (try dsimp only);omega)) sH sH
  have ha':byteAt src pos≠47:=fun e=>ha (by exact_mod_cast e)
  have hcm:¬comm src pos:=fun e=>ha' ((comm_iff src pos hP).1 e).1
  conv=>whnf
  repeat ((first|refine oM ?_|refine oL ?_|refine oR ?_);(try intro _);conv=>whnf)
  by_cases h2:cls (byteAt src pos)=2
  ·refine RunsS.callV (fun Ez Hz Az Sz K=>rLetter_fn (byteAt src pos)) ?_
   conv=>whnf
   rw [decide_eq_true h2]
   try dsimp only
   (try refine gS ?_);conv=>whnf
   repeat ((first|refine oM ?_|refine oL ?_|refine oR ?_);(try intro _);conv=>whnf)
   refine RunsS.meet (fun (e:Nat)=>[(7,.v (.int .i64 pos)),(6,.v (.int .i64 e)),(5,.buf 0),(0,.v (.string src))]) (fun (e:Nat)=>[toksB l 0]) 1 (fun (e:Nat)=>e=nameE src pos) ?_ (fun meet=>?_)
   ·rintro e he
    have g1:pos<e:=he▸runE_gt hP (by simp [inRun,h2])
    have g2:e≤src.size:=he▸runE_le _ _ _ (by omega)
    have hsz:=size_ex src (lo:=pos) g2
    have hname:NameP (src.extract pos e) ↔ ¬32<e - pos:=by
     constructor
     ·intro h;have:=h.1;omega
     intro h
     refine ⟨by omega,?_,fun i hi=>?_⟩
     ·rw [byteAt_ex src g2 (by omega)];exact h2
     rw [byteAt_ex src g2 (by omega)]
     exact runE_in src (inRun 2 3 95) pos (pos+i) (by omega) (by rw [show runE src (inRun 2 3 95) pos=e from he.symm];omega)
    (try refine gS ?_);conv=>whnf
    repeat ((first|refine oM ?_|refine oL ?_|refine oR ?_);(try intro _);conv=>whnf)
    by_cases hb:32<e - pos
    ·refine RunsS.callV (fun Ez Hz Az Sz K=>rName_fn (src.extract pos e)) ?_
     conv=>whnf
     rw [decide_eq_false (fun h=>hname.1 h hb)]
     try dsimp only
     (try refine gS ?_);conv=>whnf
     repeat ((first|refine oM ?_|refine oL ?_|refine oR ?_);(try intro _);conv=>whnf)
     have hs0:stepL src pos l=none:=by simp [stepL,h2,←he,hb]
     rw [hJ.2,lexG_none hP hs0] at ho
     subst ho
     try refine RunsS.retU ?_
     try refine RunsS.finU ?_
     exact UnwS.ret tab Tryz.func25 rfl (eN () trivial)
    refine RunsS.callV (fun Ez Hz Az Sz K=>rName_fn (src.extract pos e)) ?_
    conv=>whnf
    rw [decide_eq_true (hname.2 hb)]
    try dsimp only
    (try refine gS ?_);conv=>whnf
    repeat ((first|refine oM ?_|refine oL ?_|refine oR ?_);(try intro _);conv=>whnf)
    have hs0:stepL src pos l=some (e,l++[⟨1,pos,src.extract pos e,0⟩]):=by simp [stepL,h2,←he,hb]
    have hok:=stepL_ok hP hs0
    refine And.intro (appOb (by rw [List.length_map];omega)) ?_;conv=>whnf
    (try refine gS ?_);conv=>whnf
    repeat ((first|refine oM ?_|refine oL ?_|refine oR ?_);(try intro _);conv=>whnf)
    refine RunsS.rowsEq (2) (app_row l 1 pos (src.extract pos e) 0) ?_;conv=>whnf
    refine RunsS.subR [(0,2)] (back ((e,l++[⟨1,pos,src.extract pos e,0⟩])) (by exact (⟨by dsimp only;omega,hJ.2.trans (lexG_some hP hs0)⟩)) (by (try dsimp only);omega)) sH sH
   refine RunsS.subR [] (RunsS.loop (fun (i:Nat)=>[(7,.v (.int .i64 pos)),(6,.v (.int .i64 i)),(5,.buf 0),(0,.v (.string src))]) (fun (i:Nat)=>[toksB l 0]) 1 (fun (i:Nat)=>(pos≤i∧i≤src.size)∧nameE src pos=runE src nmC i) (fun (i:Nat)=>src.size - i) ?round10 (pos) ?J010) sH sH
   case J010=>exact (⟨by omega,rfl⟩)
   rintro i hJ back
   try dsimp only at hJ back
   conv=>whnf
   try dsimp only
   refine gS ?_;conv=>whnf
   repeat ((first|refine oM ?_|refine oL ?_|refine oR ?_);(try intro _);conv=>whnf)
   refine ⟨fun hi=>?_,fun hi=>?_⟩<;>conv=>whnf
   ·conv=>whnf
    repeat ((first|refine oM ?_|refine oL ?_|refine oR ?_);(try intro _);conv=>whnf)
    by_cases hx:nmC (byteAt src i)=true
    ·refine RunsS.callV (fun Ez Hz Az Sz K=>rPart_fn (byteAt src i)) ?_
     conv=>whnf
     rw [hx]
     try dsimp only
     (try refine gS ?_);conv=>whnf
     repeat ((first|refine oM ?_|refine oL ?_|refine oR ?_);(try intro _);conv=>whnf)
     have hn:nameE src pos=runE src nmC (i+1):=by
      rw [hJ.2]
      conv=>lhs;unfold runE
      rw [dif_pos (by omega),if_pos hx]
     refine RunsS.subR [] (back (i+1) (by exact (⟨by omega,hn⟩)) (by (try dsimp only);omega)) sH sH
    refine RunsS.callV (fun Ez Hz Az Sz K=>rPart_fn (byteAt src i)) ?_
    conv=>whnf
    rw [Bool.eq_false_iff.2 hx]
    try dsimp only
    (try refine gS ?_);conv=>whnf
    repeat ((first|refine oM ?_|refine oL ?_|refine oR ?_);(try intro _);conv=>whnf)
    have hn:nameE src pos=i:=by
     rw [hJ.2]
     unfold runE
     rw [dif_pos (by omega),if_neg hx]
    refine RunsS.subR [] (meet (i) (by exact (hn.symm))) sH sH
   conv=>whnf
   repeat ((first|refine oM ?_|refine oL ?_|refine oR ?_);(try intro _);conv=>whnf)
   have hn:nameE src pos=i:=by
    rw [hJ.2]
    unfold runE
    rw [dif_neg (by omega)]
   refine RunsS.subR [] (meet (i) (by exact (hn.symm))) sH sH
  refine RunsS.callV (fun Ez Hz Az Sz K=>rLetter_fn (byteAt src pos)) ?_
  conv=>whnf
  rw [decide_eq_false h2]
  try dsimp only
  (try refine gS ?_);conv=>whnf
  repeat ((first|refine oM ?_|refine oL ?_|refine oR ?_);(try intro _);conv=>whnf)
  by_cases h3:cls (byteAt src pos)=3
  ·refine RunsS.callV (fun Ez Hz Az Sz K=>rFigure_fn (byteAt src pos)) ?_
   conv=>whnf
   rw [decide_eq_true h3]
   try dsimp only
   (try refine gS ?_);conv=>whnf
   repeat ((first|refine oM ?_|refine oL ?_|refine oR ?_);(try intro _);conv=>whnf)
   refine RunsS.meet (fun (e:Nat)=>[(7,.v (.int .i64 pos)),(6,.v (.int .i64 e)),(5,.buf 0),(0,.v (.string src))]) (fun (e:Nat)=>[toksB l 0]) 1 (fun (e:Nat)=>e=numE src pos) ?_ (fun meet=>?_)
   ·rintro e he
    have g1:pos<e:=he▸runE_gt hP (by simp [inRun,h3])
    have g2:e≤src.size:=he▸runE_le _ _ _ (by omega)
    have hsz:=size_ex src (lo:=pos) g2
    have hdg:∀i,i<(src.extract pos e).size→48≤byteAt (src.extract pos e) i∧byteAt (src.extract pos e) i≤57:=fun i hi=>by
     rw [byteAt_ex src g2 (by omega)]
     exact dig_of (runE_in src (inRun 3 3 48) pos (pos+i) (by omega) (by rw [show runE src (inRun 3 3 48) pos=e from he.symm];omega))
    have hnl:numL (bs (src.extract pos e)) 0=numF src e pos 0:=by rw [numF_eq src e g2,bs_extract]
    have hb0:byteAt (src.extract pos e) 0=byteAt src pos:=byteAt_ex src g2 (by omega)
    have hst:stepL src pos l=if 1<e - pos∧byteAt src pos=48 then none else match numF src e pos 0 with|none=>none|some n=>some (e,l++[⟨2,pos,⟨#[]⟩,n⟩]):=by simp only [stepL,h3,←he];rfl
    cases hz:numF src e pos 0 with
    |none=>
     have hs0:stepL src pos l=none:=by rw [hst,hz];simp
     rw [hJ.2,lexG_none hP hs0] at ho
     subst ho
     (try refine gS ?_);conv=>whnf
     repeat ((first|refine oM ?_|refine oL ?_|refine oR ?_);(try intro _);conv=>whnf)
     refine RunsS.callV (fun Ez Hz Az Sz K=>rNumber_fn (src.extract pos e) (by omega) hdg) ?_
     conv=>whnf
     rw [hnl,hz]
     try dsimp only
     (try refine gS ?_);conv=>whnf
     repeat ((first|refine oM ?_|refine oL ?_|refine oR ?_);(try intro _);conv=>whnf)
     try refine RunsS.retU ?_
     try refine RunsS.finU ?_
     exact UnwS.ret tab Tryz.func25 rfl (eN () trivial)
    |some n=>
     by_cases hb:1<e - pos∧byteAt src pos=48
     ·have hs0:stepL src pos l=none:=by rw [hst,if_pos hb]
      rw [hJ.2,lexG_none hP hs0] at ho
      subst ho
      (try refine gS ?_);conv=>whnf
      repeat ((first|refine oM ?_|refine oL ?_|refine oR ?_);(try intro _);conv=>whnf)
      refine RunsS.callV (fun Ez Hz Az Sz K=>rNumber_fn (src.extract pos e) (by omega) hdg) ?_
      conv=>whnf
      rw [hnl,hz,hb0,decide_eq_false (by omega:¬((src.extract pos e).size=1∨byteAt src pos≠48))]
      try dsimp only
      (try refine gS ?_);conv=>whnf
      repeat ((first|refine oM ?_|refine oL ?_|refine oR ?_);(try intro _);conv=>whnf)
      try refine RunsS.retU ?_
      try refine RunsS.finU ?_
      exact UnwS.ret tab Tryz.func25 rfl (eN () trivial)
     have hs0:stepL src pos l=some (e,l++[⟨2,pos,⟨#[]⟩,n⟩]):=by rw [hst,if_neg hb,hz]
     have hok:=stepL_ok hP hs0
     (try refine gS ?_);conv=>whnf
     repeat ((first|refine oM ?_|refine oL ?_|refine oR ?_);(try intro _);conv=>whnf)
     refine RunsS.callV (fun Ez Hz Az Sz K=>rNumber_fn (src.extract pos e) (by omega) hdg) ?_
     conv=>whnf
     rw [hnl,hz,hb0,decide_eq_true (by omega:((src.extract pos e).size=1∨byteAt src pos≠48))]
     try dsimp only
     (try refine gS ?_);conv=>whnf
     repeat ((first|refine oM ?_|refine oL ?_|refine oR ?_);(try intro _);conv=>whnf)
     refine And.intro (appOb (by rw [List.length_map];omega)) ?_;conv=>whnf
     (try refine gS ?_);conv=>whnf
     repeat ((first|refine oM ?_|refine oL ?_|refine oR ?_);(try intro _);conv=>whnf)
     refine RunsS.rowsEq (2) (app_row l 2 pos ⟨#[]⟩ n) ?_;conv=>whnf
     refine RunsS.subR [(0,2)] (back ((e,l++[⟨2,pos,⟨#[]⟩,n⟩])) (by exact (⟨by dsimp only;omega,hJ.2.trans (lexG_some hP hs0)⟩)) (by (try dsimp only);omega)) sH sH
   refine RunsS.subR [] (RunsS.loop (fun (i:Nat)=>[(7,.v (.int .i64 pos)),(6,.v (.int .i64 i)),(5,.buf 0),(0,.v (.string src))]) (fun (i:Nat)=>[toksB l 0]) 1 (fun (i:Nat)=>(pos≤i∧i≤src.size)∧numE src pos=runE src dgC i) (fun (i:Nat)=>src.size - i) ?round15 (pos) ?J015) sH sH
   case J015=>exact (⟨by omega,rfl⟩)
   rintro i hJ back
   try dsimp only at hJ back
   conv=>whnf
   try dsimp only
   refine gS ?_;conv=>whnf
   repeat ((first|refine oM ?_|refine oL ?_|refine oR ?_);(try intro _);conv=>whnf)
   refine ⟨fun hi=>?_,fun hi=>?_⟩<;>conv=>whnf
   ·conv=>whnf
    repeat ((first|refine oM ?_|refine oL ?_|refine oR ?_);(try intro _);conv=>whnf)
    by_cases hx:cls (byteAt src i)=3
    ·refine RunsS.callV (fun Ez Hz Az Sz K=>rFigure_fn (byteAt src i)) ?_
     conv=>whnf
     rw [decide_eq_true hx]
     try dsimp only
     (try refine gS ?_);conv=>whnf
     repeat ((first|refine oM ?_|refine oL ?_|refine oR ?_);(try intro _);conv=>whnf)
     have hn:numE src pos=runE src dgC (i+1):=by
      rw [hJ.2]
      conv=>lhs;unfold runE
      rw [dif_pos (by omega),if_pos ((dgC_iff _).2 hx)]
     refine RunsS.subR [] (back (i+1) (by exact (⟨by omega,hn⟩)) (by (try dsimp only);omega)) sH sH
    refine RunsS.callV (fun Ez Hz Az Sz K=>rFigure_fn (byteAt src i)) ?_
    conv=>whnf
    rw [decide_eq_false hx]
    try dsimp only
    (try refine gS ?_);conv=>whnf
    repeat ((first|refine oM ?_|refine oL ?_|refine oR ?_);(try intro _);conv=>whnf)
    have hn:numE src pos=i:=by
     rw [hJ.2]
     unfold runE
     rw [dif_pos (by omega),if_neg (fun e=>hx ((dgC_iff _).1 e))]
    refine RunsS.subR [] (meet (i) (by exact (hn.symm))) sH sH
   conv=>whnf
   repeat ((first|refine oM ?_|refine oL ?_|refine oR ?_);(try intro _);conv=>whnf)
   have hn:numE src pos=i:=by
    rw [hJ.2]
    unfold runE
    rw [dif_neg (by omega)]
   refine RunsS.subR [] (meet (i) (by exact (hn.symm))) sH sH
  refine RunsS.callV (fun Ez Hz Az Sz K=>rFigure_fn (byteAt src pos)) ?_
  conv=>whnf
  rw [decide_eq_false h3]
  try dsimp only
  (try refine gS ?_);conv=>whnf
  repeat ((first|refine oM ?_|refine oL ?_|refine oR ?_);(try intro _);conv=>whnf)
  by_cases h4:cls (byteAt src pos)=4
  ·have hs0:stepL src pos l=some (pos+1,l++[⟨3,pos,src.extract pos (pos+1),0⟩]):=by simp only [stepL,h4,if_neg hcm];rfl
   have hok:=stepL_ok hP hs0
   refine RunsS.callV (fun Ez Hz Az Sz K=>rSign_fn (byteAt src pos)) ?_
   conv=>whnf
   rw [decide_eq_true h4]
   try dsimp only
   (try refine gS ?_);conv=>whnf
   repeat ((first|refine oM ?_|refine oL ?_|refine oR ?_);(try intro _);conv=>whnf)
   refine And.intro (appOb (by rw [List.length_map];omega)) ?_;conv=>whnf
   (try refine gS ?_);conv=>whnf
   repeat ((first|refine oM ?_|refine oL ?_|refine oR ?_);(try intro _);conv=>whnf)
   refine RunsS.rowsEq (2) (app_row l 3 pos (src.extract pos (pos+1)) 0) ?_;conv=>whnf
   refine RunsS.subR [(0,2)] (back ((pos+1,l++[⟨3,pos,src.extract pos (pos+1),0⟩])) (by exact (⟨by dsimp only;omega,hJ.2.trans (lexG_some hP hs0)⟩)) (by (try dsimp only);omega)) sH sH
  have h0:cls (byteAt src pos)=0:=by
   have:=cls_cases (byteAt src pos)
   omega
  have hs0:stepL src pos l=none:=by simp [stepL,h0]
  rw [hJ.2,lexG_none hP hs0] at ho
  subst ho
  refine RunsS.callV (fun Ez Hz Az Sz K=>rSign_fn (byteAt src pos)) ?_
  conv=>whnf
  rw [decide_eq_false h4]
  try dsimp only
  (try refine gS ?_);conv=>whnf
  repeat ((first|refine oM ?_|refine oL ?_|refine oR ?_);(try intro _);conv=>whnf)
  try refine RunsS.retU ?_
  try refine RunsS.finU ?_
  exact UnwS.ret tab Tryz.func25 rfl (eN () trivial)
 conv=>whnf
 repeat ((first|refine oM ?_|refine oL ?_|refine oR ?_);(try intro _);conv=>whnf)
 have hend:lexG src pos l=.inl l:=by
  unfold lexG
  rw [dif_neg (by omega)]
 rw [hJ.2,hend] at ho
 subst ho
 try refine RunsS.retU ?_
 try refine RunsS.finU ?_
 exact UnwS.ret tab Tryz.func25 rfl (eN () trivial)
end Go.Proofs.YtgbeechjghajcaaGreatDoor

namespace Go.Proofs.YtgbeechjghajcaaGreatDoor
open Go Go.Shelf Go.Proofs
def layR:Ren:=⟨fun x=>match x with|129=>180|143=>152|144=>115|156=>57|165=>117|166=>118|169=>119|171=>56|217=>175|219=>167|224=>177|225=>176|240=>154|241=>155|243=>116|246=>153|266=>184|267=>178|276=>172|277=>173|283=>168|284=>169|285=>170|286=>171|314=>185|317=>179|318=>181|319=>182|320=>183|337=>186|338=>187|n=>n,fun x=>match x with|0=>0|2=>2|3=>3|4=>4|5=>5|9=>9|20=>20|31=>25|37=>177|46=>256|51=>259|53=>244|70=>176|72=>179|75=>182|76=>183|80=>127|127=>227|146=>263|164=>249|171=>243|173=>247|212=>258|213=>260|232=>266|233=>267|n=>n,fun x=>match x with|1=>0|17=>1|18=>2|19=>3|n=>n⟩
theorem layJoin:Lays.n156 Tryz.prog layR:={
 mixed:=by kernel_rfl
 f156:=by kernel_rfl
 f165:=by kernel_rfl
 f166:=by kernel_rfl
 f169:=by kernel_rfl
 f240:=by kernel_rfl
 f241:=by kernel_rfl
 f276:=by kernel_rfl
 f277:=by kernel_rfl
 t0:=by kernel_rfl
 a0:=fun _=>by kernel_rfl
 z0:=fun _=>by kernel_rfl
 v0:=fun _=>by kernel_rfl
 t3:=by kernel_rfl
 a3:=fun _=>by kernel_rfl
 z3:=fun _=>by kernel_rfl
 v3:=fun _=>by kernel_rfl
 t4:=by kernel_rfl
 a4:=fun _=>by kernel_rfl
 z4:=fun _=>by kernel_rfl
 v4:=fun _=>by kernel_rfl
 t9:=by kernel_rfl
 a9:=fun _=>by kernel_rfl
 z9:=fun _=>by kernel_rfl
 v9:=fun _=>by kernel_rfl
 t20:=by kernel_rfl
 a20:=fun _=>by kernel_rfl
 z20:=fun _=>by kernel_rfl
 v20:=fun _=>by kernel_rfl
 t31:=by kernel_rfl
 a31:=fun _=>by kernel_rfl
 z31:=fun _=>by kernel_rfl
 v31:=fun _=>by kernel_rfl
 t37:=by kernel_rfl
 a37:=fun _=>by kernel_rfl
 z37:=fun _=>by kernel_rfl
 v37:=fun _=>by kernel_rfl
 t70:=by kernel_rfl
 a70:=fun _=>by kernel_rfl
 z70:=fun _=>by kernel_rfl
 v70:=fun _=>by kernel_rfl
 t72:=by kernel_rfl
 a72:=fun _=>by kernel_rfl
 z72:=fun _=>by kernel_rfl
 v72:=fun _=>by kernel_rfl
 t75:=by kernel_rfl
 a75:=fun _=>by kernel_rfl
 z75:=fun _=>by kernel_rfl
 v75:=fun _=>by kernel_rfl
 t76:=by kernel_rfl
 a76:=fun _=>by kernel_rfl
 z76:=fun _=>by kernel_rfl
 v76:=fun _=>by kernel_rfl
 t127:=by kernel_rfl
 a127:=fun _=>by kernel_rfl
 z127:=fun _=>by kernel_rfl
 v127:=fun _=>by kernel_rfl
 t164:=by kernel_rfl
 a164:=fun _=>by kernel_rfl
 z164:=fun _=>by kernel_rfl
 v164:=fun _=>by kernel_rfl
}
theorem layBuilder:Builder.Extra Tryz.prog layR:={
 sizeBuilder:=by kernel_rfl
 liesBuilder:=by kernel_rfl
 t5:=by kernel_rfl
 a5:=fun _=>by kernel_rfl
 z5:=fun _=>by kernel_rfl
 v5:=fun _=>by kernel_rfl
 infoByte:=by kernel_rfl
 cellsByte:=by kernel_rfl
 sizeByte:=by kernel_rfl
 neB5:=by decide
}
theorem layItoa:LaysM.n171 Tryz.prog layR:={
 mixed:=by kernel_rfl
 f129:=by kernel_rfl
 f171:=by kernel_rfl
 f243:=by kernel_rfl
 f246:=by kernel_rfl
 f283:=by kernel_rfl
 f284:=by kernel_rfl
 f285:=by kernel_rfl
 f286:=by kernel_rfl
 f317:=by kernel_rfl
 f318:=by kernel_rfl
 f319:=by kernel_rfl
 f320:=by kernel_rfl
 f337:=by kernel_rfl
 f338:=by kernel_rfl
 t0:=by kernel_rfl
 a0:=fun _=>by kernel_rfl
 z0:=fun _=>by kernel_rfl
 v0:=fun _=>by kernel_rfl
 t2:=by kernel_rfl
 a2:=fun _=>by kernel_rfl
 z2:=fun _=>by kernel_rfl
 v2:=fun _=>by kernel_rfl
 t3:=by kernel_rfl
 a3:=fun _=>by kernel_rfl
 z3:=fun _=>by kernel_rfl
 v3:=fun _=>by kernel_rfl
 t4:=by kernel_rfl
 a4:=fun _=>by kernel_rfl
 z4:=fun _=>by kernel_rfl
 v4:=fun _=>by kernel_rfl
 t5:=by kernel_rfl
 a5:=fun _=>by kernel_rfl
 z5:=fun _=>by kernel_rfl
 v5:=fun _=>by kernel_rfl
 t9:=by kernel_rfl
 a9:=fun _=>by kernel_rfl
 z9:=fun _=>by kernel_rfl
 v9:=fun _=>by kernel_rfl
 t20:=by kernel_rfl
 a20:=fun _=>by kernel_rfl
 z20:=fun _=>by kernel_rfl
 v20:=fun _=>by kernel_rfl
 t37:=by kernel_rfl
 a37:=fun _=>by kernel_rfl
 z37:=fun _=>by kernel_rfl
 v37:=fun _=>by kernel_rfl
 t46:=by kernel_rfl
 a46:=fun _=>by kernel_rfl
 z46:=fun _=>by kernel_rfl
 v46:=fun _=>by kernel_rfl
 t51:=by kernel_rfl
 a51:=fun _=>by kernel_rfl
 z51:=fun _=>by kernel_rfl
 v51:=fun _=>by kernel_rfl
 t53:=by kernel_rfl
 a53:=fun _=>by kernel_rfl
 z53:=fun _=>by kernel_rfl
 v53:=fun _=>by kernel_rfl
 t171:=by kernel_rfl
 a171:=fun _=>by kernel_rfl
 z171:=fun _=>by kernel_rfl
 v171:=fun _=>by kernel_rfl
 t173:=by kernel_rfl
 a173:=fun _=>by kernel_rfl
 z173:=fun _=>by kernel_rfl
 v173:=fun _=>by kernel_rfl
 t212:=by kernel_rfl
 a212:=fun _=>by kernel_rfl
 z212:=fun _=>by kernel_rfl
 v212:=fun _=>by kernel_rfl
 t213:=by kernel_rfl
 a213:=fun _=>by kernel_rfl
 z213:=fun _=>by kernel_rfl
 t232:=by kernel_rfl
 a232:=fun _=>by kernel_rfl
 z232:=fun _=>by kernel_rfl
 v232:=fun _=>by kernel_rfl
 t233:=by kernel_rfl
 a233:=fun _=>by kernel_rfl
 z233:=fun _=>by kernel_rfl
 v233:=fun _=>by kernel_rfl
 g17:=by kernel_rfl
 g18:=by kernel_rfl
 g19:=by kernel_rfl
 i0:=by kernel_rfl
 i2:=by kernel_rfl
 i3:=by kernel_rfl
 i4:=by kernel_rfl
 i5:=by kernel_rfl
 i9:=by kernel_rfl
 i20:=by kernel_rfl
 i37:=by kernel_rfl
 i46:=by kernel_rfl
 i51:=by kernel_rfl
 i53:=by kernel_rfl
 i171:=by kernel_rfl
 i173:=by kernel_rfl
 i212:=by kernel_rfl
 i232:=by kernel_rfl
 i233:=by kernel_rfl
 m17:=by kernel_rfl
 m18:=by kernel_rfl
 m19:=by kernel_rfl
}
theorem layContains:Lays.n144 Tryz.prog layR:={
 mixed:=by kernel_rfl
 f143:=by kernel_rfl
 f144:=by kernel_rfl
 f217:=by kernel_rfl
 f219:=by kernel_rfl
 f224:=by kernel_rfl
 f225:=by kernel_rfl
 f266:=by kernel_rfl
 f267:=by kernel_rfl
 f314:=by kernel_rfl
 t3:=by kernel_rfl
 a3:=fun _=>by kernel_rfl
 z3:=fun _=>by kernel_rfl
 v3:=fun _=>by kernel_rfl
 t4:=by kernel_rfl
 a4:=fun _=>by kernel_rfl
 z4:=fun _=>by kernel_rfl
 v4:=fun _=>by kernel_rfl
 t5:=by kernel_rfl
 a5:=fun _=>by kernel_rfl
 z5:=fun _=>by kernel_rfl
 v5:=fun _=>by kernel_rfl
 t9:=by kernel_rfl
 a9:=fun _=>by kernel_rfl
 z9:=fun _=>by kernel_rfl
 v9:=fun _=>by kernel_rfl
 t46:=by kernel_rfl
 a46:=fun _=>by kernel_rfl
 z46:=fun _=>by kernel_rfl
 v46:=fun _=>by kernel_rfl
 t51:=by kernel_rfl
 a51:=fun _=>by kernel_rfl
 z51:=fun _=>by kernel_rfl
 v51:=fun _=>by kernel_rfl
 t146:=by kernel_rfl
 a146:=fun _=>by kernel_rfl
 z146:=fun _=>by kernel_rfl
 v146:=fun _=>by kernel_rfl
 g1:=by kernel_rfl
}
end Go.Proofs.YtgbeechjghajcaaGreatDoor

namespace Go.Proofs.YtgbeechjghajcaaGreatDoor
open Go Go.Fw Go.RowKit
theorem fnv_calls {P:Program} {f:FuncId} {args:Array Value} {h:Array Obj} {v:Value} (he:Fw.Enters P f) (H:∀w:World,w.heap=h→Calls P f args w fun e w'=>e=.returned v∧Below w.heap.size w w'):
  FnV P f args h fun r h'=>r=v∧Keeps h.size h h':=
 ⟨he,fun w hw=>(H w hw).mono fun e w' ⟨h1,h2⟩=>⟨⟨h2.tape,h2.os,h2.output⟩,v,h1,rfl,by rw [←hw];exact ⟨h2.size,h2.block⟩⟩⟩
def PowH (h:Array Obj):Prop:=(match h[(1:Nat)]? with|some (Obj.cells cs _ _)=>some cs|_=>none)=some (Lib.pow10Tab.map fun z=>Value.int .u64 z).toArray
theorem PowH.lt {h:Array Obj} (H:PowH h):1<h.size:=by
 unfold PowH at H
 split at H
 ·rename_i hx
  exact (Array.getElem?_eq_some_iff.1 hx).1
 cases H
theorem PowH.keeps {h h':Array Obj} (H:PowH h) (k:Keeps h.size h h'):PowH h':=by
 have:=k.same _ H.lt
 unfold PowH at H ⊢
 rw [this];exact H
theorem gPow:Tryz.prog.globalNamed "internal/strconv.uint64pow10" = some 1:=by kernel_rfl
theorem PowH.tab {w:World} (H:PowH w.heap):Lib.TabIs Tryz.prog w "internal/strconv.uint64pow10" .u64 Lib.pow10Tab:=by
 unfold Lib.TabIs World.var?
 rw [gPow]
 exact H
theorem Itoa_fn {h:Array Obj} (n:Int) (h0:0≤n) (h1:n≤9223372036854775807) (hT:PowH h):FnV Tryz.prog 56 #[.int .i64 n] h fun r h'=>r=.string ⟨(Lib.itoa n).toArray⟩∧Keeps h.size h h':=
 fnv_calls ⟨_,_,Tryz.func56,by kernel_rfl,rfl⟩ fun w hw=>(Any.strconv_Itoa layItoa n (by omega) h1 w (PowH.tab (by rw [hw];exact hT))).mono fun e w' ⟨e1,k,os,e2⟩=>⟨e1,by
  subst e2
  refine ⟨rfl,rfl,rfl,?_,fun i hi=>?_⟩
  ·show w.heap.size≤(w.heap++os).size
   simp
  show (w.heap++os)[i]? = _
  rw [Array.getElem?_append_left hi]⟩
theorem Contains_fn {h:Array Obj} (s:ByteArray) (c:UInt8):FnV Tryz.prog 115 #[.string s,.string ⟨#[c]⟩] h fun r h'=>r=.bool (decide (0≤Lib.indexByte s.data.toList c))∧Keeps h.size h h':=
 fnv_calls ⟨_,_,Tryz.func115,by kernel_rfl,rfl⟩ fun w hw=>(Any.strings_Contains_one layContains s c w).mono fun e w' ⟨e1,e2⟩=>⟨e1,e2▸Below.refl _ _⟩
theorem Join_fn {h:Array Obj} {e:TypeId} {v:Value} (xs:List ByteArray) (sep:ByteArray) (hv:Own 0 h e 1 v (xs.map fun x=>[Value.string x]).length (xs.map fun x=>[Value.string x]).flatten) (hN:xs.length≤65536) (hl:(Lib.join (xs.map (·.data.toList)) sep.data.toList).length≤140737488355328):
  FnV Tryz.prog 57 #[v,.string sep] h fun r h'=>r=.string ⟨(Lib.join (xs.map (·.data.toList)) sep.data.toList).toArray⟩∧Keeps h.size h h':=by
 have hfl:(xs.map fun x=>[Value.string x]).flatten=xs.map Value.string:=by
  clear hv hN hl
  induction xs with
  |nil=>rfl
  |cons x xs ih=>simp [ih]
 rw [hfl,List.length_map] at hv
 obtain ⟨_,⟨rfl,h3⟩|⟨g,cap,cur,rfl,_,hat,hc,_,_,ht⟩⟩:=hv
 ·refine fnv_calls ⟨_,_,Tryz.func57,by kernel_rfl,rfl⟩ fun w hw=>?_
  have:xs=[]:=List.eq_nil_of_length_eq_zero h3
  subst this
  exact (Any.strings_Join_none layJoin layBuilder none 0 sep w).mono fun e w' ⟨e1,e2⟩=>⟨e1,e2▸Below.refl _ _⟩
 refine fnv_calls ⟨_,_,Tryz.func57,by kernel_rfl,rfl⟩ fun w hw=>?_
 refine Any.strings_Join layJoin layBuilder g 0 cap xs sep w (fun j x hx=>?_) (by rw [hw];exact hat.lt) (by omega) hc hl
 refine cell_of ?_
 rw [hw,Nat.zero_add,hat.cell]
 have h1:=congrArg (fun l=>l[j]?) ht
 have hj:=(List.getElem?_eq_some_iff.1 hx).1
 simp only [Nat.mul_one,List.getElem?_map,hx,Option.map_some,List.getElem?_take,if_pos hj,Array.getElem?_toList] at h1
 exact h1
end Go.Proofs.YtgbeechjghajcaaGreatDoor

namespace Go.Proofs.YtgbeechjghajcaaGreatDoor
open Go Go.Fw
set_option maxRecDepth 100000
set_option maxHeartbeats 99999999
theorem cls_at {c:Nat} (hc:c<256):nth clsS (0+((c:Int)).toNat*1)=some (.v (.int .i64 (cls c))):=by
 have:=clsS_get hc []
 rw [List.append_nil] at this
 rw [show 0+((c:Int)).toNat*1=c by simp]
 exact this
theorem Name_fn {h:Array Obj} (s:ByteArray):FnV Tryz.prog 114 #[.string s] h fun r h'=>r=.bool (decide (NameP s))∧Keeps h.size h h':=by
 refine Fn.ofS (args:=[.string s]) Tryz.func114 (by kernel_rfl) rfl Tryz.ntmps114 rfl fun w0 cs=>?_
 conv=>whnf
 refine gS ?_;conv=>whnf
 repeat ((first|refine oM ?_|refine oL ?_|refine oR ?_);(try intro _);conv=>whnf)
 refine ⟨fun h1=>?_,fun h1=>?_⟩<;>conv=>whnf
 ·conv=>whnf
  repeat ((first|refine oM ?_|refine oL ?_|refine oR ?_);(try intro _);conv=>whnf)
  refine RunsS.retU (UnwS.ret tab Tryz.func114 rfl fun Ez Hz Az Sz K=>⟨_,rfl,?_,K.keeps⟩)
  exact congrArg Value.bool (decide_eq_false fun e=>by
   have:=e.1
   have hz:s.size=0:=by rw [h1];rfl
   omega).symm
 conv=>whnf
 repeat ((first|refine oM ?_|refine oL ?_|refine oR ?_);(try intro _);conv=>whnf)
 have hz:s.size≠0:=fun e=>h1 (by
  rw [←toArray_ext s]
  rw [List.eq_nil_of_length_eq_zero (l:=bs s) (by rw [bs_len];exact e)])
 refine ⟨fun h2=>?_,fun h2=>?_⟩<;>conv=>whnf
 ·conv=>whnf
  repeat ((first|refine oM ?_|refine oL ?_|refine oR ?_);(try intro _);conv=>whnf)
  refine RunsS.retU (UnwS.ret tab Tryz.func114 rfl fun Ez Hz Az Sz K=>⟨_,rfl,?_,K.keeps⟩)
  exact congrArg Value.bool (decide_eq_false fun e=>by have:=e.1;omega).symm
 conv=>whnf
 repeat ((first|refine oM ?_|refine oL ?_|refine oR ?_);(try intro _);conv=>whnf)
 have hb0:byteAt s (Int.toNat 0)<256:=byteAt_lt _ _
 refine RunsS.callV (fun Ez Hz Az Sz K=>classes_fn) ?_
 conv=>whnf
 (try refine gS ?_);conv=>whnf
 repeat ((first|refine oM ?_|refine oL ?_|refine oR ?_);(try intro _);conv=>whnf)
 rw [evO_load (cls_at (byteAt_lt s 0)) (by rfl) (by rfl) (by rfl)]
 conv=>whnf
 repeat ((first|refine oM ?_|refine oL ?_|refine oR ?_);(try intro _);conv=>whnf)
 refine ⟨fun h3=>?_,fun h3=>?_⟩<;>conv=>whnf
 ·conv=>whnf
  repeat ((first|refine oM ?_|refine oL ?_|refine oR ?_);(try intro _);conv=>whnf)
  refine RunsS.subR [] (RunsS.loop (fun (i:Nat)=>[(20,.v (.int .i64 i)),(19,.v (.int .i64 s.size)),(3,.ptr 0 0),(0,.v (.string s))]) (fun (i:Nat)=>[(0,.cells 107 clsS)]) 1 (fun (i:Nat)=>i≤s.size ∧ ∀j,j<i→nmC (byteAt s j)=true) (fun (i:Nat)=>s.size - i) ?round1 (0) ?J01) sH sH
  case J01=>exact (⟨Nat.zero_le _,fun _ h=>absurd h (Nat.not_lt_zero _)⟩)
  rintro i hJ back
  try dsimp only at hJ back
  conv=>whnf
  try dsimp only
  refine gS ?_;conv=>whnf
  repeat ((first|refine oM ?_|refine oL ?_|refine oR ?_);(try intro _);conv=>whnf)
  refine ⟨fun hk=>?_,fun hk=>?_⟩<;>conv=>whnf
  ·have hbi:byteAt s ((i:Int)).toNat<256:=byteAt_lt _ _
   conv=>whnf
   repeat ((first|refine oM ?_|refine oL ?_|refine oR ?_);(try intro _);conv=>whnf)
   rw [evO_load (cls_at (byteAt_lt s i)) (by rfl) (by rfl) (by rfl)]
   conv=>whnf
   repeat ((first|refine oM ?_|refine oL ?_|refine oR ?_);(try intro _);conv=>whnf)
   refine ⟨fun h4=>?_,fun h4=>?_⟩<;>conv=>whnf
   ·conv=>whnf
    repeat ((first|refine oM ?_|refine oL ?_|refine oR ?_);(try intro _);conv=>whnf)
    refine RunsS.subR [] (back (i+1) (by exact (⟨by omega,fun j hj=>(Nat.lt_succ_iff_lt_or_eq.1 hj).elim (hJ.2 j) (fun e=>e▸(nmC_iff _).2 (.inl h4))⟩)) (by (try dsimp only);omega)) sH sH
   conv=>whnf
   repeat ((first|refine oM ?_|refine oL ?_|refine oR ?_);(try intro _);conv=>whnf)
   rw [evO_load (cls_at (byteAt_lt s i)) (by rfl) (by rfl) (by rfl)]
   conv=>whnf
   repeat ((first|refine oM ?_|refine oL ?_|refine oR ?_);(try intro _);conv=>whnf)
   refine ⟨fun h5=>?_,fun h5=>?_⟩<;>conv=>whnf
   ·conv=>whnf
    repeat ((first|refine oM ?_|refine oL ?_|refine oR ?_);(try intro _);conv=>whnf)
    refine RunsS.subR [] (back (i+1) (by exact (⟨by omega,fun j hj=>(Nat.lt_succ_iff_lt_or_eq.1 hj).elim (hJ.2 j) (fun e=>e▸(nmC_iff _).2 (.inr (.inl h5)))⟩)) (by (try dsimp only);omega)) sH sH
   conv=>whnf
   repeat ((first|refine oM ?_|refine oL ?_|refine oR ?_);(try intro _);conv=>whnf)
   refine ⟨fun h6=>?_,fun h6=>?_⟩<;>conv=>whnf
   ·conv=>whnf
    repeat ((first|refine oM ?_|refine oL ?_|refine oR ?_);(try intro _);conv=>whnf)
    have h6:byteAt s i=95:=by exact_mod_cast h6
    refine RunsS.subR [] (back (i+1) (by exact (⟨by omega,fun j hj=>(Nat.lt_succ_iff_lt_or_eq.1 hj).elim (hJ.2 j) (fun e=>e▸(nmC_iff _).2 (.inr (.inr h6)))⟩)) (by (try dsimp only);omega)) sH sH
   conv=>whnf
   repeat ((first|refine oM ?_|refine oL ?_|refine oR ?_);(try intro _);conv=>whnf)
   refine RunsS.retU (UnwS.ret tab Tryz.func114 rfl fun Ez Hz Az Sz K=>⟨_,rfl,?_,K.keeps⟩)
   refine congrArg Value.bool (decide_eq_false fun e=>?_).symm
   have h4:cls (byteAt s i)≠2:=h4
   have h5:cls (byteAt s i)≠3:=h5
   have h6:byteAt s i≠95:=fun e=>h6 (by exact_mod_cast e)
   have:=(nmC_iff _).1 (e.2.2 i (by omega))
   omega
  conv=>whnf
  repeat ((first|refine oM ?_|refine oL ?_|refine oR ?_);(try intro _);conv=>whnf)
  refine RunsS.retU (UnwS.ret tab Tryz.func114 rfl fun Ez Hz Az Sz K=>⟨_,rfl,?_,K.keeps⟩)
  exact congrArg Value.bool (decide_eq_true (⟨by omega,h3,fun j hj=>hJ.2 j (by omega)⟩:NameP s)).symm
 conv=>whnf
 repeat ((first|refine oM ?_|refine oL ?_|refine oR ?_);(try intro _);conv=>whnf)
 refine RunsS.retU (UnwS.ret tab Tryz.func114 rfl fun Ez Hz Az Sz K=>⟨_,rfl,?_,K.keeps⟩)
 exact congrArg Value.bool (decide_eq_false fun e=>h3 e.2.1).symm

abbrev ValidP (t:Tok):Prop:=(t.kind=1∧NameP t.text∧t.n=0)∨(t.kind=2∧t.text=⟨#[]⟩∧0≤t.n∧t.n≤1099511627776)∨(t.kind=3∧t.text.size=1∧cls (byteAt t.text 0)=4∧t.n=0)
def Tok.v (t:Tok):Value:=.agg #[.int .i64 t.kind,.int .i64 t.pos,.string t.text,.int .i64 t.n]
theorem sign_index:∀n,n<256→decide (0≤Lib.indexByte (⟨#[123,125,40,41,44,59,61,35,47,60,33,45,46,58,43]⟩:ByteArray).data.toList (UInt8.ofNat n))=decide (cls n=4):=by decide
theorem one_byte {s:ByteArray} (h:s.size=1):∃c:UInt8,s=⟨#[c]⟩∧byteAt s 0=c.toNat:=by
 obtain ⟨c,h1,h2⟩:=bs_drop (s:=s) (i:=0) (by omega)
 refine ⟨c,?_,h2.symm⟩
 rw [List.drop_zero] at h1
 have:(bs s).drop (0+1)=[]:=List.drop_eq_nil_of_le (by rw [bs_len];omega)
 rw [this] at h1
 rw [←toArray_ext s,h1]
theorem valid_fn {h:Array Obj} (t:Tok):FnV Tryz.prog 55 #[t.v] h fun r h'=>r=.bool (decide (ValidP t))∧Keeps h.size h h':=by
 obtain ⟨k,p,s,n⟩:=t
 refine Fn.ofS (args:=[.agg #[.int .i64 k,.int .i64 p,.string s,.int .i64 n]]) Tryz.func55 (by kernel_rfl) rfl Tryz.ntmps55 rfl fun w0 cs=>?_
 conv=>whnf
 refine gS ?_;conv=>whnf
 repeat ((first|refine oM ?_|refine oL ?_|refine oR ?_);(try intro _);conv=>whnf)
 refine ⟨fun h1=>?_,fun h1=>?_⟩<;>conv=>whnf
 ·subst h1
  conv=>whnf
  repeat ((first|refine oM ?_|refine oL ?_|refine oR ?_);(try intro _);conv=>whnf)
  by_cases hn:NameP s
  ·refine RunsS.callV (fun Ez Hz Az Sz K=>Name_fn s) ?_
   conv=>whnf
   rw [decide_eq_true hn]
   try dsimp only
   (try refine gS ?_);conv=>whnf
   repeat ((first|refine oM ?_|refine oL ?_|refine oR ?_);(try intro _);conv=>whnf)
   refine RunsS.retU (UnwS.ret tab Tryz.func55 rfl fun Ez Hz Az Sz K=>⟨_,rfl,?_,K.keeps⟩)
   exact congrArg Value.bool (decide_eq_decide.2 ⟨fun e=>.inl ⟨rfl,hn,e⟩,fun e=>by rcases e with e|e|e<;>first|exact e.2.2|(have:=e.1;simp at this)⟩)
  refine RunsS.callV (fun Ez Hz Az Sz K=>Name_fn s) ?_
  conv=>whnf
  rw [decide_eq_false hn]
  try dsimp only
  (try refine gS ?_);conv=>whnf
  repeat ((first|refine oM ?_|refine oL ?_|refine oR ?_);(try intro _);conv=>whnf)
  refine RunsS.retU (UnwS.ret tab Tryz.func55 rfl fun Ez Hz Az Sz K=>⟨_,rfl,?_,K.keeps⟩)
  exact congrArg Value.bool (decide_eq_false (by simp [ValidP,hn])).symm
 conv=>whnf
 repeat ((first|refine oM ?_|refine oL ?_|refine oR ?_);(try intro _);conv=>whnf)
 refine ⟨fun h2=>?_,fun h2=>?_⟩<;>conv=>whnf
 ·subst h2
  conv=>whnf
  repeat ((first|refine oM ?_|refine oL ?_|refine oR ?_);(try intro _);conv=>whnf)
  refine ⟨fun h3=>?_,fun h3=>?_⟩<;>conv=>whnf
  ·conv=>whnf
   repeat ((first|refine oM ?_|refine oL ?_|refine oR ?_);(try intro _);conv=>whnf)
   refine ⟨fun h4=>?_,fun h4=>?_⟩<;>conv=>whnf
   ·conv=>whnf
    repeat ((first|refine oM ?_|refine oL ?_|refine oR ?_);(try intro _);conv=>whnf)
    refine RunsS.retU (UnwS.ret tab Tryz.func55 rfl fun Ez Hz Az Sz K=>⟨_,rfl,?_,K.keeps⟩)
    have h3:s=⟨#[]⟩:=h3
    exact congrArg Value.bool (decide_eq_decide.2 (by simp [ValidP,h3,h4]))
   conv=>whnf
   repeat ((first|refine oM ?_|refine oL ?_|refine oR ?_);(try intro _);conv=>whnf)
   refine RunsS.retU (UnwS.ret tab Tryz.func55 rfl fun Ez Hz Az Sz K=>⟨_,rfl,?_,K.keeps⟩)
   exact congrArg Value.bool (decide_eq_false (by simp [ValidP];omega)).symm
  conv=>whnf
  repeat ((first|refine oM ?_|refine oL ?_|refine oR ?_);(try intro _);conv=>whnf)
  refine RunsS.retU (UnwS.ret tab Tryz.func55 rfl fun Ez Hz Az Sz K=>⟨_,rfl,?_,K.keeps⟩)
  have h3:s≠⟨#[]⟩:=h3
  exact congrArg Value.bool (decide_eq_false (by simp [ValidP,h3])).symm
 conv=>whnf
 repeat ((first|refine oM ?_|refine oL ?_|refine oR ?_);(try intro _);conv=>whnf)
 refine ⟨fun h3=>?_,fun h3=>?_⟩<;>conv=>whnf
 ·subst h3
  conv=>whnf
  repeat ((first|refine oM ?_|refine oL ?_|refine oR ?_);(try intro _);conv=>whnf)
  refine ⟨fun h4=>?_,fun h4=>?_⟩<;>conv=>whnf
  ·have h4:s.size=1:=by omega
   obtain ⟨c,rfl,hc⟩:=one_byte h4
   have hs:=sign_index c.toNat (UInt8.toNat_lt c)
   rw [UInt8.ofNat_toNat] at hs
   by_cases h5:cls c.toNat=4
   ·conv=>whnf
    repeat ((first|refine oM ?_|refine oL ?_|refine oR ?_);(try intro _);conv=>whnf)
    refine RunsS.callV (fun Ez Hz Az Sz K=>Contains_fn _ c) ?_
    conv=>whnf
    rw [hs,decide_eq_true h5]
    try dsimp only
    (try refine gS ?_);conv=>whnf
    repeat ((first|refine oM ?_|refine oL ?_|refine oR ?_);(try intro _);conv=>whnf)
    refine RunsS.retU (UnwS.ret tab Tryz.func55 rfl fun Ez Hz Az Sz K=>⟨_,rfl,?_,K.keeps⟩)
    exact congrArg Value.bool (decide_eq_decide.2 (by simp [ValidP,h4,hc,h5]))
   conv=>whnf
   repeat ((first|refine oM ?_|refine oL ?_|refine oR ?_);(try intro _);conv=>whnf)
   refine RunsS.callV (fun Ez Hz Az Sz K=>Contains_fn _ c) ?_
   conv=>whnf
   rw [hs,decide_eq_false h5]
   try dsimp only
   (try refine gS ?_);conv=>whnf
   repeat ((first|refine oM ?_|refine oL ?_|refine oR ?_);(try intro _);conv=>whnf)
   refine RunsS.retU (UnwS.ret tab Tryz.func55 rfl fun Ez Hz Az Sz K=>⟨_,rfl,?_,K.keeps⟩)
   exact congrArg Value.bool (decide_eq_false (by simp [ValidP,hc,h5])).symm
  conv=>whnf
  repeat ((first|refine oM ?_|refine oL ?_|refine oR ?_);(try intro _);conv=>whnf)
  refine RunsS.retU (UnwS.ret tab Tryz.func55 rfl fun Ez Hz Az Sz K=>⟨_,rfl,?_,K.keeps⟩)
  exact congrArg Value.bool (decide_eq_false (by simp [ValidP];omega)).symm
 conv=>whnf
 repeat ((first|refine oM ?_|refine oL ?_|refine oR ?_);(try intro _);conv=>whnf)
 refine RunsS.retU (UnwS.ret tab Tryz.func55 rfl fun Ez Hz Az Sz K=>⟨_,rfl,?_,K.keeps⟩)
 exact congrArg Value.bool (decide_eq_false (by simp [ValidP,h1,h2,h3])).symm

def rowsT (l:List Tok):List (List Value):=l.map Tok.row
theorem rowsT_len (l:List Tok):(rowsT l).length=l.length:=by simp [rowsT]
theorem rowsT_get {l:List Tok} {k:Nat} (hk:k<l.length):(rowsT l)[k]? = some l[k].row:=by
 simp [rowsT,hk]

def txT (t:Tok):ByteArray:=if t.kind=2 then ⟨(Lib.itoa t.n).toArray⟩ else t.text
def joinB (l:List Tok):ByteArray:=⟨(Lib.join (l.map fun t=>bs (txT t)) [32]).toArray⟩
abbrev AllV (l:List Tok):Prop:=∀t∈l,ValidP t
def textV (l:List Tok):Value:=if AllV l then .tuple #[.string (joinB l),.int .i64 0] else .tuple #[.string ⟨#[]⟩,.int .i64 50]
theorem nDigits_le:∀(k u:Nat),u<10^(k+1)→Lib.nDigits u≤k+1
 |0,u,h=>by rw [Lib.nDigits_small (by simpa using h)];exact Nat.le_refl _
 |k+1,u,h=>by
  by_cases hu:u<10
  ·rw [Lib.nDigits_small hu];omega
  rw [Lib.nDigits_big hu]
  rw [Nat.pow_succ] at h
  have:=nDigits_le k (u/10) (by omega)
  omega
theorem itoa_nat {n:Int} (h:0≤n):Lib.itoa n=Lib.decDigits n.toNat:=by
 unfold Lib.itoa
 rw [if_neg (by omega)]
theorem txT_size {t:Tok} (h:ValidP t):(txT t).size≤32:=by
 unfold txT
 rcases h with ⟨h1,h2,_⟩|⟨h1,_,h3,h4⟩|⟨h1,h2,_⟩
 ·rw [if_neg (by omega)]
  have:=h2.1
  omega
 ·rw [if_pos h1,itoa_nat h3]
  show (Lib.decDigits t.n.toNat).toArray.size≤32
  rw [List.size_toArray,Lib.decDigits_length]
  have:=nDigits_le 12 t.n.toNat (by omega)
  omega
 rw [if_neg (by omega)]
 omega
theorem joinB_size {l:List Tok} (h:AllV l):(joinB l).size≤33*l.length:=by
 show (Lib.join (l.map fun t=>bs (txT t)) [32]).toArray.size≤_
 rw [List.size_toArray]
 cases l with
 |nil=>simp [Lib.join_nil]
 |cons t l=>
  have key:∀l:List Tok,AllV l→Lib.lens (l.map fun t=>bs (txT t))≤32*l.length:=by
   intro l
   induction l with
   |nil=>intro _;simp [Lib.lens]
   |cons t l ih=>
    intro h
    have h1:=txT_size (h t (List.mem_cons_self ..))
    have h2:=ih fun t ht=>h t (List.mem_cons_of_mem _ ht)
    simp only [Lib.lens,List.map_cons,List.sum_cons,List.length_cons,bs_len] at h2 ⊢
    omega
  rw [List.map_cons,Lib.join_length]
  have:=key (t::l) h
  simp only [List.map_cons,List.length_cons,List.length_map,List.length_nil] at this ⊢
  omega
theorem allV_take {l:List Tok} {k:Nat} (hk:k<l.length) (h:AllV (l.take k)) (hv:ValidP l[k]):AllV (l.take (k+1)):=by
 rw [List.take_succ_eq_append_getElem hk]
 intro t ht
 rcases List.mem_append.1 ht with ht|ht
 ·exact h t ht
 rw [List.mem_singleton.1 ht];exact hv
def rowsX (l:List Tok):List (List Value):=(l.map txT).map fun x=>[Value.string x]
theorem rowsX_app {l:List Tok} {k:Nat} (hk:k<l.length) {x:ByteArray} (hx:x=txT l[k]):rowsX (l.take k)++chunk 1 1 [Value.string x]=rowsX (l.take (k+1)):=by
 unfold rowsX
 rw [List.take_succ_eq_append_getElem hk,List.map_append,List.map_append,hx];rfl
theorem rowsX_len (l:List Tok):(rowsX l).length=l.length:=by simp [rowsX]
theorem Text_fn {h:Array Obj} (l:List Tok) (h200:l.length≤65536) {v:Value} (hv:Ro h v 4 (rowsT l)) (hT:PowH h):FnV Tryz.prog 20 #[v] h fun r h'=>r=textV l∧Keeps h.size h h':=by
 have hl:=rowsT_len l
 have hm:=hv.len
 refine Fn.ofG (envL [v]) 1 [.buf 0] [(0,.ro (4) (rowsT l))] (fun k=>k<_) Tryz.func20 (by kernel_rfl) rfl Tryz.ntmps20 rfl (fun _ hk=>hk) (Sat.ros (vs:=[v]) (l:=[(4,rowsT l)]) ⟨hv,trivial⟩) fun w0 cs=>?_
 conv=>whnf
 refine gS ?_;conv=>whnf
 repeat ((first|refine oM ?_|refine oL ?_|refine oR ?_);(try intro _);conv=>whnf)
 refine RunsS.subR (nx':=1) (l':=[(9,.v (.int .i64 0)),(8,.v (.int .i64 (rowsT l).length)),(7,.buf 0),(4,.v (.slice none 0 0))]) (H':=[(0,.ro 4 (rowsT l))]) [] ?_ sH sH
 refine RunsS.nilOwn (l':=[(9,.v (.int .i64 0)),(8,.v (.int .i64 (rowsT l).length)),(7,.buf 0),(4,.buf 1)]) (H':=[(0,.ro 4 (rowsT l))]) 9 1 ?_ (by rfl) (by rfl) (by rfl)
 refine RunsS.subR [] (RunsS.loop (fun (k:Nat)=>[(9,.v (.int .i64 k)),(8,.v (.int .i64 (rowsT l).length)),(7,.buf 0),(4,.buf 1)]) (fun (k:Nat)=>[(0,.ro 4 (rowsT l)),(1,.own 9 1 (rowsX (l.take k)))]) 2 (fun (k:Nat)=>k≤l.length∧AllV (l.take k)) (fun (k:Nat)=>l.length - k) ?round1 (0) ?J01) sH sH
 case J01=>exact (⟨Nat.zero_le _,fun _ h=>(by cases h)⟩)
 rintro k hJ back
 try dsimp only at hJ back
 conv=>whnf
 try dsimp only
 refine gS ?_;conv=>whnf
 repeat ((first|refine oM ?_|refine oL ?_|refine oR ?_);(try intro _);conv=>whnf)
 refine ⟨fun hk=>?_,fun hk=>?_⟩<;>conv=>whnf
 ·have hk:k<l.length:=by omega
  conv=>whnf
  repeat ((first|refine oM ?_|refine oL ?_|refine oR ?_);(try intro _);conv=>whnf)
  refine ⟨_,rowsT_get hk,?_⟩;conv=>whnf
  try (refine oN ?_;conv=>whnf)
  repeat ((first|refine oM ?_|refine oL ?_|refine oR ?_);(try intro _);conv=>whnf)
  by_cases hv:ValidP l[k]
  ·refine RunsS.callV (fun Ez Hz Az Sz K=>valid_fn l[k]) ?_
   conv=>whnf
   rw [decide_eq_true hv]
   try dsimp only
   (try refine gS ?_);conv=>whnf
   repeat ((first|refine oM ?_|refine oL ?_|refine oR ?_);(try intro _);conv=>whnf)
   refine ⟨fun h2=>?_,fun h2=>?_⟩<;>conv=>whnf
   ·have hx:txT l[k]=⟨(Lib.itoa l[k].n).toArray⟩:=if_pos h2
    have hn:0≤l[k].n∧l[k].n≤1099511627776:=by
     rcases hv with e|e|e
     ·have:=e.1;omega
     ·exact e.2.2
     have:=e.1;omega
    conv=>whnf
    repeat ((first|refine oM ?_|refine oL ?_|refine oR ?_);(try intro _);conv=>whnf)
    refine RunsS.callV (fun Ez Hz Az Sz K=>Itoa_fn l[k].n hn.1 (by omega) (hT.keeps ⟨K.size,K.same⟩)) ?_
    conv=>whnf
    (try refine gS ?_);conv=>whnf
    repeat ((first|refine oM ?_|refine oL ?_|refine oR ?_);(try intro _);conv=>whnf)
    refine And.intro (appOb (by rw [rowsX_len,List.length_take];omega)) ?_;conv=>whnf
    (try refine gS ?_);conv=>whnf
    repeat ((first|refine oM ?_|refine oL ?_|refine oR ?_);(try intro _);conv=>whnf)
    refine RunsS.rowsEq (4) (rowsX_app hk hx.symm) ?_;conv=>whnf
    refine RunsS.subR [(1,4)] (back (k+1) (by exact (⟨hk,allV_take hk hJ.2 hv⟩)) (by (try dsimp only);omega)) sH sH
   have hx:txT l[k]=l[k].text:=if_neg h2
   conv=>whnf
   repeat ((first|refine oM ?_|refine oL ?_|refine oR ?_);(try intro _);conv=>whnf)
   refine And.intro (appOb (by rw [rowsX_len,List.length_take];omega)) ?_;conv=>whnf
   (try refine gS ?_);conv=>whnf
   repeat ((first|refine oM ?_|refine oL ?_|refine oR ?_);(try intro _);conv=>whnf)
   refine RunsS.rowsEq (4) (rowsX_app hk hx.symm) ?_;conv=>whnf
   refine RunsS.subR [(1,4)] (back (k+1) (by exact (⟨hk,allV_take hk hJ.2 hv⟩)) (by (try dsimp only);omega)) sH sH
  refine RunsS.callV (fun Ez Hz Az Sz K=>valid_fn l[k]) ?_
  conv=>whnf
  rw [decide_eq_false hv]
  try dsimp only
  (try refine gS ?_);conv=>whnf
  repeat ((first|refine oM ?_|refine oL ?_|refine oR ?_);(try intro _);conv=>whnf)
  refine RunsS.retU (UnwS.ret tab Tryz.func20 rfl fun Ez Hz Az Sz K=>⟨_,rfl,?_,K.keeps⟩)
  unfold textV
  rw [if_neg fun e=>hv (e _ (List.getElem_mem hk))];rfl
 have hk:k=l.length:=by omega
 have hall:=hJ.2
 rw [hk,List.take_length] at hall
 conv=>whnf
 repeat ((first|refine oM ?_|refine oL ?_|refine oR ?_);(try intro _);conv=>whnf)
 rw [hk,List.take_length]
 have hj:(Lib.join ((l.map txT).map (·.data.toList)) (⟨#[32]⟩:ByteArray).data.toList)=Lib.join (l.map fun t=>bs (txT t)) [32]:=by rw [List.map_map];rfl
 have hsz:=joinB_size hall
 have hsz':(Lib.join (l.map fun t=>bs (txT t)) [32]).length≤33*l.length:=by
  rw [←List.size_toArray];exact hsz
 refine RunsS.callV (fun Ez Hz Az Sz K=>Join_fn (l.map txT) ⟨#[32]⟩ (Sz.ok (1,_) (lookH_mem rfl)).2.1 (by rw [List.length_map];omega) (by rw [hj];omega)) ?_
 conv=>whnf
 (try refine gS ?_);conv=>whnf
 repeat ((first|refine oM ?_|refine oL ?_|refine oR ?_);(try intro _);conv=>whnf)
 refine RunsS.retU (UnwS.ret tab Tryz.func20 rfl fun Ez Hz Az Sz K=>⟨_,rfl,?_,K.keeps⟩)
 unfold textV
 rw [if_pos hall,hj];rfl
theorem dec_split (u:Nat):Lib.decDigits u=(if u<10 then [] else Lib.decDigits (u/10))++[UInt8.ofNat (48+u%10)]:=by
 rw [Lib.decDigits]
 split
 ·rw [Nat.mod_eq_of_lt (by assumption)];rfl
 rfl

theorem lexA_eq (src:ByteArray):lexA src=match lexS (bs src) 0 with
  | .inl l=>.inl (toksP l)
  | .inr q=>.inr q:=by
 unfold lexA
 rw [lexG_eq src 0 (Nat.zero_le _),List.drop_zero]
 cases lexS (bs src) 0<;>simp
theorem lexO_ok {src:ByteArray} {l:List (Nat×Tk)} (h:lexS (bs src) 0=.inl l):lexO src=.ret (.tup [.buf 0,.v (.int .i64 0),.v (.int .i64 0)]) 1 [toksB (toksP l) 0]:=by
 unfold lexO
 rw [lexA_eq,h]
theorem lexO_err {src:ByteArray} {q:Nat} (h:lexS (bs src) 0=.inr q):lexO src=.ret (.tup [.v (.slice none 0 0),.v (.int .i64 q),.v (.int .i64 50)]) 0 []:=by
 unfold lexO
 rw [lexA_eq,h]
theorem lexOk_fn {src:ByteArray} (hs:src.size≤65536) {l:List (Nat×Tk)} (h:lexS (bs src) 0=.inl l):FnS Tryz.prog 19 0 [.v (.string src)] [] (fun _:Unit=>True) (fun _=>.ret (.tup [.buf 0,.v (.int .i64 0),.v (.int .i64 0)]) 1 [toksB (toksP l) 0]):=by
 have:=lex_fn src hs
 rwa [lexO_ok h] at this
theorem lexErr_fn {src:ByteArray} (hs:src.size≤65536) {q:Nat} (h:lexS (bs src) 0=.inr q):FnS Tryz.prog 19 0 [.v (.string src)] [] (fun _:Unit=>True) (fun _=>.ret (.tup [.v (.slice none 0 0),.v (.int .i64 q),.v (.int .i64 50)]) 0 []):=by
 have:=lex_fn src hs
 rwa [lexO_err h] at this
theorem rlexOk_fn {src:ByteArray} (hs:src.size≤65536) {l:List (Nat×Tk)} (h:lexS (bs src) 0=.inl l):FnS Tryz.prog 25 0 [.v (.string src)] [] (fun _:Unit=>True) (fun _=>.ret (.tup [.buf 0,.v (.int .i64 0),.v (.int .i64 0)]) 1 [toksB (toksP l) 0]):=by
 have:=rlex_fn src hs
 rwa [lexO_ok h] at this
theorem rlexErr_fn {src:ByteArray} (hs:src.size≤65536) {q:Nat} (h:lexS (bs src) 0=.inr q):FnS Tryz.prog 25 0 [.v (.string src)] [] (fun _:Unit=>True) (fun _=>.ret (.tup [.v (.slice none 0 0),.v (.int .i64 q),.v (.int .i64 50)]) 0 []):=by
 have:=rlex_fn src hs
 rwa [lexO_err h] at this
end Go.Proofs.YtgbeechjghajcaaGreatDoor

namespace Go.Proofs.YtgbeechjghajcaaGreatDoor
open Go Go.Fw
abbrev NameL (b:Bs):Prop:=(1≤b.length∧b.length≤32)∧cls (b.headD 0).toNat=2 ∧ ∀c∈b,nmC c.toNat=true
def Tk.ok:Tk→Prop
 | .name b=>NameL b
 | .num n=>n≤1099511627776
 | .sign c=>cls c.toNat=4
def Tk.tx:Tk→Bs
 | .name b=>b
 | .num n=>Lib.decDigits n
 | .sign c=>[c]
theorem numL_app (a b:Bs):∀x,numL (a++b) x=(numL a x).bind (numL b):=by
 induction a with
 |nil=>intro x;rfl
 |cons c r ih=>
  intro x
  simp only [List.cons_append,numL]
  split
  ·exact ih _
  rfl
theorem of_dgC {c:Nat} (h:dgC c=true):48≤c∧c≤57:=(cls3 c).1 ((dgC_iff c).1 h)
theorem dec_numL:∀(ds:Bs) (n:Nat),ds ≠ []→(∀c∈ds,48≤c.toNat∧c.toNat≤57) → ¬(1<ds.length∧(ds.headD 0).toNat=48)→numL ds 0=some n→Lib.decDigits n=ds∧(1<ds.length→10≤n):=by
 intro ds
 induction h:ds.length generalizing ds with
 |zero=>intro n hn;exact absurd (List.eq_nil_of_length_eq_zero h) hn
 |succ k ih=>
  intro n hne hd hz hnum
  obtain ⟨xs,d,rfl⟩:∃xs d,ds=xs++[d]:=⟨ds.dropLast,ds.getLast hne,(List.dropLast_concat_getLast hne).symm⟩
  have hdd:=hd d (List.mem_append_right _ (List.mem_singleton.2 rfl))
  have hback:∀x:Nat,x%10=d.toNat - 48→UInt8.ofNat (48+x%10)=d:=fun x hx=>by
   rw [hx,show 48+(d.toNat - 48)=d.toNat by omega,UInt8.ofNat_toNat]
  rw [numL_app] at hnum
  have hxk:xs.length=k:=by simpa using h
  by_cases hxs:xs=[]
  ·subst hxs
   simp only [numL,Option.bind_some] at hnum
   rw [if_pos (by omega)] at hnum
   cases hnum
   have hk0:k=0:=by simpa using h
   refine ⟨?_,fun hk=>by omega⟩
   rw [dec_split,if_pos (by omega),hback _ (by omega)]
  cases hm:numL xs 0 with
  |none=>rw [hm] at hnum;cases hnum
  |some m=>
   rw [hm] at hnum
   simp only [Option.bind_some,numL] at hnum
   split at hnum
   ·cases hnum
    have hhead:(xs++[d]).headD 0=xs.headD 0:=by
     cases xs with
     |nil=>exact absurd rfl hxs
     |cons x r=>rfl
    have hl:(xs++[d]).length=xs.length+1:=by simp
    have hpos:0<xs.length:=List.length_pos_iff.2 hxs
    rw [hhead] at hz
    obtain ⟨i1,i2⟩:=ih xs hxk m hxs (fun c hc=>hd c (List.mem_append_left _ hc)) (fun e=>hz ⟨by omega,e.2⟩) hm
    have hm1:1≤m:=by
     by_cases h1:1<k
     ·have:=i2 h1;omega
     have:((Lib.decDigits m).headD 0).toNat≠48:=by rw [i1];exact fun e=>hz ⟨by omega,e⟩
     rcases Nat.eq_zero_or_pos m with rfl|hm
     ·exact absurd (by rw [Lib.decDigits_one (by decide)];rfl) this
     exact hm
    refine ⟨?_,fun _=>by omega⟩
    rw [dec_split,if_neg (by omega),hback _ (by omega),show (10*m+(d.toNat - 48))/10=m by omega,i1]
   cases hnum
theorem head_take {b:Bs} {k:Nat} (hk:0<k):(b.take k).headD 0=b.headD 0:=by
 cases b with
 |nil=>simp
 |cons c r=>
  cases k with
  |zero=>omega
  |succ k=>rfl
theorem stepS_tk {b:Bs} {t:Tk} {k:Nat} (h:stepS b=some (some t,k)):t.ok∧t.tx=b.take k:=by
 have hk:=stepS_ok h
 cases b with
 |nil=>cases h
 |cons c r=>
  simp only [stepS] at h
  split at h
  ·cases h
  split at h
  ·cases h
  split at h
  ·rename_i hc
   split at h
   ·cases h
   cases h
   have hle:=runL_le nmC (c::r)
   refine ⟨⟨⟨?_,?_⟩,?_,fun x hx=>runL_mem x hx⟩,rfl⟩
   ·rw [List.length_take];omega
   ·rw [List.length_take];omega
   rw [head_take hk.1];exact hc
  split at h
  ·rename_i hc
   split at h
   ·cases h
   rename_i hz
   split at h
   ·cases h
   rename_i n hn
   cases h
   have hle:=runL_le dgC (c::r)
   have hlen:((c::r).take (runL dgC (c::r))).length=runL dgC (c::r):=by rw [List.length_take];omega
   obtain ⟨h1,_⟩:=dec_numL _ n (fun e=>by rw [e] at hlen;simp at hlen;omega) (fun x hx=>of_dgC (runL_mem x hx)) (by rw [hlen,head_take hk.1];exact hz) hn
   refine ⟨?_,h1⟩
   have key:∀(ds:Bs) (a n:Nat),a≤1099511627776→numL ds a=some n→n≤1099511627776:=by
    intro ds
    induction ds with
    |nil=>intro a n ha hn;cases hn;exact ha
    |cons x xs ih=>
     intro a n ha hn
     simp only [numL] at hn
     split at hn
     ·exact ih _ _ (by assumption) hn
     cases hn
   exact key _ 0 n (by decide) hn
  split at h
  ·cases h
  rename_i h0 h1 h2 h3 _
  cases h
  refine ⟨?_,rfl⟩
  have:=cls_cases c.toNat
  show cls c.toNat=4
  omega
theorem lexS_ok:∀(n:Nat) (b:Bs) (p:Nat) (l:List (Nat×Tk)),b.length=n→lexS b p=.inl l → ∀q∈l,q.2.ok:=by
 intro n
 induction n using Nat.strongRecOn with
 |_ n ih=>
  intro b p l hn h q hq
  by_cases hb:b=[]
  ·subst hb
   rw [lexS_nil] at h
   cases h
   cases hq
  rw [lexS_cons hb] at h
  split at h
  ·cases h
  rename_i t k hk
  have hok:=stepS_ok hk
  split at h
  ·cases h
  rename_i l' hl
  cases h
  have:=ih (b.drop k).length (by rw [List.length_drop];omega) _ _ _ rfl hl
  cases t with
  |none=>exact this q hq
  |some t=>
   rcases List.mem_cons.1 hq with rfl|hq
   ·exact (stepS_tk hk).1
   exact this q hq
theorem lexS_len:∀(n:Nat) (b:Bs) (p:Nat) (l:List (Nat×Tk)),b.length=n→lexS b p=.inl l→l.length≤n∧(l.map fun q=>q.2.tx.length).sum≤n:=by
 intro n
 induction n using Nat.strongRecOn with
 |_ n ih=>
  intro b p l hn h
  by_cases hb:b=[]
  ·subst hb
   rw [lexS_nil] at h
   cases h
   simp
  rw [lexS_cons hb] at h
  split at h
  ·cases h
  rename_i t k hk
  have hok:=stepS_ok hk
  split at h
  ·cases h
  rename_i l' hl
  cases h
  have:=ih (b.drop k).length (by rw [List.length_drop];omega) _ _ _ rfl hl
  rw [List.length_drop] at this
  cases t with
  |none=>simp only [addTk];omega
  |some t=>
   have:=(stepS_tk hk).2
   have hl:=congrArg List.length this
   rw [List.length_take] at hl
   simp only [addTk,List.length_cons,List.map_cons,List.sum_cons]
   omega

theorem nameP_iff (b:Bs):NameP ⟨b.toArray⟩↔NameL b:=by
 have hb:∀i,byteAt ⟨b.toArray⟩ i=(b.getD i 0).toNat:=fun i=>rfl
 constructor
 ·rintro ⟨h1,h2,h3⟩
  refine ⟨h1,?_,fun c hc=>?_⟩
  ·rw [hb] at h2
   cases b<;>exact h2
  obtain ⟨i,hi,rfl⟩:=List.getElem_of_mem hc
  have:=h3 i hi
  rwa [hb,List.getD_eq_getElem?_getD,List.getElem?_eq_getElem hi] at this
 rintro ⟨h1,h2,h3⟩
 refine ⟨h1,?_,fun i hi=>?_⟩
 ·rw [hb]
  cases b<;>exact h2
 rw [hb,List.getD_eq_getElem?_getD,List.getElem?_eq_getElem (show i<b.length from hi)]
 exact h3 _ (List.getElem_mem _)
theorem tok_valid {t:Tk} (h:t.ok) (p:Nat):ValidP (t.tok p)∧bs (txT (t.tok p))=t.tx:=by
 cases t with
 |name b=>exact ⟨.inl ⟨rfl,(nameP_iff b).2 h,rfl⟩,rfl⟩
 |num n=>
  refine ⟨.inr (.inl ⟨rfl,rfl,by show (0:Int)≤(n:Int);omega,by show (n:Int)≤_;have:n≤1099511627776:=h;omega⟩),?_⟩
  show bs (txT ⟨2,p,⟨#[]⟩,n⟩)=Lib.decDigits n
  unfold txT
  rw [if_pos rfl,itoa_nat (Int.natCast_nonneg n)];rfl
 |sign c=>exact ⟨.inr (.inr ⟨rfl,rfl,h,rfl⟩),rfl⟩
theorem lex_allV {b:Bs} {L:List (Nat×Tk)} (h:lexS b 0=.inl L):AllV (toksP L)∧(toksP L).length≤b.length∧(joinB (toksP L)).size≤2*b.length:=by
 have hok:=lexS_ok _ b 0 L rfl h
 obtain ⟨h1,h2⟩:=lexS_len _ b 0 L rfl h
 refine ⟨fun t ht=>?_,by simpa [toksP] using h1,?_⟩
 ·obtain ⟨q,hq,rfl⟩:=List.mem_map.1 ht
  exact (tok_valid (hok q hq) q.1).1
 show (Lib.join ((toksP L).map fun t=>bs (txT t)) [32]).toArray.size≤_
 have e:((toksP L).map fun t=>bs (txT t))=L.map fun q=>q.2.tx:=by
  simp only [toksP,List.map_map]
  exact List.map_congr_left fun q hq=>(tok_valid (hok q hq) q.1).2
 rw [List.size_toArray,e]
 cases L with
 |nil=>simp [Lib.join_nil]
 |cons q L=>
  rw [List.map_cons,Lib.join_length]
  simp only [Lib.lens,List.map_cons,List.sum_cons,List.length_cons,List.length_map,List.map_map,List.length_nil,Function.comp_def] at h1 h2 ⊢
  omega

end Go.Proofs.YtgbeechjghajcaaGreatDoor

namespace Go.Proofs.YtgbeechjghajcaaGreatDoor
open Go Go.Fw
set_option maxRecDepth 100000
set_option maxHeartbeats 99999999


end Go.Proofs.YtgbeechjghajcaaGreatDoor

namespace Go.NatM
abbrev mt:ByteArray:=⟨#[]⟩
end Go.NatM
namespace Go.RatM
open Go Go.Fw Go.NatM
structure Rt where
 neg:Bool
 n:ByteArray
 d:ByteArray
def Rt.v (a:Rt):Value:=.agg #[.bool a.neg,.string a.n,.string a.d]
def zr:Rt:=⟨false,NatM.mt,NatM.mt⟩
structure Un where
 name:ByteArray
 of_:ByteArray
 n:Int
 d:Int
 base:Int
 scale:Rt
def Un.row (u:Un):List Value:=[.string u.name,.string u.of_,.int .i64 u.n,.int .i64 u.d,.int .i64 u.base,.bool u.scale.neg,.string u.scale.n,.string u.scale.d]
def Un.v (u:Un):Value:=.agg u.row.toArray
theorem Un.ext8 {u v:Un} (h:u.name=v.name∧u.of_=v.of_∧u.n=v.n∧u.d=v.d∧u.base=v.base∧u.scale.neg=v.scale.neg∧u.scale.n=v.scale.n∧u.scale.d=v.scale.d):u=v:=by
 obtain ⟨a,b,c,d,e,⟨f,g,i⟩⟩:=u
 obtain ⟨a',b',c',d',e',⟨f',g',i'⟩⟩:=v
 obtain ⟨rfl,rfl,rfl,rfl,rfl,rfl,rfl,rfl⟩:=h
 rfl
theorem Un.ext8_iff {u v:Un}:u=v↔(u.name=v.name∧u.of_=v.of_∧u.n=v.n∧u.d=v.d∧u.base=v.base∧u.scale.neg=v.scale.neg∧u.scale.n=v.scale.n∧u.scale.d=v.scale.d):=
 ⟨fun e=>by subst e;simp,Un.ext8⟩
instance:DecidableEq Un:=fun _ _=>decidable_of_iff _ Un.ext8_iff.symm
def rowsU (l:List Un):List (List Value):=l.map Un.row
theorem rowsU_len (l:List Un):(rowsU l).length=l.length:=by simp [rowsU]
theorem rowsU_get {l:List Un} {k:Nat} (hk:k<l.length):(rowsU l)[k]? = some l[k].row:=by simp [rowsU,hk]
end Go.RatM

namespace Go.SrcM
open Go Go.Fw Go.RatM
abbrev rws {α:Type} (f:α→List Value) (l:List α):List (List Value):=l.map f
theorem rws_len {α:Type} (f:α→List Value) (l:List α):(rws f l).length=l.length:=by simp [rws]
theorem rws_get {α:Type} {f:α→List Value} {l:List α} {k:Nat} (hk:k<l.length):(rws f l)[k]? = some (f l[k]):=by simp [rws,hk]
abbrev rwsB (l:List ByteArray):List (List Value):=rws (fun s=>[Value.string s]) l
theorem rwsB_len (l:List ByteArray):(rwsB l).length=l.length:=rws_len _ l
structure It where
 name:ByteArray
 unit:ByteArray
 mn:Int
 md:Int
 shelf:Int
 un:Int
def It.row (i:It):List Value:=[.string i.name,.string i.unit,.int .i64 i.mn,.int .i64 i.md,.int .i64 i.shelf,.int .i64 i.un]
structure Mc where
 name:ByteArray
 plant:ByteArray
 clean:Int
 pn:Int
def Mc.row (i:Mc):List Value:=[.string i.name,.string i.plant,.int .i64 i.clean,.int .i64 i.pn]
structure Cd where
 opt:ByteArray
 ch:ByteArray
 on:Int
 cn:Int
def Cd.row (i:Cd):List Value:=[.string i.opt,.string i.ch,.int .i64 i.on,.int .i64 i.cn]
structure Am where
 n:Int
 d:Int
 unit:ByteArray
 item:ByteArray
 back:Bool
 un:Int
 inn:Int
def Am.row (i:Am):List Value:=[.int .i64 i.n,.int .i64 i.d,.string i.unit,.string i.item,.bool i.back,.int .i64 i.un,.int .i64 i.inn]
structure Rn where
 mach:ByteArray
 slots:Int
 mn:Int
def Rn.row (i:Rn):List Value:=[.string i.mach,.int .i64 i.slots,.int .i64 i.mn]
structure Sw where
 a:ByteArray
 b:ByteArray
 an:Int
 bn:Int
def Sw.row (i:Sw):List Value:=[.string i.a,.string i.b,.int .i64 i.an,.int .i64 i.bn]
structure Hd where
 a:Option Addr
 c:Nat
abbrev Hd.v (h:Hd) (n:Nat):Value:=.slice h.a n h.c
structure OpV where
 name:ByteArray
 hd:Hd
 ch:List ByteArray
def OpV.row (i:OpV):List Value:=[.string i.name,.slice i.hd.a i.ch.length i.hd.c]
structure FbV where
 hd:Hd
 cs:List Cd
def FbV.row (i:FbV):List Value:=[.slice i.hd.a i.cs.length i.hd.c]
structure RcV where
 item:ByteArray
 plant:ByteArray
 fr:Int
 to:Int
 hc:Hd
 cs:List Cd
 hi:Hd
 inn:List Am
 ho:Hd
 out:List Am
 rwN:Int
 rwD:Int
 yN:Int
 yD:Int
 tN:Int
 tD:Int
 lead:Int
 hr:Hd
 runs:List Rn
 inum:Int
 pnum:Int
def RcV.row (r:RcV):List Value:=[.string r.item,.string r.plant,.int .i64 r.fr,.int .i64 r.to,.slice r.hc.a r.cs.length r.hc.c,.slice r.hi.a r.inn.length r.hi.c,.slice r.ho.a r.out.length r.ho.c,.int .i64 r.rwN,.int .i64 r.rwD,.int .i64 r.yN,.int .i64 r.yD,.int .i64 r.tN,.int .i64 r.tD,.int .i64 r.lead,.slice r.hr.a r.runs.length r.hr.c,.int .i64 r.inum,.int .i64 r.pnum]
structure SrcV where
 units:List Un
 items:List It
 plants:List ByteArray
 machines:List Mc
 options:List OpV
 forbids:List FbV
 recipes:List RcV
 swaps:List Sw
section
variable (G:Nat→Prop) (h:Array Obj)
def OpV.ok (o:OpV):Prop:=RoF G h (o.hd.v o.ch.length) 1 (rwsB o.ch)
def FbV.ok (o:FbV):Prop:=RoF G h (o.hd.v o.cs.length) 4 (rws Cd.row o.cs)
structure RcV.ok (r:RcV):Prop where
 c:RoF G h (r.hc.v r.cs.length) 4 (rws Cd.row r.cs)
 i:RoF G h (r.hi.v r.inn.length) 7 (rws Am.row r.inn)
 o:RoF G h (r.ho.v r.out.length) 7 (rws Am.row r.out)
 rn:RoF G h (r.hr.v r.runs.length) 3 (rws Rn.row r.runs)
structure SrcV.sub (s:SrcV):Prop where
 o:∀o∈s.options,o.ok G h
 f:∀o∈s.forbids,o.ok G h
 r:∀o∈s.recipes,o.ok G h
end
section
variable {G G':Nat→Prop} {h h':Array Obj}
theorem OpV.ok.up {o:OpV} (H:o.ok G h) (U:Up G h G' h'):o.ok G' h':=RoF.up U H
theorem FbV.ok.up {o:FbV} (H:o.ok G h) (U:Up G h G' h'):o.ok G' h':=RoF.up U H
theorem RcV.ok.up {o:RcV} (H:o.ok G h) (U:Up G h G' h'):o.ok G' h':=⟨RoF.up U H.c,RoF.up U H.i,RoF.up U H.o,RoF.up U H.rn⟩
theorem SrcV.sub.up {s:SrcV} (H:s.sub G h) (U:Up G h G' h'):s.sub G' h':=⟨fun o ho=>(H.o o ho).up U,fun o ho=>(H.f o ho).up U,fun o ho=>(H.r o ho).up U⟩
theorem RcV.ok.tok (r:RcV):TOk (fun F h=>r.ok F h):=⟨fun _ _ _ hs H=>H.up ⟨hs,fun _ _=>rfl⟩,fun _ _ _ H K=>H.up ⟨fun _ x=>x,K.same⟩⟩
theorem RoF.tok (v:Value) (sz:Nat) (rows:List (List Value)):TOk (fun F h=>RoF F h v sz rows):=⟨fun _ _ _ hs H=>RoF.up ⟨hs,fun _ _=>rfl⟩ H,fun _ _ _ H K=>RoF.up ⟨fun _ x=>x,K.same⟩ H⟩
end
abbrev i64 (n:Int):Prop:= -9223372036854775808≤n∧n≤9223372036854775807
def Cd.wf (c:Cd):Prop:=i64 c.on∧i64 c.cn
def Am.wf (a:Am):Prop:=i64 a.n∧i64 a.d∧i64 a.un∧i64 a.inn
def Rn.wf (r:Rn):Prop:=i64 r.slots∧i64 r.mn
def Sw.wf (r:Sw):Prop:=i64 r.an∧i64 r.bn
def It.wf (i:It):Prop:=i64 i.mn∧i64 i.md∧i64 i.shelf∧i64 i.un
def Mc.wf (i:Mc):Prop:=i64 i.clean∧i64 i.pn
structure RcV.wf (r:RcV):Prop where
 c:∀c∈r.cs,c.wf
 i:∀c∈r.inn,c.wf
 o:∀c∈r.out,c.wf
 rn:∀c∈r.runs,c.wf
 n:i64 r.fr∧i64 r.to∧i64 r.rwN∧i64 r.rwD∧i64 r.yN∧i64 r.yD∧i64 r.tN∧i64 r.tD∧i64 r.lead∧i64 r.inum∧i64 r.pnum
structure SrcV.wf (s:SrcV):Prop where
 U:∀u∈s.units,i64 u.n∧i64 u.d
 I:∀u∈s.items,u.wf
 M:∀u∈s.machines,u.wf
 F:∀u∈s.forbids,∀c∈u.cs,c.wf
 R:∀u∈s.recipes,u.wf
 S:∀u∈s.swaps,u.wf
end Go.SrcM

namespace Go.SrcM
open Go Go.Fw Go.RatM
def noSrc:SrcV:=⟨[],[],[],[],[],[],[],[]⟩
def OpV.bare (o:OpV):OpV:={o with hd:=⟨none,0⟩}
def FbV.bare (o:FbV):FbV:={o with hd:=⟨none,0⟩}
def RcV.bare (r:RcV):RcV:={r with hc:=⟨none,0⟩,hi:=⟨none,0⟩,ho:=⟨none,0⟩,hr:=⟨none,0⟩}
def SrcV.bare (s:SrcV):SrcV:={s with options:=s.options.map OpV.bare,forbids:=s.forbids.map FbV.bare,recipes:=s.recipes.map RcV.bare}
theorem take_snoc {α:Type} {l:List α} {k:Nat} (hk:k<l.length):l.take (k+1)=l.take k++[l[k]]:=by rw [List.take_add_one,List.getElem?_eq_getElem hk];rfl
end Go.SrcM

namespace Go.SrcM
open Go Go.Fw Go.RatM
structure TopF (G:Nat→Prop) (h:Array Obj) (vU vI vP vM vO vF vR vS:Value) (s:SrcV):Prop where
 U:RoF G h vU 8 (rowsU s.units)
 I:RoF G h vI 6 (rws It.row s.items)
 P:RoF G h vP 1 (rwsB s.plants)
 M:RoF G h vM 4 (rws Mc.row s.machines)
 O:RoF G h vO 2 (rws OpV.row s.options)
 F:RoF G h vF 1 (rws FbV.row s.forbids)
 R:RoF G h vR 17 (rws RcV.row s.recipes)
 S:RoF G h vS 4 (rws Sw.row s.swaps)
 below:s.sub G h
theorem TopF.up {G G':Nat→Prop} {h h':Array Obj} {vU vI vP vM vO vF vR vS:Value} {s:SrcV} (H:TopF G h vU vI vP vM vO vF vR vS s) (U:Up G h G' h'):TopF G' h' vU vI vP vM vO vF vR vS s:=
 ⟨RoF.up U H.U,RoF.up U H.I,RoF.up U H.P,RoF.up U H.M,RoF.up U H.O,RoF.up U H.F,RoF.up U H.R,RoF.up U H.S,H.below.up U⟩
theorem TopF.tok (vU vI vP vM vO vF vR vS:Value) (s:SrcV):TOk (fun F h=>TopF F h vU vI vP vM vO vF vR vS s):=⟨fun _ _ _ hs H=>H.up ⟨hs,fun _ _=>rfl⟩,fun _ _ _ H K=>H.up ⟨fun _ x=>x,K.same⟩⟩
end Go.SrcM
namespace Go.Proofs.YtgbeechjghajcaaGreatDoor
open Go Go.Fw Go.NatM Go.RatM Go.SrcM
theorem RoF.sli {G:Nat→Prop} {h:Array Obj} {v:Value} {sz n:Nat} {rows:List (List Value)} (H:RoF G h v sz rows) (e:rows.length=n):∃a c,v=.slice a n c:=by
 obtain ⟨_,_,a,c,rfl,_⟩:=H
 exact ⟨a,c,by rw [e]⟩
theorem RoF.nil (G:Nat→Prop) (h:Array Obj) (sz:Nat):RoF G h (.slice none 0 0) sz []:=⟨fun _ h=>absurd h List.not_mem_nil,⟨Nat.zero_le _,Nat.le_refl _⟩,none,0,rfl,.inl rfl⟩
theorem TopF.none (G:Nat→Prop) (h:Array Obj):TopF G h (.slice none 0 0) (.slice none 0 0) (.slice none 0 0) (.slice none 0 0) (.slice none 0 0) (.slice none 0 0) (.slice none 0 0) (.slice none 0 0) noSrc:=
 ⟨RoF.nil _ _ _,RoF.nil _ _ _,RoF.nil _ _ _,RoF.nil _ _ _,RoF.nil _ _ _,RoF.nil _ _ _,RoF.nil _ _ _,RoF.nil _ _ _,fun _ h=>absurd h List.not_mem_nil,fun _ h=>absurd h List.not_mem_nil,fun _ h=>absurd h List.not_mem_nil⟩
abbrev nilV:Value:=.slice none 0 0
abbrev zC:Fw.Blk:=.cells 32 [.v (.slice none 0 0),.v (.slice none 0 0),.v (.slice none 0 0),.v (.slice none 0 0),.v (.slice none 0 0),.v (.slice none 0 0),.v (.slice none 0 0),.v (.slice none 0 0)]
abbrev vC (vU vI vP vM vO vF vR vS:Value):Fw.Blk:=.cells 32 [.v vU,.v vI,.v vP,.v vM,.v vO,.v vF,.v vR,.v vS]
abbrev sC (aU:Option Addr) (cU:Nat) (aI:Option Addr) (cI:Nat) (aP:Option Addr) (cP:Nat) (aM:Option Addr) (cM:Nat) (aO:Option Addr) (cO:Nat) (aF:Option Addr) (cF:Nat) (aR:Option Addr) (cR:Nat) (aS:Option Addr) (cS:Nat) (s:SrcV):Fw.Blk:=.cells 32 [.v (.slice aU s.units.length cU),.v (.slice aI s.items.length cI),.v (.slice aP s.plants.length cP),.v (.slice aM s.machines.length cM),.v (.slice aO s.options.length cO),.v (.slice aF s.forbids.length cF),.v (.slice aR s.recipes.length cR),.v (.slice aS s.swaps.length cS)]
abbrev srcA (vU vI vP vM vO vF vR vS:Value):SV:=.agg [.v vU,.v vI,.v vP,.v vM,.v vO,.v vF,.v vR,.v vS]
abbrev TopT (vU vI vP vM vO vF vR vS:Value) (s:SrcV) (F:Nat→Prop) (h:Array Obj):Prop:=TopF F h vU vI vP vM vO vF vR vS s
theorem topShapes {G:Nat→Prop} {h:Array Obj} {vU vI vP vM vO vF vR vS:Value} {s:SrcV} (H:TopF G h vU vI vP vM vO vF vR vS s):∃aU cU aI cI aP cP aM cM aO cO aF cF aR cR aS cS,vU=.slice aU s.units.length cU∧vI=.slice aI s.items.length cI∧vP=.slice aP s.plants.length cP∧vM=.slice aM s.machines.length cM∧vO=.slice aO s.options.length cO∧vF=.slice aF s.forbids.length cF∧vR=.slice aR s.recipes.length cR∧vS=.slice aS s.swaps.length cS:=by
 obtain ⟨aU,cU,e1⟩:=RoF.sli H.U (rowsU_len s.units)
 obtain ⟨aI,cI,e2⟩:=RoF.sli H.I (rws_len It.row s.items)
 obtain ⟨aP,cP,e3⟩:=RoF.sli H.P (rwsB_len s.plants)
 obtain ⟨aM,cM,e4⟩:=RoF.sli H.M (rws_len Mc.row s.machines)
 obtain ⟨aO,cO,e5⟩:=RoF.sli H.O (rws_len OpV.row s.options)
 obtain ⟨aF,cF,e6⟩:=RoF.sli H.F (rws_len FbV.row s.forbids)
 obtain ⟨aR,cR,e7⟩:=RoF.sli H.R (rws_len RcV.row s.recipes)
 obtain ⟨aS,cS,e8⟩:=RoF.sli H.S (rws_len Sw.row s.swaps)
 exact ⟨aU,cU,aI,cI,aP,cP,aM,cM,aO,cO,aF,cF,aR,cR,aS,cS,e1,e2,e3,e4,e5,e6,e7,e8⟩
end Go.Proofs.YtgbeechjghajcaaGreatDoor

namespace Go.SynM
open Go Go.Fw Go.RatM Go.SrcM
open Go.Proofs.YtgbeechjghajcaaGreatDoor (Tok)
inductive Rs (α:Type) where
 |ok (a:α) (r:List Tok)
 |bad (r:List Tok) (e:Nat)
abbrev P (α:Type):=List Tok→Rs α
def bnd {α β:Type} (p:P α) (f:α→P β):P β:=fun r=>match p r with
 | .ok a r'=>f a r'
 | .bad r' e=>.bad r' e
def pur {α:Type} (a:α):P α:=fun r=>.ok a r
def failP {α:Type} (e:Nat):P α:=fun r=>.bad r e
theorem bnd_ok {α β:Type} {p:P α} {f:α→P β} {r r':List Tok} {a:α} (h:p r=.ok a r'):bnd p f r=f a r':=by unfold bnd;rw [h]
theorem bnd_bad {α β:Type} {p:P α} {f:α→P β} {r r':List Tok} {e:Nat} (h:p r=.bad r' e):bnd p f r=.bad r' e:=by unfold bnd;rw [h]
def isT (k:Int) (t:ByteArray):List Tok→Bool
 | []=>false
 |x::_=>decide (x.kind=k∧x.text=t)
def skip (k:Int) (t:ByteArray):P Unit:=fun r=>if isT k t r then .ok () r.tail else .bad r 100
def nameP:P ByteArray
 | []=>.bad [] 100
 |x::r=>if x.kind=1 then .ok x.text r else .bad (x::r) 100
def numP:P Int
 | []=>.bad [] 100
 |x::r=>if x.kind=2∧x.n≤1048576 then .ok x.n r else .bad (x::r) 100
abbrev B (l:List UInt8):ByteArray:=⟨l.toArray⟩
abbrev wd (t:List UInt8):P Unit:=skip 1 (B t)
abbrev sg (c:UInt8):P Unit:=skip 3 (B [c])
def fracP:P (Int×Int):=bnd numP fun n=>bnd (sg 47) fun _=>bnd numP fun d=>pur (n,d)
def manyP {α:Type} (k:Int) (t:ByteArray) (p:P α):Nat→P (List α)
 |0=>fun r=>if isT k t r then .bad r 2 else .ok [] r
 |m+1=>fun r=>if isT k t r then bnd p (fun x=>bnd (manyP k t p m) fun l=>pur (x::l)) r.tail else .ok [] r
def sepP {α:Type} (p:P α) (most:Nat):P (List α):=bnd p fun x=>bnd (manyP 3 (B [44]) p (most - 1)) fun l=>pur (x::l)
def optP {α:Type} (k:Int) (t:ByteArray) (a:α) (p:P α):P α:=fun r=>if isT k t r then p r.tail else .ok a r
abbrev wUnit:List UInt8:=[117,110,105,116]
abbrev wItem:List UInt8:=[105,116,101,109]
abbrev wPlant:List UInt8:=[112,108,97,110,116]
abbrev wMachine:List UInt8:=[109,97,99,104,105,110,101]
abbrev wOption:List UInt8:=[111,112,116,105,111,110]
abbrev wForbid:List UInt8:=[102,111,114,98,105,100]
abbrev wMake:List UInt8:=[109,97,107,101]
abbrev wSwap:List UInt8:=[115,119,97,112]
abbrev wIn:List UInt8:=[105,110]
abbrev wMass:List UInt8:=[109,97,115,115]
abbrev wKeeps:List UInt8:=[107,101,101,112,115]
abbrev wAt:List UInt8:=[97,116]
abbrev wClean:List UInt8:=[99,108,101,97,110]
abbrev wFor:List UInt8:=[102,111,114]
abbrev wBack:List UInt8:=[98,97,99,107]
abbrev wFrom:List UInt8:=[102,114,111,109]
abbrev wTo:List UInt8:=[116,111]
abbrev wIf:List UInt8:=[105,102]
abbrev wOut:List UInt8:=[111,117,116]
abbrev wRework:List UInt8:=[114,101,119,111,114,107]
abbrev wYield:List UInt8:=[121,105,101,108,100]
abbrev wWithin:List UInt8:=[119,105,116,104,105,110]
abbrev wLead:List UInt8:=[108,101,97,100]
abbrev wRun:List UInt8:=[114,117,110]
abbrev e0:ByteArray:=⟨#[]⟩
abbrev hd0:Hd:=⟨none,0⟩
def unitP:P Un:=bnd nameP fun nm=>bnd (optP 3 (B [61]) (0,0,e0) (bnd fracP fun q=>bnd nameP fun o=>pur (q.1,q.2,o))) fun x=>bnd (sg 59) fun _=>pur ⟨nm,x.2.2,x.1,x.2.1,0,zr⟩
def itemP:P It:=bnd nameP fun nm=>bnd (wd wIn) fun _=>bnd nameP fun u=>bnd (wd wMass) fun _=>bnd fracP fun q=>bnd (optP 1 (B wKeeps) 0 numP) fun s=>bnd (sg 59) fun _=>pur ⟨nm,u,q.1,q.2,s,0⟩
def plantP:P ByteArray:=bnd nameP fun nm=>bnd (sg 59) fun _=>pur nm
def machP:P Mc:=bnd nameP fun nm=>bnd (wd wAt) fun _=>bnd nameP fun p=>bnd (wd wClean) fun _=>bnd numP fun c=>bnd (sg 59) fun _=>pur ⟨nm,p,c,0⟩
def optnP:P OpV:=bnd nameP fun nm=>bnd (sg 123) fun _=>bnd (sepP nameP 4) fun l=>bnd (sg 125) fun _=>bnd (sg 59) fun _=>pur ⟨nm,hd0,l⟩
def condP:P Cd:=bnd nameP fun o=>bnd (sg 61) fun _=>bnd nameP fun c=>pur ⟨o,c,0,0⟩
def forbP:P FbV:=bnd (sepP condP 6) fun l=>bnd (sg 59) fun _=>pur ⟨hd0,l⟩
def swapP:P Sw:=bnd nameP fun a=>bnd (wd wFor) fun _=>bnd nameP fun b=>bnd (sg 59) fun _=>pur ⟨a,b,0,0⟩
def outP:P Am:=bnd fracP fun q=>bnd nameP fun u=>bnd nameP fun i=>bnd (sg 59) fun _=>pur ⟨q.1,q.2,u,i,false,0,0⟩
def inP:P Am:=bnd (optP 1 (B wBack) false (pur true)) fun b=>bnd outP fun a=>pur {a with back:=b}
def runP:P Rn:=bnd nameP fun m=>bnd numP fun n=>bnd (sg 59) fun _=>pur ⟨m,n,0⟩
def recP:P RcV:=bnd nameP fun it=>bnd (wd wAt) fun _=>bnd nameP fun pl=>bnd (wd wFrom) fun _=>bnd numP fun fr=>bnd (wd wTo) fun _=>bnd numP fun to=>
 bnd (optP 1 (B wIf) [] (sepP condP 6)) fun cs=>bnd (sg 123) fun _=>bnd (manyP 1 (B wIn) inP 8) fun ins=>bnd (manyP 1 (B wOut) outP 8) fun outs=>
 bnd (wd wRework) fun _=>bnd fracP fun rw=>bnd (sg 59) fun _=>bnd (wd wYield) fun _=>bnd fracP fun y=>bnd (wd wWithin) fun _=>bnd fracP fun t=>
 bnd (sg 59) fun _=>bnd (wd wLead) fun _=>bnd numP fun ld=>bnd (sg 59) fun _=>bnd (manyP 1 (B wRun) runP 8) fun runs=>bnd (sg 125) fun _=>
 pur ⟨it,pl,fr,to,hd0,cs,hd0,ins,hd0,outs,rw.1,rw.2,y.1,y.2,t.1,t.2,ld,hd0,runs,0,0⟩
def brP {α:Type} (t:ByteArray) (n most:Nat) (p q:P α):P α:=fun r=>if isT 1 t r then (if most≤n then .bad r 2 else p r.tail) else q r
def defP (s:SrcV):P SrcV:=
 brP (B wUnit) s.units.length 32 (bnd unitP fun x=>pur {s with units:=s.units++[x]}) <|
 brP (B wItem) s.items.length 32 (bnd itemP fun x=>pur {s with items:=s.items++[x]}) <|
 brP (B wPlant) s.plants.length 8 (bnd plantP fun x=>pur {s with plants:=s.plants++[x]}) <|
 brP (B wMachine) s.machines.length 16 (bnd machP fun x=>pur {s with machines:=s.machines++[x]}) <|
 brP (B wOption) s.options.length 6 (bnd optnP fun x=>pur {s with options:=s.options++[x]}) <|
 brP (B wForbid) s.forbids.length 16 (bnd forbP fun x=>pur {s with forbids:=s.forbids++[x]}) <|
 brP (B wMake) s.recipes.length 64 (bnd recP fun x=>pur {s with recipes:=s.recipes++[x]}) <|
 brP (B wSwap) s.swaps.length 32 (bnd swapP fun x=>pur {s with swaps:=s.swaps++[x]}) <|
 failP 100
def defsP:Nat→SrcV→P SrcV
 |0,s=>pur s
 |n+1,s=>fun r=>if r=[] then .ok s [] else bnd (defP s) (defsP n) r
def noS:SrcV:=⟨[],[],[],[],[],[],[],[]⟩
def readP (r:List Tok):Rs SrcV:=defsP (r.length+1) noS r
def place (n:Nat) (e:Nat):List Tok→Int×Nat
 | []=>(n,100)
 |t::_=>(t.pos,e)
end Go.SynM

namespace Go.SynM
open Go Go.Fw Go.RatM Go.SrcM
open Go.Proofs.YtgbeechjghajcaaGreatDoor (Tok)
structure Good {α:Type} (p:P α):Prop where
 suf:∀r a r',p r=.ok a r'→r' <:+ r
 sufB:∀r r' e,p r=.bad r' e→r' <:+ r
 loc:∀A R a,p (A++R)=.ok a R → ∀C,(C.head? = R.head? ∨ C=[])→p (A++C)=.ok a C
 bad:∀A R e,p (A++R)=.bad R e→(∃e',p A=.bad [] e') ∨ ∃a,p A=.ok a []
def Closed {α:Type} (p:P α):Prop:=∀A R a,p (A++R)=.ok a R → ∀C,p (A++C)=.ok a C
def Eats {α:Type} (p:P α):Prop:=∀r a r',p r=.ok a r'→r'.length<r.length
theorem isT_cons {k:Int} {t:ByteArray} {r:List Tok} (h:isT k t r=true):∃x r',r=x::r':=by
 cases r with
 |nil=>cases h
 |cons x r=>exact ⟨x,r,rfl⟩
theorem isT_head {k:Int} {t:ByteArray} {r r':List Tok} (h:r.head? = r'.head?):isT k t r=isT k t r':=by
 cases r with
 |nil=>
  cases r' with
  |nil=>rfl
  |cons y s=>cases h
 |cons x s=>
  cases r' with
  |nil=>cases h
  |cons y t=>cases h;rfl
theorem isT_no {k:Int} {t:ByteArray} {r c:List Tok} (h:isT k t r=false) (hc:c.head? = r.head? ∨ c=[]):isT k t c=false:=by
 rcases hc with hc|rfl
 ·rw [isT_head hc];exact h
 rfl
theorem suf_len {α:Type} {a b:List α} (h:a <:+ b):a.length≤b.length:=h.length_le
theorem suf_nil {r:List Tok} (h:r <:+ []):r=[]:=List.suffix_nil.1 h
theorem split_suf {A R r1:List Tok} (h1:r1 <:+ A++R) (h2:R <:+ r1):∃A1 A2,A=A1++A2∧r1=A2++R:=by
 obtain ⟨X,hX⟩:=h1
 obtain ⟨Y,rfl⟩:=h2
 rw [←List.append_assoc] at hX
 exact ⟨X,Y,(List.append_cancel_right hX).symm,rfl⟩
theorem good_pur {α:Type} (a:α):Good (pur a) where
 suf:=fun r b r' h=>by cases h;exact List.suffix_refl _
 sufB:=fun r r' e h=>by cases h
 loc:=fun A R b h C hc=>by
  have h:(Rs.ok a (A++R):Rs α)=.ok b R:=h
  injection h with h1 h2
  have:A=[]:=by
   have:=congrArg List.length h2
   rw [List.length_append] at this
   exact List.eq_nil_of_length_eq_zero (by omega)
  subst this;subst h1;rfl
 bad:=fun A R e h=>by cases h
theorem closed_pur {α:Type} (a:α):Closed (pur a):=fun A R b h C=>by
 have h:(Rs.ok a (A++R):Rs α)=.ok b R:=h
 injection h with h1 h2
 have:A=[]:=by
  have:=congrArg List.length h2
  rw [List.length_append] at this
  exact List.eq_nil_of_length_eq_zero (by omega)
 subst this;subst h1;rfl
theorem good_one {α:Type} {p:P α} (f:Tok→Option α) (e:Nat) (h0:p []=.bad [] e) (h1:∀x r,p (x::r)=match f x with|some a=>.ok a r|none=>.bad (x::r) e):Good p∧Closed p∧Eats p:=by
 have hc:Closed p:=fun A R a h C=>by
  cases A with
  |nil=>
   cases R with
   |nil=>rw [List.nil_append,h0] at h;cases h
   |cons x r=>
    rw [List.nil_append,h1] at h
    split at h
    ·injection h with _ h2
     have:=congrArg List.length h2
     simp at this
    cases h
  |cons x A=>
   rw [List.cons_append,h1] at h ⊢
   split at h
   ·rename_i b hb
    injection h with h2 h3
    have:A=[]:=by
     have:=congrArg List.length h3
     rw [List.length_append] at this
     exact List.eq_nil_of_length_eq_zero (by omega)
    subst this;subst h2
    rfl
   cases h
 refine ⟨⟨fun r a r' h=>?_,fun r r' e h=>?_,fun A R a h C _=>hc A R a h C,fun A R e' h=>?_⟩,hc,fun r a r' h=>?_⟩
 ·cases r with
  |nil=>rw [h0] at h;cases h
  |cons x r=>
   rw [h1] at h
   split at h
   ·cases h;exact List.suffix_cons _ _
   cases h
 ·cases r with
  |nil=>rw [h0] at h;cases h;exact List.suffix_refl _
  |cons x r=>
   rw [h1] at h
   split at h
   ·cases h
   cases h;exact List.suffix_refl _
 ·cases A with
  |nil=>exact .inl ⟨e,h0⟩
  |cons x A=>
   rw [List.cons_append,h1] at h
   split at h
   ·cases h
   injection h with h2 _
   have:=congrArg List.length h2
   simp at this
   omega
 cases r with
 |nil=>rw [h0] at h;cases h
 |cons x r=>
  rw [h1] at h
  split at h
  ·cases h;simp
  cases h
theorem name_one:Good nameP∧Closed nameP∧Eats nameP:=good_one (fun x=>if x.kind=1 then some x.text else none) 100 rfl fun x r=>by
 simp only [nameP]
 split<;>rfl
theorem num_one:Good numP∧Closed numP∧Eats numP:=good_one (fun x=>if x.kind=2∧x.n≤1048576 then some x.n else none) 100 rfl fun x r=>by
 simp only [numP]
 split<;>rfl
theorem skip_one (k:Int) (t:ByteArray):Good (skip k t)∧Closed (skip k t)∧Eats (skip k t):=good_one (fun x=>if x.kind=k∧x.text=t then some () else none) 100 rfl fun x r=>by
 simp only [skip,isT,decide_eq_true_eq]
 split<;>rfl
section
variable {α β:Type} {p:P α} {f:α→P β}
theorem bnd_cases {r:List Tok} {s:Rs β} (h:bnd p f r=s):(∃a r1,p r=.ok a r1∧f a r1=s) ∨ ∃r1 e,p r=.bad r1 e∧s=.bad r1 e:=by
 unfold bnd at h
 split at h
 ·rename_i a r1 h1
  exact .inl ⟨a,r1,h1,h⟩
 rename_i r1 e h1
 exact .inr ⟨r1,e,h1,h.symm⟩
theorem good_bnd (hp:Good p) (hf:∀a,Good (f a)):Good (bnd p f) where
 suf:=fun r b r' h=>by
  rcases bnd_cases h with ⟨a,r1,h1,h2⟩|⟨r1,e,_,h2⟩
  ·exact ((hf a).suf _ _ _ h2).trans (hp.suf _ _ _ h1)
  cases h2
 sufB:=fun r r' e h=>by
  rcases bnd_cases h with ⟨a,r1,h1,h2⟩|⟨r1,e,h1,h2⟩
  ·exact ((hf a).sufB _ _ _ h2).trans (hp.suf _ _ _ h1)
  cases h2;exact hp.sufB _ _ _ h1
 loc:=fun A R b h C hc=>by
  rcases bnd_cases h with ⟨a,r1,h1,h2⟩|⟨r1,e,_,h2⟩
  ·obtain ⟨A1,A2,rfl,rfl⟩:=split_suf (hp.suf _ _ _ h1) ((hf a).suf _ _ _ h2)
   rw [List.append_assoc] at h1 ⊢
   have h3:p (A1++(A2++C))=.ok a (A2++C):=hp.loc A1 _ a h1 _ (by
    cases A2 with
    |nil=>exact hc
    |cons x A2=>exact .inl rfl)
   rw [bnd_ok h3]
   exact (hf a).loc A2 R b h2 C hc
  cases h2
 bad:=fun A R e h=>by
  rcases bnd_cases h with ⟨a,r1,h1,h2⟩|⟨r1,e,h1,h2⟩
  ·obtain ⟨A1,A2,rfl,rfl⟩:=split_suf (hp.suf _ _ _ h1) ((hf a).sufB _ _ _ h2)
   rw [List.append_assoc] at h1
   have h3:p (A1++A2)=.ok a A2:=hp.loc A1 _ a h1 _ (by
    cases A2 with
    |nil=>exact .inr rfl
    |cons x A2=>exact .inl rfl)
   rw [bnd_ok h3]
   exact (hf a).bad A2 R e h2
  cases h2
  rcases hp.bad A R e h1 with ⟨e',h3⟩|⟨a,h3⟩
  ·exact .inl ⟨e',bnd_bad h3⟩
  rw [bnd_ok h3]
  cases h4:f a [] with
  |ok b r=>
   rw [suf_nil ((hf a).suf _ _ _ h4)]
   exact .inr ⟨b,rfl⟩
  |bad r e'=>
   rw [suf_nil ((hf a).sufB _ _ _ h4)]
   exact .inl ⟨e',rfl⟩
theorem eats_left (hp:Eats p) (hf:∀a,Good (f a)):Eats (bnd p f):=fun r b r' h=>by
 rcases bnd_cases h with ⟨a,r1,h1,h2⟩|⟨r1,e,_,h2⟩
 ·have:=hp _ _ _ h1
  have:=suf_len ((hf a).suf _ _ _ h2)
  omega
 cases h2
theorem eats_right (hp:Good p) (hf:∀a,Eats (f a)):Eats (bnd p f):=fun r b r' h=>by
 rcases bnd_cases h with ⟨a,r1,h1,h2⟩|⟨r1,e,_,h2⟩
 ·have:=hf a _ _ _ h2
  have:=suf_len (hp.suf _ _ _ h1)
  omega
 cases h2
theorem closed_left (hp:Good p) (hf:∀a,Good (f a)) (hc:Closed p) (hd:∀a,Closed (f a)):Closed (bnd p f):=fun A R b h C=>by
 rcases bnd_cases h with ⟨a,r1,h1,h2⟩|⟨r1,e,_,h2⟩
 ·obtain ⟨A1,A2,rfl,rfl⟩:=split_suf (hp.suf _ _ _ h1) ((hf a).suf _ _ _ h2)
  rw [List.append_assoc] at h1 ⊢
  rw [bnd_ok (hc A1 _ a h1 (A2++C))]
  exact hd a A2 R b h2 C
 cases h2
theorem closed_right (hp:Good p) (hf:∀a,Good (f a)) (he:∀a,Eats (f a)) (hd:∀a,Closed (f a)):Closed (bnd p f):=fun A R b h C=>by
 rcases bnd_cases h with ⟨a,r1,h1,h2⟩|⟨r1,e,_,h2⟩
 ·obtain ⟨A1,A2,rfl,rfl⟩:=split_suf (hp.suf _ _ _ h1) ((hf a).suf _ _ _ h2)
  rw [List.append_assoc] at h1 ⊢
  have:=he a _ _ _ h2
  rw [List.length_append] at this
  have h3:p (A1++(A2++C))=.ok a (A2++C):=hp.loc A1 _ a h1 _ (by
   cases A2 with
   |nil=>simp at this
   |cons x A2=>exact .inl rfl)
  rw [bnd_ok h3]
  exact hd a A2 R b h2 C
 cases h2
end
theorem good_opt {α:Type} {k:Int} {t:ByteArray} {a:α} {p:P α} (hp:Good p):Good (optP k t a p) where
 suf:=fun r b r' h=>by
  unfold optP at h
  split at h
  ·rename_i ht
   obtain ⟨x,r,rfl⟩:=isT_cons ht
   exact (hp.suf _ _ _ h).trans (List.suffix_cons x r)
  cases h;exact List.suffix_refl _
 sufB:=fun r r' e h=>by
  unfold optP at h
  split at h
  ·rename_i ht
   obtain ⟨x,r,rfl⟩:=isT_cons ht
   exact (hp.sufB _ _ _ h).trans (List.suffix_cons x r)
  cases h
 loc:=fun A R b h C hc=>by
  unfold optP at h ⊢
  split at h
  ·rename_i ht
   cases A with
   |nil=>
    obtain ⟨x,r,rfl⟩:=isT_cons ht
    have:=suf_len (hp.suf _ _ _ h)
    simp at this
    omega
   |cons x A=>
    rw [if_pos (show isT k t (x::A++C)=true from ht)]
    exact hp.loc A R b h C hc
  rename_i ht
  injection h with h1 h2
  have:A=[]:=by
   have:=congrArg List.length h2
   rw [List.length_append] at this
   exact List.eq_nil_of_length_eq_zero (by omega)
  subst this;subst h1
  rw [if_neg (by rw [List.nil_append,isT_no (Bool.eq_false_iff.2 ht) hc];exact Bool.false_ne_true)]
  rfl
 bad:=fun A R e h=>by
  unfold optP at h ⊢
  split at h
  ·rename_i ht
   cases A with
   |nil=>
    obtain ⟨x,r,rfl⟩:=isT_cons ht
    have:=suf_len (hp.sufB _ _ _ h)
    simp at this
    omega
   |cons x A=>
    rw [if_pos (show isT k t (x::A)=true from ht)]
    exact hp.bad A R e h
  cases h
theorem good_many {α:Type} {k:Int} {t:ByteArray} {p:P α} (hp:Good p):∀m,Good (manyP k t p m)
 |0=>{
  suf:=fun r b r' h=>by
   simp only [manyP] at h
   split at h
   ·cases h
   cases h;exact List.suffix_refl _
  sufB:=fun r r' e h=>by
   simp only [manyP] at h
   split at h
   ·cases h;exact List.suffix_refl _
   cases h
  loc:=fun A R b h C hc=>by
   simp only [manyP] at h ⊢
   split at h
   ·cases h
   rename_i ht
   injection h with h1 h2
   have:A=[]:=by
    have:=congrArg List.length h2
    rw [List.length_append] at this
    exact List.eq_nil_of_length_eq_zero (by omega)
   subst this;subst h1
   rw [if_neg (by rw [List.nil_append,isT_no (Bool.eq_false_iff.2 ht) hc];exact Bool.false_ne_true)]
   rfl
  bad:=fun A R e h=>by
   simp only [manyP] at h ⊢
   split at h
   ·injection h with h1 _
    have:A=[]:=by
     have:=congrArg List.length h1
     rw [List.length_append] at this
     exact List.eq_nil_of_length_eq_zero (by omega)
    subst this
    exact .inr ⟨[],rfl⟩
   cases h}
 |m+1=>good_opt (good_bnd hp fun x=>good_bnd (good_many hp m) fun l=>good_pur _)
end Go.SynM

namespace Go.SynM
open Go Go.Fw Go.RatM Go.SrcM
open Go.Proofs.YtgbeechjghajcaaGreatDoor (Tok)
structure Gce {α:Type} (p:P α):Prop where
 g:Good p
 c:Closed p
 e:Eats p
section
variable {α β:Type} {p:P α} {f:α→P β}
theorem name_g:Gce nameP:=⟨name_one.1,name_one.2.1,name_one.2.2⟩
theorem num_g:Gce numP:=⟨num_one.1,num_one.2.1,num_one.2.2⟩
theorem skip_g (k:Int) (t:ByteArray):Gce (skip k t):=⟨(skip_one k t).1,(skip_one k t).2.1,(skip_one k t).2.2⟩
theorem gce_bnd (hp:Good p) (hf:∀a,Gce (f a)):Gce (bnd p f):=⟨good_bnd hp fun a=>(hf a).g,closed_right hp (fun a=>(hf a).g) (fun a=>(hf a).e) fun a=>(hf a).c,eats_right hp fun a=>(hf a).e⟩
theorem gce_end {g:α→β} (hp:Gce p):Gce (bnd p fun a=>pur (g a)):=⟨good_bnd hp.g fun _=>good_pur _,closed_left hp.g (fun _=>good_pur _) hp.c fun _=>closed_pur _,eats_left hp.e fun _=>good_pur _⟩
end
theorem frac_g:Gce fracP:=gce_bnd num_g.g fun _=>gce_bnd (skip_g _ _).g fun _=>gce_end num_g
theorem good_sep {α:Type} {p:P α} (hp:Good p) (m:Nat):Good (sepP p m):=good_bnd hp fun _=>good_bnd (good_many hp _) fun _=>good_pur _
theorem unit_g:Gce unitP:=gce_bnd name_g.g fun _=>gce_bnd (good_opt (good_bnd frac_g.g fun _=>good_bnd name_g.g fun _=>good_pur _)) fun _=>gce_end (skip_g _ _)
theorem item_g:Gce itemP:=gce_bnd name_g.g fun _=>gce_bnd (skip_g _ _).g fun _=>gce_bnd name_g.g fun _=>gce_bnd (skip_g _ _).g fun _=>gce_bnd frac_g.g fun _=>gce_bnd (good_opt num_g.g) fun _=>gce_end (skip_g _ _)
theorem plant_g:Gce plantP:=gce_bnd name_g.g fun _=>gce_end (skip_g _ _)
theorem mach_g:Gce machP:=gce_bnd name_g.g fun _=>gce_bnd (skip_g _ _).g fun _=>gce_bnd name_g.g fun _=>gce_bnd (skip_g _ _).g fun _=>gce_bnd num_g.g fun _=>gce_end (skip_g _ _)
theorem optn_g:Gce optnP:=gce_bnd name_g.g fun _=>gce_bnd (skip_g _ _).g fun _=>gce_bnd (good_sep name_g.g 4) fun _=>gce_bnd (skip_g _ _).g fun _=>gce_end (skip_g _ _)
theorem cond_g:Gce condP:=gce_bnd name_g.g fun _=>gce_bnd (skip_g _ _).g fun _=>gce_end name_g
theorem forb_g:Gce forbP:=gce_bnd (good_sep cond_g.g 6) fun _=>gce_end (skip_g _ _)
theorem swap_g:Gce swapP:=gce_bnd name_g.g fun _=>gce_bnd (skip_g _ _).g fun _=>gce_bnd name_g.g fun _=>gce_end (skip_g _ _)
theorem out_g:Gce outP:=gce_bnd frac_g.g fun _=>gce_bnd name_g.g fun _=>gce_bnd name_g.g fun _=>gce_end (skip_g _ _)
theorem in_g:Gce inP:=gce_bnd (good_opt (good_pur _)) fun _=>gce_end out_g
theorem run_g:Gce runP:=gce_bnd name_g.g fun _=>gce_bnd num_g.g fun _=>gce_end (skip_g _ _)
theorem rec_g:Gce recP:=gce_bnd name_g.g fun _=>gce_bnd (skip_g _ _).g fun _=>gce_bnd name_g.g fun _=>gce_bnd (skip_g _ _).g fun _=>gce_bnd num_g.g fun _=>gce_bnd (skip_g _ _).g fun _=>gce_bnd num_g.g fun _=>
 gce_bnd (good_opt (good_sep cond_g.g 6)) fun _=>gce_bnd (skip_g _ _).g fun _=>gce_bnd (good_many in_g.g 8) fun _=>gce_bnd (good_many out_g.g 8) fun _=>
 gce_bnd (skip_g _ _).g fun _=>gce_bnd frac_g.g fun _=>gce_bnd (skip_g _ _).g fun _=>gce_bnd (skip_g _ _).g fun _=>gce_bnd frac_g.g fun _=>gce_bnd (skip_g _ _).g fun _=>gce_bnd frac_g.g fun _=>
 gce_bnd (skip_g _ _).g fun _=>gce_bnd (skip_g _ _).g fun _=>gce_bnd num_g.g fun _=>gce_bnd (skip_g _ _).g fun _=>gce_bnd (good_many run_g.g 8) fun _=>gce_end (skip_g _ _)
theorem gce_br {α:Type} {t:ByteArray} {n most:Nat} {p q:P α} (hp:Gce p) (hq:Gce q):Gce (brP t n most p q) where
 g:={
  suf:=fun r b r' h=>by
   unfold brP at h
   split at h
   ·rename_i ht
    obtain ⟨x,r,rfl⟩:=isT_cons ht
    split at h
    ·cases h
    exact (hp.g.suf _ _ _ h).trans (List.suffix_cons x r)
   exact hq.g.suf _ _ _ h
  sufB:=fun r r' e h=>by
   unfold brP at h
   split at h
   ·rename_i ht
    obtain ⟨x,r,rfl⟩:=isT_cons ht
    split at h
    ·cases h;exact List.suffix_refl _
    exact (hp.g.sufB _ _ _ h).trans (List.suffix_cons x r)
   exact hq.g.sufB _ _ _ h
  loc:=fun A R b h C hc=>by
   unfold brP at h ⊢
   split at h
   ·rename_i ht
    split at h
    ·cases h
    cases A with
    |nil=>
     obtain ⟨x,r,rfl⟩:=isT_cons ht
     have:=suf_len (hp.g.suf _ _ _ h)
     simp at this
     omega
    |cons x A=>
     rw [if_pos (show isT 1 t (x::A++C)=true from ht),if_neg (by assumption)]
     exact hp.g.loc A R b h C hc
   rename_i ht
   cases A with
   |nil=>
    have:=hq.e _ _ _ h
    simp at this
   |cons x A=>
    rw [if_neg (show ¬isT 1 t (x::A++C)=true from ht)]
    exact hq.g.loc (x::A) R b h C hc
  bad:=fun A R e h=>by
   unfold brP at h ⊢
   split at h
   ·rename_i ht
    cases A with
    |nil=>
     rw [if_neg (show ¬isT 1 t []=true from Bool.false_ne_true)]
     cases h4:q [] with
     |ok b r=>rw [suf_nil (hq.g.suf _ _ _ h4)];exact .inr ⟨b,rfl⟩
     |bad r e'=>rw [suf_nil (hq.g.sufB _ _ _ h4)];exact .inl ⟨e',rfl⟩
    |cons x A=>
     rw [if_pos (show isT 1 t (x::A)=true from ht)]
     split at h
     ·injection h with h1 _
      have:=congrArg List.length h1
      simp at this
      omega
     rw [if_neg (by assumption)]
     exact hp.g.bad A R e h
   rename_i ht
   cases A with
   |nil=>
    rw [if_neg (show ¬isT 1 t []=true from Bool.false_ne_true)]
    exact hq.g.bad [] R e h
   |cons x A=>
    rw [if_neg (show ¬isT 1 t (x::A)=true from ht)]
    exact hq.g.bad (x::A) R e h}
 c:=fun A R b h C=>by
  unfold brP at h ⊢
  split at h
  ·rename_i ht
   split at h
   ·cases h
   cases A with
   |nil=>
    obtain ⟨x,r,rfl⟩:=isT_cons ht
    have:=suf_len (hp.g.suf _ _ _ h)
    simp at this
    omega
   |cons x A=>
    rw [if_pos (show isT 1 t (x::A++C)=true from ht),if_neg (by assumption)]
    exact hp.c A R b h C
  rename_i ht
  cases A with
  |nil=>
   have:=hq.e _ _ _ h
   simp at this
  |cons x A=>
   rw [if_neg (show ¬isT 1 t (x::A++C)=true from ht)]
   exact hq.c (x::A) R b h C
 e:=fun r b r' h=>by
  unfold brP at h
  split at h
  ·rename_i ht
   obtain ⟨x,r,rfl⟩:=isT_cons ht
   split at h
   ·cases h
   have:=hp.e _ _ _ h
   simp only [List.tail_cons,List.length_cons] at this ⊢
   omega
  exact hq.e _ _ _ h
theorem fail_g {α:Type} (e:Nat):Gce (failP (α:=α) e) where
 g:={
  suf:=fun _ _ _ h=>by cases h
  sufB:=fun r r' e h=>by cases h;exact List.suffix_refl _
  loc:=fun _ _ _ h=>by cases h
  bad:=fun A R e' h=>by
   have h:(Rs.bad (A++R) e:Rs α)=.bad R e':=h
   injection h with h1 _
   have:A=[]:=by
    have:=congrArg List.length h1
    rw [List.length_append] at this
    exact List.eq_nil_of_length_eq_zero (by omega)
   subst this
   exact .inl ⟨_,rfl⟩}
 c:=fun _ _ _ h=>by cases h
 e:=fun _ _ _ h=>by cases h
theorem def_g (s:SrcV):Gce (defP s):=gce_br (gce_end unit_g)<|gce_br (gce_end item_g)<|gce_br (gce_end plant_g)<|gce_br (gce_end mach_g)<|gce_br (gce_end optn_g)<|gce_br (gce_end forb_g)<|gce_br (gce_end rec_g)<|gce_br (gce_end swap_g)<|fail_g 100
/-! all definitions -/
theorem defs_more:∀(n m:Nat) (s:SrcV) (r:List Tok),r.length<n→r.length<m→defsP n s r=defsP m s r
 |0,_,_,_,h,_=>absurd h (Nat.not_lt_zero _)
 |_+1,0,_,_,_,h=>absurd h (Nat.not_lt_zero _)
 |n+1,m+1,s,r,hn,hm=>by
  simp only [defsP]
  split
  ·rfl
  cases hd:defP s r with
  |ok t r1=>
   rw [bnd_ok hd,bnd_ok hd]
   have:=(def_g s).e _ _ _ hd
   exact defs_more n m t r1 (by omega) (by omega)
  |bad r1 e=>rw [bnd_bad hd,bnd_bad hd]
end Go.SynM

namespace Go.SynM
open Go Go.Fw Go.RatM Go.SrcM
open Go.Proofs.YtgbeechjghajcaaGreatDoor (Tok)
def tw (l:List UInt8):Tok:=⟨1,0,B l,0⟩
def tm (x:ByteArray):Tok:=⟨1,0,x,0⟩
def ts (c:UInt8):Tok:=⟨3,0,B [c],0⟩
def tn (n:Int):Tok:=⟨2,0,e0,n⟩
def sepT {α:Type} (T:α→List Tok):List α→List Tok
 | []=>[]
 |x::l=>T x++(l.map fun y=>ts 44::T y).flatten
/-! the parts as tokens -/
def unitT (u:Un):List Tok:=tw wUnit::tm u.name::((if u.of_=e0 then [] else [ts 61,tn u.n,ts 47,tn u.d,tm u.of_])++[ts 59])
def itemT (i:It):List Tok:=tw wItem::tm i.name::tw wIn::tm i.unit::tw wMass::tn i.mn::ts 47::tn i.md::((if i.shelf=0 then [] else [tw wKeeps,tn i.shelf])++[ts 59])
def plantT (x:ByteArray):List Tok:=[tw wPlant,tm x,ts 59]
def machT (m:Mc):List Tok:=[tw wMachine,tm m.name,tw wAt,tm m.plant,tw wClean,tn m.clean,ts 59]
def optnT (o:OpV):List Tok:=tw wOption::tm o.name::ts 123::(sepT (fun c=>[tm c]) o.ch++[ts 125,ts 59])
def condT (c:Cd):List Tok:=[tm c.opt,ts 61,tm c.ch]
def forbT (f:FbV):List Tok:=tw wForbid::(sepT condT f.cs++[ts 59])
def amT (a:Am):List Tok:=[tn a.n,ts 47,tn a.d,tm a.unit,tm a.item,ts 59]
def inT (a:Am):List Tok:=(if a.back then [tw wBack] else [])++amT a
def runT (x:Rn):List Tok:=[tm x.mach,tn x.slots,ts 59]
def swapT (x:Sw):List Tok:=[tw wSwap,tm x.a,tw wFor,tm x.b,ts 59]
def recT (r:RcV):List Tok:=tw wMake::tm r.item::tw wAt::tm r.plant::tw wFrom::tn r.fr::tw wTo::tn r.to::((if r.cs=[] then [] else tw wIf::sepT condT r.cs)++ts 123 ::
 ((r.inn.map fun a=>tw wIn::inT a).flatten++((r.out.map fun a=>tw wOut::amT a).flatten ++
 tw wRework::tn r.rwN::ts 47::tn r.rwD::ts 59::tw wYield::tn r.yN::ts 47::tn r.yD::tw wWithin::tn r.tN::ts 47::tn r.tD::ts 59::tw wLead::tn r.lead::ts 59 ::
 ((r.runs.map fun x=>tw wRun::runT x).flatten++[ts 125]))))
def srcT (s:SrcV):List Tok:=(s.units.map unitT).flatten++((s.items.map itemT).flatten++((s.plants.map plantT).flatten++((s.machines.map machT).flatten++((s.options.map optnT).flatten++((s.forbids.map forbT).flatten++((s.recipes.map recT).flatten++(s.swaps.map swapT).flatten))))))
end Go.SynM
namespace Go.SrcM
open Go Go.Fw Go.RatM Go.SynM
/-! without numbers of names -/
def unU (u:Un):Un:=⟨u.name,u.of_,u.n,u.d,0,zr⟩
def It.un0 (i:It):It:={i with un:=0}
def Mc.un (m:Mc):Mc:={m with pn:=0}
def OpV.un (o:OpV):OpV:=⟨o.name,hd0,o.ch⟩
def Cd.un (c:Cd):Cd:=⟨c.opt,c.ch,0,0⟩
def FbV.un (f:FbV):FbV:=⟨hd0,f.cs.map Cd.un⟩
def Am.un0 (a:Am):Am:=⟨a.n,a.d,a.unit,a.item,a.back,0,0⟩
def Rn.un (x:Rn):Rn:=⟨x.mach,x.slots,0⟩
def Sw.un (x:Sw):Sw:=⟨x.a,x.b,0,0⟩
def RcV.un (r:RcV):RcV:=⟨r.item,r.plant,r.fr,r.to,hd0,r.cs.map Cd.un,hd0,r.inn.map Am.un0,hd0,r.out.map Am.un0,r.rwN,r.rwD,r.yN,r.yD,r.tN,r.tD,r.lead,hd0,r.runs.map Rn.un,0,0⟩
def SrcV.un (s:SrcV):SrcV:=⟨s.units.map unU,s.items.map It.un0,s.plants,s.machines.map Mc.un,s.options.map OpV.un,s.forbids.map FbV.un,s.recipes.map RcV.un,s.swaps.map Sw.un⟩
/-! what can be printed -/
abbrev okV (n:Int):Prop:=0≤n∧n≤1048576
section
variable (N:ByteArray→Prop)
def goodU (u:Un):Prop:=N u.name∧((u.of_=e0∧u.n=0∧u.d=0)∨(u.of_≠e0∧N u.of_∧okV u.n∧okV u.d))
def It.good (i:It):Prop:=N i.name∧N i.unit∧okV i.mn∧okV i.md∧okV i.shelf
def Mc.good (m:Mc):Prop:=N m.name∧N m.plant∧okV m.clean
def OpV.good (o:OpV):Prop:=N o.name∧(1≤o.ch.length∧o.ch.length≤4) ∧ ∀c∈o.ch,N c
def Cd.good (c:Cd):Prop:=N c.opt∧N c.ch
def FbV.good (f:FbV):Prop:=(1≤f.cs.length∧f.cs.length≤6) ∧ ∀c∈f.cs,c.good N
def Am.good (a:Am):Prop:=okV a.n∧okV a.d∧N a.unit∧N a.item
def Rn.good (x:Rn):Prop:=N x.mach∧okV x.slots
def Sw.good (x:Sw):Prop:=N x.a∧N x.b
structure RcV.good (r:RcV):Prop where
 it:N r.item
 pl:N r.plant
 fr:okV r.fr
 to:okV r.to
 cl:r.cs.length≤6
 cs:∀c∈r.cs,c.good N
 il:r.inn.length≤8
 inn:∀a∈r.inn,a.good N
 ol:r.out.length≤8
 out:∀a∈r.out,a.good N∧a.back=false
 rw1:okV r.rwN
 rw2:okV r.rwD
 y1:okV r.yN
 y2:okV r.yD
 t1:okV r.tN
 t2:okV r.tD
 ld:okV r.lead
 rl:r.runs.length≤8
 runs:∀x∈r.runs,x.good N
structure SrcV.good (s:SrcV):Prop where
 lU:s.units.length≤32
 U:∀x∈s.units,goodU N x
 lI:s.items.length≤32
 I:∀x∈s.items,x.good N
 lP:s.plants.length≤8
 P:∀x∈s.plants,N x
 lM:s.machines.length≤16
 M:∀x∈s.machines,x.good N
 lO:s.options.length≤6
 O:∀x∈s.options,x.good N
 lF:s.forbids.length≤16
 F:∀x∈s.forbids,x.good N
 lR:s.recipes.length≤64
 R:∀x∈s.recipes,x.good N
 lS:s.swaps.length≤32
 S:∀x∈s.swaps,x.good N
end
end Go.SrcM
namespace Go.SynM
open Go Go.Fw Go.RatM Go.SrcM
open Go.Proofs.YtgbeechjghajcaaGreatDoor (Tok)
end Go.SynM

namespace Go.SynM
open Go Go.Fw Go.RatM Go.SrcM
open Go.Proofs.YtgbeechjghajcaaGreatDoor (Tok)
section
variable {N:ByteArray→Prop} {r:List Tok}
/-! the definitions -/
def gP (s:SrcV) (x:ByteArray):SrcV:={s with plants:=s.plants++[x]}
def gF (s:SrcV) (x:FbV):SrcV:={s with forbids:=s.forbids++[x.un]}
end
end Go.SynM

namespace Go.SynM
open Go Go.Fw Go.RatM Go.SrcM
open Go.Proofs.YtgbeechjghajcaaGreatDoor (Tok)
section
variable {N:ByteArray→Prop}
structure OkT (N:ByteArray→Prop) (t:Tok):Prop where
 nm:t.kind=1→N t.text
 num:t.kind=2→0≤t.n
abbrev AllV (N:ByteArray→Prop) (r:List Tok):Prop:=∀t∈r,OkT N t
/-! the parts -/
/-! the definitions -/
theorem mem_snoc {α:Type} {Q:α→Prop} {l:List α} {x:α} (h:∀y∈l,Q y) (hx:Q x):∀y∈l++[x],Q y:=fun y hy=>(List.mem_append.1 hy).elim (h y) fun hy=>by rw [List.mem_singleton.1 hy];exact hx
end
end Go.SynM

namespace Go.SynM
open Go Go.Fw Go.RatM Go.SrcM
open Go.Proofs.YtgbeechjghajcaaGreatDoor (Tok)
/-! errors -/
/-! sources behind sources -/
structure Fit (s:SrcV):Prop where
 U:s.units.length≤32
 I:s.items.length≤32
 P:s.plants.length≤8
 M:s.machines.length≤16
 O:s.options.length≤6
 F:s.forbids.length≤16
 R:s.recipes.length≤64
 S:s.swaps.length≤32
structure Mor (s t:SrcV):Prop where
 U:s.units.length≤t.units.length
 I:s.items.length≤t.items.length
 P:s.plants.length≤t.plants.length
 M:s.machines.length≤t.machines.length
 O:s.options.length≤t.options.length
 F:s.forbids.length≤t.forbids.length
 R:s.recipes.length≤t.recipes.length
 S:s.swaps.length≤t.swaps.length
theorem Mor.trans {s t u:SrcV} (a:Mor s t) (b:Mor t u):Mor s u:=⟨Nat.le_trans a.U b.U,Nat.le_trans a.I b.I,Nat.le_trans a.P b.P,Nat.le_trans a.M b.M,Nat.le_trans a.O b.O,Nat.le_trans a.F b.F,Nat.le_trans a.R b.R,Nat.le_trans a.S b.S⟩
end Go.SynM

namespace Go.Proofs.YtgbeechjghajcaaGreatDoor
open Go Go.Fw
end Go.Proofs.YtgbeechjghajcaaGreatDoor

namespace Go.SynM
open Go Go.Fw Go.RatM Go.SrcM
open Go.Proofs.YtgbeechjghajcaaGreatDoor (Tok)
section
variable {N:ByteArray→Prop}
/-! the tokens do not show numbers of names, nor where lists lie -/
end
/-! the tokens are valid -/
section
variable {N:ByteArray→Prop}
structure VT (N:ByteArray→Prop) (S:UInt8→Prop) (t:Tok):Prop where
 or:(∃x,t=tm x∧N x)∨(∃c,t=ts c∧S c) ∨ ∃n,t=tn n∧okV n
variable {S:UInt8→Prop}
abbrev AV (N:ByteArray→Prop) (S:UInt8→Prop) (l:List Tok):Prop:=∀t∈l,VT N S t
theorem av_nil:AV N S []:=fun _ h=>nomatch h
theorem av_app {a b:List Tok} (ha:AV N S a) (hb:AV N S b):AV N S (a++b):=fun t ht=>(List.mem_append.1 ht).elim (ha t) (hb t)
theorem av_cons {t:Tok} {l:List Tok} (h:VT N S t) (hl:AV N S l):AV N S (t::l):=fun u hu=>(List.mem_cons.1 hu).elim (fun e=>e▸h) (hl u)
theorem av_flat {α:Type} {T:α→List Tok} {l:List α} (h:∀x∈l,AV N S (T x)):AV N S (l.map T).flatten:=fun t ht=>by
 obtain ⟨a,ha,ht⟩:=List.mem_flatten.1 ht
 obtain ⟨x,hx,rfl⟩:=List.mem_map.1 ha
 exact h x hx t ht
theorem vm {x:ByteArray} (h:N x):VT N S (tm x):=⟨.inl ⟨x,rfl,h⟩⟩
theorem vs {c:UInt8} (h:S c):VT N S (ts c):=⟨.inr (.inl ⟨c,rfl,h⟩)⟩
theorem vn {n:Int} (h:okV n):VT N S (tn n):=⟨.inr (.inr ⟨n,rfl,h⟩)⟩
structure Voc (N:ByteArray→Prop) (S:UInt8→Prop):Prop where
 w:∀l ∈ [wUnit,wItem,wPlant,wMachine,wOption,wForbid,wMake,wSwap,wIn,wMass,wKeeps,wAt,wClean,wFor,wBack,wFrom,wTo,wIf,wOut,wRework,wYield,wWithin,wLead,wRun],N (B l)
 s:∀c∈([61,47,59,123,125,44]:List UInt8),S c
theorem av_sep {α:Type} {T:α→List Tok} {l:List α} (hs:S 44) (h:∀x∈l,AV N S (T x)):AV N S (sepT T l):=by
 cases l with
 |nil=>exact av_nil
 |cons x l=>exact av_app (h x (List.mem_cons_self ..)) (av_flat fun y hy=>av_cons (vs hs) (h y (List.mem_cons_of_mem _ hy)))
theorem srcT_valid (V:Voc N S) {s:SrcV} (h:s.good N):AV N S (srcT s):=by
 have W:∀l ∈ [wUnit,wItem,wPlant,wMachine,wOption,wForbid,wMake,wSwap,wIn,wMass,wKeeps,wAt,wClean,wFor,wBack,wFrom,wTo,wIf,wOut,wRework,wYield,wWithin,wLead,wRun],VT N S (tw l):=fun l hl=>vm (V.w l hl)
 have Sg:∀c∈([61,47,59,123,125,44]:List UInt8),VT N S (ts c):=fun c hc=>vs (V.s c hc)
 simp only [List.forall_mem_cons] at W Sg
 obtain ⟨w1,w2,w3,w4,w5,w6,w7,w8,w9,w10,w11,w12,w13,w14,w15,w16,w17,w18,w19,w20,w21,w22,w23,w24,-⟩:=W
 obtain ⟨s1,s2,s3,s4,s5,s6,-⟩:=Sg
 have hc:=V.s 44 (by simp)
 have cond:∀c:Cd,c.good N→AV N S (condT c):=fun c h=>av_cons (vm h.1) (av_cons s1 (av_cons (vm h.2) av_nil))
 have am:∀a:Am,a.good N→AV N S (amT a):=fun a h=>av_cons (vn h.1) (av_cons s2 (av_cons (vn h.2.1) (av_cons (vm h.2.2.1) (av_cons (vm h.2.2.2) (av_cons s3 av_nil)))))
 refine av_app (av_flat fun u hu=>?_) (av_app (av_flat fun u hu=>?_) (av_app (av_flat fun u hu=>?_) (av_app (av_flat fun u hu=>?_) (av_app (av_flat fun u hu=>?_) (av_app (av_flat fun u hu=>?_) (av_app (av_flat fun u hu=>?_) (av_flat fun u hu=>?_)))))))
 ·obtain ⟨h1,h2⟩:=h.U u hu
  refine av_cons w1 (av_cons (vm h1) (av_app ?_ (av_cons s3 av_nil)))
  rcases h2 with ⟨h2,_⟩|⟨h2,h3,h4,h5⟩
  ·rw [if_pos h2];exact av_nil
  rw [if_neg h2];exact av_cons s1 (av_cons (vn h4) (av_cons s2 (av_cons (vn h5) (av_cons (vm h3) av_nil))))
 ·obtain ⟨h1,h2,h3,h4,h5⟩:=h.I u hu
  refine av_cons w2 (av_cons (vm h1) (av_cons w9 (av_cons (vm h2) (av_cons w10 (av_cons (vn h3) (av_cons s2 (av_cons (vn h4) (av_app ?_ (av_cons s3 av_nil)))))))))
  by_cases h0:u.shelf=0
  ·rw [if_pos h0];exact av_nil
  rw [if_neg h0];exact av_cons w11 (av_cons (vn h5) av_nil)
 ·exact av_cons w3 (av_cons (vm (h.P u hu)) (av_cons s3 av_nil))
 ·obtain ⟨h1,h2,h3⟩:=h.M u hu
  exact av_cons w4 (av_cons (vm h1) (av_cons w12 (av_cons (vm h2) (av_cons w13 (av_cons (vn h3) (av_cons s3 av_nil))))))
 ·obtain ⟨h1,_,h3⟩:=h.O u hu
  exact av_cons w5 (av_cons (vm h1) (av_cons s4 (av_app (av_sep hc fun c hc=>av_cons (vm (h3 c hc)) av_nil) (av_cons s5 (av_cons s3 av_nil)))))
 ·obtain ⟨_,h2⟩:=h.F u hu
  exact av_cons w6 (av_app (av_sep hc fun c hc=>cond c (h2 c hc)) (av_cons s3 av_nil))
 ·have r:=h.R u hu
  refine av_cons w7 (av_cons (vm r.it) (av_cons w12 (av_cons (vm r.pl) (av_cons w16 (av_cons (vn r.fr) (av_cons w17 (av_cons (vn r.to) (av_app ?_ (av_cons s4 (av_app (av_flat fun a ha=>av_cons w9 (av_app ?_ (am a (r.inn a ha)))) (av_app (av_flat fun a ha=>av_cons w19 (am a (r.out a ha).1)) ?_)))))))))))
  ·by_cases h0:u.cs=[]
   ·rw [if_pos h0];exact av_nil
   rw [if_neg h0];exact av_cons w18 (av_sep hc fun c hc=>cond c (r.cs c hc))
  ·by_cases h0:a.back=true
   ·rw [if_pos h0];exact av_cons w15 av_nil
   rw [if_neg h0];exact av_nil
  exact av_cons w20 (av_cons (vn r.rw1) (av_cons s2 (av_cons (vn r.rw2) (av_cons s3 (av_cons w21 (av_cons (vn r.y1) (av_cons s2 (av_cons (vn r.y2) (av_cons w22 (av_cons (vn r.t1) (av_cons s2 (av_cons (vn r.t2) (av_cons s3 (av_cons w23 (av_cons (vn r.ld) (av_cons s3 (av_app (av_flat fun x hx=>av_cons w24 (av_cons (vm (r.runs x hx).1) (av_cons (vn (r.runs x hx).2) (av_cons s3 av_nil)))) (av_cons s5 av_nil))))))))))))))))))
 obtain ⟨h1,h2⟩:=h.S u hu
 exact av_cons w8 (av_cons (vm h1) (av_cons w14 (av_cons (vm h2) (av_cons s3 av_nil))))
end
end Go.SynM

namespace Go.SynM
open Go Go.Fw Go.RatM Go.SrcM
open Go.Proofs.YtgbeechjghajcaaGreatDoor (Tok)
inductive Pt where
 |w (l:List UInt8)
 |s (x:ByteArray)
 |n (i:Int)
section
variable (N:ByteArray→Prop) [DecidablePred N]
def Pt.tok:Pt→Tok
 | .w l=>⟨if N (B l) then 1 else 3,0,B l,0⟩
 | .s x=>tm x
 | .n i=>tn i
def Pt.ok:Pt→Bool
 | .w _=>true
 | .s x=>decide (N x)
 | .n i=>decide (okV i)
def okPs (l:List Pt):Bool:=l.all (Pt.ok N)
def tokPs (l:List Pt):List Tok:=l.map (Pt.tok N)
end
structure Pr where
 l:List Pt
 ok:Bool
def Pr.nil:Pr:=⟨[],true⟩
def Pr.add (a b:Pr):Pr:=⟨a.l++b.l,a.ok&&b.ok⟩
def Pr.all {α:Type} (f:α→Pr):List α→Pr
 | []=>Pr.nil
 |x::l=>(f x).add (Pr.all f l)
abbrev wS (c:UInt8):Pt:=.w [c]
def condsPt (l:List Cd):List Pt:=match l with
 | []=>[]
 |c::l=>[.s c.opt,wS 61,.s c.ch]++(l.map fun c=>[wS 44,.s c.opt,wS 61,.s c.ch]).flatten
def unitPr (u:Un):Pr:=if u.of_=e0 then ⟨[.w wUnit,.s u.name,wS 59],decide (u.n=0∧u.d=0)⟩ else ⟨[.w wUnit,.s u.name,wS 61,.n u.n,wS 47,.n u.d,.s u.of_,wS 59],true⟩
def itemPr (i:It):Pr:=⟨[.w wItem,.s i.name,.w wIn,.s i.unit,.w wMass,.n i.mn,wS 47,.n i.md]++(if i.shelf=0 then [] else [.w wKeeps,.n i.shelf])++[wS 59],true⟩
def plantPr (x:ByteArray):Pr:=⟨[.w wPlant,.s x,wS 59],true⟩
def machPr (m:Mc):Pr:=⟨[.w wMachine,.s m.name,.w wAt,.s m.plant,.w wClean,.n m.clean,wS 59],true⟩
def chsPt (l:List ByteArray):List Pt:=match l with
 | []=>[]
 |c::l=>.s c::(l.map fun c=>[wS 44,.s c]).flatten
def optnPr (o:OpV):Pr:=⟨[.w wOption,.s o.name,wS 123]++chsPt o.ch++[wS 125,wS 59],decide (1≤o.ch.length∧o.ch.length≤4)⟩
def forbPr (f:FbV):Pr:=⟨[.w wForbid]++condsPt f.cs++[wS 59],decide (1≤f.cs.length∧f.cs.length≤6)⟩
def amPt (a:Am):List Pt:=[.n a.n,wS 47,.n a.d,.s a.unit,.s a.item,wS 59]
def inPt (a:Am):List Pt:=.w wIn::((if a.back then [.w wBack] else [])++amPt a)
def outPt (a:Am):List Pt:=.w wOut::amPt a
def runPt (x:Rn):List Pt:=[.w wRun,.s x.mach,.n x.slots,wS 59]
def recPr (r:RcV):Pr:=⟨[.w wMake,.s r.item,.w wAt,.s r.plant,.w wFrom,.n r.fr,.w wTo,.n r.to]++((if r.cs=[] then [] else .w wIf::condsPt r.cs)++(wS 123::((r.inn.map inPt).flatten++((r.out.map outPt).flatten ++
  ([.w wRework,.n r.rwN,wS 47,.n r.rwD,wS 59,.w wYield,.n r.yN,wS 47,.n r.yD,.w wWithin,.n r.tN,wS 47,.n r.tD,wS 59,.w wLead,.n r.lead,wS 59]++((r.runs.map runPt).flatten++[wS 125])))))),
 decide (r.inn.length≤8∧r.out.length≤8∧r.runs.length≤8)&&(decide (r.cs.length≤6)&&r.out.all fun a=> !a.back)⟩
def swapPr (x:Sw):Pr:=⟨[.w wSwap,.s x.a,.w wFor,.s x.b,wS 59],true⟩
def srcPr (s:SrcV):Pr:=(Pr.all unitPr s.units).add ((Pr.all itemPr s.items).add ((Pr.all plantPr s.plants).add ((Pr.all machPr s.machines).add ((Pr.all optnPr s.options).add ((Pr.all forbPr s.forbids).add ((Pr.all recPr s.recipes).add (Pr.all swapPr s.swaps)))))))
section
variable {N:ByteArray→Prop} [DecidablePred N]
theorem Pr.all_l {α:Type} {f:α→Pr}:∀l:List α,(Pr.all f l).l=(l.map fun x=>(f x).l).flatten
 | []=>rfl
 |x::l=>by simp only [Pr.all,Pr.add,List.map_cons,List.flatten_cons,Pr.all_l l]
theorem Pr.all_ok {α:Type} {f:α→Pr}:∀l:List α,(Pr.all f l).ok=true ↔ ∀x∈l,(f x).ok=true
 | []=>by simp [Pr.all,Pr.nil]
 |x::l=>by simp only [Pr.all,Pr.add,Bool.and_eq_true,List.forall_mem_cons,Pr.all_ok l]
theorem okPs_app {a b:List Pt}:okPs N (a++b)=true↔okPs N a=true∧okPs N b=true:=by simp [okPs]
theorem okPs_cons {p:Pt} {l:List Pt}:okPs N (p::l)=true↔p.ok N=true∧okPs N l=true:=by simp [okPs]
theorem okPs_nil:okPs N []=true:=rfl
theorem okPs_flat {α:Type} {f:α→List Pt} {l:List α}:okPs N (l.map f).flatten=true ↔ ∀x∈l,okPs N (f x)=true:=by
 induction l with
 |nil=>simp [okPs_nil]
 |cons x l ih=>simp only [List.map_cons,List.flatten_cons,okPs_app,ih,List.forall_mem_cons]
theorem ok_w {l:List UInt8}:(Pt.w l).ok N=true↔True:=by simp [Pt.ok]
theorem ok_s {x:ByteArray}:(Pt.s x).ok N=true↔N x:=by simp [Pt.ok]
theorem ok_n {i:Int}:(Pt.n i).ok N=true↔okV i:=by simp [Pt.ok]
abbrev Pr.good (N:ByteArray→Prop) [DecidablePred N] (p:Pr):Prop:=okPs N p.l=true∧p.ok=true
theorem all_good {α:Type} {f:α→Pr} {l:List α}:(Pr.all f l).good N ↔ ∀x∈l,(f x).good N:=by
 unfold Pr.good
 rw [Pr.all_l,okPs_flat,Pr.all_ok]
 exact ⟨fun h x hx=>⟨h.1 x hx,h.2 x hx⟩,fun h=>⟨fun x hx=>(h x hx).1,fun x hx=>(h x hx).2⟩⟩
theorem add_good {a b:Pr}:(a.add b).good N↔a.good N∧b.good N:=by
 unfold Pr.good
 simp only [Pr.add,okPs_app,Bool.and_eq_true]
 exact ⟨fun h=>⟨⟨h.1.1,h.2.1⟩,h.1.2,h.2.2⟩,fun h=>⟨⟨h.1.1,h.2.1⟩,h.1.2,h.2.2⟩⟩
theorem unit_good {u:Un}:(unitPr u).good N↔goodU N u:=by
 unfold unitPr goodU Pr.good
 by_cases h:u.of_=e0
 ·rw [if_pos h]
  simp [okPs_cons,okPs_nil,ok_w,ok_s,h]
 rw [if_neg h]
 simp only [okPs_cons,okPs_nil,ok_w,ok_s,ok_n,h]
 constructor
 ·rintro ⟨⟨-,h1,-,h2,-,h3,h4,-,-⟩,-⟩
  exact ⟨h1,.inr ⟨h,h4,h2,h3⟩⟩
 rintro ⟨h1,⟨h2,_⟩|⟨_,h2,h3,h4⟩⟩
 ·exact h2.elim
 exact ⟨⟨trivial,h1,trivial,h3,trivial,h4,h2,trivial,trivial⟩,trivial⟩
theorem item_good {i:It}:(itemPr i).good N↔i.good N:=by
 unfold itemPr It.good Pr.good
 by_cases h:i.shelf=0
 ·rw [if_pos h]
  simp only [okPs_app,okPs_cons,okPs_nil,ok_w,ok_s,ok_n]
  constructor
  ·rintro ⟨⟨⟨⟨-,h1,-,h2,-,h3,-,h4,-⟩,-⟩,-⟩,-⟩
   exact ⟨h1,h2,h3,h4,by rw [h];decide⟩
  rintro ⟨h1,h2,h3,h4,_⟩
  exact ⟨⟨⟨⟨trivial,h1,trivial,h2,trivial,h3,trivial,h4,trivial⟩,trivial⟩,trivial,trivial⟩,trivial⟩
 rw [if_neg h]
 simp only [okPs_app,okPs_cons,okPs_nil,ok_w,ok_s,ok_n]
 constructor
 ·rintro ⟨⟨⟨⟨-,h1,-,h2,-,h3,-,h4,-⟩,-,h5,-⟩,-⟩,-⟩
  exact ⟨h1,h2,h3,h4,h5⟩
 rintro ⟨h1,h2,h3,h4,h5⟩
 exact ⟨⟨⟨⟨trivial,h1,trivial,h2,trivial,h3,trivial,h4,trivial⟩,trivial,h5,trivial⟩,trivial,trivial⟩,trivial⟩
theorem plant_good {x:ByteArray}:(plantPr x).good N↔N x:=by
 unfold plantPr Pr.good
 simp [okPs_cons,okPs_nil,ok_w,ok_s]
theorem mach_good {m:Mc}:(machPr m).good N↔m.good N:=by
 unfold machPr Mc.good Pr.good
 simp [okPs_cons,okPs_nil,ok_w,ok_s,ok_n]
theorem chs_good {l:List ByteArray}:okPs N (chsPt l)=true ↔ ∀x∈l,N x:=by
 cases l with
 |nil=>simp [chsPt,okPs_nil]
 |cons x l=>simp only [chsPt,okPs_cons,okPs_flat,okPs_nil,ok_w,ok_s,List.forall_mem_cons,true_and,and_true]
theorem conds_good {l:List Cd}:okPs N (condsPt l)=true ↔ ∀c∈l,c.good N:=by
 cases l with
 |nil=>simp [condsPt,okPs_nil]
 |cons x l=>simp only [condsPt,okPs_app,okPs_cons,okPs_flat,okPs_nil,ok_w,ok_s,List.forall_mem_cons,true_and,and_true,Cd.good]
theorem optn_good {o:OpV}:(optnPr o).good N↔o.good N:=by
 unfold optnPr OpV.good Pr.good
 simp only [okPs_app,okPs_cons,okPs_nil,ok_w,ok_s,chs_good,decide_eq_true_eq,true_and,and_true]
 exact ⟨fun h=>⟨h.1.1,h.2,h.1.2⟩,fun h=>⟨⟨h.1,h.2.2⟩,h.2.1⟩⟩
theorem forb_good {f:FbV}:(forbPr f).good N↔f.good N:=by
 unfold forbPr FbV.good Pr.good
 simp only [okPs_app,okPs_cons,okPs_nil,ok_w,conds_good,decide_eq_true_eq,true_and,and_true]
 exact ⟨fun h=>⟨h.2,h.1⟩,fun h=>⟨h.2,h.1⟩⟩
theorem am_good {a:Am}:okPs N (amPt a)=true↔a.good N:=by
 unfold amPt Am.good
 simp only [okPs_cons,okPs_nil,ok_w,ok_s,ok_n,true_and,and_true]
theorem in_good {a:Am}:okPs N (inPt a)=true↔a.good N:=by
 unfold inPt
 cases a.back<;>simp [okPs_cons,okPs_nil,ok_w,am_good]
theorem out_good {a:Am}:okPs N (outPt a)=true↔a.good N:=by
 unfold outPt
 simp [okPs_cons,ok_w,am_good]
theorem run_good {x:Rn}:okPs N (runPt x)=true↔x.good N:=by
 unfold runPt Rn.good
 simp only [okPs_cons,okPs_nil,ok_w,ok_s,ok_n,true_and,and_true]
theorem rec_good {r:RcV}:(recPr r).good N↔r.good N:=by
 have hc:okPs N (if r.cs=[] then [] else .w wIf::condsPt r.cs)=true ↔ ∀c∈r.cs,c.good N:=by
  by_cases h:r.cs=[]
  ·rw [if_pos h,h];simp [okPs_nil]
  rw [if_neg h];simp only [okPs_cons,ok_w,conds_good,true_and]
 unfold recPr Pr.good
 simp only [okPs_app,okPs_cons,okPs_nil,okPs_flat,ok_w,ok_s,ok_n,hc,in_good,out_good,run_good,Bool.and_eq_true,decide_eq_true_eq,List.all_eq_true,Bool.not_eq_true',true_and,and_true]
 constructor
 ·rintro ⟨⟨⟨a1,a2,a3,a4⟩,b1,b2,b3,⟨c1,c2,c3,c4,c5,c6,c7⟩,d⟩,⟨e1,e2,e3⟩,f1,f2⟩
  exact ⟨a1,a2,a3,a4,f1,b1,e1,b2,e2,fun a ha=>⟨b3 a ha,f2 a ha⟩,c1,c2,c3,c4,c5,c6,c7,e3,d⟩
 rintro ⟨a1,a2,a3,a4,f1,b1,e1,b2,e2,b3,c1,c2,c3,c4,c5,c6,c7,e3,d⟩
 exact ⟨⟨⟨a1,a2,a3,a4⟩,b1,b2,fun a ha=>(b3 a ha).1,⟨c1,c2,c3,c4,c5,c6,c7⟩,d⟩,⟨e1,e2,e3⟩,f1,fun a ha=>(b3 a ha).2⟩
theorem swap_good {x:Sw}:(swapPr x).good N↔x.good N:=by
 unfold swapPr Sw.good Pr.good
 simp [okPs_cons,okPs_nil,ok_w,ok_s]
theorem src_good {s:SrcV} (hF:Fit s):(srcPr s).good N↔s.good N:=by
 unfold srcPr
 rw [add_good,add_good,add_good,add_good,add_good,add_good,add_good,all_good,all_good,all_good,all_good,all_good,all_good,all_good,all_good]
 simp only [unit_good,item_good,plant_good,mach_good,optn_good,forb_good,rec_good,swap_good]
 constructor
 ·rintro ⟨h1,h2,h3,h4,h5,h6,h7,h8⟩
  exact ⟨hF.U,h1,hF.I,h2,hF.P,h3,hF.M,h4,hF.O,h5,hF.F,h6,hF.R,h7,hF.S,h8⟩
 rintro ⟨_,h1,_,h2,_,h3,_,h4,_,h5,_,h6,_,h7,_,h8⟩
 exact ⟨h1,h2,h3,h4,h5,h6,h7,h8⟩
omit [DecidablePred N] in
theorem good_fit {s:SrcV} (h:s.good N):Fit s:=⟨h.lU,h.lI,h.lP,h.lM,h.lO,h.lF,h.lR,h.lS⟩
/-! the tokens are those of srcT -/
structure VocN (N:ByteArray→Prop):Prop where
 w:∀l ∈ [wUnit,wItem,wPlant,wMachine,wOption,wForbid,wMake,wSwap,wIn,wMass,wKeeps,wAt,wClean,wFor,wBack,wFrom,wTo,wIf,wOut,wRework,wYield,wWithin,wLead,wRun],N (B l)
 s:∀c∈([61,47,59,123,125,44]:List UInt8),¬N (B [c])
theorem tok_w {l:List UInt8} (h:N (B l)):(Pt.w l).tok N=tw l:=by simp only [Pt.tok,if_pos h];rfl
theorem tok_g {c:UInt8} (h:¬N (B [c])):(wS c).tok N=ts c:=by simp only [Pt.tok,if_neg h];rfl
theorem tokPs_app {a b:List Pt}:tokPs N (a++b)=tokPs N a++tokPs N b:=List.map_append
theorem tokPs_cons {p:Pt} {l:List Pt}:tokPs N (p::l)=p.tok N::tokPs N l:=rfl
theorem tokPs_nil:tokPs N []=[]:=rfl
theorem tokPs_flat {α:Type} {f:α→List Pt} {l:List α}:tokPs N (l.map f).flatten=(l.map fun x=>tokPs N (f x)).flatten:=by
 induction l with
 |nil=>rfl
 |cons x l ih=>simp only [List.map_cons,List.flatten_cons,tokPs_app,ih]
theorem all_tok {α:Type} {f:α→Pr} {T:α→List Tok} {l:List α} (h:∀x,tokPs N (f x).l=T x):tokPs N (Pr.all f l).l=(l.map T).flatten:=by
 rw [Pr.all_l,tokPs_flat,List.map_congr_left fun x _=>h x]
theorem src_tok (V:VocN N) {s:SrcV}:tokPs N (srcPr s).l=srcT s:=by
 have W:∀l ∈ [wUnit,wItem,wPlant,wMachine,wOption,wForbid,wMake,wSwap,wIn,wMass,wKeeps,wAt,wClean,wFor,wBack,wFrom,wTo,wIf,wOut,wRework,wYield,wWithin,wLead,wRun],(Pt.w l).tok N=tw l:=fun l hl=>tok_w (V.w l hl)
 have Sg:∀c∈([61,47,59,123,125,44]:List UInt8),(wS c).tok N=ts c:=fun c hc=>tok_g (V.s c hc)
 simp only [List.forall_mem_cons] at W Sg
 obtain ⟨w1,w2,w3,w4,w5,w6,w7,w8,w9,w10,w11,w12,w13,w14,w15,w16,w17,w18,w19,w20,w21,w22,w23,w24,-⟩:=W
 obtain ⟨s1,s2,s3,s4,s5,s6,-⟩:=Sg
 have ts':∀x,(Pt.s x).tok N=tm x:=fun _=>rfl
 have tn':∀i,(Pt.n i).tok N=tn i:=fun _=>rfl
 have cond:∀l:List Cd,tokPs N (condsPt l)=sepT condT l:=fun l=>by
  cases l with
  |nil=>rfl
  |cons c l=>simp only [condsPt,tokPs_app,tokPs_cons,tokPs_nil,tokPs_flat,ts',s1,s6,sepT,condT]
 have chs:∀l:List ByteArray,tokPs N (chsPt l)=sepT (fun c=>[tm c]) l:=fun l=>by
  cases l with
  |nil=>rfl
  |cons c l=>simp only [chsPt,tokPs_cons,tokPs_nil,tokPs_flat,ts',s6,sepT];rfl
 have am:∀a:Am,tokPs N (amPt a)=amT a:=fun a=>by simp only [amPt,tokPs_cons,tokPs_nil,ts',tn',s2,s3,amT]
 unfold srcPr srcT
 simp only [Pr.add,tokPs_app]
 refine congr (congrArg _ (all_tok fun u=>?_))<|congr (congrArg _ (all_tok fun i=>?_))<|congr (congrArg _ (all_tok fun x=>?_))<|congr (congrArg _ (all_tok fun m=>?_))<|congr (congrArg _ (all_tok fun o=>?_))<|congr (congrArg _ (all_tok fun f=>?_))<|congr (congrArg _ (all_tok fun r=>?_)) (all_tok fun x=>?_)
 ·unfold unitPr unitT
  by_cases h:u.of_=e0
  ·simp only [if_pos h,tokPs_cons,tokPs_nil,ts',w1,s3,List.nil_append]
  simp only [if_neg h,tokPs_cons,tokPs_nil,ts',tn',w1,s1,s2,s3,List.cons_append,List.nil_append]
 ·unfold itemPr itemT
  by_cases h:i.shelf=0
  ·simp only [if_pos h,tokPs_app,tokPs_cons,tokPs_nil,ts',tn',w2,w9,w10,s2,s3,List.nil_append,List.cons_append,List.append_nil]
  simp only [if_neg h,tokPs_app,tokPs_cons,tokPs_nil,ts',tn',w2,w9,w10,w11,s2,s3,List.nil_append,List.cons_append]
 ·simp only [plantPr,plantT,tokPs_cons,tokPs_nil,ts',w3,s3]
 ·simp only [machPr,machT,tokPs_cons,tokPs_nil,ts',tn',w4,w12,w13,s3]
 ·simp only [optnPr,optnT,tokPs_app,tokPs_cons,tokPs_nil,ts',chs,w5,s3,s4,s5,List.cons_append,List.nil_append]
 ·simp only [forbPr,forbT,tokPs_app,tokPs_cons,tokPs_nil,cond,w6,s3,List.cons_append,List.nil_append]
 ·have hc:tokPs N (if r.cs=[] then [] else .w wIf::condsPt r.cs)=if r.cs=[] then [] else tw wIf::sepT condT r.cs:=by
   by_cases h:r.cs=[]
   ·rw [if_pos h,if_pos h];rfl
   rw [if_neg h,if_neg h,tokPs_cons,w18,cond]
  have hi:∀a:Am,tokPs N (inPt a)=tw wIn::inT a:=fun a=>by
   unfold inPt inT
   cases a.back<;>simp [tokPs_cons,tokPs_app,tokPs_nil,w9,w15,am]
  have ho:∀a:Am,tokPs N (outPt a)=tw wOut::amT a:=fun a=>by simp only [outPt,tokPs_cons,w19,am]
  have hr:∀x:Rn,tokPs N (runPt x)=tw wRun::runT x:=fun x=>by simp only [runPt,runT,tokPs_cons,tokPs_nil,ts',tn',w24,s3]
  simp only [recPr,recT,tokPs_app,tokPs_cons,tokPs_nil,tokPs_flat,ts',tn',hc,hi,ho,hr,w7,w12,w16,w17,w20,w21,w22,w23,s2,s3,s4,s5,List.cons_append,List.nil_append]
 simp only [swapPr,swapT,tokPs_cons,tokPs_nil,ts',w8,w14,s3]
end
end Go.SynM

namespace Go.SynM
open Go Go.Fw Go.RatM Go.SrcM
open Go.Proofs.YtgbeechjghajcaaGreatDoor (Tok)
structure St where
 n:Nat
 e:Int
 pl:Int
abbrev M (α:Type):=St→α×St
section
variable (L:List Tok) (en:Int)
def rfail (c:Int):M Unit:=fun s=>((),if s.e=0 then (match L[s.n]? with
 |some t=>⟨s.n,c,t.pos⟩
 |none=>⟨s.n,100,en⟩) else s)
def rnext (k:Int) (t:ByteArray) (s:St):Bool:=decide (s.e=0)&&match L[s.n]? with
 |some x=>decide (x.kind=k∧x.text=t)
 |none=>false
def rexp (k:Int) (t:ByteArray):M Unit:=fun s=>if rnext L k t s then ((),{s with n:=s.n+1}) else rfail L en 100 s
def rname:M ByteArray:=fun s=>match (if s.e=0 then L[s.n]? else none) with
 |some x=>if x.kind=1 then (x.text,{s with n:=s.n+1}) else (e0,(rfail L en 100 s).2)
 |none=>(e0,(rfail L en 100 s).2)
def rnum:M Int:=fun s=>match (if s.e=0 then L[s.n]? else none) with
 |some x=>if x.kind=2∧0≤x.n∧x.n≤1048576 then (x.n,{s with n:=s.n+1}) else (0,(rfail L en 100 s).2)
 |none=>(0,(rfail L en 100 s).2)
def rroom (many most:Nat):M Unit:=fun s=>if most≤many then rfail L en 2 s else ((),s)
end
def sb {α β:Type} (m:M α) (f:α→M β):M β:=fun s=>f (m s).1 (m s).2
def rt {α:Type} (a:α):M α:=fun s=>(a,s)
section
variable (L:List Tok) (en:Int)
abbrev rwd (t:List UInt8):M Unit:=rexp L en 1 (B t)
abbrev rsg (c:UInt8):M Unit:=rexp L en 3 (B [c])
def rratio:M (Int×Int):=sb (rnum L en) fun n=>sb (rsg L en 47) fun _=>sb (rnum L en) fun d=>rt (n,d)
def ropt {α:Type} (k:Int) (t:ByteArray) (a:α) (m:M α):M α:=fun s=>if rnext L k t s then m s else (a,s)
def rmany {α:Type} (k:Int) (t:ByteArray) (most:Nat) (m:M α):Nat→List α→M (List α)
 |0,l=>rt l
 |f+1,l=>fun s=>if rnext L k t s then sb (sb (rroom L en l.length most) fun _=>m) (fun x=>rmany k t most m f (l++[x])) s else (l,s)
def runit:M Un:=sb (rwd L en wUnit) fun _=>sb (rname L en) fun nm=>sb (ropt L 3 (B [61]) (0,0,e0) (sb (rsg L en 61) fun _=>sb (rratio L en) fun q=>sb (rname L en) fun o=>rt (q.1,q.2,o))) fun x=>sb (rsg L en 59) fun _=>rt ⟨nm,x.2.2,x.1,x.2.1,0,zr⟩
def ritem:M It:=sb (rwd L en wItem) fun _=>sb (rname L en) fun nm=>sb (rwd L en wIn) fun _=>sb (rname L en) fun u=>sb (rwd L en wMass) fun _=>sb (rratio L en) fun q=>sb (ropt L 1 (B wKeeps) 0 (sb (rwd L en wKeeps) fun _=>rnum L en)) fun s=>sb (rsg L en 59) fun _=>rt ⟨nm,u,q.1,q.2,s,0⟩
def rplant:M ByteArray:=sb (rwd L en wPlant) fun _=>sb (rname L en) fun nm=>sb (rsg L en 59) fun _=>rt nm
def rmach:M Mc:=sb (rwd L en wMachine) fun _=>sb (rname L en) fun nm=>sb (rwd L en wAt) fun _=>sb (rname L en) fun p=>sb (rwd L en wClean) fun _=>sb (rnum L en) fun c=>sb (rsg L en 59) fun _=>rt ⟨nm,p,c,0⟩
def rchs:M (List ByteArray):=sb (rname L en) fun c=>rmany L en 3 (B [44]) 4 (sb (rsg L en 44) fun _=>rname L en) (L.length+1) [c]
def roptn:M OpV:=sb (rwd L en wOption) fun _=>sb (rname L en) fun nm=>sb (rsg L en 123) fun _=>sb (rchs L en) fun l=>sb (rsg L en 125) fun _=>sb (rsg L en 59) fun _=>rt ⟨nm,hd0,l⟩
def rcond:M Cd:=sb (rname L en) fun o=>sb (rsg L en 61) fun _=>sb (rname L en) fun c=>rt ⟨o,c,0,0⟩
def rconds:M (List Cd):=sb (rcond L en) fun c=>rmany L en 3 (B [44]) 6 (sb (rsg L en 44) fun _=>rcond L en) (L.length+1) [c]
def rforb:M FbV:=sb (rwd L en wForbid) fun _=>sb (rconds L en) fun l=>sb (rsg L en 59) fun _=>rt ⟨hd0,l⟩
def ramount:M Am:=sb (rratio L en) fun q=>sb (rname L en) fun u=>sb (rname L en) fun i=>sb (rsg L en 59) fun _=>rt ⟨q.1,q.2,u,i,false,0,0⟩
def rinp:M Am:=sb (rwd L en wIn) fun _=>sb (ropt L 1 (B wBack) false (sb (rwd L en wBack) fun _=>rt true)) fun b=>sb (ramount L en) fun a=>rt {a with back:=b}
def rrun:M Rn:=sb (rwd L en wRun) fun _=>sb (rname L en) fun m=>sb (rnum L en) fun n=>sb (rsg L en 59) fun _=>rt ⟨m,n,0⟩
def rrec:M RcV:=sb (rwd L en wMake) fun _=>sb (rname L en) fun it=>sb (rwd L en wAt) fun _=>sb (rname L en) fun pl=>sb (rwd L en wFrom) fun _=>sb (rnum L en) fun fr=>sb (rwd L en wTo) fun _=>sb (rnum L en) fun to=>
 sb (ropt L 1 (B wIf) [] (sb (rwd L en wIf) fun _=>rconds L en)) fun cs=>sb (rsg L en 123) fun _=>sb (rmany L en 1 (B wIn) 8 (rinp L en) (L.length+1) []) fun ins=>sb (rmany L en 1 (B wOut) 8 (sb (rwd L en wOut) fun _=>ramount L en) (L.length+1) []) fun outs=>
 sb (rwd L en wRework) fun _=>sb (rratio L en) fun rw=>sb (rsg L en 59) fun _=>sb (rwd L en wYield) fun _=>sb (rratio L en) fun y=>sb (rwd L en wWithin) fun _=>sb (rratio L en) fun t=>
 sb (rsg L en 59) fun _=>sb (rwd L en wLead) fun _=>sb (rnum L en) fun ld=>sb (rsg L en 59) fun _=>sb (rmany L en 1 (B wRun) 8 (rrun L en) (L.length+1) []) fun runs=>sb (rsg L en 125) fun _=>
 rt ⟨it,pl,fr,to,hd0,cs,hd0,ins,hd0,outs,rw.1,rw.2,y.1,y.2,t.1,t.2,ld,hd0,runs,0,0⟩
def rswap:M Sw:=sb (rwd L en wSwap) fun _=>sb (rname L en) fun a=>sb (rwd L en wFor) fun _=>sb (rname L en) fun b=>sb (rsg L en 59) fun _=>rt ⟨a,b,0,0⟩
def rbr {α:Type} (w:List UInt8) (n most:Nat) (m q:M α):M α:=fun s=>if rnext L 1 (B w) s then sb (rroom L en n most) (fun _=>m) s else q s
def rdef (s:SrcV):M SrcV:=
 rbr L en wUnit s.units.length 32 (sb (runit L en) fun x=>rt {s with units:=s.units++[x]}) <|
 rbr L en wItem s.items.length 32 (sb (ritem L en) fun x=>rt {s with items:=s.items++[x]}) <|
 rbr L en wPlant s.plants.length 8 (sb (rplant L en) fun x=>rt {s with plants:=s.plants++[x]}) <|
 rbr L en wMachine s.machines.length 16 (sb (rmach L en) fun x=>rt {s with machines:=s.machines++[x]}) <|
 rbr L en wOption s.options.length 6 (sb (roptn L en) fun x=>rt {s with options:=s.options++[x]}) <|
 rbr L en wForbid s.forbids.length 16 (sb (rforb L en) fun x=>rt {s with forbids:=s.forbids++[x]}) <|
 rbr L en wMake s.recipes.length 64 (sb (rrec L en) fun x=>rt {s with recipes:=s.recipes++[x]}) <|
 rbr L en wSwap s.swaps.length 32 (sb (rswap L en) fun x=>rt {s with swaps:=s.swaps++[x]}) <|
 sb (rswap L en) fun x=>rt {s with swaps:=s.swaps++[x]}
def rdefs:Nat→SrcV→M SrcV
 |0,s=>rt s
 |f+1,s=>fun t=>if t.e=0∧t.n<L.length then sb (rdef L en s) (rdefs f) t else (s,t)
end
/-! the two agree -/
section
variable {L:List Tok} {en:Int} {α β:Type}
structure At (L:List Tok) (s:St) (r:List Tok):Prop where
 e:s.e=0
 r:L.drop s.n=r
def Stay (m:M α):Prop:=∀s,s.e≠0→(m s).2=s
structure Bad (en:Int) (s:St) (r:List Tok) (e:Nat):Prop where
 e:s.e=(match r with | []=>100|_=>(e:Int))
 pl:s.pl=(match r with | []=>en|t::_=>t.pos)
 nz:s.e≠0
def Sim (L:List Tok) (en:Int) (m:M α) (p:P α):Prop:=∀s r,At L s r→match p r with
 | .ok a r'=>(m s).1=a∧At L (m s).2 r'
 | .bad r' e=>Bad en (m s).2 r' e
theorem stay_sb {m:M α} {f:α→M β} (hm:Stay m) (hf:∀a,Stay (f a)):Stay (sb m f):=fun s h=>by
 show (f (m s).1 (m s).2).2=s
 rw [hm s h]
 exact hf _ s h
theorem stay_rt {a:α}:Stay (rt a):=fun _ _=>rfl
theorem sim_bnd {m:M α} {p:P α} {f:α→M β} {q:α→P β} (h1:Sim L en m p) (h2:∀a,Sim L en (f a) (q a)) (h3:∀a,Stay (f a)):Sim L en (sb m f) (bnd p q):=fun s r hA=>by
 have:=h1 s r hA
 unfold bnd
 cases hp:p r with
 |ok a r'=>
  rw [hp] at this
  have h4:=h2 a (m s).2 r' this.2
  show match q a r' with
   | .ok b r''=>(f (m s).1 (m s).2).1=b∧At L (f (m s).1 (m s).2).2 r''
   | .bad r'' e=>Bad en (f (m s).1 (m s).2).2 r'' e
  rw [this.1]
  exact h4
 |bad r' e=>
  rw [hp] at this
  show Bad en (f (m s).1 (m s).2).2 r' e
  rw [h3 _ _ this.nz]
  exact this
theorem sim_rt {a:α}:Sim L en (rt a) (pur a):=fun s r hA=>⟨rfl,hA⟩
theorem at_nil {s:St} {r:List Tok} (h:At L s r):L[s.n]? = r.head? :=by
 rw [←h.r,List.head?_drop]
theorem at_cons {s:St} {x:Tok} {r:List Tok} (h:At L s (x::r)):At L {s with n:=s.n+1} r:=⟨h.e,by
 have:=h.r
 show L.drop (s.n+1)=r
 rw [←List.tail_drop,this];rfl⟩
theorem bad_of {s:St} {r:List Tok} (h:At L s r) {e:Nat} (he:(e:Int)≠0):Bad en (rfail L en e s).2 r e:=by
 unfold rfail
 simp only [h.e,if_true,at_nil h]
 cases r with
 |nil=>exact ⟨rfl,rfl,by show (100:Int)≠0;decide⟩
 |cons x r=>exact ⟨rfl,rfl,he⟩
theorem next_eq {s:St} {r:List Tok} (h:At L s r) (k:Int) (t:ByteArray):rnext L k t s=isT k t r:=by
 unfold rnext
 rw [at_nil h,h.e]
 cases r<;>rfl
theorem next_no {s:St} (h:s.e≠0) (k:Int) (t:ByteArray):rnext L k t s=false:=by
 unfold rnext
 rw [decide_eq_false h];rfl
theorem stay_fail {c:Int}:Stay (rfail L en c):=fun s h=>by unfold rfail;simp only [if_neg h]
theorem stay_exp {k:Int} {t:ByteArray}:Stay (rexp L en k t):=fun s h=>by
 unfold rexp
 rw [next_no h]
 exact stay_fail s h
theorem stay_name:Stay (rname L en):=fun s h=>by
 unfold rname
 rw [if_neg h]
 exact stay_fail s h
theorem stay_num:Stay (rnum L en):=fun s h=>by
 unfold rnum
 rw [if_neg h]
 exact stay_fail s h
theorem stay_opt {k:Int} {t:ByteArray} {a:α} {m:M α}:Stay (ropt L k t a m):=fun s h=>by
 unfold ropt
 rw [next_no h];rfl
theorem stay_many {k:Int} {t:ByteArray} {most:Nat} {m:M α}:∀(f:Nat) (l:List α),Stay (rmany L en k t most m f l)
 |0,_=>stay_rt
 |f+1,l=>fun s h=>by
  simp only [rmany]
  rw [next_no h];rfl
theorem sim_exp {k:Int} {t:ByteArray}:Sim L en (rexp L en k t) (skip k t):=fun s r hA=>by
 unfold rexp skip
 rw [next_eq hA]
 cases hi:isT k t r with
 |true=>
  obtain ⟨x,r,rfl⟩:=isT_cons hi
  exact ⟨rfl,at_cons hA⟩
 |false=>exact bad_of hA (by decide)
theorem sim_name:Sim L en (rname L en) nameP:=fun s r hA=>by
 unfold rname
 rw [if_pos hA.e,at_nil hA]
 cases r with
 |nil=>exact bad_of hA (by decide)
 |cons x r=>
  simp only [List.head?_cons,nameP]
  by_cases hk:x.kind=1
  ·rw [if_pos hk,if_pos hk];exact ⟨rfl,at_cons hA⟩
  rw [if_neg hk,if_neg hk];exact bad_of hA (by decide)
theorem sim_num (hL:∀t∈L,t.kind=2→0≤t.n):Sim L en (rnum L en) numP:=fun s r hA=>by
 unfold rnum
 rw [if_pos hA.e,at_nil hA]
 cases r with
 |nil=>exact bad_of hA (by decide)
 |cons x r=>
  have hx:x∈L:=List.mem_of_mem_drop (by rw [hA.r];exact List.mem_cons_self ..)
  simp only [List.head?_cons,numP]
  by_cases hk:x.kind=2∧x.n≤1048576
  ·rw [if_pos hk,if_pos ⟨hk.1,hL x hx hk.1,hk.2⟩];exact ⟨rfl,at_cons hA⟩
  rw [if_neg hk,if_neg fun h=>hk ⟨h.1,h.2.2⟩];exact bad_of hA (by decide)
def SimT (L:List Tok) (en:Int) (k:Int) (t:ByteArray) (m:M α) (p:P α):Prop:=∀s x r,At L s (x::r)→isT k t (x::r)=true→match p r with
 | .ok a r'=>(m s).1=a∧At L (m s).2 r'
 | .bad r' e=>Bad en (m s).2 r' e
theorem simT {k:Int} {t:ByteArray} {m:M α} {p:P α} (h:Sim L en m p):SimT L en k t (sb (rexp L en k t) fun _=>m) p:=fun s x r hA hi=>by
 have:(rexp L en k t s)=((),{s with n:=s.n+1}):=by
  unfold rexp
  rw [next_eq hA,hi];rfl
 show match p r with
  | .ok a r'=>(m (rexp L en k t s).2).1=a∧At L (m (rexp L en k t s).2).2 r'
  | .bad r' e=>Bad en (m (rexp L en k t s).2).2 r' e
 rw [this]
 exact h _ r (at_cons hA)
theorem simT_bnd {k:Int} {t:ByteArray} {m:M α} {p:P α} {f:α→M β} {q:α→P β} (h1:SimT L en k t m p) (h2:∀a,Sim L en (f a) (q a)) (h3:∀a,Stay (f a)):SimT L en k t (sb m f) (bnd p q):=fun s x r hA hi=>by
 have:=h1 s x r hA hi
 unfold bnd
 cases hp:p r with
 |ok a r'=>
  rw [hp] at this
  have h4:=h2 a (m s).2 r' this.2
  show match q a r' with
   | .ok b r''=>(f (m s).1 (m s).2).1=b∧At L (f (m s).1 (m s).2).2 r''
   | .bad r'' e=>Bad en (f (m s).1 (m s).2).2 r'' e
  rw [this.1]
  exact h4
 |bad r' e=>
  rw [hp] at this
  show Bad en (f (m s).1 (m s).2).2 r' e
  rw [h3 _ _ this.nz]
  exact this
theorem sim_opt {k:Int} {t:ByteArray} {a:α} {m:M α} {p:P α} (h:SimT L en k t m p):Sim L en (ropt L k t a m) (optP k t a p):=fun s r hA=>by
 unfold ropt optP
 rw [next_eq hA]
 cases hi:isT k t r with
 |true=>
  obtain ⟨x,r,rfl⟩:=isT_cons hi
  exact h s x r hA hi
 |false=>exact ⟨rfl,hA⟩
theorem sim_many {k:Int} {t:ByteArray} {most:Nat} {m:M α} {p:P α} (h:SimT L en k t m p) (hs:Stay m) (he:∀r a r',p r=.ok a r'→r'.length≤r.length):∀(f:Nat) (l:List α) (c:Nat) (s:St) (r:List Tok),l.length+c=most→At L s r→r.length<f→match manyP k t p c r with
  | .ok a r'=>(rmany L en k t most m f l s).1=l++a∧At L (rmany L en k t most m f l s).2 r'
  | .bad r' e=>Bad en (rmany L en k t most m f l s).2 r' e
 |0,_,_,_,_,_,_,hf=>absurd hf (Nat.not_lt_zero _)
 |f+1,l,c,s,r,hc,hA,hf=>by
  simp only [rmany]
  rw [next_eq hA]
  cases c with
  |zero=>
   simp only [manyP]
   cases hi:isT k t r with
   |false=>exact ⟨by simp,hA⟩
   |true=>
    simp only [if_true]
    have hb:=bad_of (en:=en) hA (e:=2) (by decide)
    have e1:(rroom L en l.length most s).2=(rfail L en ((2:Nat):Int) s).2:=by
     unfold rroom
     rw [if_pos (by omega)];rfl
    show Bad en (rmany L en k t most m f _ (m (rroom L en l.length most s).2).2).2 r 2
    rw [e1,hs _ hb.nz,stay_many f _ _ hb.nz]
    exact hb
  |succ c=>
   simp only [manyP]
   cases hi:isT k t r with
   |false=>exact ⟨by simp,hA⟩
   |true=>
    simp only [if_true]
    obtain ⟨x,r,rfl⟩:=isT_cons hi
    have e1:rroom L en l.length most s=((),s):=by
     unfold rroom
     rw [if_neg (by omega)]
    have h4:=h s x r hA hi
    show match bnd p (fun x=>bnd (manyP k t p c) fun l=>pur (x::l)) r with
     | .ok a r'=>(rmany L en k t most m f (l++[(m (rroom L en l.length most s).2).1]) (m (rroom L en l.length most s).2).2).1=l++a∧At L (rmany L en k t most m f (l++[(m (rroom L en l.length most s).2).1]) (m (rroom L en l.length most s).2).2).2 r'
     | .bad r' e=>Bad en (rmany L en k t most m f (l++[(m (rroom L en l.length most s).2).1]) (m (rroom L en l.length most s).2).2).2 r' e
    rw [e1]
    simp only [bnd]
    cases hp:p r with
    |bad r' e=>
     rw [hp] at h4
     simp only
     rw [stay_many f _ _ h4.nz]
     exact h4
    |ok a r'=>
     rw [hp] at h4
     have hl:=he _ _ _ hp
     simp only [List.length_cons] at hf
     have ih:=sim_many (most:=most) h hs he f (l++[(m s).1]) c (m s).2 r' (by rw [List.length_append,List.length_singleton];omega) h4.2 (by omega)
     simp only
     cases hm:manyP k t p c r' with
     |bad r2 e=>rw [hm] at ih;exact ih
     |ok b r2=>
      rw [hm] at ih
      refine ⟨?_,ih.2⟩
      rw [ih.1,h4.1,List.append_assoc];rfl
theorem good_le {p:P α} (h:Good p):∀r a r',p r=.ok a r'→r'.length≤r.length:=fun r a r' e=>suf_len (h.suf _ _ _ e)
theorem at_len {s:St} {r:List Tok} (h:At L s r):r.length<L.length+1:=by
 have:=congrArg List.length h.r
 rw [List.length_drop] at this
 omega
theorem sim_many0 {k:Int} {t:ByteArray} {most:Nat} {m:M α} {p:P α} (h:SimT L en k t m p) (hs:Stay m) (hg:Good p):Sim L en (rmany L en k t most m (L.length+1) []) (manyP k t p most):=fun s r hA=>by
 have:=sim_many (most:=most) h hs (good_le hg) (L.length+1) [] most s r (Nat.zero_add _) hA (at_len hA)
 cases hm:manyP k t p most r with
 |ok a r'=>rw [hm] at this;simpa using this
 |bad r' e=>rw [hm] at this;exact this
theorem sim_sep {most:Nat} {m:M α} {p:P α} (h1:Sim L en m p) (hs:Stay m) (hg:Good p):Sim L en (sb m fun c=>rmany L en 3 (B [44]) (most+1) (sb (rsg L en 44) fun _=>m) (L.length+1) [c]) (sepP p (most+1)):=
 sim_bnd h1 (fun c=>fun s r hA=>by
  have:=sim_many (most:=most+1) (simT (k:=3) (t:=B [44]) h1) (stay_sb stay_exp fun _=>hs) (good_le hg) (L.length+1) [c] most s r (by simp;omega) hA (at_len hA)
  simp only [Nat.add_sub_cancel]
  unfold bnd
  cases hm:manyP 3 (B [44]) p most r with
  |ok a r'=>rw [hm] at this;exact this
  |bad r' e=>rw [hm] at this;exact this) fun c=>stay_many _ _
end
end Go.SynM

namespace Go.SynM
open Go Go.Fw Go.RatM Go.SrcM
open Go.Proofs.YtgbeechjghajcaaGreatDoor (Tok)
section
variable {L:List Tok} {en:Int} {α β:Type}
abbrev NumP (L:List Tok):Prop:=∀t∈L,t.kind=2→0≤t.n
theorem stay_ratio:Stay (rratio L en):=stay_sb stay_num fun _=>stay_sb stay_exp fun _=>stay_sb stay_num fun _=>stay_rt
theorem sim_ratio (hL:NumP L):Sim L en (rratio L en) fracP:=sim_bnd (sim_num hL) (fun _=>sim_bnd sim_exp (fun _=>sim_bnd (sim_num hL) (fun _=>sim_rt) fun _=>stay_rt) fun _=>stay_sb stay_num fun _=>stay_rt) fun _=>stay_sb stay_exp fun _=>stay_sb stay_num fun _=>stay_rt
theorem sim_unit (hL:NumP L):SimT L en 1 (B wUnit) (runit L en) unitP:=
 simT (sim_bnd sim_name (fun _=>sim_bnd (sim_opt (simT (sim_bnd (sim_ratio hL) (fun _=>sim_bnd sim_name (fun _=>sim_rt) fun _=>stay_rt) fun _=>stay_sb stay_name fun _=>stay_rt))) (fun _=>sim_bnd sim_exp (fun _=>sim_rt) fun _=>stay_rt) fun _=>stay_sb stay_exp fun _=>stay_rt) fun _=>stay_sb stay_opt fun _=>stay_sb stay_exp fun _=>stay_rt)
theorem stay_unit:Stay (runit L en):=stay_sb stay_exp fun _=>stay_sb stay_name fun _=>stay_sb stay_opt fun _=>stay_sb stay_exp fun _=>stay_rt
theorem stay_item:Stay (ritem L en):=stay_sb stay_exp fun _=>stay_sb stay_name fun _=>stay_sb stay_exp fun _=>stay_sb stay_name fun _=>stay_sb stay_exp fun _=>stay_sb stay_ratio fun _=>stay_sb stay_opt fun _=>stay_sb stay_exp fun _=>stay_rt
theorem sim_item (hL:NumP L):SimT L en 1 (B wItem) (ritem L en) itemP:=
 simT (sim_bnd sim_name (fun _=>sim_bnd sim_exp (fun _=>sim_bnd sim_name (fun _=>sim_bnd sim_exp (fun _=>sim_bnd (sim_ratio hL) (fun _=>sim_bnd (sim_opt (simT (sim_num hL))) (fun _=>sim_bnd sim_exp (fun _=>sim_rt) fun _=>stay_rt)
  fun _=>stay_sb stay_exp fun _=>stay_rt) fun _=>stay_sb stay_opt fun _=>stay_sb stay_exp fun _=>stay_rt) fun _=>stay_sb stay_ratio fun _=>stay_sb stay_opt fun _=>stay_sb stay_exp fun _=>stay_rt)
  fun _=>stay_sb stay_exp fun _=>stay_sb stay_ratio fun _=>stay_sb stay_opt fun _=>stay_sb stay_exp fun _=>stay_rt) fun _=>stay_sb stay_name fun _=>stay_sb stay_exp fun _=>stay_sb stay_ratio fun _=>stay_sb stay_opt fun _=>stay_sb stay_exp fun _=>stay_rt)
  fun _=>stay_sb stay_exp fun _=>stay_sb stay_name fun _=>stay_sb stay_exp fun _=>stay_sb stay_ratio fun _=>stay_sb stay_opt fun _=>stay_sb stay_exp fun _=>stay_rt)
theorem stay_plant:Stay (rplant L en):=stay_sb stay_exp fun _=>stay_sb stay_name fun _=>stay_sb stay_exp fun _=>stay_rt
theorem sim_plant:SimT L en 1 (B wPlant) (rplant L en) plantP:=simT (sim_bnd sim_name (fun _=>sim_bnd sim_exp (fun _=>sim_rt) fun _=>stay_rt) fun _=>stay_sb stay_exp fun _=>stay_rt)
structure SS (L:List Tok) (en:Int) (m:M α) (p:P α):Prop where
 sim:Sim L en m p
 stay:Stay m
theorem ss_bnd {m:M α} {p:P α} {f:α→M β} {q:α→P β} (h1:SS L en m p) (h2:∀a,SS L en (f a) (q a)):SS L en (sb m f) (bnd p q):=⟨sim_bnd h1.sim (fun a=>(h2 a).sim) fun a=>(h2 a).stay,stay_sb h1.stay fun a=>(h2 a).stay⟩
theorem ss_rt {a:α}:SS L en (rt a) (pur a):=⟨sim_rt,stay_rt⟩
theorem ss_exp {k:Int} {t:ByteArray}:SS L en (rexp L en k t) (skip k t):=⟨sim_exp,stay_exp⟩
theorem ss_name:SS L en (rname L en) nameP:=⟨sim_name,stay_name⟩
theorem ss_num (hL:NumP L):SS L en (rnum L en) numP:=⟨sim_num hL,stay_num⟩
theorem ss_ratio (hL:NumP L):SS L en (rratio L en) fracP:=⟨sim_ratio hL,stay_ratio⟩
theorem ss_opt {k:Int} {t:ByteArray} {a:α} {m:M α} {p:P α} (h:SS L en m p):SS L en (ropt L k t a (sb (rexp L en k t) fun _=>m)) (optP k t a p):=⟨sim_opt (simT h.sim),stay_opt⟩
theorem ss_T {k:Int} {t:ByteArray} {m:M α} {p:P α} (h:SS L en m p):SimT L en k t (sb (rexp L en k t) fun _=>m) p∧Stay (sb (rexp L en k t) fun _=>m):=⟨simT h.sim,stay_sb stay_exp fun _=>h.stay⟩
theorem ss_mach (hL:NumP L):SimT L en 1 (B wMachine) (rmach L en) machP∧Stay (rmach L en):=ss_T (ss_bnd ss_name fun _=>ss_bnd ss_exp fun _=>ss_bnd ss_name fun _=>ss_bnd ss_exp fun _=>ss_bnd (ss_num hL) fun _=>ss_bnd ss_exp fun _=>ss_rt)
theorem ss_chs:SS L en (rchs L en) (sepP nameP 4):=⟨sim_sep sim_name stay_name name_g.g,stay_sb stay_name fun _=>stay_many _ _⟩
theorem ss_optn:SimT L en 1 (B wOption) (roptn L en) optnP∧Stay (roptn L en):=ss_T (ss_bnd ss_name fun _=>ss_bnd ss_exp fun _=>ss_bnd ss_chs fun _=>ss_bnd ss_exp fun _=>ss_bnd ss_exp fun _=>ss_rt)
theorem ss_cond:SS L en (rcond L en) condP:=ss_bnd ss_name fun _=>ss_bnd ss_exp fun _=>ss_bnd ss_name fun _=>ss_rt
theorem ss_conds:SS L en (rconds L en) (sepP condP 6):=⟨sim_sep ss_cond.sim ss_cond.stay cond_g.g,stay_sb ss_cond.stay fun _=>stay_many _ _⟩
theorem ss_forb:SimT L en 1 (B wForbid) (rforb L en) forbP∧Stay (rforb L en):=ss_T (ss_bnd ss_conds fun _=>ss_bnd ss_exp fun _=>ss_rt)
theorem ss_amount (hL:NumP L):SS L en (ramount L en) outP:=ss_bnd (ss_ratio hL) fun _=>ss_bnd ss_name fun _=>ss_bnd ss_name fun _=>ss_bnd ss_exp fun _=>ss_rt
theorem ss_inp (hL:NumP L):SimT L en 1 (B wIn) (rinp L en) inP∧Stay (rinp L en):=ss_T (ss_bnd (ss_opt ss_rt) fun _=>ss_bnd (ss_amount hL) fun _=>ss_rt)
theorem ss_run (hL:NumP L):SimT L en 1 (B wRun) (rrun L en) runP∧Stay (rrun L en):=ss_T (ss_bnd ss_name fun _=>ss_bnd (ss_num hL) fun _=>ss_bnd ss_exp fun _=>ss_rt)
theorem ss_many {k:Int} {t:ByteArray} {most:Nat} {m:M α} {p:P α} (h:SimT L en k t m p∧Stay m) (hg:Good p):SS L en (rmany L en k t most m (L.length+1) []) (manyP k t p most):=⟨sim_many0 h.1 h.2 hg,stay_many _ _⟩
theorem ss_rec (hL:NumP L):SimT L en 1 (B wMake) (rrec L en) recP∧Stay (rrec L en):=ss_T (ss_bnd ss_name fun _=>ss_bnd ss_exp fun _=>ss_bnd ss_name fun _=>ss_bnd ss_exp fun _=>ss_bnd (ss_num hL) fun _=>ss_bnd ss_exp fun _=>ss_bnd (ss_num hL) fun _=>
 ss_bnd (ss_opt ss_conds) fun _=>ss_bnd ss_exp fun _=>ss_bnd (ss_many (ss_inp hL) in_g.g) fun _=>ss_bnd (ss_many (ss_T (ss_amount hL)) out_g.g) fun _=>
 ss_bnd ss_exp fun _=>ss_bnd (ss_ratio hL) fun _=>ss_bnd ss_exp fun _=>ss_bnd ss_exp fun _=>ss_bnd (ss_ratio hL) fun _=>ss_bnd ss_exp fun _=>ss_bnd (ss_ratio hL) fun _=>
 ss_bnd ss_exp fun _=>ss_bnd ss_exp fun _=>ss_bnd (ss_num hL) fun _=>ss_bnd ss_exp fun _=>ss_bnd (ss_many (ss_run hL) run_g.g) fun _=>ss_bnd ss_exp fun _=>ss_rt)
theorem ss_swap:SimT L en 1 (B wSwap) (rswap L en) swapP∧Stay (rswap L en):=ss_T (ss_bnd ss_name fun _=>ss_bnd ss_exp fun _=>ss_bnd ss_name fun _=>ss_bnd ss_exp fun _=>ss_rt)
theorem sim_br {w:List UInt8} {n most:Nat} {m q:M α} {p q':P α} (h:SimT L en 1 (B w) m p) (hs:Stay m) (hq:∀s r,At L s r→isT 1 (B w) r=false→match q' r with
  | .ok a r'=>(q s).1=a∧At L (q s).2 r'
  | .bad r' e=>Bad en (q s).2 r' e):Sim L en (rbr L en w n most m q) (brP (B w) n most p q'):=fun s r hA=>by
 unfold rbr brP
 rw [next_eq hA]
 cases hi:isT 1 (B w) r with
 |false=>exact hq s r hA hi
 |true=>
  simp only [if_true]
  obtain ⟨x,r,rfl⟩:=isT_cons hi
  by_cases hn:most≤n
  ·rw [if_pos hn]
   have hb:=bad_of (en:=en) hA (e:=2) (by decide)
   have e1:(rroom L en n most s).2=(rfail L en ((2:Nat):Int) s).2:=by
    unfold rroom
    rw [if_pos hn];rfl
   show Bad en (m (rroom L en n most s).2).2 _ 2
   rw [e1,hs _ hb.nz]
   exact hb
  rw [if_neg hn]
  have e1:(rroom L en n most s).2=s:=by
   unfold rroom
   rw [if_neg hn]
  show match p r with
   | .ok a r'=>(m (rroom L en n most s).2).1=a∧At L (m (rroom L en n most s).2).2 r'
   | .bad r' e=>Bad en (m (rroom L en n most s).2).2 r' e
  rw [e1]
  exact h s x r hA hi
theorem simT_end {k:Int} {t:ByteArray} {m:M α} {p:P α} {f:α→β} (h:SimT L en k t m p∧Stay m):SimT L en k t (sb m fun x=>rt (f x)) (bnd p fun x=>pur (f x))∧Stay (sb m fun x=>rt (f x)):=⟨simT_bnd h.1 (fun _=>sim_rt) fun _=>stay_rt,stay_sb h.2 fun _=>stay_rt⟩
theorem sim_def (hL:NumP L) (s:SrcV):Sim L en (rdef L en s) (defP s):=by
 have u:=simT_end (f:=fun x=>{s with units:=s.units++[x]}) (And.intro (sim_unit (en:=en) hL) stay_unit)
 have i:=simT_end (f:=fun x=>{s with items:=s.items++[x]}) (And.intro (sim_item (en:=en) hL) stay_item)
 have p:=simT_end (f:=fun x=>{s with plants:=s.plants++[x]}) (And.intro (sim_plant (L:=L) (en:=en)) stay_plant)
 have m:=simT_end (f:=fun x=>{s with machines:=s.machines++[x]}) (ss_mach (en:=en) hL)
 have o:=simT_end (f:=fun x=>{s with options:=s.options++[x]}) (ss_optn (L:=L) (en:=en))
 have f:=simT_end (f:=fun x=>{s with forbids:=s.forbids++[x]}) (ss_forb (L:=L) (en:=en))
 have r:=simT_end (f:=fun x=>{s with recipes:=s.recipes++[x]}) (ss_rec (en:=en) hL)
 have w:=simT_end (f:=fun x=>{s with swaps:=s.swaps++[x]}) (ss_swap (L:=L) (en:=en))
 refine sim_br u.1 u.2 fun _ _ hA _=>sim_br i.1 i.2 (fun _ _ hA _=>sim_br p.1 p.2 (fun _ _ hA _=>sim_br m.1 m.2 (fun _ _ hA _=>sim_br o.1 o.2 (fun _ _ hA _=>sim_br f.1 f.2 (fun _ _ hA _=>sim_br r.1 r.2 (fun _ _ hA _=>sim_br w.1 w.2 (fun t r hA hi=>?_) _ _ hA) _ _ hA) _ _ hA) _ _ hA) _ _ hA) _ _ hA) _ _ hA
 have hb:=bad_of (en:=en) hA (e:=100) (by decide)
 have e1:(rexp L en 1 (B wSwap) t).2=(rfail L en ((100:Nat):Int) t).2:=by
  unfold rexp
  rw [next_eq hA,hi];rfl
 have e2:(sb (rswap L en) (fun x=>rt {s with swaps:=s.swaps++[x]}) t).2=(rexp L en 1 (B wSwap) t).2:=by
  have st:Stay (fun q=>(sb (sb (rname L en) fun a=>sb (rwd L en wFor) fun _=>sb (rname L en) fun b=>sb (rsg L en 59) fun _=>rt (⟨a,b,0,0⟩:Sw)) fun x=>rt {s with swaps:=s.swaps++[x]}) q):=stay_sb (stay_sb stay_name fun _=>stay_sb stay_exp fun _=>stay_sb stay_name fun _=>stay_sb stay_exp fun _=>stay_rt) fun _=>stay_rt
  exact st _ (by rw [e1];exact hb.nz)
 show Bad en _ r 100
 rw [e2,e1]
 exact hb
theorem stay_defs:∀(n:Nat) (s:SrcV),Stay (rdefs L en n s)
 |0,_=>stay_rt
 |n+1,s=>fun t h=>by
  simp only [rdefs]
  rw [if_neg fun x=>h x.1]
theorem sim_defs (hL:NumP L):∀(n:Nat) (s:SrcV),Sim L en (rdefs L en n s) (defsP n s)
 |0,s=>sim_rt
 |n+1,s=>fun t r hA=>by
  simp only [rdefs,defsP]
  have hlen:r.length=L.length - t.n:=by rw [←hA.r,List.length_drop]
  by_cases h0:r=[]
  ·have:¬(t.e=0∧t.n<L.length):=fun h=>by rw [h0] at hlen;simp at hlen;omega
   rw [if_pos h0,if_neg this]
   exact ⟨rfl,by rw [←h0];exact hA⟩
  have:t.e=0∧t.n<L.length:=⟨hA.e,by have:=List.length_pos_iff.2 h0;omega⟩
  rw [if_neg h0,if_pos this]
  exact sim_bnd (sim_def hL s) (fun u=>sim_defs hL n u) (fun u=>stay_defs n u) t r hA
theorem sim_ok (hL:NumP L) {x:SrcV} {r:List Tok} (h:readP L=.ok x r):(rdefs L en (L.length+1) noS ⟨0,0,0⟩).1=x∧(rdefs L en (L.length+1) noS ⟨0,0,0⟩).2.e=0:=by
 have:=sim_defs (en:=en) hL (L.length+1) noS ⟨0,0,0⟩ L ⟨rfl,List.drop_zero⟩
 rw [show defsP (L.length+1) noS L=.ok x r from h] at this
 exact ⟨this.1,this.2.e⟩
theorem sim_bad (hL:NumP L) {r:List Tok} {e:Nat} (h:readP L=.bad r e):Bad en (rdefs L en (L.length+1) noS ⟨0,0,0⟩).2 r e:=by
 have:=sim_defs (en:=en) hL (L.length+1) noS ⟨0,0,0⟩ L ⟨rfl,List.drop_zero⟩
 rw [show defsP (L.length+1) noS L=.bad r e from h] at this
 exact this
end
end Go.SynM

namespace Go.Proofs.YtgbeechjghajcaaGreatDoor
open Go Go.Fw Go.SynM Go.SrcM
abbrev NmP (x:ByteArray):Prop:=NameP x
theorem nm_e0:¬NmP e0:=by unfold NmP;decide
theorem okT_of {t:Tok} (h:ValidP t):OkT NmP t where
 nm hk:=by
  rcases h with h|h|h
  ·exact h.2.1
  ·rw [h.1] at hk;cases hk
  rw [h.1] at hk;cases hk
 num hk:=by
  rcases h with h|h|h
  ·rw [h.1] at hk;cases hk
  ·exact h.2.2.1
  rw [h.1] at hk;cases hk
theorem allV_num {l:List Tok} (h:AllV l):NumP l:=fun t ht=>(okT_of (h t ht)).num
theorem valid_of {t:Tok} (h:VT NmP (fun c=>cls c.toNat=4) t):ValidP t:=by
 rcases h.or with ⟨x,rfl,g⟩|⟨c,rfl,g⟩|⟨n,rfl,g⟩
 ·exact .inl ⟨rfl,g,rfl⟩
 ·exact .inr (.inr ⟨rfl,rfl,g,rfl⟩)
 exact .inr (.inl ⟨rfl,rfl,g.1,Int.le_trans g.2 (by decide)⟩)
theorem voc_ok:Voc NmP (fun c=>cls c.toNat=4):=⟨by decide,by decide⟩
theorem vocN:VocN NmP:=⟨by decide,by decide⟩
theorem src_valid {s:SrcV} (h:s.good NmP):AllV (srcT s):=fun t ht=>valid_of (srcT_valid voc_ok h t ht)
def parseP (src:ByteArray):SrcV ⊕ (Int×Int):=match lexS (bs src) 0 with
 | .inr q=>.inr (q,50)
 | .inl l=>match readP (toksP l) with
  | .ok x _=>.inl x
  | .bad r e=>.inr ((place src.size e r).1,(place src.size e r).2)

/-! one source behind another -/
end Go.Proofs.YtgbeechjghajcaaGreatDoor

namespace Go.SrcM
open Go Go.Fw Go.RatM
noncomputable def eqB {α:Type} (a b:α):Bool:=@decide (a=b) (Classical.propDecidable _)
theorem eqB_yes {α:Type} {a b:α} (h:a=b):eqB a b=true:=@decide_eq_true _ (Classical.propDecidable _) h
theorem eqB_no {α:Type} {a b:α} (h:¬a=b):eqB a b=false:=@decide_eq_false _ (Classical.propDecidable _) h
theorem at_eq {α:Type} {a b:List α} (h:a=b) {k:Nat} (ha:k<a.length) (hb:k<b.length):a[k]=b[k]:=by subst h;rfl
theorem all_at {α:Type} {a b:List α} (h:a.length=b.length) (H:∀j (ha:j<a.length) (hb:j<b.length),a[j]=b[j]):a=b:=List.ext_getElem h H
theorem more_at {α:Type} {a b:List α} {k:Nat} (ha:k<a.length) (hb:k<b.length) (H:∀j (_:j<k) (ha:j<a.length) (hb:j<b.length),a[j]=b[j]) (h:a[k]=b[k]):∀j (_:j<k+1) (ha:j<a.length) (hb:j<b.length),a[j]=b[j]:=
 fun j hj h1 h2=>(Nat.lt_succ_iff_lt_or_eq.1 hj).elim (fun hj=>H j hj h1 h2) (fun e=>by subst e;exact h)
theorem Cd.ext_iff' {a b:Cd}:a=b↔a.opt=b.opt∧a.ch=b.ch∧a.on=b.on∧a.cn=b.cn:=by
 obtain ⟨_,_,_,_⟩:=a;obtain ⟨_,_,_,_⟩:=b;simp
theorem Am.ext_iff' {a b:Am}:a=b↔a.n=b.n∧a.d=b.d∧a.unit=b.unit∧a.item=b.item∧a.back=b.back∧a.un=b.un∧a.inn=b.inn:=by
 obtain ⟨_,_,_,_,_,_,_⟩:=a;obtain ⟨_,_,_,_,_,_,_⟩:=b;simp
theorem Rn.ext_iff' {a b:Rn}:a=b↔a.mach=b.mach∧a.slots=b.slots∧a.mn=b.mn:=by
 obtain ⟨_,_,_⟩:=a;obtain ⟨_,_,_⟩:=b;simp
theorem It.ext_iff' {a b:It}:a=b↔a.name=b.name∧a.unit=b.unit∧a.mn=b.mn∧a.md=b.md∧a.shelf=b.shelf∧a.un=b.un:=by
 obtain ⟨_,_,_,_,_,_⟩:=a;obtain ⟨_,_,_,_,_,_⟩:=b;simp
theorem Mc.ext_iff' {a b:Mc}:a=b↔a.name=b.name∧a.plant=b.plant∧a.clean=b.clean∧a.pn=b.pn:=by
 obtain ⟨_,_,_,_⟩:=a;obtain ⟨_,_,_,_⟩:=b;simp
theorem Sw.ext_iff' {a b:Sw}:a=b↔a.a=b.a∧a.b=b.b∧a.an=b.an∧a.bn=b.bn:=by
 obtain ⟨_,_,_,_⟩:=a;obtain ⟨_,_,_,_⟩:=b;simp
theorem RcV.bare_iff {a b:RcV}:a.bare=b.bare↔a.item=b.item∧a.plant=b.plant∧a.fr=b.fr∧a.to=b.to∧a.cs=b.cs∧a.inn=b.inn∧a.out=b.out∧a.rwN=b.rwN∧a.rwD=b.rwD∧a.yN=b.yN∧a.yD=b.yD∧a.tN=b.tN∧a.tD=b.tD∧a.lead=b.lead∧a.runs=b.runs∧a.inum=b.inum∧a.pnum=b.pnum:=by
 obtain ⟨_,_,_,_,_,_,_,_,_,_,_,_,_,_,_,_,_,_,_,_,_⟩:=a;obtain ⟨_,_,_,_,_,_,_,_,_,_,_,_,_,_,_,_,_,_,_,_,_⟩:=b;simp [RcV.bare]
abbrev Two (va vb:Value) (sz:Nat) (ra rb:List (List Value)) (F:Nat→Prop) (h:Array Obj):Prop:=RoF F h va sz ra∧RoF F h vb sz rb
theorem Two.tok (va vb:Value) (sz:Nat) (ra rb:List (List Value)):TOk (Two va vb sz ra rb):=
 ⟨fun _ _ _ hs H=>⟨RoF.up ⟨hs,fun _ _=>rfl⟩ H.1,RoF.up ⟨hs,fun _ _=>rfl⟩ H.2⟩,fun _ _ _ H K=>⟨RoF.up ⟨fun _ x=>x,K.same⟩ H.1,RoF.up ⟨fun _ x=>x,K.same⟩ H.2⟩⟩
abbrev TwoR (a b:RcV) (F:Nat→Prop) (h:Array Obj):Prop:=a.ok F h∧b.ok F h
theorem TwoR.tok (a b:RcV):TOk (TwoR a b):=
 ⟨fun _ _ _ hs H=>⟨H.1.up ⟨hs,fun _ _=>rfl⟩,H.2.up ⟨hs,fun _ _=>rfl⟩⟩,fun _ _ _ H K=>⟨H.1.up ⟨fun _ x=>x,K.same⟩,H.2.up ⟨fun _ x=>x,K.same⟩⟩⟩
end Go.SrcM
namespace Go.Proofs.YtgbeechjghajcaaGreatDoor
open Go Go.Fw Go.NatM Go.RatM Go.SrcM
set_option maxRecDepth 100000
set_option maxHeartbeats 99999999
theorem sNames_fn (va vb:Value) (a b:List ByteArray):FnT Tryz.prog (Two va vb 1 (rwsB a) (rwsB b)) 27 0 [.v va,.v vb] [] (fun _:Unit=>True) (fun _=>.ret (.v (.bool (eqB a b))) 0 []):=by
 have hla:(rwsB a).length=a.length:=rws_len _ _
 have hlb:(rwsB b).length=b.length:=rws_len _ _
 obtain ⟨r,hr⟩:∃r,r=eqB a b:=⟨_,rfl⟩
 rw [←hr]
 refine FnT.of Tryz.func27 (by kernel_rfl) rfl Tryz.ntmps27 rfl fun E0 F h hT w0 cs=>?_
 have mA:=hT.1.len
 obtain ⟨aa,ca,rfl⟩:=RoF.sli hT.1 hla
 obtain ⟨ab,cb,rfl⟩:=RoF.sli hT.2 hlb
 conv=>whnf
 (try refine gS ?_);conv=>whnf
 repeat ((first|refine oL ?_|refine oR ?_);(try intro _);conv=>whnf)
 refine ⟨fun hs=>?_,fun hs=>?_⟩<;>conv=>whnf
 rotate_left
 ·conv=>whnf
  repeat ((first|refine oL ?_|refine oR ?_);(try intro _);conv=>whnf)
  have:r=false:=by rw [hr];exact eqB_no (fun e=>hs (by rw [e]))
  rw [this]
  try refine RunsS.retU ?_
  try refine RunsS.finU ?_
  exact UnwS.ret tab Tryz.func27 rfl (eN () trivial)
 conv=>whnf
 repeat ((first|refine oL ?_|refine oR ?_);(try intro _);conv=>whnf)
 have hn:a.length=b.length:=by omega
 refine RunsS.nameAt (fun _ x=>x) 0 (by exact hT.1) ?_
 conv=>whnf
 (try refine gS ?_);conv=>whnf
 repeat ((first|refine oL ?_|refine oR ?_);(try intro _);conv=>whnf)
 refine RunsS.nameAt (fun _ x=>x) 1 (by exact hT.2) ?_
 conv=>whnf
 (try refine gS ?_);conv=>whnf
 repeat ((first|refine oL ?_|refine oR ?_);(try intro _);conv=>whnf)
 refine RunsS.subR [] (RunsS.loop (fun (k:Nat)=>[(5,.v (.int .i64 k)),(0,.buf 0),(1,.buf 1)]) (fun (k:Nat)=>[(0,.ro 1 (rwsB a)),(1,.ro 1 (rwsB b))]) 2 (fun (k:Nat)=>k≤a.length ∧ ∀j (_:j<k) (ha:j<a.length) (hb:j<b.length),a[j]=b[j]) (fun (k:Nat)=>a.length - k) ?round1 (0) ?J01) sH sH
 case J01=>exact (⟨Nat.zero_le _,fun j hj=>absurd hj (Nat.not_lt_zero _)⟩)
 rintro k hJ back
 try dsimp only at hJ back
 conv=>whnf
 try dsimp only
 refine gS ?_;conv=>whnf
 repeat ((first|refine oL ?_|refine oR ?_);(try intro _);conv=>whnf)
 refine ⟨fun hk=>?_,fun hk=>?_⟩<;>conv=>whnf
 ·have hk:k<a.length:=by omega
  have hk2:k<b.length:=by omega
  conv=>whnf
  repeat ((first|refine oL ?_|refine oR ?_);(try intro _);conv=>whnf)
  refine RunsS.held tab (.fl 0 (.fl 1 (.fl 2 (.fl 3 (.fl 4 (.fl 5 (.fl 6 (.fl 7 (.fl 8 .done))))))))) (by kernel_rfl) ?_;conv=>whnf
  (try refine gR ?_);conv=>whnf
  repeat ((first|refine oL ?_|refine oR ?_|refine oB ?_);(try intro _);conv=>whnf)
  (try refine gS ?_);conv=>whnf
  repeat ((first|refine oL ?_|refine oR ?_);(try intro _);conv=>whnf)
  refine ⟨_,rws_get hk,?_⟩;conv=>whnf
  try (refine oN ?_;conv=>whnf)
  (try refine gR ?_);conv=>whnf
  repeat ((first|refine oL ?_|refine oR ?_|refine oB ?_);(try intro _);conv=>whnf)
  (try refine gS ?_);conv=>whnf
  repeat ((first|refine oL ?_|refine oR ?_);(try intro _);conv=>whnf)
  refine ⟨_,rws_get hk2,?_⟩;conv=>whnf
  try (refine oN ?_;conv=>whnf)
  (try refine gR ?_);conv=>whnf
  repeat ((first|refine oL ?_|refine oR ?_|refine oB ?_);(try intro _);conv=>whnf)
  (try refine gS ?_);conv=>whnf
  repeat ((first|refine oL ?_|refine oR ?_);(try intro _);conv=>whnf)
  refine ⟨fun hs=>?_,fun hs=>?_⟩<;>conv=>whnf
  ·try refine gR ?_
   conv=>whnf
   repeat ((first|refine oL ?_|refine oR ?_|refine oB ?_);(try intro _);conv=>whnf)
   (try refine gS ?_);conv=>whnf
   repeat ((first|refine oL ?_|refine oR ?_);(try intro _);conv=>whnf)
   refine RunsS.subR [] (back (k+1) (by exact (⟨hk,more_at hk hk2 hJ.2 (hs)⟩)) (by (try dsimp only);omega)) sH sH
  (try refine gR ?_);conv=>whnf
  repeat ((first|refine oL ?_|refine oR ?_|refine oB ?_);(try intro _);conv=>whnf)
  (try refine gS ?_);conv=>whnf
  repeat ((first|refine oL ?_|refine oR ?_);(try intro _);conv=>whnf)
  have:r=false:=by rw [hr];exact eqB_no (fun e=>(fun e=>hs e) (at_eq e hk hk2))
  rw [this]
  try refine RunsS.retU ?_
  try refine RunsS.finU ?_
  exact UnwS.ret tab Tryz.func27 rfl (eN () trivial)
 conv=>whnf
 repeat ((first|refine oL ?_|refine oR ?_);(try intro _);conv=>whnf)
 have:r=true:=by rw [hr];exact eqB_yes (all_at hn fun j h1 h2=>hJ.2 j (by omega) h1 h2)
 rw [this]
 try refine RunsS.retU ?_
 try refine RunsS.finU ?_
 exact UnwS.ret tab Tryz.func27 rfl (eN () trivial)
theorem sConds_fn (va vb:Value) (a b:List Cd):FnT Tryz.prog (Two va vb 4 (rws Cd.row a) (rws Cd.row b)) 28 0 [.v va,.v vb] [] (fun _:Unit=>True) (fun _=>.ret (.v (.bool (eqB a b))) 0 []):=by
 have hla:(rws Cd.row a).length=a.length:=rws_len _ _
 have hlb:(rws Cd.row b).length=b.length:=rws_len _ _
 obtain ⟨r,hr⟩:∃r,r=eqB a b:=⟨_,rfl⟩
 rw [←hr]
 refine FnT.of Tryz.func28 (by kernel_rfl) rfl Tryz.ntmps28 rfl fun E0 F h hT w0 cs=>?_
 have mA:=hT.1.len
 obtain ⟨aa,ca,rfl⟩:=RoF.sli hT.1 hla
 obtain ⟨ab,cb,rfl⟩:=RoF.sli hT.2 hlb
 conv=>whnf
 (try refine gS ?_);conv=>whnf
 repeat ((first|refine oL ?_|refine oR ?_);(try intro _);conv=>whnf)
 refine ⟨fun hs=>?_,fun hs=>?_⟩<;>conv=>whnf
 rotate_left
 ·conv=>whnf
  repeat ((first|refine oL ?_|refine oR ?_);(try intro _);conv=>whnf)
  have:r=false:=by rw [hr];exact eqB_no (fun e=>hs (by rw [e]))
  rw [this]
  try refine RunsS.retU ?_
  try refine RunsS.finU ?_
  exact UnwS.ret tab Tryz.func28 rfl (eN () trivial)
 conv=>whnf
 repeat ((first|refine oL ?_|refine oR ?_);(try intro _);conv=>whnf)
 have hn:a.length=b.length:=by omega
 refine RunsS.nameAt (fun _ x=>x) 0 (by exact hT.1) ?_
 conv=>whnf
 (try refine gS ?_);conv=>whnf
 repeat ((first|refine oL ?_|refine oR ?_);(try intro _);conv=>whnf)
 refine RunsS.nameAt (fun _ x=>x) 1 (by exact hT.2) ?_
 conv=>whnf
 (try refine gS ?_);conv=>whnf
 repeat ((first|refine oL ?_|refine oR ?_);(try intro _);conv=>whnf)
 refine RunsS.subR [] (RunsS.loop (fun (k:Nat)=>[(5,.v (.int .i64 k)),(0,.buf 0),(1,.buf 1)]) (fun (k:Nat)=>[(0,.ro 4 (rws Cd.row a)),(1,.ro 4 (rws Cd.row b))]) 2 (fun (k:Nat)=>k≤a.length ∧ ∀j (_:j<k) (ha:j<a.length) (hb:j<b.length),a[j]=b[j]) (fun (k:Nat)=>a.length - k) ?round3 (0) ?J03) sH sH
 case J03=>exact (⟨Nat.zero_le _,fun j hj=>absurd hj (Nat.not_lt_zero _)⟩)
 rintro k hJ back
 try dsimp only at hJ back
 conv=>whnf
 try dsimp only
 refine gS ?_;conv=>whnf
 repeat ((first|refine oL ?_|refine oR ?_);(try intro _);conv=>whnf)
 refine ⟨fun hk=>?_,fun hk=>?_⟩<;>conv=>whnf
 ·have hk:k<a.length:=by omega
  have hk2:k<b.length:=by omega
  conv=>whnf
  repeat ((first|refine oL ?_|refine oR ?_);(try intro _);conv=>whnf)
  refine RunsS.held tab (.fl 0 (.fl 1 (.fl 2 (.fl 3 (.fl 4 (.fl 5 (.fl 6 (.fl 7 (.fl 8 .done))))))))) (by kernel_rfl) ?_;conv=>whnf
  (try refine gR ?_);conv=>whnf
  repeat ((first|refine oL ?_|refine oR ?_|refine oB ?_);(try intro _);conv=>whnf)
  (try refine gS ?_);conv=>whnf
  repeat ((first|refine oL ?_|refine oR ?_);(try intro _);conv=>whnf)
  refine ⟨_,rws_get hk,?_⟩;conv=>whnf
  try (refine oN ?_;conv=>whnf)
  (try refine gR ?_);conv=>whnf
  repeat ((first|refine oL ?_|refine oR ?_|refine oB ?_);(try intro _);conv=>whnf)
  (try refine gS ?_);conv=>whnf
  repeat ((first|refine oL ?_|refine oR ?_);(try intro _);conv=>whnf)
  refine ⟨_,rws_get hk2,?_⟩;conv=>whnf
  try (refine oN ?_;conv=>whnf)
  (try refine gR ?_);conv=>whnf
  repeat ((first|refine oL ?_|refine oR ?_|refine oB ?_);(try intro _);conv=>whnf)
  (try refine gS ?_);conv=>whnf
  repeat ((first|refine oL ?_|refine oR ?_);(try intro _);conv=>whnf)
  refine ⟨fun hs=>?_,fun hs=>?_⟩<;>conv=>whnf
  ·try refine gR ?_
   conv=>whnf
   repeat ((first|refine oL ?_|refine oR ?_|refine oB ?_);(try intro _);conv=>whnf)
   (try refine gS ?_);conv=>whnf
   repeat ((first|refine oL ?_|refine oR ?_);(try intro _);conv=>whnf)
   refine RunsS.subR [] (back (k+1) (by exact (⟨hk,more_at hk hk2 hJ.2 (Cd.ext_iff'.2 hs)⟩)) (by (try dsimp only);omega)) sH sH
  (try refine gR ?_);conv=>whnf
  repeat ((first|refine oL ?_|refine oR ?_|refine oB ?_);(try intro _);conv=>whnf)
  (try refine gS ?_);conv=>whnf
  repeat ((first|refine oL ?_|refine oR ?_);(try intro _);conv=>whnf)
  have:r=false:=by rw [hr];exact eqB_no (fun e=>(fun e=>hs (Cd.ext_iff'.1 e)) (at_eq e hk hk2))
  rw [this]
  try refine RunsS.retU ?_
  try refine RunsS.finU ?_
  exact UnwS.ret tab Tryz.func28 rfl (eN () trivial)
 conv=>whnf
 repeat ((first|refine oL ?_|refine oR ?_);(try intro _);conv=>whnf)
 have:r=true:=by rw [hr];exact eqB_yes (all_at hn fun j h1 h2=>hJ.2 j (by omega) h1 h2)
 rw [this]
 try refine RunsS.retU ?_
 try refine RunsS.finU ?_
 exact UnwS.ret tab Tryz.func28 rfl (eN () trivial)
theorem sAms_fn (va vb:Value) (a b:List Am):FnT Tryz.prog (Two va vb 7 (rws Am.row a) (rws Am.row b)) 90 0 [.v va,.v vb] [] (fun _:Unit=>True) (fun _=>.ret (.v (.bool (eqB a b))) 0 []):=by
 have hla:(rws Am.row a).length=a.length:=rws_len _ _
 have hlb:(rws Am.row b).length=b.length:=rws_len _ _
 obtain ⟨r,hr⟩:∃r,r=eqB a b:=⟨_,rfl⟩
 rw [←hr]
 refine FnT.of Tryz.func90 (by kernel_rfl) rfl Tryz.ntmps90 rfl fun E0 F h hT w0 cs=>?_
 have mA:=hT.1.len
 obtain ⟨aa,ca,rfl⟩:=RoF.sli hT.1 hla
 obtain ⟨ab,cb,rfl⟩:=RoF.sli hT.2 hlb
 conv=>whnf
 (try refine gS ?_);conv=>whnf
 repeat ((first|refine oL ?_|refine oR ?_);(try intro _);conv=>whnf)
 refine ⟨fun hs=>?_,fun hs=>?_⟩<;>conv=>whnf
 rotate_left
 ·conv=>whnf
  repeat ((first|refine oL ?_|refine oR ?_);(try intro _);conv=>whnf)
  have:r=false:=by rw [hr];exact eqB_no (fun e=>hs (by rw [e]))
  rw [this]
  try refine RunsS.retU ?_
  try refine RunsS.finU ?_
  exact UnwS.ret tab Tryz.func90 rfl (eN () trivial)
 conv=>whnf
 repeat ((first|refine oL ?_|refine oR ?_);(try intro _);conv=>whnf)
 have hn:a.length=b.length:=by omega
 refine RunsS.nameAt (fun _ x=>x) 0 (by exact hT.1) ?_
 conv=>whnf
 (try refine gS ?_);conv=>whnf
 repeat ((first|refine oL ?_|refine oR ?_);(try intro _);conv=>whnf)
 refine RunsS.nameAt (fun _ x=>x) 1 (by exact hT.2) ?_
 conv=>whnf
 (try refine gS ?_);conv=>whnf
 repeat ((first|refine oL ?_|refine oR ?_);(try intro _);conv=>whnf)
 refine RunsS.subR [] (RunsS.loop (fun (k:Nat)=>[(5,.v (.int .i64 k)),(0,.buf 0),(1,.buf 1)]) (fun (k:Nat)=>[(0,.ro 7 (rws Am.row a)),(1,.ro 7 (rws Am.row b))]) 2 (fun (k:Nat)=>k≤a.length ∧ ∀j (_:j<k) (ha:j<a.length) (hb:j<b.length),a[j]=b[j]) (fun (k:Nat)=>a.length - k) ?round5 (0) ?J05) sH sH
 case J05=>exact (⟨Nat.zero_le _,fun j hj=>absurd hj (Nat.not_lt_zero _)⟩)
 rintro k hJ back
 try dsimp only at hJ back
 conv=>whnf
 try dsimp only
 refine gS ?_;conv=>whnf
 repeat ((first|refine oL ?_|refine oR ?_);(try intro _);conv=>whnf)
 refine ⟨fun hk=>?_,fun hk=>?_⟩<;>conv=>whnf
 ·have hk:k<a.length:=by omega
  have hk2:k<b.length:=by omega
  conv=>whnf
  repeat ((first|refine oL ?_|refine oR ?_);(try intro _);conv=>whnf)
  refine RunsS.held tab (.fl 0 (.fl 1 (.fl 2 (.fl 3 (.fl 4 (.fl 5 (.fl 6 (.fl 7 (.fl 8 .done))))))))) (by kernel_rfl) ?_;conv=>whnf
  (try refine gR ?_);conv=>whnf
  repeat ((first|refine oL ?_|refine oR ?_|refine oB ?_);(try intro _);conv=>whnf)
  (try refine gS ?_);conv=>whnf
  repeat ((first|refine oL ?_|refine oR ?_);(try intro _);conv=>whnf)
  refine ⟨_,rws_get hk,?_⟩;conv=>whnf
  try (refine oN ?_;conv=>whnf)
  (try refine gR ?_);conv=>whnf
  repeat ((first|refine oL ?_|refine oR ?_|refine oB ?_);(try intro _);conv=>whnf)
  (try refine gS ?_);conv=>whnf
  repeat ((first|refine oL ?_|refine oR ?_);(try intro _);conv=>whnf)
  refine ⟨_,rws_get hk2,?_⟩;conv=>whnf
  try (refine oN ?_;conv=>whnf)
  (try refine gR ?_);conv=>whnf
  repeat ((first|refine oL ?_|refine oR ?_|refine oB ?_);(try intro _);conv=>whnf)
  (try refine gS ?_);conv=>whnf
  repeat ((first|refine oL ?_|refine oR ?_);(try intro _);conv=>whnf)
  refine ⟨fun hs=>?_,fun hs=>?_⟩<;>conv=>whnf
  ·try refine gR ?_
   conv=>whnf
   repeat ((first|refine oL ?_|refine oR ?_|refine oB ?_);(try intro _);conv=>whnf)
   (try refine gS ?_);conv=>whnf
   repeat ((first|refine oL ?_|refine oR ?_);(try intro _);conv=>whnf)
   refine RunsS.subR [] (back (k+1) (by exact (⟨hk,more_at hk hk2 hJ.2 (Am.ext_iff'.2 hs)⟩)) (by (try dsimp only);omega)) sH sH
  (try refine gR ?_);conv=>whnf
  repeat ((first|refine oL ?_|refine oR ?_|refine oB ?_);(try intro _);conv=>whnf)
  (try refine gS ?_);conv=>whnf
  repeat ((first|refine oL ?_|refine oR ?_);(try intro _);conv=>whnf)
  have:r=false:=by rw [hr];exact eqB_no (fun e=>(fun e=>hs (Am.ext_iff'.1 e)) (at_eq e hk hk2))
  rw [this]
  try refine RunsS.retU ?_
  try refine RunsS.finU ?_
  exact UnwS.ret tab Tryz.func90 rfl (eN () trivial)
 conv=>whnf
 repeat ((first|refine oL ?_|refine oR ?_);(try intro _);conv=>whnf)
 have:r=true:=by rw [hr];exact eqB_yes (all_at hn fun j h1 h2=>hJ.2 j (by omega) h1 h2)
 rw [this]
 try refine RunsS.retU ?_
 try refine RunsS.finU ?_
 exact UnwS.ret tab Tryz.func90 rfl (eN () trivial)
end Go.Proofs.YtgbeechjghajcaaGreatDoor

namespace Go.Proofs.YtgbeechjghajcaaGreatDoor
open Go Go.Fw Go.NatM Go.RatM Go.SrcM
set_option maxRecDepth 100000
set_option maxHeartbeats 99999999
theorem sRc_fn (a b:RcV):FnT Tryz.prog (TwoR a b) 29 0 [.agg (toV a.row),.agg (toV b.row)] [] (fun _:Unit=>True) (fun _=>.ret (.v (.bool (eqB a.bare b.bare))) 0 []):=by
 have hla:(rws Rn.row a.runs).length=a.runs.length:=rws_len _ _
 have hlb:(rws Rn.row b.runs).length=b.runs.length:=rws_len _ _
 obtain ⟨r,hr⟩:∃r,r=eqB a.bare b.bare:=⟨_,rfl⟩
 rw [←hr]
 have no:¬a.bare=b.bare→r=false:=fun h=>by rw [hr];exact eqB_no h
 refine FnT.of Tryz.func29 (by kernel_rfl) rfl Tryz.ntmps29 rfl fun E0 F h hT w0 cs=>?_
 conv=>whnf
 refine gS ?_;conv=>whnf
 repeat ((first|refine oL ?_|refine oR ?_);(try intro _);conv=>whnf)
 have mA:=hT.1.rn.len
 refine ⟨fun hs=>?_,fun hs=>?_⟩<;>conv=>whnf
 rotate_left
 ·conv=>whnf
  repeat ((first|refine oL ?_|refine oR ?_);(try intro _);conv=>whnf)
  rw [no fun e=>hs (by rw [(RcV.bare_iff.1 e).2.2.2.2.2.2.2.2.2.2.2.2.2.2.1])]
  try refine RunsS.retU ?_
  try refine RunsS.finU ?_
  exact UnwS.ret tab Tryz.func29 rfl (eN () trivial)
 conv=>whnf
 repeat ((first|refine oL ?_|refine oR ?_);(try intro _);conv=>whnf)
 have hn:a.runs.length=b.runs.length:=by omega
 refine RunsS.callT (Two.tok _ _ _ _ _) (⟨hT.1.c,hT.2.c⟩) (sConds_fn (a.hc.v a.cs.length) (b.hc.v b.cs.length) a.cs b.cs) [] sH ?CNa1 ?_
 case CNa1=>rfl
 rintro _ _
 by_cases n2:a.cs=b.cs
 rotate_left
 ·rw [eqB_no n2]
  conv=>whnf
  (try refine gS ?_);conv=>whnf
  repeat ((first|refine oL ?_|refine oR ?_);(try intro _);conv=>whnf)
  rw [no fun e=>n2 ((RcV.bare_iff.1 e).2.2.2.2.1)]
  try refine RunsS.retU ?_
  try refine RunsS.finU ?_
  exact UnwS.ret tab Tryz.func29 rfl (eN () trivial)
 rw [eqB_yes n2]
 conv=>whnf
 (try refine gS ?_);conv=>whnf
 repeat ((first|refine oL ?_|refine oR ?_);(try intro _);conv=>whnf)
 refine RunsS.callT (Two.tok _ _ _ _ _) (⟨hT.1.i,hT.2.i⟩) (sAms_fn (a.hi.v a.inn.length) (b.hi.v b.inn.length) a.inn b.inn) [] sH ?CNa2 ?_
 case CNa2=>rfl
 rintro _ _
 by_cases n3:a.inn=b.inn
 rotate_left
 ·rw [eqB_no n3]
  conv=>whnf
  (try refine gS ?_);conv=>whnf
  repeat ((first|refine oL ?_|refine oR ?_);(try intro _);conv=>whnf)
  rw [no fun e=>n3 ((RcV.bare_iff.1 e).2.2.2.2.2.1)]
  try refine RunsS.retU ?_
  try refine RunsS.finU ?_
  exact UnwS.ret tab Tryz.func29 rfl (eN () trivial)
 rw [eqB_yes n3]
 conv=>whnf
 (try refine gS ?_);conv=>whnf
 repeat ((first|refine oL ?_|refine oR ?_);(try intro _);conv=>whnf)
 refine RunsS.callT (Two.tok _ _ _ _ _) (⟨hT.1.o,hT.2.o⟩) (sAms_fn (a.ho.v a.out.length) (b.ho.v b.out.length) a.out b.out) [] sH ?CNa3 ?_
 case CNa3=>rfl
 rintro _ _
 by_cases n4:a.out=b.out
 rotate_left
 ·rw [eqB_no n4]
  conv=>whnf
  (try refine gS ?_);conv=>whnf
  repeat ((first|refine oL ?_|refine oR ?_);(try intro _);conv=>whnf)
  rw [no fun e=>n4 ((RcV.bare_iff.1 e).2.2.2.2.2.2.1)]
  try refine RunsS.retU ?_
  try refine RunsS.finU ?_
  exact UnwS.ret tab Tryz.func29 rfl (eN () trivial)
 rw [eqB_yes n4]
 conv=>whnf
 (try refine gS ?_);conv=>whnf
 repeat ((first|refine oL ?_|refine oR ?_);(try intro _);conv=>whnf)
 refine RunsS.nameCell (fun _ x=>x) 0 14 (by exact hT.1.rn) ?_
 conv=>whnf
 (try refine gS ?_);conv=>whnf
 repeat ((first|refine oL ?_|refine oR ?_);(try intro _);conv=>whnf)
 refine RunsS.nameCell (fun _ x=>x) 1 14 (by exact hT.2.rn) ?_
 conv=>whnf
 (try refine gS ?_);conv=>whnf
 repeat ((first|refine oL ?_|refine oR ?_);(try intro _);conv=>whnf)
 refine RunsS.subR [] (RunsS.loop (fun (k:Nat)=>[(5,.v (.int .i64 k)),(2,.ptr 0 0),(3,.ptr 1 0)]) (fun (k:Nat)=>[(0,.cells 61 [.v (.string a.item),.v (.string a.plant),.v (.int .i64 a.fr),.v (.int .i64 a.to),.v (a.hc.v a.cs.length),.v (a.hi.v a.inn.length),.v (a.ho.v a.out.length),.v (.int .i64 a.rwN),.v (.int .i64 a.rwD),.v (.int .i64 a.yN),.v (.int .i64 a.yD),.v (.int .i64 a.tN),.v (.int .i64 a.tD),.v (.int .i64 a.lead),.buf 2,.v (.int .i64 a.inum),.v (.int .i64 a.pnum)]),(1,.cells 61 [.v (.string b.item),.v (.string b.plant),.v (.int .i64 b.fr),.v (.int .i64 b.to),.v (b.hc.v b.cs.length),.v (b.hi.v b.inn.length),.v (b.ho.v b.out.length),.v (.int .i64 b.rwN),.v (.int .i64 b.rwD),.v (.int .i64 b.yN),.v (.int .i64 b.yD),.v (.int .i64 b.tN),.v (.int .i64 b.tD),.v (.int .i64 b.lead),.buf 3,.v (.int .i64 b.inum),.v (.int .i64 b.pnum)]),(2,.ro 3 (rws Rn.row a.runs)),(3,.ro 3 (rws Rn.row b.runs))]) 4 (fun (k:Nat)=>k≤a.runs.length ∧ ∀j (_:j<k) (ha:j<a.runs.length) (hb:j<b.runs.length),a.runs[j]=b.runs[j]) (fun (k:Nat)=>a.runs.length - k) ?round4 (0) ?J04) sH sH
 case J04=>exact (⟨Nat.zero_le _,fun j hj=>absurd hj (Nat.not_lt_zero _)⟩)
 rintro k hJ back
 try dsimp only at hJ back
 conv=>whnf
 try dsimp only
 refine gS ?_;conv=>whnf
 repeat ((first|refine oL ?_|refine oR ?_);(try intro _);conv=>whnf)
 refine ⟨fun hk=>?_,fun hk=>?_⟩<;>conv=>whnf
 ·have hk:k<a.runs.length:=by omega
  have hk2:k<b.runs.length:=by omega
  conv=>whnf
  repeat ((first|refine oL ?_|refine oR ?_);(try intro _);conv=>whnf)
  refine RunsS.held tab (.fl 0 (.fl 1 (.fl 2 (.fl 3 (.fl 4 (.fl 5 (.fl 6 (.fl 7 (.fl 8 (.fl 9 (.fl 10 .done))))))))))) (by kernel_rfl) ?_;conv=>whnf
  (try refine gR ?_);conv=>whnf
  repeat ((first|refine oL ?_|refine oR ?_|refine oB ?_);(try intro _);conv=>whnf)
  (try refine gS ?_);conv=>whnf
  repeat ((first|refine oL ?_|refine oR ?_);(try intro _);conv=>whnf)
  refine ⟨_,rws_get hk,?_⟩;conv=>whnf
  try (refine oN ?_;conv=>whnf)
  (try refine gR ?_);conv=>whnf
  repeat ((first|refine oL ?_|refine oR ?_|refine oB ?_);(try intro _);conv=>whnf)
  (try refine gS ?_);conv=>whnf
  repeat ((first|refine oL ?_|refine oR ?_);(try intro _);conv=>whnf)
  refine ⟨_,rws_get hk2,?_⟩;conv=>whnf
  try (refine oN ?_;conv=>whnf)
  (try refine gR ?_);conv=>whnf
  repeat ((first|refine oL ?_|refine oR ?_|refine oB ?_);(try intro _);conv=>whnf)
  (try refine gS ?_);conv=>whnf
  repeat ((first|refine oL ?_|refine oR ?_);(try intro _);conv=>whnf)
  refine ⟨fun hs=>?_,fun hs=>?_⟩<;>conv=>whnf
  ·try refine gR ?_
   conv=>whnf
   repeat ((first|refine oL ?_|refine oR ?_|refine oB ?_);(try intro _);conv=>whnf)
   (try refine gS ?_);conv=>whnf
   repeat ((first|refine oL ?_|refine oR ?_);(try intro _);conv=>whnf)
   refine RunsS.subR [] (back (k+1) (by exact (⟨hk,more_at hk hk2 hJ.2 (Rn.ext_iff'.2 hs)⟩)) (by (try dsimp only);omega)) sH sH
  (try refine gR ?_);conv=>whnf
  repeat ((first|refine oL ?_|refine oR ?_|refine oB ?_);(try intro _);conv=>whnf)
  (try refine gS ?_);conv=>whnf
  repeat ((first|refine oL ?_|refine oR ?_);(try intro _);conv=>whnf)
  rw [no fun e=>hs (Rn.ext_iff'.1 (at_eq (RcV.bare_iff.1 e).2.2.2.2.2.2.2.2.2.2.2.2.2.2.1 hk hk2))]
  try refine RunsS.retU ?_
  try refine RunsS.finU ?_
  exact UnwS.ret tab Tryz.func29 rfl (eN () trivial)
 have hruns:a.runs=b.runs:=all_at hn fun j h1 h2=>hJ.2 j (by omega) h1 h2
 clear back
 conv=>whnf
 repeat ((first|refine oL ?_|refine oR ?_);(try intro _);conv=>whnf)
 refine ⟨fun mitem=>?_,fun mitem=>?_⟩<;>conv=>whnf
 rotate_left
 ·conv=>whnf
  repeat ((first|refine oL ?_|refine oR ?_);(try intro _);conv=>whnf)
  (try refine gS ?_);conv=>whnf
  repeat ((first|refine oL ?_|refine oR ?_);(try intro _);conv=>whnf)
  rw [no fun e=>mitem ((RcV.bare_iff.1 e).1)]
  try refine RunsS.retU ?_
  try refine RunsS.finU ?_
  exact UnwS.ret tab Tryz.func29 rfl (eN () trivial)
 conv=>whnf
 repeat ((first|refine oL ?_|refine oR ?_);(try intro _);conv=>whnf)
 refine ⟨fun mplant=>?_,fun mplant=>?_⟩<;>conv=>whnf
 rotate_left
 ·conv=>whnf
  repeat ((first|refine oL ?_|refine oR ?_);(try intro _);conv=>whnf)
  (try refine gS ?_);conv=>whnf
  repeat ((first|refine oL ?_|refine oR ?_);(try intro _);conv=>whnf)
  rw [no fun e=>mplant ((RcV.bare_iff.1 e).2.1)]
  try refine RunsS.retU ?_
  try refine RunsS.finU ?_
  exact UnwS.ret tab Tryz.func29 rfl (eN () trivial)
 conv=>whnf
 repeat ((first|refine oL ?_|refine oR ?_);(try intro _);conv=>whnf)
 refine ⟨fun mfr=>?_,fun mfr=>?_⟩<;>conv=>whnf
 rotate_left
 ·conv=>whnf
  repeat ((first|refine oL ?_|refine oR ?_);(try intro _);conv=>whnf)
  (try refine gS ?_);conv=>whnf
  repeat ((first|refine oL ?_|refine oR ?_);(try intro _);conv=>whnf)
  rw [no fun e=>mfr ((RcV.bare_iff.1 e).2.2.1)]
  try refine RunsS.retU ?_
  try refine RunsS.finU ?_
  exact UnwS.ret tab Tryz.func29 rfl (eN () trivial)
 conv=>whnf
 repeat ((first|refine oL ?_|refine oR ?_);(try intro _);conv=>whnf)
 refine ⟨fun mto=>?_,fun mto=>?_⟩<;>conv=>whnf
 rotate_left
 ·conv=>whnf
  repeat ((first|refine oL ?_|refine oR ?_);(try intro _);conv=>whnf)
  (try refine gS ?_);conv=>whnf
  repeat ((first|refine oL ?_|refine oR ?_);(try intro _);conv=>whnf)
  rw [no fun e=>mto ((RcV.bare_iff.1 e).2.2.2.1)]
  try refine RunsS.retU ?_
  try refine RunsS.finU ?_
  exact UnwS.ret tab Tryz.func29 rfl (eN () trivial)
 conv=>whnf
 repeat ((first|refine oL ?_|refine oR ?_);(try intro _);conv=>whnf)
 refine ⟨fun mrwN=>?_,fun mrwN=>?_⟩<;>conv=>whnf
 rotate_left
 ·conv=>whnf
  repeat ((first|refine oL ?_|refine oR ?_);(try intro _);conv=>whnf)
  (try refine gS ?_);conv=>whnf
  repeat ((first|refine oL ?_|refine oR ?_);(try intro _);conv=>whnf)
  rw [no fun e=>mrwN ((RcV.bare_iff.1 e).2.2.2.2.2.2.2.1)]
  try refine RunsS.retU ?_
  try refine RunsS.finU ?_
  exact UnwS.ret tab Tryz.func29 rfl (eN () trivial)
 conv=>whnf
 repeat ((first|refine oL ?_|refine oR ?_);(try intro _);conv=>whnf)
 refine ⟨fun mrwD=>?_,fun mrwD=>?_⟩<;>conv=>whnf
 rotate_left
 ·conv=>whnf
  repeat ((first|refine oL ?_|refine oR ?_);(try intro _);conv=>whnf)
  (try refine gS ?_);conv=>whnf
  repeat ((first|refine oL ?_|refine oR ?_);(try intro _);conv=>whnf)
  rw [no fun e=>mrwD ((RcV.bare_iff.1 e).2.2.2.2.2.2.2.2.1)]
  try refine RunsS.retU ?_
  try refine RunsS.finU ?_
  exact UnwS.ret tab Tryz.func29 rfl (eN () trivial)
 conv=>whnf
 repeat ((first|refine oL ?_|refine oR ?_);(try intro _);conv=>whnf)
 refine ⟨fun myN=>?_,fun myN=>?_⟩<;>conv=>whnf
 rotate_left
 ·conv=>whnf
  repeat ((first|refine oL ?_|refine oR ?_);(try intro _);conv=>whnf)
  (try refine gS ?_);conv=>whnf
  repeat ((first|refine oL ?_|refine oR ?_);(try intro _);conv=>whnf)
  rw [no fun e=>myN ((RcV.bare_iff.1 e).2.2.2.2.2.2.2.2.2.1)]
  try refine RunsS.retU ?_
  try refine RunsS.finU ?_
  exact UnwS.ret tab Tryz.func29 rfl (eN () trivial)
 conv=>whnf
 repeat ((first|refine oL ?_|refine oR ?_);(try intro _);conv=>whnf)
 refine ⟨fun myD=>?_,fun myD=>?_⟩<;>conv=>whnf
 rotate_left
 ·conv=>whnf
  repeat ((first|refine oL ?_|refine oR ?_);(try intro _);conv=>whnf)
  (try refine gS ?_);conv=>whnf
  repeat ((first|refine oL ?_|refine oR ?_);(try intro _);conv=>whnf)
  rw [no fun e=>myD ((RcV.bare_iff.1 e).2.2.2.2.2.2.2.2.2.2.1)]
  try refine RunsS.retU ?_
  try refine RunsS.finU ?_
  exact UnwS.ret tab Tryz.func29 rfl (eN () trivial)
 conv=>whnf
 repeat ((first|refine oL ?_|refine oR ?_);(try intro _);conv=>whnf)
 refine ⟨fun mtN=>?_,fun mtN=>?_⟩<;>conv=>whnf
 rotate_left
 ·conv=>whnf
  repeat ((first|refine oL ?_|refine oR ?_);(try intro _);conv=>whnf)
  (try refine gS ?_);conv=>whnf
  repeat ((first|refine oL ?_|refine oR ?_);(try intro _);conv=>whnf)
  rw [no fun e=>mtN ((RcV.bare_iff.1 e).2.2.2.2.2.2.2.2.2.2.2.1)]
  try refine RunsS.retU ?_
  try refine RunsS.finU ?_
  exact UnwS.ret tab Tryz.func29 rfl (eN () trivial)
 conv=>whnf
 repeat ((first|refine oL ?_|refine oR ?_);(try intro _);conv=>whnf)
 refine ⟨fun mtD=>?_,fun mtD=>?_⟩<;>conv=>whnf
 rotate_left
 ·conv=>whnf
  repeat ((first|refine oL ?_|refine oR ?_);(try intro _);conv=>whnf)
  (try refine gS ?_);conv=>whnf
  repeat ((first|refine oL ?_|refine oR ?_);(try intro _);conv=>whnf)
  rw [no fun e=>mtD ((RcV.bare_iff.1 e).2.2.2.2.2.2.2.2.2.2.2.2.1)]
  try refine RunsS.retU ?_
  try refine RunsS.finU ?_
  exact UnwS.ret tab Tryz.func29 rfl (eN () trivial)
 conv=>whnf
 repeat ((first|refine oL ?_|refine oR ?_);(try intro _);conv=>whnf)
 refine ⟨fun mlead=>?_,fun mlead=>?_⟩<;>conv=>whnf
 rotate_left
 ·conv=>whnf
  repeat ((first|refine oL ?_|refine oR ?_);(try intro _);conv=>whnf)
  (try refine gS ?_);conv=>whnf
  repeat ((first|refine oL ?_|refine oR ?_);(try intro _);conv=>whnf)
  rw [no fun e=>mlead ((RcV.bare_iff.1 e).2.2.2.2.2.2.2.2.2.2.2.2.2.1)]
  try refine RunsS.retU ?_
  try refine RunsS.finU ?_
  exact UnwS.ret tab Tryz.func29 rfl (eN () trivial)
 conv=>whnf
 repeat ((first|refine oL ?_|refine oR ?_);(try intro _);conv=>whnf)
 refine ⟨fun minum=>?_,fun minum=>?_⟩<;>conv=>whnf
 rotate_left
 ·conv=>whnf
  repeat ((first|refine oL ?_|refine oR ?_);(try intro _);conv=>whnf)
  (try refine gS ?_);conv=>whnf
  repeat ((first|refine oL ?_|refine oR ?_);(try intro _);conv=>whnf)
  rw [no fun e=>minum ((RcV.bare_iff.1 e).2.2.2.2.2.2.2.2.2.2.2.2.2.2.2.1)]
  try refine RunsS.retU ?_
  try refine RunsS.finU ?_
  exact UnwS.ret tab Tryz.func29 rfl (eN () trivial)
 conv=>whnf
 repeat ((first|refine oL ?_|refine oR ?_);(try intro _);conv=>whnf)
 (try refine gS ?_);conv=>whnf
 repeat ((first|refine oL ?_|refine oR ?_);(try intro _);conv=>whnf)
 have:r=decide (a.pnum=b.pnum):=by
  by_cases mp:a.pnum=b.pnum
  ·rw [decide_eq_true mp,hr]
   exact eqB_yes (RcV.bare_iff.2 ⟨mitem,mplant,mfr,mto,n2,n3,n4,mrwN,mrwD,myN,myD,mtN,mtD,mlead,hruns,minum,mp⟩)
  rw [decide_eq_false mp]
  exact no fun e=>mp (RcV.bare_iff.1 e).2.2.2.2.2.2.2.2.2.2.2.2.2.2.2.2
 rw [this]
 try refine RunsS.retU ?_
 try refine RunsS.finU ?_
 exact UnwS.ret tab Tryz.func29 rfl (eN () trivial)
end Go.Proofs.YtgbeechjghajcaaGreatDoor
