/- Texts of this seat, joined: Package units: what is found, twins, the number that is meant. Package units: the number that is meant; equality of lists. -/
import Derived.Test.YthjedpdedjhndaaGreatDoorJoinD
set_option linter.unusedVariables false
set_option linter.unusedSimpArgs false
set_option maxRecDepth 100000
set_option maxHeartbeats 99999999
namespace Go.Proofs.YthjedpdedjhndaaGreatDoor
open Go Go.Fw Go.RatM
theorem bAY (l:List Un) (hl:l.length<=9223372036854775807) (u:Un):FnS Tryz.prog 236 2 [.buf 0,.fn (.func 237) [] [.ptr 1 0]] [(0,.ro 8 (aL l)),unB 1 u] (fun _:Unit=>True)
  (fun _=>.ret (.v (.bool (decide (0<=iW l u.name)))) 2 [unB 1 u]):=by
 have C:=idxT_fn l hl u;obtain ⟨r,hr⟩:∃r,r=iW l u.name:=⟨_,rfl⟩;rw [<-hr] at C ⊢;refine zS Tryz.func236 Tryz.ntmps236 fun E0 F h w0 cs=>?_;refine zN (C) [0,1] ?_;refine sqs ?_;exact zI Tryz.func236 () trivial
theorem aQA (l:List Un) (k:Nat):aL (l.take k)=(aL l).take k:=by simp [aL,List.map_take]
theorem aXZ {l:List Un} {nm:ByteArray} (h:iW l nm<0):∀u∈l,u.name≠nm:=by
 refine yA.1 ?_;unfold iW at h ⊢;split at h
 ·omega
 rfl
theorem bFS {l:List Un} {nm:ByteArray} (h:0<=iW l nm):∃k:Nat,iW l nm=k /\ ∃hk:k<l.length,l[k].name=nm /\ ∀j (hj:j<k),l[j].name≠nm:=by
 obtain ⟨k,hk⟩:∃k:Nat,iW l nm=k:=⟨(iW l nm).toNat,by omega⟩;exact ⟨k,hk,yH.1 hk⟩
theorem aQI {l:List Un} {k:Nat} (hk:k<l.length) (h:((l.take k).map Un.name).Nodup) (hn:iW (l.take k) l[k].name<0):((l.take (k+1)).map Un.name).Nodup:=by
 rw [List.take_add_one,List.getElem?_eq_getElem hk,List.map_append];refine List.nodup_append.2 ⟨h,by simp,?_⟩;intro a ha b hb e;obtain ⟨u,hu,rfl⟩:=List.mem_map.1 ha;simp only [Option.toList,List.map_cons,List.map_nil,List.mem_singleton] at hb;exact aXZ hn u hu (e.trans hb)
theorem aWM {l:List Un} {k:Nat} (hk:k<l.length) (hn:0<=iW (l.take k) l[k].name):¬(l.map Un.name).Nodup:=by
 intro h;obtain ⟨j,_,hj,hnm,_⟩:=bFS hn;rw [List.length_take] at hj;rw [List.getElem_take] at hnm;have h1:=(List.pairwise_iff_getElem.1 h) j k (by rw [List.length_map];omega) (by rw [List.length_map];omega) (by omega);simp only [List.getElem_map] at h1;exact h1 hnm
theorem aOR {h:Array Obj} (l:List Un) {v:Value} (hv:Ro h v 8 (aL l)):FV 130 #[v] h (.bool (decide (¬(l.map Un.name).Nodup))):=by
 have hl:=aZ l;have hm:=hv.len;obtain ⟨r,hr⟩:∃r,r=decide (¬(l.map Un.name).Nodup):=⟨_,rfl⟩;rw [<-hr];refine zG 1 (show Ros _ [v] [(8,aL l)] from ⟨hv,trivial⟩) [.buf 0] Tryz.func130 Tryz.ntmps130 fun w0 cs=>?_;refine zL (fun (k:Nat)=>[(7,nV k),(6,nV ((aL l).length)),(5,.buf 0),(0,.buf 0)]) (fun k=>[(0,.ro 8 (aL l))]) 1 (fun k=>k<=l.length/\((l.take k).map Un.name).Nodup) (fun k=>l.length - k) (0) (⟨Nat.zero_le _,by simp⟩) ?_;rintro k hJ back;try dsimp only at hJ back
 conv=>whnf
 try dsimp only
 refine gS ?_;conv=>whnf
 refine ⟨fun hk=>?_,fun hk=>?_⟩<;>conv=>whnf
 ·have hk:k<l.length:=by omega
  refine cG ?_;refine ⟨_,dK hk,?_⟩;conv=>whnf
  try (refine oN ?_;conv=>whnf)
  refine sqC ?_;refine sqs ?_;have C:=bAY (l.take k) (by rw [List.length_take];omega) l[k];rw [aQA] at C;by_cases hn:0<=iW (l.take k) l[k].name
  ·rw [decide_eq_true hn] at C;refine zN (C) [2,1] ?_;refine sqs ?_;have:r=true:=by rw [hr];exact decide_eq_true (aWM hk hn)
   rw [this];exact zR Tryz.func130
  rw [decide_eq_false hn] at C;refine zN (C) [2,1] ?_;refine dT ?_;exact zb (back (k+1) ((⟨hk,aQI hk hJ.2 (by omega)⟩)) (by (try dsimp only);omega))
 conv=>whnf
 have hk:k=l.length:=by omega
 have hnd:=hJ.2;rw [hk,List.take_length] at hnd;have:r=false:=by rw [hr];exact decide_eq_false (fun h=>h hnd)
 rw [this];exact zR Tryz.func130

abbrev aPI (b:Nat) (l:List Un):Nat×Fw.Blk:=(b,.own 100 8 (aL l))
abbrev aMI (b:Nat) (x:SV):Nat×Fw.Blk:=(b,.cells 22 [x])
theorem idxM_fn (l:List Un) (hl:l.length<=9223372036854775807) (s:ByteArray):FnS Tryz.prog 132 2 [.buf 0,.fn (.func 133) [] [.ptr 1 0]] [aPI 0 l,strB 1 s] (fun _:Unit=>True)
  (fun _=>.ret (nV (iW l s)) 2 [aPI 0 l,strB 1 s]):=by
 have hlr:=aZ l;obtain ⟨r,hr⟩:∃r,r=iW l s:=⟨_,rfl⟩;rw [<-hr];refine zS Tryz.func132 Tryz.ntmps132 fun E0 F h w0 cs=>?_;refine zL (fun (k:Nat)=>[(8,nV k),(7,nV ((aL l).length)),(0,.buf 0),(1,.fn (.func 133) [] [.ptr 1 0])]) (fun k=>[aPI 0 l,strB 1 s]) 2 (fun k=>k<=l.length /\ ∀j (hj:j<k) (hjl:j<l.length),l[j].name≠s) (fun k=>l.length - k) (0) (⟨Nat.zero_le _,fun j hj=>absurd hj (Nat.not_lt_zero _)⟩) ?_;rintro k hJ back;conv=>whnf
 refine gS ?_;conv=>whnf
 refine ⟨fun hk=>?_,fun hk=>?_⟩<;>conv=>whnf
 ·have hk:k<l.length:=by omega
  refine cG ?_;refine ⟨_,dK hk,?_⟩;conv=>whnf
  try (refine oN ?_;conv=>whnf)
  have C:=aVL l[k] s;by_cases hn:l[k].name=s
  ·rw [decide_eq_true hn] at C;refine zN (C) [1] ?_;refine sqs ?_;have:r=k:=by rw [hr];exact yH.2 ⟨hk,hn,fun j hj=>hJ.2 j hj (by omega)⟩
   rw [this];exact zI Tryz.func132 () trivial
  rw [decide_eq_false hn] at C;refine zN (C) [1] ?_;refine dT ?_;exact zb (back (k+1) ((⟨hk,fun j hj hjl=>(Nat.lt_succ_iff_lt_or_eq.1 hj).elim (fun hj=>hJ.2 j hj hjl) (fun e=>by subst e;exact hn)⟩)) (by (try dsimp only);omega))
 conv=>whnf
 have:r = -1:=by
  rw [hr,yA];intro w hw;obtain ⟨j,hj,rfl⟩:=List.getElem_of_mem hw;exact hJ.2 j (by omega) hj
 rw [this];exact zI Tryz.func132 () trivial
theorem aND (l:List Un) (hl:l.length<=9223372036854775807) (s:ByteArray):FnS Tryz.prog 131 2 [.v (.string s),.ptr 0 0] [aMI 0 (.buf 1),aPI 1 l] (fun _:Unit=>True)
  (fun _=>.ret (nV (iW l s)) 2 [aMI 0 (.buf 1),aPI 1 l]):=by
 have C:=idxM_fn l hl s;refine zS Tryz.func131 Tryz.ntmps131 fun E0 F h w0 cs=>?_;refine zN (C) [1,2] ?_;refine sqs ?_;exact zI Tryz.func131 () trivial
end Go.Proofs.YthjedpdedjhndaaGreatDoor

namespace Go.Proofs.YthjedpdedjhndaaGreatDoor
open Go Go.Fw Go.NatM Go.RatM
def rW (F:Nat->Prop) (h:Array Obj):Prop:=gN h/\F 2
theorem dE:TOk rW:=by
 refine ⟨fun F F' h hs hT=>⟨hT.1,hs _ hT.2⟩,fun F h h' hT K=>⟨fun j hj=>?_,hT.2⟩⟩;rw [<-hT.1 j hj];unfold bL;rw [K.same _ hT.2]
theorem gN.t {h:Array Obj} (hT:gN h):rW (fun k=>k<h.size) h:=⟨hT,tY (hT 0 (by decide))⟩
def tS:List Rt->Rt->Rt×Int
 | [],a=>(a,0)
 |b::l,a=>if (fI a b).2=0 then tS l (fI a b).1 else fI a b
theorem aVD {h:Array Obj} (l:List Rt) (a:Rt) {v:Value} (hv:Ro h v 3 (kV l)) (hT:gN h):FV 135 #[v,a.v,.func (.func 39) #[] #[]] h (rev (tS l a)):=by
 have hl:=aBO l;have hm:=hv.len;obtain ⟨r,hr⟩:∃r,r=tS l a:=⟨_,rfl⟩;rw [<-hr];refine zG 1 (show Ros _ [v] [(3,kV l)] from ⟨hv,trivial⟩) [.buf 0,.agg [.v (.bool a.neg),.v (.string a.n),.v (.string a.d)],.fn (.func 39) [] []] Tryz.func135 Tryz.ntmps135 fun w0 cs=>?_;refine zL (fun (⟨k,acc⟩:Nat×Rt)=>[(13,nV k),(12,nV ((kV l).length)),(11,.buf 0),(6,.ptr 2 0),(4,.ptr 1 0),(2,.fn (.func 39) [] [])]) (fun ⟨k,acc⟩=>[(2,.cells 35 [.v (.bool false),.v (.string ⟨#[]⟩),.v (.string ⟨#[]⟩)]),(1,.cells 35 [.v (.bool acc.neg),.v (.string acc.n),.v (.string acc.d)]),(0,.ro 3 (kV l))]) 3 (fun ⟨k,acc⟩=>k<=l.length/\r=tS (l.drop k) acc) (fun ⟨k,acc⟩=>l.length - k) ((0,a)) (⟨Nat.zero_le _,hr⟩) ?_;rintro ⟨k,acc⟩ hJ back;try dsimp only at hJ back
 conv=>whnf
 try dsimp only
 refine gS ?_;conv=>whnf
 refine ⟨fun hk=>?_,fun hk=>?_⟩<;>conv=>whnf
 ·have hk:k<l.length:=by omega
  have hd:l.drop k=l[k]::l.drop (k+1):=List.drop_eq_getElem_cons hk;have hJ2:=hJ.2;rw [hd] at hJ2;unfold tS at hJ2;refine cG ?_;refine ⟨_,aCD hk,?_⟩;conv=>whnf
  try (refine oN ?_;conv=>whnf)
  refine aA.callV (fun _ _ _ _ K=>nT acc l[k] (hT.keeps ⟨K.size,K.same⟩)) ?_;refine sqv ?_;refine ⟨fun o1=>?_,fun o1=>?_⟩<;>conv=>whnf
  ·refine cG ?_;rw [if_pos o1] at hJ2;exact zb (back ((k+1,(fI acc l[k]).1)) ((⟨hk,hJ2⟩)) (by (try dsimp only);omega))
  conv=>whnf
  rw [if_neg o1] at hJ2;rw [hJ2];exact zR Tryz.func135
 have hk:k=l.length:=by omega
 have hJ2:=hJ.2;rw [hk,List.drop_length] at hJ2;conv=>whnf
 rw [hJ2];exact zR Tryz.func135
end Go.Proofs.YthjedpdedjhndaaGreatDoor

namespace Go.RatM
open Go Go.Fw Go.NatM
theorem aKQ {x:List Un} {u v:Un} (h:iP x u=.inl v):v.name=u.name/\v.of_=u.of_/\v.n=u.n/\v.d=u.d:=by
 unfold iP at h;split at h
 ·split at h
  ·cases h;exact ⟨rfl,rfl,rfl,rfl⟩
  cases h
 split at h
 ·split at h
  ·split at h
   ·cases h
   cases h;exact ⟨rfl,rfl,rfl,rfl⟩
  cases h
 cases h
theorem aGB:∀ {l x y:List Un},sR l x=.inl y ↔ ∃z,y=x++z/\z.length=l.length /\ ∀i (h:i<l.length) (h':i<z.length),iP (x++z.take i) l[i]=.inl z[i]
 | [],x,y=>by
  constructor
  ·intro h;cases h;exact ⟨[],by simp,rfl,fun i h=>absurd h (by simp)⟩
  rintro ⟨z,rfl,hz,_⟩;have:z=[]:=List.eq_nil_of_length_eq_zero hz;subst this
  simp [sR]
 |u::l,x,y=>by
  constructor
  ·intro h;simp only [sR] at h;split at h
   ·rename_i v hv
    obtain ⟨z,rfl,hz,hs⟩:=aGB.1 h;refine ⟨v::z,by simp,by simp [hz],?_⟩;intro i hi hi'
    cases i with
    |zero=>simpa using hv
    |succ i=>
     have:=hs i (by simpa using hi) (by simpa using hi')
     simpa using this
   cases h
  rintro ⟨z,rfl,hz,hs⟩
  cases z with
  |nil=>simp at hz
  |cons v z=>
   have h0:=hs 0 (by simp) (by simp);simp only [List.take_zero,List.append_nil,List.getElem_cons_zero] at h0;simp only [sR,h0];refine aGB.2 ⟨z,by simp,by simpa using hz,?_⟩;intro i hi hi';have:=hs (i+1) (by simpa using hi) (by simpa using hi')
   simpa using this
def ResP (l x:List Un):Prop:=x.length=l.length /\ ∀i (h:i<l.length) (h':i<x.length),iP (x.take i) l[i]=.inl x[i]
theorem aMO {l x:List Un}:sR l []=.inl x↔ResP l x:=by
 rw [aGB]
 constructor
 ·rintro ⟨z,e,h1,h2⟩;rw [List.nil_append] at e;subst e;exact ⟨h1,by simpa using h2⟩
 rintro ⟨h1,h2⟩;exact ⟨x,rfl,h1,by simpa using h2⟩
theorem bGI {l x:List Un}:dA l=.inl x↔l.length<=32/\(l.map Un.name).Nodup/\ResP l x:=by
 unfold dA;by_cases h1:32<l.length
 ·rw [if_pos h1];exact ⟨(fun h=>by cases h),fun h=>absurd h.1 (by omega)⟩
 rw [if_neg h1];by_cases h2:(l.map Un.name).Nodup
 ·rw [if_neg (fun h=>h h2),aMO];exact ⟨fun h=>⟨by omega,h2,h⟩,fun h=>h.2.2⟩
 rw [if_pos h2];exact ⟨(fun h=>by cases h),fun h=>absurd h.2.1 h2⟩
theorem ResP.base {l x:List Un} (h:ResP l x) {i:Nat} (hi:i<x.length) (he:x[i].of_=NatM.mt):x[i].base=i/\x[i].scale=yT:=by
 have hi':i<l.length:=by rw [<-h.1];exact hi
 have hs:=h.2 i hi' hi;have e1:=(aKQ hs).2.1;unfold iP at hs;rw [if_pos (e1▸he)] at hs;split at hs
 ·have hs:=Sum.inl.inj hs;rw [<-hs];refine ⟨?_,rfl⟩;show ((x.take i).length:Int)=i;rw [List.length_take];omega
 cases hs
end Go.RatM

namespace Go.Proofs.YthjedpdedjhndaaGreatDoor
open Go Go.Fw Go.NatM Go.RatM
def resO:List Un ⊕ Int->eR
 | .inl x=>.ret (.tup [.buf 1,nV 0]) 2 [aPI 1 x]
 | .inr e=>.ret (.tup [.v (.slice none 0 0),nV e]) 1 []
def bDE (x:List Un):Prop:=∀w∈x,Sc1 (1+3*x.length) w
theorem bDE.nil:bDE []:=fun w hw=>by cases hw
theorem bDE.step {x:List Un} {u v:Un} (hx:bDE x) (hl:x.length<32) (h:iP x u=.inl v):bDE (x++[v]):=by
 intro w hw;have hs:=aMX (k:=1+3*x.length) (by omega) (by omega) hx h;have hle:(x++[v]).length=x.length+1:=by simp
 rw [hle];rcases List.mem_append.1 hw with hw|hw
 ·exact (hx w hw).mono (by omega)
 rw [List.mem_singleton.1 hw];exact hs.mono (by omega)
theorem bCK {q:Q} {k:Nat} (ok:q.Ok) (hk:q.le k) (h:k<=255):fI yT (aN q)=(aN q,0):=by
 obtain ⟨c,c1,c2,c3,c4⟩:=aAJ oq_ok ok oq_le hk (by omega);have:c=q:=Q.inj c2 ok (by rw [c4,bCG];grind);subst this;exact c1
theorem bCX {q:Q} {k:Nat} {n d:Int} (ok:q.Ok) (hk:q.le k) (h:k+3<=256) (hn:btw n) (hd:btw d):(fI (aN q) (eU n d).1).2=0:=by
 obtain ⟨n1,n2,n3⟩:=aNS hn hd;obtain ⟨c,c1,c2,c3,c4⟩:=aAJ ok n1 hk n2 h;rw [wW (by omega),c1]
theorem aWG {q:Q} {k:Nat} {n d:Int} (ok:q.Ok) (hk:q.le k) (h:k+3<=256) (hn:btw n) (hd:btw d):tS [aN q,(eU n d).1] yT=((fI (aN q) (eU n d).1).1,0):=by
 have h1:=bCX ok hk h hn hd;unfold tS;rw [bCK ok hk (by omega),if_pos rfl];unfold tS;rw [if_pos h1];rfl
abbrev rtB (b:Nat) (a:Rt):Nat×Fw.Blk:=(b,.cells 35 [.v (.bool a.neg),.v (.string a.n),.v (.string a.d)])
theorem aHX (x:List Un) (v:Un):aL x++[v.row]=aL (x++[v]):=by simp [aL]
theorem aXJ:tS [] yT=(yT,0):=rfl
theorem aYZ:eU 1 1=(yT,0):=(wW (by decide)).trans (by rw [show pK 1 1=oq from rfl];rfl)
theorem xX (l:List Un) (hl:l.length<=9223372036854775807) (hi:∀u∈l,(-9223372036854775808<=u.n/\u.n<=9223372036854775807)/\(-9223372036854775808<=u.d/\u.d<=9223372036854775807)):
  FnT Tryz.prog rW 80 1 [.buf 0] [(0,.ro 8 (aL l))] (fun _:Unit=>True) (fun _=>resO (dA l)):=by
 have hlr:=aZ l;obtain ⟨r,hr⟩:∃r,r=dA l:=⟨_,rfl⟩;rw [<-hr];unfold dA at hr;refine zT Tryz.func80 Tryz.ntmps80 fun E0 F h hT w0 cs=>?_;refine ⟨fun h1=>?_,fun h1=>?_⟩<;>conv=>whnf
 ·rw [if_pos (by omega)] at hr;subst hr;conv=>whnf
  exact zI Tryz.func80 () trivial
 rw [if_neg (by omega)] at hr;have h1:l.length<=32:=by omega
 conv=>whnf
 by_cases hn:(l.map Un.name).Nodup
 ·rw [if_neg (fun h=>h hn)] at hr;refine aA.callV (fun _ _ _ Sz _=>aOR l (Sz.ro (b:=0) rfl)) ?_;conv=>whnf
  rw [decide_eq_false (fun h=>h hn)];try dsimp only
  refine sqs ?_;refine aA.callV (fun _ _ _ _ K=>iC 1 1 (by omega) (by omega) (dE.at hT K).1) ?_;conv=>whnf
  rw [aYZ];refine sqs ?_;refine zQ 3 [(25,nV 0),(24,nV ((aL l).length)),(23,.buf 0),(6,.fn (.func 131) [] [.ptr 1 0]),(4,.ptr 2 0),(3,nV 0),(2,.ptr 1 0)] [rtB 2 yT,aMI 1 (.v (.slice none 0 0)),(0,.ro 8 (aL l))] ?_;refine aA.nilOwn (l':=[(25,nV 0),(24,nV ((aL l).length)),(23,.buf 0),(6,.fn (.func 131) [] [.ptr 1 0]),(4,.ptr 2 0),(3,nV 0),(2,.ptr 1 0)]) (H':=[rtB 2 yT,aMI 1 (.buf 3),(0,.ro 8 (aL l))]) 100 8 ?_ (by rfl) (by rfl) (by rfl);refine zL (fun (⟨k,x⟩:Nat×List Un)=>[(25,nV k),(24,nV ((aL l).length)),(23,.buf 0),(6,.fn (.func 131) [] [.ptr 1 0]),(4,.ptr 2 0),(3,nV 0),(2,.ptr 1 0)]) (fun ⟨k,x⟩=>[aPI 3 x,rtB 2 yT,aMI 1 (.buf 3),(0,.ro 8 (aL l))]) 4 (fun ⟨k,x⟩=>k<=l.length/\x.length=k/\bDE x/\r=sR (l.drop k) x) (fun ⟨k,x⟩=>l.length - k) ((0,[])) (⟨Nat.zero_le _,rfl,bDE.nil,hr⟩) ?_;rintro ⟨k,x⟩ hJ back;try dsimp only at hJ back
  conv=>whnf
  try dsimp only
  refine gS ?_;conv=>whnf
  refine ⟨fun hk=>?_,fun hk=>?_⟩<;>conv=>whnf
  ·have hk:k<l.length:=by omega
   have hd:l.drop k=l[k]::l.drop (k+1):=List.drop_eq_getElem_cons hk;obtain ⟨hJ1,hJ2,hJ3,hJ4⟩:=hJ;rw [hd] at hJ4;simp only [sR] at hJ4;refine cG ?_;refine ⟨_,dK hk,?_⟩;conv=>whnf
   try (refine oN ?_;conv=>whnf)
   refine ⟨fun e0=>?_,fun e0=>?_⟩<;>conv=>whnf
   ·have st:iP x l[k]=if l[k].n=0/\l[k].d=0 then .inl (l[k].re k yT) else .inr 90:=by
     unfold iP;rw [if_pos e0,hJ2]
    by_cases hz:l[k].n=0/\l[k].d=0
    ·rw [if_pos hz] at st;rw [st] at hJ4;refine cG ?_;refine aA.callV (fun _ _ _ _ K=>aVD [] yT Ro.nil (dE.at hT K).1) ?_;conv=>whnf
     rw [aXJ];try dsimp only
     refine dT ?_;refine And.intro (aOS (by rw [aZ];omega)) ?_;conv=>whnf
     refine sqC ?_;refine aA.rowsEq (6) (aHX x (l[k].re k yT)) ?_;conv=>whnf
     exact zb (back ((k+1,x++[(l[k].re k yT)])) ((⟨hk,by rw [List.length_append,hJ2];rfl,hJ3.step (by omega) st,hJ4⟩)) (by (try dsimp only);omega)) [(3,6)]
    rw [if_neg hz] at st;rw [st] at hJ4;subst hJ4;by_cases hz1:l[k].n=0
    ·have hz2:l[k].d≠0:=fun e=>hz ⟨hz1,e⟩;refine cG ?_;exact zI Tryz.func80 () trivial
    refine cG ?_;exact zI Tryz.func80 () trivial
   conv=>whnf
   have hi':=hi l[k] (List.getElem_mem hk);by_cases b1:btw l[k].n
   ·refine zc (fun _ _=>sA l[k].n) ?_;conv=>whnf
    rw [decide_eq_true b1];try dsimp only
    refine sqs ?_;by_cases b2:btw l[k].d
    ·refine zc (fun _ _=>sA l[k].d) ?_;conv=>whnf
     rw [decide_eq_true b2];try dsimp only
     refine sqs ?_;by_cases hf:iW x l[k].of_<0
     ·have st:iP x l[k]=.inr 110:=by
       unfold iP;rw [if_neg e0,if_pos ⟨b1,b2⟩];split
       ·rw [if_pos hf]
       rfl
      rw [st] at hJ4;subst hJ4;refine zN (aND x (by omega) l[k].of_) [1,3] ?_;refine dT ?_;exact zI Tryz.func80 () trivial
     obtain ⟨j,hj,hj1,hj2⟩:=bFS (l:=x) (nm:=l[k].of_) (by omega);have st:iP x l[k]=.inl (l[k].re x[j].base (fI x[j].scale (eU l[k].n l[k].d).1).1):=by
      unfold iP;rw [if_neg e0,if_pos ⟨b1,b2⟩,hj,Int.toNat_natCast,List.getElem?_eq_getElem hj1];exact if_neg (by omega)
     rw [st] at hJ4;obtain ⟨q,q1,q2,q3,q4⟩:=hJ3 x[j] (List.getElem_mem hj1);have fm:tS [x[j].scale,(eU l[k].n l[k].d).1] yT=((fI x[j].scale (eU l[k].n l[k].d).1).1,0):=by rw [q1];exact aWG q2 q3 (by omega) b1 b2
     have nm:eU l[k].n l[k].d=((eU l[k].n l[k].d).1,0):=by rw [wW (by omega)]
     have C:=aND x (by omega) l[k].of_;rw [hj] at C;have hxr:=aZ x;refine zN (C) [1,3] ?_;refine dT ?_;refine aA.callV (fun _ _ _ _ K=>iC l[k].n l[k].d hi'.1 hi'.2 (dE.at hT K).1) ?_;conv=>whnf
     rw [nm];try dsimp only
     refine dT ?_;refine ⟨_,dK hj1,?_⟩;conv=>whnf
     refine zH (fls 0 6 (.e1 6 [] (.fl 7 .done))) ?_;refine aBF ?_;conv=>whnf
     refine ⟨_,dK hj1,?_⟩;conv=>whnf
     try (refine oN ?_;conv=>whnf)
     refine xE ?_;refine sqs ?_;refine aA.callV (fun _ _ _ Sz K=>aVD [x[j].scale,(eU l[k].n l[k].d).1] yT (Sz.ro (b:=6) rfl) (dE.at hT K).1) ?_;conv=>whnf
     rw [fm];try dsimp only
     refine dT ?_;refine And.intro (aOS (by rw [aZ];omega)) ?_;conv=>whnf
     refine sqC ?_;refine aA.rowsEq (8) (aHX x (l[k].re x[j].base (fI x[j].scale (eU l[k].n l[k].d).1).1)) ?_;conv=>whnf
     exact zb (back ((k+1,x++[l[k].re x[j].base (fI x[j].scale (eU l[k].n l[k].d).1).1])) ((⟨hk,by rw [List.length_append,hJ2];rfl,hJ3.step (by omega) st,hJ4⟩)) (by (try dsimp only);omega)) [(3,8)]
    have st:iP x l[k]=.inr 90:=by
     unfold iP;rw [if_neg e0,if_neg fun h=>b2 h.2]
    rw [st] at hJ4;subst hJ4;refine zc (fun _ _=>sA l[k].d) ?_;conv=>whnf
    rw [decide_eq_false b2];try dsimp only
    refine sqs ?_;exact zI Tryz.func80 () trivial
   have st:iP x l[k]=.inr 90:=by
    unfold iP;rw [if_neg e0,if_neg fun h=>b1 h.1]
   rw [st] at hJ4;subst hJ4;refine zc (fun _ _=>sA l[k].n) ?_;conv=>whnf
   rw [decide_eq_false b1];try dsimp only
   refine sqs ?_;exact zI Tryz.func80 () trivial
  have hk:k=l.length:=by omega
  have hJ4:=hJ.2.2.2;rw [hk,List.drop_length] at hJ4;have hJ4:r=.inl x:=hJ4;conv=>whnf
  rw [hJ4];exact zI Tryz.func80 (()) (trivial) [(1,3)]
 rw [if_pos hn] at hr;subst hr;refine aA.callV (fun _ _ _ Sz _=>aOR l (Sz.ro (b:=0) rfl)) ?_;conv=>whnf
 rw [decide_eq_true hn];try dsimp only
 refine sqs ?_;exact zI Tryz.func80 () trivial

def aTJ (l:List Un):Prop:=∀u∈l,(-9223372036854775808<=u.n/\u.n<=9223372036854775807)/\(-9223372036854775808<=u.d/\u.d<=9223372036854775807)
theorem resOk {l x:List Un} (hl:l.length<=9223372036854775807) (hi:aTJ l) (hx:dA l=.inl x):
  FnT Tryz.prog rW 80 1 [.buf 0] [(0,.ro 8 (aL l))] (fun _:Unit=>True) (fun _=>.ret (.tup [.buf 1,nV 0]) 2 [aPI 1 x]):=by
 have:=xX l hl hi;rw [hx] at this;exact this
theorem resNo {l:List Un} {e:Int} (hl:l.length<=9223372036854775807) (hi:aTJ l) (hx:dA l=.inr e):
  FnT Tryz.prog rW 80 1 [.buf 0] [(0,.ro 8 (aL l))] (fun _:Unit=>True) (fun _=>.ret (.tup [.v (.slice none 0 0),nV e]) 1 []):=by
 have:=xX l hl hi;rw [hx] at this;exact this
theorem aLM {a b:List Un} {k:Nat} (ha:k<a.length) (hb:k<b.length) (h:a.take k=b.take k) (he:a[k]=b[k]):a.take (k+1)=b.take (k+1):=by
 rw [List.take_add_one,List.take_add_one,h,List.getElem?_eq_getElem ha,List.getElem?_eq_getElem hb,he]
theorem aNA {h:Array Obj} (a b:List Un) {va vb:Value} (hva:Ro h va 8 (aL a)) (hvb:Ro h vb 8 (aL b)):FV 81 #[va,vb] h (.bool (decide (a=b))):=by
 have hla:=aZ a;have hlb:=aZ b;have hma:=hva.len;have hmb:=hvb.len;obtain ⟨r,hr⟩:∃r,r=decide (a=b):=⟨_,rfl⟩;rw [<-hr];refine zG 2 (show Ros _ [va,vb] [(8,aL a),(8,aL b)] from ⟨hva,hvb,trivial⟩) [.buf 0,.buf 1] Tryz.func81 Tryz.ntmps81 fun w0 cs=>?_;refine ⟨fun h1=>?_,fun h1=>?_⟩<;>conv=>whnf
 ·have h1:a.length=b.length:=by omega
  conv=>whnf
  refine zL (fun (k:Nat)=>[(13,nV k),(12,nV ((aL a).length)),(11,.buf 0),(0,.buf 0),(1,.buf 1)]) (fun k=>[(0,.ro 8 (aL a)),(1,.ro 8 (aL b))]) 2 (fun k=>k<=a.length/\a.take k=b.take k) (fun k=>a.length - k) (0) (⟨Nat.zero_le _,rfl⟩) ?_;rintro k hJ back;try dsimp only at hJ back
  conv=>whnf
  try dsimp only
  refine gS ?_;conv=>whnf
  refine ⟨fun hk=>?_,fun hk=>?_⟩<;>conv=>whnf
  ·have hk:k<a.length:=by omega
   have hkb:k<b.length:=by omega
   conv=>whnf
   refine zH (fls 0 9 .done) ?_;refine aBF ?_;conv=>whnf
   refine ⟨_,dK hk,?_⟩;conv=>whnf
   try (refine oN ?_;conv=>whnf)
   refine xE ?_;conv=>whnf
   refine ⟨_,dK hkb,?_⟩;conv=>whnf
   try (refine oN ?_;conv=>whnf)
   conv=>whnf
   refine ⟨fun he=>?_,fun he=>?_⟩<;>conv=>whnf
   ·try refine gR ?_
    refine bFP ?_;exact zb (back (k+1) ((⟨hk,aLM hk hkb hJ.2 (Un.ext8 he)⟩)) (by (try dsimp only);omega))
   refine sqr ?_;refine sqs ?_;have:r=false:=by
    rw [hr];refine decide_eq_false fun e=>he ?_;subst e;exact Un.ext8_iff.1 rfl
   rw [this];exact zR Tryz.func81
  have hk:k=a.length:=by omega
  have h2:=hJ.2;rw [hk,List.take_length,h1,List.take_length] at h2;have:r=true:=by rw [hr];exact decide_eq_true h2
  conv=>whnf
  rw [this];exact zR Tryz.func81
 have:r=false:=by rw [hr];exact decide_eq_false (fun e=>h1 (by rw [e]))
 rw [this];conv=>whnf
 exact zR Tryz.func81
theorem aMN:∀ {l x:List Un} {e:Int},sR l x=.inr e->e=90\/e=110
 | [],x,e,h=>by cases h
 |u::l,x,e,h=>by
  simp only [sR] at h;split at h
  ·exact aMN h
  rename_i e' he
  cases h;unfold iP at he;split at he
  ·split at he<;>cases he;exact .inl rfl
  split at he
  ·split at he
   ·split at he<;>cases he;exact .inr rfl
   cases he;exact .inr rfl
  cases he;exact .inl rfl
theorem aJV {l:List Un} {e:Int} (h:dA l=.inr e):e=90\/e=110\/e=111:=by
 unfold dA at h;split at h
 ·cases h;exact .inl rfl
 split at h
 ·cases h;exact .inr (.inr rfl)
 have:=aMN h;omega
theorem vZ {h:Array Obj} (l:List Un) (hi:aTJ l) {v:Value} (hv:Ro h v 8 (aL l)) (hT:gN h):FV 51 #[v] h (.int .i64 (eT l)):=by
 have hl:=aZ l;have hm:=hv.len;refine zG 1 (show Ros _ [v] [(8,aL l)] from ⟨hv,trivial⟩) [.buf 0] Tryz.func51 Tryz.ntmps51 fun w0 cs=>?_
 cases hx:dA l with
 |inr e=>
  have he:=aJV hx;have:eT l=e:=by unfold eT;rw [hx]
  rw [this];refine zM dE (hT.t) (resNo (by omega) hi hx) [0] ?_;refine dT ?_;exact zR Tryz.func51
 |inl x=>
  have hc:eT l=if x=l then 0 else 90:=by unfold eT;rw [hx]
  rw [hc];refine zM dE (hT.t) (resOk (by omega) hi hx) [0] ?_;refine dT ?_;by_cases he:x=l
  ·refine aA.callV (fun _ _ _ Sz _=>aNA x l (Sz.ro (b:=1) rfl) (Sz.ro (b:=0) rfl)) ?_;conv=>whnf
   rw [decide_eq_true he];try dsimp only
   refine sqs ?_;rw [if_pos he];exact zR Tryz.func51
  refine aA.callV (fun _ _ _ Sz _=>aNA x l (Sz.ro (b:=1) rfl) (Sz.ro (b:=0) rfl)) ?_;conv=>whnf
  rw [decide_eq_false he];try dsimp only
  refine sqs ?_;rw [if_neg he];exact zR Tryz.func51

theorem aXC {l:List Un} {a b:Int} {r:Rt} (h:eT l≠0):uN l a b r=(zr,eT l):=if_pos h
theorem aVH {l:List Un} {a b:Int} {r:Rt} (h:eT l=0) (ho:a<0\/(l.length:Int)<=a\/b<0\/(l.length:Int)<=b):uN l a b r=(zr,90):=by
 unfold uN;rw [if_neg (fun e=>e h)];split
 ·rename_i u v hu hv
  have h1:=(List.getElem?_eq_some_iff.1 hu).1;have h2:=(List.getElem?_eq_some_iff.1 hv).1;exact if_pos (by omega)
 rfl
theorem bAK {l:List Un} {i j:Nat} {r:Rt} (h:eT l=0) (hi:i<l.length) (hj:j<l.length):uN l i j r =
  if l[i].base≠l[j].base then (zr,90) else if (fI r l[i].scale).2≠0 then (zr,(fI r l[i].scale).2) else aLG (fI r l[i].scale).1 l[j].scale:=by
 unfold uN;rw [if_neg (fun e=>e h),Int.toNat_natCast,Int.toNat_natCast,List.getElem?_eq_getElem hi,List.getElem?_eq_getElem hj];dsimp only;by_cases hb:l[i].base≠l[j].base
 ·rw [if_pos (.inr (.inr hb)),if_pos hb];rfl
 rw [if_neg (by omega),if_neg hb];rfl
theorem aSF {h:Array Obj} (l:List Un) (hi:aTJ l) {v:Value} (hv:Ro h v 8 (aL l)) (a b:Int) (r:Rt) (hT:gN h):FnV Tryz.prog 74 #[v,.int .i64 a,.int .i64 b,r.v] h fun y h'=>y=rev (uN l a b r)/\aH h.size h h':=by
 have hl:=aZ l;have hm:=hv.len;obtain ⟨y,hy⟩:∃y,y=uN l a b r:=⟨_,rfl⟩;rw [<-hy];refine zG 1 (show Ros _ [v] [(8,aL l)] from ⟨hv,trivial⟩) [.buf 0,nV a,nV b,.agg [.v (.bool r.neg),.v (.string r.n),.v (.string r.d)]] Tryz.func74 Tryz.ntmps74 fun w0 cs=>?_;by_cases hc:eT l=0
 ·refine aA.callV (fun _ _ _ Sz K=>vZ l hi (Sz.ro (b:=0) rfl) (hT.keeps ⟨K.size,K.same⟩)) ?_;conv=>whnf
  rw [hc];try dsimp only
  refine dT ?_;by_cases ho:a<0\/(l.length:Int)<=a\/b<0\/(l.length:Int)<=b
  ·rw [aVH hc ho] at hy;subst hy;refine zH (fls 0 31 .done) ?_;refine squ ?_;by_cases o1:a<0
   ·try refine gR ?_
    refine xE ?_;refine sqs ?_;exact zR Tryz.func74
   by_cases o2:(l.length:Int)<=a
   ·try refine gR ?_
    refine xE ?_;refine sqs ?_;exact zR Tryz.func74
   by_cases o3:b<0
   ·try refine gR ?_
    refine xE ?_;refine sqs ?_;exact zR Tryz.func74
   refine mE ?_;refine sqs ?_;exact zR Tryz.func74
  obtain ⟨i,rfl⟩:∃i:Nat,a=i:=⟨a.toNat,by omega⟩;obtain ⟨j,rfl⟩:∃j:Nat,b=j:=⟨b.toNat,by omega⟩;have i1:i<l.length:=by omega
  have j1:j<l.length:=by omega
  rw [bAK hc i1 j1] at hy;refine zH (fls 0 31 .done) ?_;refine aBF ?_;conv=>whnf
  refine ⟨_,dK i1,?_⟩;conv=>whnf
  try (refine oN ?_;conv=>whnf)
  conv=>whnf
  refine ⟨_,dK j1,?_⟩;conv=>whnf
  refine ⟨fun hb=>?_,fun hb=>?_⟩<;>conv=>whnf
  ·try refine gR ?_
   refine sqv ?_;refine zH (fls 0 6 (.e1 6 [] (fls 7 3 (.e1 10 [] (.fl 11 .done))))) ?_;refine aBF ?_;conv=>whnf
   refine ⟨_,dK i1,?_⟩;conv=>whnf
   try (refine oN ?_;conv=>whnf)
   conv=>whnf
   refine aK.callV (fun _ _ _ _ K=>nT r l[i].scale (hT.keeps ⟨K.size,K.same⟩)) zP ?_;refine aBF ?_;refine sqs ?_;rw [if_neg (fun e=>e hb)] at hy;refine ⟨fun hm=>?_,fun hm=>?_⟩<;>conv=>whnf
   ·try refine gR ?_
    refine sqv ?_;rw [if_neg (fun e=>e hm)] at hy;refine zH (fls 0 6 (.e1 6 [] (fls 7 2 (.e1 9 [] (.fl 10 .done))))) ?_;refine aBF ?_;conv=>whnf
    refine ⟨_,dK j1,?_⟩;conv=>whnf
    try (refine oN ?_;conv=>whnf)
    conv=>whnf
    refine aK.callV (fun _ _ _ _ K=>qDiv_fn (fI r l[i].scale).1 l[j].scale (hT.keeps ⟨K.size,K.same⟩)) zP ?_;refine aBF ?_;refine sqs ?_;subst hy;exact zR Tryz.func74
   refine sqr ?_;refine sqs ?_;rw [if_pos hm] at hy;subst hy;exact zR Tryz.func74
  refine sqr ?_;refine sqs ?_;rw [if_pos hb] at hy;subst hy;exact zR Tryz.func74
 rw [aXC hc] at hy;subst hy;refine aA.callV (fun _ _ _ Sz K=>vZ l hi (Sz.ro (b:=0) rfl) (hT.keeps ⟨K.size,K.same⟩)) ?_;refine bFP ?_;exact zR Tryz.func74

abbrev FewS (a:Rt):Prop:=(a.n.size:Int)<=40/\(a.d.size:Int)<=40
def FewU (l:List Un):Prop:=(∀u∈l,FewS u.scale)/\l.length<=8
instance (l:List Un):Decidable (FewU l):=by unfold FewU;infer_instance
theorem bEK {h:Array Obj} (a b:List Un) {va vb:Value} (hva:Ro h va 8 (aL a)) (hvb:Ro h vb 8 (aL b)):FV 96 #[va,vb] h (.bool (decide (a=b))):=by
 have hla:=aZ a;have hlb:=aZ b;have hma:=hva.len;have hmb:=hvb.len;obtain ⟨r,hr⟩:∃r,r=decide (a=b):=⟨_,rfl⟩;rw [<-hr];refine zG 2 (show Ros _ [va,vb] [(8,aL a),(8,aL b)] from ⟨hva,hvb,trivial⟩) [.buf 0,.buf 1] Tryz.func96 Tryz.ntmps96 fun w0 cs=>?_;refine ⟨fun h1=>?_,fun h1=>?_⟩<;>conv=>whnf
 ·have h1:a.length=b.length:=by omega
  conv=>whnf
  refine zL (fun (k:Nat)=>[(5,nV k),(0,.buf 0),(1,.buf 1)]) (fun k=>[(0,.ro 8 (aL a)),(1,.ro 8 (aL b))]) 2 (fun k=>k<=a.length/\a.take k=b.take k) (fun k=>a.length - k) (0) (⟨Nat.zero_le _,rfl⟩) ?_;rintro k hJ back;try dsimp only at hJ back
  conv=>whnf
  try dsimp only
  refine gS ?_;conv=>whnf
  refine ⟨fun hk=>?_,fun hk=>?_⟩<;>conv=>whnf
  ·have hk:k<a.length:=by omega
   have hkb:k<b.length:=by omega
   conv=>whnf
   refine zH (fls 0 9 .done) ?_;refine aBF ?_;conv=>whnf
   refine ⟨_,dK hk,?_⟩;conv=>whnf
   try (refine oN ?_;conv=>whnf)
   refine xE ?_;conv=>whnf
   refine ⟨_,dK hkb,?_⟩;conv=>whnf
   try (refine oN ?_;conv=>whnf)
   conv=>whnf
   refine ⟨fun he=>?_,fun he=>?_⟩<;>conv=>whnf
   ·try refine gR ?_
    refine bFP ?_;exact zb (back (k+1) ((⟨hk,aLM hk hkb hJ.2 (Un.ext8 he)⟩)) (by (try dsimp only);omega))
   refine sqr ?_;refine sqs ?_;have:r=false:=by
    rw [hr];refine decide_eq_false fun e=>he ?_;subst e;exact Un.ext8_iff.1 rfl
   rw [this];exact zR Tryz.func96
  have hk:k=a.length:=by omega
  have h2:=hJ.2;rw [hk,List.take_length,h1,List.take_length] at h2;have:r=true:=by rw [hr];exact decide_eq_true h2
  conv=>whnf
  rw [this];exact zR Tryz.func96
 have:r=false:=by rw [hr];exact decide_eq_false (fun e=>h1 (by rw [e]))
 rw [this];conv=>whnf
 exact zR Tryz.func96

instance decRtU:DecidableEq Go.RatM.Rt:=fun a b=>decidable_of_iff (a.neg=b.neg/\a.n=b.n/\a.d=b.d) ⟨fun h=>by cases a;cases b;obtain ⟨rfl,rfl,rfl⟩:=h;rfl,fun h=>by subst h;exact ⟨rfl,rfl,rfl⟩⟩
instance (l:List Un):Decidable (aTJ l):=by unfold aTJ;infer_instance


theorem aTW {l:List Un}:(l.map Un.name).Nodup ↔ ∀k (hk:k<l.length),iW l l[k].name=k:=by
 constructor
 ·intro h k hk;refine yH.2 ⟨hk,rfl,fun j hj e=>?_⟩;have:=(List.pairwise_iff_getElem.1 h) j k (by rw [List.length_map];omega) (by rw [List.length_map];omega) hj;simp only [List.getElem_map] at this;exact this e
 intro h;refine List.pairwise_iff_getElem.2 fun i j hi hj hij e=>?_;rw [List.length_map] at hi hj;rw [List.getElem_map,List.getElem_map] at e;have h1:=h i hi;have h2:=h j hj;rw [<-e,h1] at h2;omega
theorem bDK:∀ {x y:List Un} (nm:ByteArray),x.map Un.name=y.map Un.name->iW x nm=iW y nm:=by
 have key:∀(x:List Un) (nm:ByteArray),iW x nm=match (x.map Un.name).findIdx? (fun s=>decide (s=nm)) with|some k=>(k:Int)|none=> -1:=fun x nm=>by
  unfold iW;rw [List.findIdx?_map];rfl
 intro x y nm h;rw [key,key,h]
theorem bDY {l:List Un} {i:Nat} (nm:ByteArray) (hi:i<=l.length):iW (l.take i) nm=if iW l nm<i then iW l nm else -1:=by
 by_cases h:iW l nm<0
 ·have h1:=aXZ h;rw [yA.2 h1,yA.2 fun u hu=>h1 u (List.mem_of_mem_take hu)];exact (if_pos (by omega)).symm
 obtain ⟨k,hk,hk1,hk2,hk3⟩:=bFS (l:=l) (nm:=nm) (by omega);rw [hk];by_cases hik:k<i
 ·rw [if_pos (by omega)];refine yH.2 ⟨by rw [List.length_take];omega,by rw [List.getElem_take];exact hk2,fun j hj=>?_⟩;rw [List.getElem_take];exact hk3 j hj
 rw [if_neg (by omega)];refine yA.2 fun u hu e=>?_;obtain ⟨j,hj,rfl⟩:=List.getElem_of_mem hu;rw [List.length_take] at hj;rw [List.getElem_take] at e;exact hk3 j (by omega) e
theorem bDO {h:Array Obj} (l:List Un) {v:Value} (hv:Ro h v 8 (aL l)) (s:ByteArray):FV 203 #[v,.string s] h (.int .i64 (iW l s)):=by
 have hl:=aZ l;have hm:=hv.len;obtain ⟨r,hr⟩:∃r,r=iW l s:=⟨_,rfl⟩;rw [<-hr];refine zG 1 (show Ros _ [v] [(8,aL l)] from ⟨hv,trivial⟩) [.buf 0,.v (.string s)] Tryz.func203 Tryz.ntmps203 fun w0 cs=>?_;refine zL (fun (k:Nat)=>[(5,nV k),(0,.buf 0),(1,.v (.string s))]) (fun k=>[(0,.ro 8 (aL l))]) 1 (fun k=>k<=l.length /\ ∀j (hj:j<k) (hjl:j<l.length),l[j].name≠s) (fun k=>l.length - k) (0) (⟨Nat.zero_le _,fun j hj=>absurd hj (Nat.not_lt_zero _)⟩) ?_;rintro k hJ back;try dsimp only at hJ back
 conv=>whnf
 try dsimp only
 refine gS ?_;conv=>whnf
 refine ⟨fun hk=>?_,fun hk=>?_⟩<;>conv=>whnf
 ·have hk:k<l.length:=by omega
  refine cG ?_;refine ⟨_,dK hk,?_⟩;conv=>whnf
  refine ⟨fun hn=>?_,fun hn=>?_⟩<;>conv=>whnf
  ·conv=>whnf
   have:r=k:=by rw [hr];exact yH.2 ⟨hk,hn,fun j hj=>hJ.2 j hj (by omega)⟩
   rw [this];exact zR Tryz.func203
  refine cG ?_;exact zb (back (k+1) ((⟨hk,fun j hj hjl=>(Nat.lt_succ_iff_lt_or_eq.1 hj).elim (fun hj=>hJ.2 j hj hjl) (fun e=>by subst e;exact hn)⟩)) (by (try dsimp only);omega))
 conv=>whnf
 have:r = -1:=by
  rw [hr,yA];intro w hw;obtain ⟨j,hj,rfl⟩:=List.getElem_of_mem hw;exact hJ.2 j (by omega) hj
 rw [this];exact zR Tryz.func203
def aSU (u:Un):Prop:=if u.of_=NatM.mt then u.n=0/\u.d=0 else btw u.n/\btw u.d
instance (u:Un):Decidable (aSU u):=by unfold aSU;infer_instance
theorem bDQ {h:Array Obj} (u:Un):FV 204 #[u.v] h (.bool (decide (aSU u))):=by
 obtain ⟨r,hr⟩:∃r,r=decide (aSU u):=⟨_,rfl⟩;rw [<-hr];refine zO Tryz.func204 Tryz.ntmps204 (args:=[u.v]) fun w0 cs=>?_;refine ⟨fun h0=>?_,fun h0=>?_⟩<;>conv=>whnf
 ·conv=>whnf
  have e:aSU u↔(u.n=0/\u.d=0):=by unfold aSU;rw [if_pos h0]
  by_cases h1:u.n=0
  ·by_cases h2:u.d=0
   ·refine cG ?_;have:r=true:=by rw [hr];exact decide_eq_true (e.2 ⟨h1,h2⟩)
    rw [this];refine zW Tryz.func204 fun Ez=>?_;exact congrArg Value.bool (decide_eq_true h2)
   refine cG ?_;have:r=false:=by rw [hr];exact decide_eq_false (fun h=>h2 (e.1 h).2)
   rw [this];refine zW Tryz.func204 fun Ez=>?_;exact congrArg Value.bool (decide_eq_false h2)
  refine cG ?_;have:r=false:=by rw [hr];exact decide_eq_false (fun h=>h1 (e.1 h).1)
  rw [this];exact zR Tryz.func204
 conv=>whnf
 have e:aSU u↔(btw u.n/\btw u.d):=by unfold aSU;rw [if_neg h0]
 by_cases h1:btw u.n/\btw u.d
 ·have:r=true:=by rw [hr];exact decide_eq_true (e.2 h1)
  rw [this];refine cG ?_;refine zW Tryz.func204 fun Ez=>?_
  first|rfl|exact congrArg Value.bool (decide_eq_true (by omega))
 have:r=false:=by rw [hr];exact decide_eq_false (fun h=>h1 (e.1 h))
 rw [this];by_cases k1:1<=u.n
 ·by_cases k2:u.n<=1000000
  ·by_cases k3:1<=u.d
   ·refine cG ?_;refine zW Tryz.func204 fun Ez=>?_
    first|rfl|exact congrArg Value.bool (decide_eq_false (by omega))
   refine cG ?_;exact zR Tryz.func204
  refine cG ?_;exact zR Tryz.func204
 refine cG ?_;exact zR Tryz.func204
theorem aSO (l:List Un) (hl:l.length<=9223372036854775807) (hi:aTJ l):
  FnS Tryz.prog 95 1 [.buf 0] [(0,.ro 8 (aL l))] (fun _:Unit=>True) (fun _=>resO (dA l)):=by
 have hlr:=aZ l;obtain ⟨r,hr⟩:∃r,r=dA l:=⟨_,rfl⟩;rw [<-hr];unfold dA at hr;refine zS Tryz.func95 Tryz.ntmps95 fun E0 F h w0 cs=>?_;refine ⟨fun h1=>?_,fun h1=>?_⟩<;>conv=>whnf
 ·rw [if_pos (by omega)] at hr;subst hr;conv=>whnf
  exact zI Tryz.func95 () trivial
 rw [if_neg (by omega)] at hr;have h1:l.length<=32:=by omega
 conv=>whnf
 refine zL (fun (k:Nat)=>[(4,nV k),(0,.buf 0)]) (fun k=>[(0,.ro 8 (aL l))]) 1 (fun k=>k<=l.length /\ ∀j (hj:j<k) (hjl:j<l.length),iW l l[j].name=j) (fun k=>l.length - k) (0) (⟨Nat.zero_le _,fun j hj=>absurd hj (Nat.not_lt_zero _)⟩) ?_;rintro k hJ back;conv=>whnf
 refine gS ?_;conv=>whnf
 refine ⟨fun hk=>?_,fun hk=>?_⟩<;>conv=>whnf
 ·have hk:k<l.length:=by omega
  refine cG ?_;refine ⟨_,dK hk,?_⟩;conv=>whnf
  refine aA.callV (fun _ _ _ Sz _=>bDO l (Sz.ro (b:=0) rfl) l[k].name) ?_;refine sqv ?_;refine ⟨fun hn=>?_,fun hn=>?_⟩<;>conv=>whnf
  ·refine cG ?_;exact zb (back (k+1) ((⟨hk,fun j hj hjl=>(Nat.lt_succ_iff_lt_or_eq.1 hj).elim (fun hj=>hJ.2 j hj hjl) (fun e=>by subst e;exact hn)⟩)) (by (try dsimp only);omega))
  conv=>whnf
  rw [if_pos (fun h=>hn (aTW.1 h k hk))] at hr;subst hr;exact zI Tryz.func95 () trivial
 have hn:(l.map Un.name).Nodup:=aTW.2 fun j hj=>hJ.2 j (by omega) hj;rw [if_neg (fun h=>h hn)] at hr;clear hJ back;conv=>whnf
 refine zL (fun (⟨k,x⟩:Nat×List Un)=>[(6,nV k),(5,.buf 1),(0,.buf 0)]) (fun ⟨k,x⟩=>[aPI 1 x,(0,.ro 8 (aL l))]) 2 (fun ⟨k,x⟩=>k<=l.length/\x.length=k/\bDE x/\r=sR (l.drop k) x/\x.map Un.name=(l.take k).map Un.name) (fun ⟨k,x⟩=>l.length - k) ((0,[])) (⟨Nat.zero_le _,rfl,bDE.nil,hr,by simp⟩) ?_;rintro ⟨k,x⟩ hJ back;try dsimp only at hJ back
 conv=>whnf
 try dsimp only
 refine gS ?_;conv=>whnf
 refine ⟨fun hk=>?_,fun hk=>?_⟩<;>conv=>whnf
 ·have hk:k<l.length:=by omega
  have hd:l.drop k=l[k]::l.drop (k+1):=List.drop_eq_getElem_cons hk;obtain ⟨hJ1,hJ2,hJ3,hJ4,hJ5⟩:=hJ;rw [hd] at hJ4;simp only [sR] at hJ4;have hxr:=aZ x;have nx:∀v:Un,v.name=l[k].name->(x++[v]).map Un.name=(l.take (k+1)).map Un.name:=fun v hv=>by
   rw [List.map_append,hJ5,List.take_add_one,List.getElem?_eq_getElem hk,List.map_append]
   simp [hv]
  refine cG ?_;refine ⟨_,dK hk,?_⟩;conv=>whnf
  try (refine oN ?_;conv=>whnf)
  by_cases hf:aSU l[k]
  ·refine zc (fun _ _=>bDQ l[k]) ?_;conv=>whnf
   rw [decide_eq_true hf];refine sqs ?_;refine zc (fun _ _=>aKX 1 1 (by omega) (by omega)) ?_;conv=>whnf
   rw [aYZ];refine sqs ?_;refine ⟨fun e0=>?_,fun e0=>?_⟩<;>conv=>whnf
   ·have st:iP x l[k]=.inl (l[k].re k yT):=by
     unfold iP;unfold aSU at hf;rw [if_pos e0] at hf;rw [if_pos e0,hJ2,if_pos hf]
    rw [st] at hJ4;conv=>whnf
    refine And.intro (aOS (by rw [aZ];omega)) ?_;conv=>whnf
    refine sqC ?_;refine aA.rowsEq (5) (aHX x (l[k].re k yT)) ?_;conv=>whnf
    exact zb (back ((k+1,x++[(l[k].re k yT)])) ((⟨hk,by rw [List.length_append,hJ2];rfl,hJ3.step (by omega) st,hJ4,nx _ rfl⟩)) (by (try dsimp only);omega)) [(1,5)]
   have hb:btw l[k].n/\btw l[k].d:=by
    unfold aSU at hf;rw [if_neg e0] at hf;exact hf
   have hfx:iW x l[k].of_=if iW l l[k].of_<k then iW l l[k].of_ else -1:=by
    rw [bDK _ hJ5,bDY _ hJ1]
   conv=>whnf
   refine aA.callV (fun _ _ _ Sz _=>bDO l (Sz.ro (b:=0) rfl) l[k].of_) ?_;refine sqv ?_;by_cases hn1:iW l l[k].of_<0
   ·have st:iP x l[k]=.inr 110:=by
     unfold iP;rw [if_neg e0,if_pos hb];split
     ·rw [if_pos (by rw [hfx];split<;>omega)]
     rfl
    rw [st] at hJ4;subst hJ4;refine cG ?_;exact zI Tryz.func95 () trivial
   by_cases hn2:(k:Int)<=iW l l[k].of_
   ·have st:iP x l[k]=.inr 110:=by
     unfold iP;rw [if_neg e0,if_pos hb];split
     ·rw [if_pos (by rw [hfx];split<;>omega)]
     rfl
    rw [st] at hJ4;subst hJ4;refine cG ?_;exact zI Tryz.func95 () trivial
   rw [if_pos (by omega)] at hfx;obtain ⟨j,hj⟩:∃j:Nat,iW l l[k].of_=j:=⟨(iW l l[k].of_).toNat,by omega⟩;rw [hj] at hfx hn1 hn2 ⊢;have hj1:j<x.length:=by omega
   have st:iP x l[k]=.inl (l[k].re x[j].base (fI x[j].scale (eU l[k].n l[k].d).1).1):=by
    unfold iP;rw [if_neg e0,if_pos hb,hfx,Int.toNat_natCast,List.getElem?_eq_getElem hj1];exact if_neg (by omega)
   rw [st] at hJ4;have hi':=hi l[k] (List.getElem_mem hk);refine cG ?_;refine zc (fun _ _=>aKX l[k].n l[k].d hi'.1 hi'.2) ?_;refine bFP ?_;refine ⟨_,dK hj1,?_⟩;conv=>whnf
   refine zH (fls 0 6 (.e1 6 [] (fls 7 4 (.e1 11 [] .done)))) ?_;refine aBF ?_;conv=>whnf
   refine ⟨_,dK hj1,?_⟩;conv=>whnf
   try (refine oN ?_;conv=>whnf)
   conv=>whnf
   refine zk (fun _ _=>aKV x[j].scale (eU l[k].n l[k].d).1) ?_;refine aBF ?_;refine sqs ?_;refine And.intro (aOS (by rw [aZ];omega)) ?_;conv=>whnf
   refine sqC ?_;refine aA.rowsEq (6) (aHX x (l[k].re x[j].base (fI x[j].scale (eU l[k].n l[k].d).1).1)) ?_;conv=>whnf
   exact zb (back ((k+1,x++[l[k].re x[j].base (fI x[j].scale (eU l[k].n l[k].d).1).1])) ((⟨hk,by rw [List.length_append,hJ2];rfl,hJ3.step (by omega) st,hJ4,nx _ rfl⟩)) (by (try dsimp only);omega)) [(1,6)]
  have st:iP x l[k]=.inr 90:=by
   unfold iP;unfold aSU at hf;split
   ·rename_i e0
    rw [if_pos e0] at hf;exact if_neg hf
   rename_i e0
   rw [if_neg e0] at hf;exact if_neg hf
  rw [st] at hJ4;subst hJ4;refine zc (fun _ _=>bDQ l[k]) ?_;conv=>whnf
  rw [decide_eq_false hf];try dsimp only
  refine sqs ?_;exact zI Tryz.func95 () trivial
 have hk:k=l.length:=by omega
 have hJ4:=hJ.2.2.2.1;rw [hk,List.drop_length] at hJ4;have hJ4:r=.inl x:=hJ4;conv=>whnf
 rw [hJ4];exact zI Tryz.func95 (()) (trivial) [(1,1)]

theorem rresOk {l x:List Un} (hl:l.length<=9223372036854775807) (hi:aTJ l) (hx:dA l=.inl x):
  FnS Tryz.prog 95 1 [.buf 0] [(0,.ro 8 (aL l))] (fun _:Unit=>True) (fun _=>.ret (.tup [.buf 1,nV 0]) 2 [aPI 1 x]):=by
 have:=aSO l hl hi;rw [hx] at this;exact this
theorem rresNo {l:List Un} {e:Int} (hl:l.length<=9223372036854775807) (hi:aTJ l) (hx:dA l=.inr e):
  FnS Tryz.prog 95 1 [.buf 0] [(0,.ro 8 (aL l))] (fun _:Unit=>True) (fun _=>.ret (.tup [.v (.slice none 0 0),nV e]) 1 []):=by
 have:=aSO l hl hi;rw [hx] at this;exact this
theorem aKO {h:Array Obj} (l:List Un) (hi:aTJ l) {v:Value} (hv:Ro h v 8 (aL l)):FV 59 #[v] h (.int .i64 (eT l)):=by
 have hl:=aZ l;have hm:=hv.len;refine zG 1 (show Ros _ [v] [(8,aL l)] from ⟨hv,trivial⟩) [.buf 0] Tryz.func59 Tryz.ntmps59 fun w0 cs=>?_
 cases hx:dA l with
 |inr e=>
  have he:=aJV hx;have:eT l=e:=by unfold eT;rw [hx]
  rw [this];refine zN (rresNo (by omega) hi hx) [0] ?_;refine dT ?_;exact zR Tryz.func59
 |inl x=>
  have hc:eT l=if x=l then 0 else 90:=by unfold eT;rw [hx]
  rw [hc];refine zN (rresOk (by omega) hi hx) [0] ?_;refine dT ?_;by_cases he:x=l
  ·refine aA.callV (fun _ _ _ Sz _=>bEK x l (Sz.ro (b:=1) rfl) (Sz.ro (b:=0) rfl)) ?_;conv=>whnf
   rw [decide_eq_true he];try dsimp only
   refine sqs ?_;rw [if_pos he];exact zR Tryz.func59
  refine aA.callV (fun _ _ _ Sz _=>bEK x l (Sz.ro (b:=1) rfl) (Sz.ro (b:=0) rfl)) ?_;conv=>whnf
  rw [decide_eq_false he];try dsimp only
  refine sqs ?_;rw [if_neg he];exact zR Tryz.func59
theorem bEW {a b:Rt} (h:(aLG a b).2≠0):aLG a b=(zr,(aLG a b).2):=by
 unfold aLG at h ⊢;split
 ·split
  ·rfl
  rename_i h1 h2
  rw [if_pos h1,if_neg h2] at h
  revert h
  cases aCK (sZ a) (aBY (sZ b)) with
  |none=>intro _;rfl
  |some q=>intro h;exact absurd rfl h
 rfl
theorem bDL {h:Array Obj} (l:List Un) (hi:aTJ l) {v:Value} (hv:Ro h v 8 (aL l)) (a b:Int) (r:Rt):FnV Tryz.prog 272 #[v,.int .i64 a,.int .i64 b,r.v] h fun y h'=>y=rev (uN l a b r)/\aH h.size h h':=by
 have hl:=aZ l;have hm:=hv.len;obtain ⟨y,hy⟩:∃y,y=uN l a b r:=⟨_,rfl⟩;rw [<-hy];refine zG 1 (show Ros _ [v] [(8,aL l)] from ⟨hv,trivial⟩) [.buf 0,nV a,nV b,.agg [.v (.bool r.neg),.v (.string r.n),.v (.string r.d)]] Tryz.func272 Tryz.ntmps272 fun w0 cs=>?_;by_cases hc:eT l=0
 ·refine aA.callV (fun _ _ _ Sz _=>aKO l hi (Sz.ro (b:=0) rfl)) ?_;conv=>whnf
  rw [hc];try dsimp only
  refine dT ?_;by_cases ho:a<0\/(l.length:Int)<=a\/b<0\/(l.length:Int)<=b
  ·rw [aVH hc ho] at hy;subst hy;refine zH (fls 0 31 .done) ?_;refine squ ?_;by_cases o1:a<0
   ·try refine gR ?_
    refine xE ?_;refine sqs ?_;exact zR Tryz.func272
   by_cases o2:(l.length:Int)<=a
   ·try refine gR ?_
    refine xE ?_;refine sqs ?_;exact zR Tryz.func272
   by_cases o3:b<0
   ·try refine gR ?_
    refine xE ?_;refine sqs ?_;exact zR Tryz.func272
   refine mE ?_;refine sqs ?_;exact zR Tryz.func272
  obtain ⟨i,rfl⟩:∃i:Nat,a=i:=⟨a.toNat,by omega⟩;obtain ⟨j,rfl⟩:∃j:Nat,b=j:=⟨b.toNat,by omega⟩;have i1:i<l.length:=by omega
  have j1:j<l.length:=by omega
  rw [bAK hc i1 j1] at hy;refine zH (fls 0 31 .done) ?_;refine aBF ?_;conv=>whnf
  refine ⟨_,dK i1,?_⟩;conv=>whnf
  try (refine oN ?_;conv=>whnf)
  conv=>whnf
  refine ⟨_,dK j1,?_⟩;conv=>whnf
  refine ⟨fun hb=>?_,fun hb=>?_⟩<;>conv=>whnf
  ·try refine gR ?_
   refine sqv ?_;rw [if_neg (fun e=>e hb)] at hy;refine aA.join (fun (_:Unit)=>[(11,.ptr 3 0),(10,nV ((fI r l[i].scale).2)),(8,.ptr 2 0),(2,nV (j:Int)),(0,.buf 0)]) (fun (_:Unit)=>[rtB 3 (fI r l[i].scale).1,(2,.cells 35 [.v (.bool false),.v (.string ⟨#[]⟩),.v (.string ⟨#[]⟩)]),(0,.ro 8 (aL l))]) 4 (fun (_:Unit)=>True) ?_ (fun meet=>?_);rotate_left
   ·refine zH (fls 0 6 (.e2 6 [] (fls 7 3 (.e1 10 [0,5] (.e1 11 [] (.fl 12 .done)))) 10 [0,5] (.e1 6 [] (fls 7 3 (.e1 11 [] (.fl 12 .done)))))) ?_;refine aBF ?_;conv=>whnf
    refine ⟨_,dK i1,?_⟩;conv=>whnf
    try (refine oN ?_;conv=>whnf)
    conv=>whnf
    refine ⟨?_,?_⟩<;>conv=>whnf
    ·refine zk (fun _ _=>aKV r l[i].scale) ?_;refine aBF ?_;refine sqs ?_;exact zb (meet (()) (by first|trivial|omega|((try dsimp only);omega)))
    refine mE ?_;conv=>whnf
    refine zk (fun _ _=>aKV r l[i].scale) ?_;refine aBF ?_;refine sqs ?_;exact zb (meet (()) (by first|trivial|omega|((try dsimp only);omega)))
   intro _ _;refine sqs ?_;refine ⟨fun hm=>?_,fun hm=>?_⟩<;>conv=>whnf
   ·conv=>whnf
    rw [if_neg (fun e=>e hm)] at hy;refine aA.join (fun (_:Unit)=>[(12,.ptr 4 0),(10,nV ((aLG (fI r l[i].scale).1 l[j].scale).2)),(8,.ptr 2 0)]) (fun (_:Unit)=>[rtB 4 (aLG (fI r l[i].scale).1 l[j].scale).1,(2,.cells 35 [.v (.bool false),.v (.string ⟨#[]⟩),.v (.string ⟨#[]⟩)])]) 5 (fun (_:Unit)=>True) ?_ (fun meet=>?_);rotate_left
    ·refine zH (fls 0 6 (.e2 6 [] (fls 7 3 (.e1 10 [0,5] (.e1 11 [] (.fl 12 .done)))) 10 [0,5] (.e1 6 [] (fls 7 3 (.e1 11 [] (.fl 12 .done)))))) ?_;refine aBF ?_;conv=>whnf
     refine ⟨_,dK j1,?_⟩;conv=>whnf
     try (refine oN ?_;conv=>whnf)
     conv=>whnf
     refine ⟨?_,?_⟩<;>conv=>whnf
     ·refine zk (fun _ _=>bDU (fI r l[i].scale).1 l[j].scale) ?_;refine aBF ?_;refine sqs ?_;exact zb (meet (()) (by first|trivial|omega|((try dsimp only);omega)))
     refine mE ?_;conv=>whnf
     refine zk (fun _ _=>bDU (fI r l[i].scale).1 l[j].scale) ?_;refine aBF ?_;refine sqs ?_;exact zb (meet (()) (by first|trivial|omega|((try dsimp only);omega)))
    intro _ _;refine sqs ?_;refine ⟨fun hd=>?_,fun hd=>?_⟩<;>conv=>whnf
    ·conv=>whnf
     subst hy;refine aA.retU (aB.ret tab Tryz.func272 rfl fun Ez Hz Az Sz K=>⟨_,rfl,(congrArg (fun e=>rev ((aLG (fI r l[i].scale).1 l[j].scale).1,e)) hd.symm),K.keeps⟩)
    conv=>whnf
    rw [bEW hd] at hy;subst hy;exact zR Tryz.func272
   conv=>whnf
   rw [if_pos hm] at hy;subst hy;exact zR Tryz.func272
  refine sqr ?_;refine sqs ?_;rw [if_pos hb] at hy;subst hy;exact zR Tryz.func272
 rw [aXC hc] at hy;subst hy;refine aA.callV (fun _ _ _ Sz _=>aKO l hi (Sz.ro (b:=0) rfl)) ?_;refine bFP ?_;exact zR Tryz.func272
end Go.Proofs.YthjedpdedjhndaaGreatDoor

namespace Go.SrcM
open Go Go.Fw Go.RatM
abbrev rws {α:Type} (f:α->List Value) (l:List α):List (List Value):=l.map f
theorem aE {α:Type} (f:α->List Value) (l:List α):(rws f l).length=l.length:=by simp [rws]
theorem bA {α:Type} {f:α->List Value} {l:List α} {k:Nat} (hk:k<l.length):(rws f l)[k]? = some (f l[k]):=by simp [rws,hk]
abbrev bV (l:List ByteArray):List (List Value):=rws (fun s=>[Value.string s]) l
theorem cK (l:List ByteArray):(bV l).length=l.length:=aE _ l
structure It where
 name:ByteArray
 unit:ByteArray
 mn:Int
 md:Int
 shelf:Int
 un:Int
def It.row (i:It):List Value:=[.string i.name,.string i.unit,.int .i64 i.mn,.int .i64 i.md,.int .i64 i.shelf,.int .i64 i.un]
structure Mc where
 name:ByteArray
 plant:ByteArray
 clean:Int
 pn:Int
def Mc.row (i:Mc):List Value:=[.string i.name,.string i.plant,.int .i64 i.clean,.int .i64 i.pn]
structure Cd where
 opt:ByteArray
 ch:ByteArray
 on:Int
 cn:Int
def Cd.row (i:Cd):List Value:=[.string i.opt,.string i.ch,.int .i64 i.on,.int .i64 i.cn]
structure Am where
 n:Int
 d:Int
 unit:ByteArray
 item:ByteArray
 back:Bool
 un:Int
 inn:Int
def Am.row (i:Am):List Value:=[.int .i64 i.n,.int .i64 i.d,.string i.unit,.string i.item,.bool i.back,.int .i64 i.un,.int .i64 i.inn]
structure Rn where
 mach:ByteArray
 slots:Int
 mn:Int
def Rn.row (i:Rn):List Value:=[.string i.mach,.int .i64 i.slots,.int .i64 i.mn]
structure Sw where
 a:ByteArray
 b:ByteArray
 an:Int
 bn:Int
def Sw.row (i:Sw):List Value:=[.string i.a,.string i.b,.int .i64 i.an,.int .i64 i.bn]
structure Hd where
 a:Option Addr
 c:Nat
abbrev Hd.v (h:Hd) (n:Nat):Value:=.slice h.a n h.c
structure OpV where
 name:ByteArray
 hd:Hd
 ch:List ByteArray
def OpV.row (i:OpV):List Value:=[.string i.name,.slice i.hd.a i.ch.length i.hd.c]
structure FbV where
 hd:Hd
 cs:List Cd
def FbV.row (i:FbV):List Value:=[.slice i.hd.a i.cs.length i.hd.c]
structure RcV where
 item:ByteArray
 plant:ByteArray
 fr:Int
 to:Int
 hc:Hd
 cs:List Cd
 hi:Hd
 inn:List Am
 ho:Hd
 out:List Am
 rwN:Int
 rwD:Int
 yN:Int
 yD:Int
 tN:Int
 tD:Int
 lead:Int
 hr:Hd
 runs:List Rn
 inum:Int
 pnum:Int
def RcV.row (r:RcV):List Value:=[.string r.item,.string r.plant,.int .i64 r.fr,.int .i64 r.to,.slice r.hc.a r.cs.length r.hc.c,.slice r.hi.a r.inn.length r.hi.c,.slice r.ho.a r.out.length r.ho.c,.int .i64 r.rwN,.int .i64 r.rwD,.int .i64 r.yN,.int .i64 r.yD,.int .i64 r.tN,.int .i64 r.tD,.int .i64 r.lead,.slice r.hr.a r.runs.length r.hr.c,.int .i64 r.inum,.int .i64 r.pnum]
structure aG where
 units:List Un
 items:List It
 plants:List ByteArray
 machines:List Mc
 options:List OpV
 forbids:List FbV
 recipes:List RcV
 swaps:List Sw
abbrev xY (vU vI vP vM vO vF vR vS:Value):Value:=.agg #[vU,vI,vP,vM,vO,vF,vR,vS]
section
variable (G:Nat->Prop) (h:Array Obj)
def OpV.ok (o:OpV):Prop:=RoF G h (o.hd.v o.ch.length) 1 (bV o.ch)
def FbV.ok (o:FbV):Prop:=RoF G h (o.hd.v o.cs.length) 4 (rws Cd.row o.cs)
structure RcV.ok (r:RcV):Prop where
 c:RoF G h (r.hc.v r.cs.length) 4 (rws Cd.row r.cs)
 i:RoF G h (r.hi.v r.inn.length) 7 (rws Am.row r.inn)
 o:RoF G h (r.ho.v r.out.length) 7 (rws Am.row r.out)
 rn:RoF G h (r.hr.v r.runs.length) 3 (rws Rn.row r.runs)
structure aG.sub (s:aG):Prop where
 o:∀o∈s.options,o.ok G h
 f:∀o∈s.forbids,o.ok G h
 r:∀o∈s.recipes,o.ok G h
end
section
variable {G G':Nat->Prop} {h h':Array Obj}
theorem OpV.ok.up {o:OpV} (H:o.ok G h) (U:Up G h G' h'):o.ok G' h':=RoF.up U H
theorem FbV.ok.up {o:FbV} (H:o.ok G h) (U:Up G h G' h'):o.ok G' h':=RoF.up U H
theorem RcV.ok.up {o:RcV} (H:o.ok G h) (U:Up G h G' h'):o.ok G' h':=⟨RoF.up U H.c,RoF.up U H.i,RoF.up U H.o,RoF.up U H.rn⟩
theorem aG.sub.up {s:aG} (H:s.sub G h) (U:Up G h G' h'):s.sub G' h':=⟨fun o ho=>(H.o o ho).up U,fun o ho=>(H.f o ho).up U,fun o ho=>(H.r o ho).up U⟩
theorem Up.kp {F:Nat->Prop} (K:Kp F h h'):Up F h (fun k=>k<h'.size) h':=⟨fun i hi=>Nat.lt_of_lt_of_le (K.lt i hi) K.size,K.same⟩
theorem Up.below {F:Nat->Prop} (hG:∀i,G i->F i) (K:Kp F h h'):Up G h' (fun k=>k<h'.size) h':=⟨fun i hi=>Nat.lt_of_lt_of_le (K.lt i (hG i hi)) K.size,fun _ _=>rfl⟩
structure Top (h:Array Obj) (vU vI vP vM vO vF vR vS:Value) (s:aG):Prop where
 U:Ro h vU 8 (aL s.units)
 I:Ro h vI 6 (rws It.row s.items)
 P:Ro h vP 1 (bV s.plants)
 M:Ro h vM 4 (rws Mc.row s.machines)
 O:Ro h vO 2 (rws OpV.row s.options)
 F:Ro h vF 1 (rws FbV.row s.forbids)
 R:Ro h vR 17 (rws RcV.row s.recipes)
 S:Ro h vS 4 (rws Sw.row s.swaps)
 below:s.sub (fun k=>k<h.size) h
theorem RcV.ok.tok (r:RcV):TOk (fun F h=>r.ok F h):=⟨fun _ _ _ hs H=>H.up ⟨hs,fun _ _=>rfl⟩,fun _ _ _ H K=>H.up ⟨fun _ x=>x,K.same⟩⟩
theorem RoF.tok (v:Value) (sz:Nat) (rows:List (List Value)):TOk (fun F h=>RoF F h v sz rows):=⟨fun _ _ _ hs H=>RoF.up ⟨hs,fun _ _=>rfl⟩ H,fun _ _ _ H K=>RoF.up ⟨fun _ x=>x,K.same⟩ H⟩
theorem aG.sub.tok (s:aG):TOk (fun F h=>s.sub F h):=⟨fun _ _ _ hs H=>H.up ⟨hs,fun _ _=>rfl⟩,fun _ _ _ H K=>H.up ⟨fun _ x=>x,K.same⟩⟩
end
abbrev i64 (n:Int):Prop:= -9223372036854775808<=n/\n<=9223372036854775807
def Cd.wf (c:Cd):Prop:=i64 c.on/\i64 c.cn
def Am.wf (a:Am):Prop:=i64 a.n/\i64 a.d/\i64 a.un/\i64 a.inn
def Rn.wf (r:Rn):Prop:=i64 r.slots/\i64 r.mn
def Sw.wf (r:Sw):Prop:=i64 r.an/\i64 r.bn
def It.wf (i:It):Prop:=i64 i.mn/\i64 i.md/\i64 i.shelf/\i64 i.un
def Mc.wf (i:Mc):Prop:=i64 i.clean/\i64 i.pn
structure RcV.wf (r:RcV):Prop where
 c:∀c∈r.cs,c.wf
 i:∀c∈r.inn,c.wf
 o:∀c∈r.out,c.wf
 rn:∀c∈r.runs,c.wf
 n:i64 r.fr/\i64 r.to/\i64 r.rwN/\i64 r.rwD/\i64 r.yN/\i64 r.yD/\i64 r.tN/\i64 r.tD/\i64 r.lead/\i64 r.inum/\i64 r.pnum
structure aG.wf (s:aG):Prop where
 U:∀u∈s.units,i64 u.n/\i64 u.d
 I:∀u∈s.items,u.wf
 M:∀u∈s.machines,u.wf
 F:∀u∈s.forbids,∀c∈u.cs,c.wf
 R:∀u∈s.recipes,u.wf
 S:∀u∈s.swaps,u.wf
abbrev bFM (s:aG):SH:=[(0,.ro 8 (aL s.units)),(1,.ro 6 (rws It.row s.items)),(2,.ro 1 (bV s.plants)),(3,.ro 4 (rws Mc.row s.machines)),(4,.ro 2 (rws OpV.row s.options)),(5,.ro 1 (rws FbV.row s.forbids)),(6,.ro 17 (rws RcV.row s.recipes)),(7,.ro 4 (rws Sw.row s.swaps))]
section
variable {h0 h:Array Obj} {vU vI vP vM vO vF vR vS:Value} {s:aG} {E:Env} {H:SH}
theorem zB (S:Sat E (fun k=>k<h0.size) H h) (K:Kp (fun k=>k<h0.size) h0 h) (hs:Top h0 vU vI vP vM vO vF vR vS s) (b0:Fw.rowsAt H 0=some (8,aL s.units):=by rfl) (b1:Fw.rowsAt H 1=some (6,rws It.row s.items):=by rfl) (b2:Fw.rowsAt H 2=some (1,bV s.plants):=by rfl) (b3:Fw.rowsAt H 3=some (4,rws Mc.row s.machines):=by rfl) (b4:Fw.rowsAt H 4=some (2,rws OpV.row s.options):=by rfl) (b5:Fw.rowsAt H 5=some (1,rws FbV.row s.forbids):=by rfl) (b6:Fw.rowsAt H 6=some (17,rws RcV.row s.recipes):=by rfl) (b7:Fw.rowsAt H 7=some (4,rws Sw.row s.swaps):=by rfl):Top h (E 0) (E 1) (E 2) (E 3) (E 4) (E 5) (E 6) (E 7) s:=
  ⟨S.ro b0,S.ro b1,S.ro b2,S.ro b3,S.ro b4,S.ro b5,S.ro b6,S.ro b7,hs.below.up (Up.kp K)⟩
theorem zA (hs:Top h vU vI vP vM vO vF vR vS s) {vs:List Value} {l:List (Nat×List (List Value))} (hl:Ros h vs l):Ros h (vU::vI::vP::vM::vO::vF::vR::vS::vs) ((8,aL s.units)::(6,rws It.row s.items)::(1,bV s.plants)::(4,rws Mc.row s.machines)::(2,rws OpV.row s.options)::(1,rws FbV.row s.forbids)::(17,rws RcV.row s.recipes)::(4,rws Sw.row s.swaps)::l):=
  ⟨hs.U,hs.I,hs.P,hs.M,hs.O,hs.F,hs.R,hs.S,hl⟩
end

def tW {α:Type} (o:Option α) (P:α->Prop):Prop:=match o with
 |some a=>P a
 |none=>False
instance osatD {α:Type} (o:Option α) (P:α->Prop) [DecidablePred P]:Decidable (tW o P):=by
 cases o<;>(unfold tW;infer_instance)
theorem aMG {α:Type} {o:Option α} {P:α->Prop}:tW o P ↔ ∃a,o=some a/\P a:=by
 cases o<;>simp [tW]
theorem aLI {α:Type} {l:List α} {i:Nat} {P:α->Prop} (h:i<l.length):tW l[i]? P↔P l[i]:=by
 rw [List.getElem?_eq_getElem h];exact Iff.rfl
abbrev idx (n:Int) (m:Nat):Prop:=0<=n/\n<m
abbrev bt (n a b:Int):Prop:=a<=n/\n<=b
def at? {α:Type} (l:List α) (i:Int):Option α:=if 0<=i then l[i.toNat]? else none
theorem at?_nat {α:Type} (l:List α) (i:Nat):at? l i=l[i]? :=if_pos (Int.natCast_nonneg i)
theorem at?_some {α:Type} {l:List α} {i:Int} {a:α} (h:at? l i=some a):∃k:Nat,i=k /\ ∃hk:k<l.length,l[k]=a:=by
 unfold at? at h;split at h
 ·obtain ⟨h1,h2⟩:=List.getElem?_eq_some_iff.1 h;exact ⟨i.toNat,by omega,h1,h2⟩
 cases h
theorem at?_none {α:Type} {l:List α} {i:Int} (h:¬idx i l.length):at? l i=none:=by
 unfold at?;split
 ·exact List.getElem?_eq_none (by unfold idx at h;omega)
 rfl
theorem at?_idx {α:Type} {l:List α} {i:Int} (h:idx i l.length):∃k:Nat,i=k /\ ∃hk:k<l.length,at? l i=some l[k]:=by
 obtain ⟨k,rfl⟩:∃k:Nat,i=k:=⟨i.toNat,by unfold idx at h;omega⟩;have hk:k<l.length:=by unfold idx at h;omega
 exact ⟨k,rfl,hk,by rw [at?_nat,List.getElem?_eq_getElem hk]⟩
def aG.base (s:aG) (i:Int):Option Int:=match at? s.items i with
 |some x=>match at? s.units x.un with
  |some u=>some u.base
  |none=>none
 |none=>none
def qF (s:aG) (i:It):Prop:=idx i.un s.units.length/\bt i.mn 0 1048576/\bt i.md 1 1048576/\bt i.shelf 0 1023
def yE (s:aG) (m:Mc):Prop:=idx m.pn s.plants.length/\bt m.clean 0 15
def vN (s:aG) (c:Cd):Prop:=tW (at? s.options c.on) fun o=>idx c.cn o.ch.length
def jL (s:aG) (l:List Cd):Prop:=(∀c∈l,vN s c)/\(l.map Cd.on).Nodup
def fX (s:aG) (a:Am):Prop:=bt a.n 1 1048576/\bt a.d 1 1048576/\tW (s.base a.inn) fun b=>tW (at? s.units a.un) fun u=>u.base=b
def lJ (n d:Int):Prop:=bt d 1 1048576/\bt n 0 d
def iT (r:RcV):Prop:=tW r.out[0]? fun a=>a.inn=r.inum
def sE (s:aG) (r:RcV):Prop:=iT r/\(∀a∈r.out,fX s a/\a.back=false)/\(r.out.map Am.inn).Nodup
def xL (s:aG) (r:RcV) (x:Rn):Prop:=(tW (at? s.machines x.mn) fun m=>m.pn=r.pnum)/\bt x.slots 0 15
def aBG (s:aG) (r:RcV):Prop:=(∀x∈r.runs,xL s r x)/\(r.runs.map Rn.mn).Nodup
def uK (r:RcV):Prop:=0<=r.fr/\r.fr<r.to/\r.to<=1024
def mY (s:aG) (r:RcV):Prop:=idx r.inum s.items.length/\idx r.pnum s.plants.length/\uK r/\jL s r.cs/\(∀a∈r.inn,fX s a)/\sE s r /\
 lJ r.rwN r.rwD/\lJ r.yN r.yD/\lJ r.tN r.tD/\r.rwN<r.rwD/\bt r.lead 0 15/\aBG s r
def pA (s:aG) (x:Sw):Prop:=(tW (s.base x.an) fun b=>tW (s.base x.bn) fun c=>b=c)/\x.an≠x.bn
structure vE (s:aG):Prop where
 I:∀i∈s.items,qF s i
 M:∀m∈s.machines,yE s m
 O:∀o∈s.options,o.ch ≠ []
 F:∀f∈s.forbids,f.cs ≠ []/\jL s f.cs
 R:∀r∈s.recipes,mY s r
 S:∀x∈s.swaps,pA s x
def lW (s:aG):Prop:=(∀o∈s.options,o.ch.length<=4)/\(∀r∈s.recipes,r.inn.length<=8/\r.out.length<=8)/\s.items.length<=32/\s.plants.length<=8/\s.machines.length<=16/\s.options.length<=6/\s.forbids.length<=16/\s.recipes.length<=64/\s.swaps.length<=64
instance (s:aG) (i:It):Decidable (qF s i):=by unfold qF;infer_instance
instance (s:aG) (i:Mc):Decidable (yE s i):=by unfold yE;infer_instance
instance (s:aG) (i:Cd):Decidable (vN s i):=by unfold vN;infer_instance
instance (s:aG) (i:List Cd):Decidable (jL s i):=by unfold jL;infer_instance
instance (s:aG) (a:Am):Decidable (fX s a):=by unfold fX;infer_instance
instance (n d:Int):Decidable (lJ n d):=by unfold lJ;infer_instance
instance (r:RcV):Decidable (iT r):=by unfold iT;infer_instance
instance (r:RcV):Decidable (uK r):=by unfold uK;infer_instance
instance (s:aG) (r:RcV):Decidable (sE s r):=by unfold sE;infer_instance
instance (s:aG) (r:RcV) (x:Rn):Decidable (xL s r x):=by unfold xL;infer_instance
instance (s:aG) (r:RcV):Decidable (aBG s r):=by unfold aBG;infer_instance
instance (s:aG) (r:RcV):Decidable (mY s r):=by unfold mY;infer_instance
instance (s:aG) (x:Sw):Decidable (pA s x):=by unfold pA;infer_instance
instance (o:OpV):Decidable (o.ch ≠ []):=decidable_of_iff (o.ch.isEmpty=false) (by cases o.ch<;>simp)
instance (o:FbV):Decidable (o.cs ≠ []):=decidable_of_iff (o.cs.isEmpty=false) (by cases o.cs<;>simp)
instance (s:aG):Decidable (vE s):=decidable_of_iff ((∀i∈s.items,qF s i)/\(∀m∈s.machines,yE s m)/\(∀o∈s.options,o.ch ≠ [])/\(∀f∈s.forbids,f.cs ≠ []/\jL s f.cs)/\(∀r∈s.recipes,mY s r)/\(∀x∈s.swaps,pA s x))
 ⟨fun ⟨a,b,c,d,e,f⟩=>⟨a,b,c,d,e,f⟩,fun ⟨a,b,c,d,e,f⟩=>⟨a,b,c,d,e,f⟩⟩
instance (s:aG):Decidable (lW s):=by unfold lW;infer_instance
def bE (s:aG):Int:=if eT s.units≠0 then eT s.units else if ¬lW s then 2 else if ¬vE s then 120 else 0
def aDL (s:aG) (a:Am):Rt×Int:=match at? s.items a.inn with
 |some x=>if (eU a.n a.d).2≠0 then (zr,(eU a.n a.d).2) else uN s.units a.un x.un (eU a.n a.d).1
 |none=>(zr,120)
def nR (s:aG) (a:Am):Rt×Int:=if (aDL s a).2≠0 then (zr,(aDL s a).2) else match at? s.items a.inn with
 |some x=>if (eU x.mn x.md).2≠0 then (zr,(eU x.mn x.md).2) else fI (aDL s a).1 (eU x.mn x.md).1
 |none=>(zr,120)
def FewT (s:aG):Prop:=(∀u∈s.units,u.scale.n.size<=60/\u.scale.d.size<=60)/\(∀o∈s.options,o.ch.length<=6)/\(∀o∈s.forbids,o.cs.length<=8) /\
 (∀r∈s.recipes,r.cs.length<=8/\r.inn.length<=10/\r.out.length<=10/\r.runs.length<=20) /\
 s.units.length<=40/\s.items.length<=40/\s.plants.length<=10/\s.machines.length<=20/\s.options.length<=8/\s.forbids.length<=20/\s.recipes.length<=70/\s.swaps.length<=70
instance (s:aG):Decidable (FewT s):=by unfold FewT;infer_instance
end Go.SrcM

namespace Go.RatM
open Go Go.Fw Go.NatM
def Un.sv (u:Un):Rat:=(sZ u.scale).val
theorem Sc1.sv {k:Nat} {u:Un} (h:Sc1 k u):∃q:Q,u.scale=aN q/\q.Ok/\q.le k/\q.val=u.sv/\0<u.sv:=by
 obtain ⟨q,h1,h2,h3,h4⟩:=h;refine ⟨q,h1,h2,h3,?_,?_⟩
 ·unfold Un.sv;rw [h1,gB]
 unfold Un.sv;rw [h1,gB];exact h4
theorem cvU_in {l:List Un} {i j:Nat} {r:Rt} (h:eT l=0) (hi:i<l.length) (hj:j<l.length) (hb:l[i].base=l[j].base):uN l i j r =
  if (fI r l[i].scale).2≠0 then (zr,(fI r l[i].scale).2) else aLG (fI r l[i].scale).1 l[j].scale:=by
 unfold uN;rw [if_neg (fun e=>e h),Int.toNat_natCast,Int.toNat_natCast,List.getElem?_eq_getElem hi,List.getElem?_eq_getElem hj];dsimp only;rw [if_neg (by omega)];rfl
theorem aKW {l:List Un} {m k i j:Nat} {R:Q} (h:eT l=0) (hs:∀u∈l,Sc1 m u) (hk:k+m+m<=256) (hi:i<l.length) (hj:j<l.length) (hb:l[i].base=l[j].base) (oR:R.Ok) (lR:R.le k):
  ∃P:Q,uN l i j (aN R)=(aN P,0)/\P.Ok/\P.le (k+m+m)/\P.val=R.val*l[i].sv*l[j].sv⁻¹:=by
 obtain ⟨a,a1,a2,a3,a4,a5⟩:=(hs _ (List.getElem_mem hi)).sv;obtain ⟨b,b1,b2,b3,b4,b5⟩:=(hs _ (List.getElem_mem hj)).sv;obtain ⟨c,c1,c2,c3,c4⟩:=aAJ oR a2 lR a3 (by omega);have hz:b≠zq:=fun e=>by
  have:=(aOY b2).2 e;rw [b4] at this;rw [this] at b5;exact absurd b5 (by decide)
 obtain ⟨d,d1,d2,d3,d4⟩:=divR_ok c2 b2 c3 b3 hk hz;refine ⟨d,?_,d2,d3,?_⟩
 ·rw [cvU_in h hi hj hb,a1,c1,if_neg (by simp),b1,d1]
 rw [d4,c4,a4,b4]
end Go.RatM

namespace Go.SrcM
open Go Go.Fw Go.NatM Go.RatM
theorem fU {s:aG}:bE s=0↔eT s.units=0/\lW s/\vE s:=by
 unfold bE;by_cases h1:eT s.units=0
 ·rw [if_neg (fun h=>h h1)];by_cases h2:lW s
  ·rw [if_neg (fun h=>h h2)];by_cases h3:vE s
   ·rw [if_neg (fun h=>h h3)];simp [*]
   rw [if_pos h3];simp [*]
  rw [if_pos h2];simp [*]
 rw [if_pos h1];simp [*]
theorem newQ_in {n d:Int} {k:Nat} (hn:0<=n/\n.natAbs<256^k) (hk:3<=k) (hd:1<=d/\d<=1048576):eU n d=(aN (pK n d),0)/\(pK n d).Ok/\(pK n d).le k/\(pK n d).val=(n:Rat)*(d:Rat)⁻¹:=
 by
 have h1:(256:Nat)^3<=256^k:=Nat.pow_le_pow_right (by decide) hk;have h2:(256:Nat)^3=16777216:=by decide
 exact ⟨wW (by omega),aKN (by omega),aSZ hn.2 (by omega),aOL (by omega)⟩

end Go.SrcM

namespace Go.Proofs.YthjedpdedjhndaaGreatDoor
open Go Go.Fw Go.NatM Go.RatM Go.SrcM
theorem qO {h:Array Obj} (n m:Int):FV 73 #[.int .i64 n,.int .i64 m] h (.bool (decide (0<=n/\n<m))):=by
 refine zO Tryz.func73 Tryz.ntmps73 (args:=[.int .i64 n,.int .i64 m]) fun w0 cs=>?_;repeat' (refine And.intro (fun hs=>?_) (fun hs=>?_)<;>(conv=>whnf))
 all_goals (
  refine zW Tryz.func73 fun Ez=>?_
  first|exact congrArg Value.bool (decide_eq_true (by omega)).symm|exact congrArg Value.bool (decide_eq_false (by omega)).symm|exact congrArg Value.bool (decide_eq_decide.2 (by omega))
 )
theorem cX {h:Array Obj} (n a b:Int):FV 84 #[.int .i64 n,.int .i64 a,.int .i64 b] h (.bool (decide (bt n a b))):=by
 refine zO Tryz.func84 Tryz.ntmps84 (args:=[.int .i64 n,.int .i64 a,.int .i64 b]) fun w0 cs=>?_;repeat' (refine And.intro (fun hs=>?_) (fun hs=>?_)<;>(conv=>whnf))
 all_goals (
  refine zW Tryz.func84 fun Ez=>?_
  first|exact congrArg Value.bool (decide_eq_true (by omega)).symm|exact congrArg Value.bool (decide_eq_false (by omega)).symm|exact congrArg Value.bool (decide_eq_decide.2 (by omega))
 )
abbrev ckC (b:Bool):Nat×Fw.Blk:=(8,.cells 94 [.buf 0,.buf 1,.buf 2,.buf 3,.buf 4,.buf 5,.buf 6,.buf 7,.v (.bool b)])
abbrev roS (s:aG):SH:=(bFM s)
abbrev ckH (s:aG) (b:Bool):SH:=ckC b::roS s
theorem aX (b x:Bool):FnS Tryz.prog 83 9 [.ptr 8 0,.v (.bool x)] [ckC b] (fun _:Unit=>True) (fun _=>.ret (.tup []) 9 [ckC (b&&x)]):=by
 cases b with
 |true=>
  refine zS Tryz.func83 Tryz.ntmps83 fun E0 F h w0 cs=>?_;exact zI Tryz.func83 () trivial
 |false=>
  refine zS Tryz.func83 Tryz.ntmps83 fun E0 F h w0 cs=>?_;exact zI Tryz.func83 () trivial
theorem bAA (s:aG) (b:Bool) (i:It):FnS Tryz.prog 82 9 [.ptr 8 0,.agg (toV i.row)] (ckH s b) (fun _:Unit=>True) (fun _=>.ret (.tup []) 9 (ckH s (b&&decide (qF s i)))):=by
 have lU:=aZ s.units;have lI:=aE It.row s.items;have lP:=cK s.plants;have lM:=aE Mc.row s.machines;have lO:=aE OpV.row s.options;have lF:=aE FbV.row s.forbids;have lR:=aE RcV.row s.recipes;have lS:=aE Sw.row s.swaps;refine zS Tryz.func82 Tryz.ntmps82 fun E0 F h w0 cs=>?_;refine zH (fls 0 9 (.e1 9 [] (.e1 10 [] .done))) ?_;refine squ ?_;refine zk (fun _ _=>qO i.un (aL s.units).length) ?_;refine squ ?_;refine zK (aX b (decide (0<=i.un/\i.un<(aL s.units).length))) [0,1,2,3,4,5,6,7,8] ?_;refine sqr ?_;refine sqs ?_;refine zc (fun _ _=>cX i.mn 0 1048576) ?_;refine sqv ?_;refine zN (aX _ (decide (bt i.mn 0 1048576))) [0,1,2,3,4,5,6,7,8] ?_;refine sqs ?_;refine zc (fun _ _=>cX i.md 1 1048576) ?_;refine sqv ?_;refine zN (aX _ (decide (bt i.md 1 1048576))) [0,1,2,3,4,5,6,7,8] ?_;refine sqs ?_;refine zc (fun _ _=>cX i.shelf 0 1023) ?_;refine sqv ?_;refine zN (aX _ (decide (bt i.shelf 0 1023))) [0,1,2,3,4,5,6,7,8] ?_;refine sqs ?_;have e:(b&&decide (0<=i.un/\i.un<(aL s.units).length)&&decide (bt i.mn 0 1048576)&&decide (bt i.md 1 1048576)&&decide (bt i.shelf 0 1023))=(b&&decide (qF s i)):=by
  rw [Bool.eq_iff_iff];simp only [Bool.and_eq_true,decide_eq_true_eq,lU,qF,and_assoc]
 rw [e];exact zI Tryz.func82 () trivial
theorem oO {h:Array Obj} (n m:Int) (k:0<=n/\n<m):FV 73 #[.int .i64 n,.int .i64 m] h (.bool true):=by
 have:=qO (h:=h) n m;rw [decide_eq_true k] at this;exact this
theorem rT {h:Array Obj} (n m:Int) (k:¬(0<=n/\n<m)):FV 73 #[.int .i64 n,.int .i64 m] h (.bool false):=by
 have:=qO (h:=h) n m;rw [decide_eq_false k] at this;exact this
theorem aCE (s:aG) (b:Bool) (n d:Int):FnS Tryz.prog 140 9 [.ptr 8 0,nV n,nV d] (ckH s b) (fun _:Unit=>True) (fun _=>.ret (.tup []) 9 (ckH s (b&&decide (lJ n d)))):=by
 refine zS Tryz.func140 Tryz.ntmps140 fun E0 F h w0 cs=>?_;refine zc (fun _ _=>cX d 1 1048576) ?_;refine sqv ?_;refine zN (aX b (decide (bt d 1 1048576))) [0,1,2,3,4,5,6,7,8] ?_;refine sqs ?_;refine zc (fun _ _=>cX n 0 d) ?_;refine sqv ?_;refine zN (aX _ (decide (bt n 0 d))) [0,1,2,3,4,5,6,7,8] ?_;refine sqs ?_;have e:(b&&decide (bt d 1 1048576)&&decide (bt n 0 d))=(b&&decide (lJ n d)):=by
  rw [Bool.eq_iff_iff];simp only [Bool.and_eq_true,decide_eq_true_eq,lJ,and_assoc]
 rw [e];exact zI Tryz.func140 () trivial
theorem aXI {s:aG} {i n:Int} (h:s.base i=some n):∃(k:Nat) (_:i=k) (hk:k<s.items.length) (j:Nat) (_:s.items[k].un=j) (hj:j<s.units.length),n=s.units[j].base:=by
 unfold aG.base at h;split at h
 ·rename_i x hx
  split at h
  ·rename_i u hu
   obtain ⟨k,e,hk,rfl⟩:=at?_some hx;obtain ⟨j,e2,hj,rfl⟩:=at?_some hu;exact ⟨k,e,hk,j,e2,hj,(Option.some.inj h).symm⟩
  cases h
 cases h
theorem aXO {s:aG} {i:Int} (h:s.base i=none):¬idx i s.items.length \/ ∃(k:Nat) (_:i=k) (hk:k<s.items.length),¬idx s.items[k].un s.units.length:=by
 by_cases h1:idx i s.items.length
 ·obtain ⟨k,rfl,hk,e⟩:=at?_idx h1;refine .inr ⟨k,rfl,hk,fun h2=>?_⟩;obtain ⟨j,e2,hj,e3⟩:=at?_idx h2;unfold aG.base at h;rw [e] at h;simp only [e3] at h;cases h
 exact .inl h1
theorem kQ {s:aG} {i n:Int} (b:Bool) (hb:s.base i=some n):FnS Tryz.prog 142 9 [.ptr 8 0,nV i] (ckH s b) (fun _:Unit=>True) (fun _=>.ret (.tup [nV n,.v (.bool true)]) 9 (ckH s b)):=by
 have lU:=aZ s.units;have lI:=aE It.row s.items;have lP:=cK s.plants;have lM:=aE Mc.row s.machines;have lO:=aE OpV.row s.options;have lF:=aE FbV.row s.forbids;have lR:=aE RcV.row s.recipes;have lS:=aE Sw.row s.swaps;obtain ⟨k,rfl,hk,j,hu,hj,rfl⟩:=aXI hb;refine zS Tryz.func142 Tryz.ntmps142 fun E0 F h w0 cs=>?_;refine zc (fun _ _=>oO k (rws It.row s.items).length (by omega)) ?_;refine bFP ?_;refine ⟨_,bA hk,?_⟩;conv=>whnf
 refine zc (fun _ _=>oO s.items[k].un (aL s.units).length (by omega)) ?_;refine bFP ?_;refine ⟨_,(by rw [hu];exact dK hj),?_⟩;conv=>whnf
 exact zI Tryz.func142 () trivial
theorem qY {s:aG} {i:Int} (b:Bool) (hb:s.base i=none):FnS Tryz.prog 142 9 [.ptr 8 0,nV i] (ckH s b) (fun _:Unit=>True) (fun _=>.ret (.tup [nV 0,.v (.bool false)]) 9 (ckH s b)):=by
 have lU:=aZ s.units;have lI:=aE It.row s.items;have lP:=cK s.plants;have lM:=aE Mc.row s.machines;have lO:=aE OpV.row s.options;have lF:=aE FbV.row s.forbids;have lR:=aE RcV.row s.recipes;have lS:=aE Sw.row s.swaps;rcases aXO hb with h1|⟨k,rfl,hk,h2⟩
 ·refine zS Tryz.func142 Tryz.ntmps142 fun E0 F h w0 cs=>?_;refine zc (fun _ _=>rT i (rws It.row s.items).length (by rw [lI];exact h1)) ?_;refine sqv ?_;exact zI Tryz.func142 () trivial
 refine zS Tryz.func142 Tryz.ntmps142 fun E0 F h w0 cs=>?_;refine zc (fun _ _=>oO k (rws It.row s.items).length (by omega)) ?_;refine bFP ?_;refine ⟨_,bA hk,?_⟩;conv=>whnf
 refine zc (fun _ _=>rT s.items[k].un (aL s.units).length (by rw [lU];exact h2)) ?_;refine sqv ?_;exact zI Tryz.func142 () trivial

theorem yP {α:Type} {f:α->Int} {l:List α} {k:Nat} (hk:k<l.length) (h:((l.take k).map f).Nodup) (hn:∀i (_:i<k) (hil:i<l.length),f l[i]≠f l[k]):((l.take (k+1)).map f).Nodup:=by
 rw [List.take_add_one,List.getElem?_eq_getElem hk,List.map_append];refine List.nodup_append.2 ⟨h,by simp,?_⟩;intro a ha b hb e;obtain ⟨u,hu,rfl⟩:=List.mem_map.1 ha;simp only [Option.toList,List.map_cons,List.map_nil,List.mem_singleton] at hb;obtain ⟨i,hi,rfl⟩:=List.getElem_of_mem hu;rw [List.length_take] at hi;rw [List.getElem_take] at e;exact hn i (by omega) (by omega) (e.trans hb)
theorem aFA {α:Type} {f:α->Int} {l:List α} {j k:Nat} (hk:k<l.length) (hj:j<k) (he:f l[j]=f l[k]):¬(l.map f).Nodup:=by
 intro h;have h1:=(List.pairwise_iff_getElem.1 h) j k (by rw [List.length_map];omega) (by rw [List.length_map];omega) hj;simp only [List.getElem_map] at h1;exact h1 he
theorem aFD {α:Type} {f:α->List Value} {l:List α} {j k:Nat} (hj:j<k) (hl:j<l.length):((rws f l).take ((k:Int)).toNat)[((j:Int)).toNat]? = some (f l[j]):=by
 rw [Int.toNat_natCast,Int.toNat_natCast,List.getElem?_take_of_lt hj];exact bA hl
theorem aVA {h:Array Obj} (c:Cd):FV 137 #[.agg c.row.toArray] h (.int .i64 c.on):=by
 refine zO Tryz.func137 Tryz.ntmps137 (args:=[.agg c.row.toArray]) fun w0 cs=>?_;exact zR Tryz.func137
theorem aVQ {h:Array Obj} (l:List Cd) {v:Value} (hv:Ro h v 4 (rws Cd.row l)):FV 136 #[v,.func (.func 137) #[] #[]] h (.bool (decide (¬(l.map Cd.on).Nodup))):=by
 have hl:=aE Cd.row l;have hm:=hv.len;obtain ⟨r,hr⟩:∃r,r=decide (¬(l.map Cd.on).Nodup):=⟨_,rfl⟩;rw [<-hr];refine zG 1 (show Ros _ [v] [(4,rws Cd.row l)] from ⟨hv,trivial⟩) [.buf 0,.v (.func (.func 137) #[] #[])] Tryz.func136 Tryz.ntmps136 fun w0 cs=>?_;refine aA.meet (fun (b:Bool)=>[(5,.v (.bool b))]) (fun (b:Bool)=>[(0,.ro 4 (rws Cd.row l))]) 1 (fun (b:Bool)=>b=r) ?_ (fun meet=>?_)
 ·rintro b rfl;refine sqs ?_;exact zR Tryz.func136
 refine zL (fun (k:Nat)=>[(12,nV k),(11,nV ((rws Cd.row l).length)),(10,.buf 0),(5,.v (.bool false)),(0,.buf 0),(1,.v (.func (.func 137) #[] #[]))]) (fun k=>[(0,.ro 4 (rws Cd.row l))]) 1 (fun k=>k<=l.length/\((l.take k).map Cd.on).Nodup) (fun k=>l.length - k) (0) (⟨Nat.zero_le _,by simp⟩) ?_;rintro k hJ back;try dsimp only at hJ back
 conv=>whnf
 try dsimp only
 refine gS ?_;conv=>whnf
 refine ⟨fun hk=>?_,fun hk=>?_⟩<;>conv=>whnf
 ·have hk:k<l.length:=by omega
  refine cG ?_;refine ⟨_,bA hk,?_⟩;conv=>whnf
  try (refine oN ?_;conv=>whnf)
  refine sqC ?_;refine sqs ?_;have htl:((rws Cd.row l).take ((k:Int)).toNat).length=k:=by rw [List.length_take,hl,Int.toNat_natCast];omega
  have backO:=back;have hJo:=hJ.2;refine zL (fun (j:Nat)=>[(21,nV j),(20,nV (((rws Cd.row l).take ((k:Int)).toNat).length)),(19,.buf 2),(7,.ptr 1 0),(12,nV k),(11,nV ((rws Cd.row l).length)),(10,.buf 0),(5,.v (.bool false)),(0,.buf 0),(1,.v (.func (.func 137) #[] #[]))]) (fun j=>[(2,.ro 4 ((rws Cd.row l).take ((k:Int)).toNat)),(1,.cells 191 (toV (Cd.row l[k]))),(0,.ro 4 (rws Cd.row l))]) 3 (fun j=>j<=k /\ ∀i (hi:i<j) (hil:i<l.length),l[i].on≠l[k].on) (fun j=>k - j) (0) (⟨Nat.zero_le _,fun i hi=>absurd hi (Nat.not_lt_zero _)⟩) ?_;rintro j hJ back;conv=>whnf
  refine gS ?_;conv=>whnf
  refine ⟨fun hj=>?_,fun hj=>?_⟩<;>conv=>whnf
  ·have hj:j<k:=by omega
   have hjl:j<l.length:=by omega
   refine cG ?_;refine ⟨_,aFD hj hjl,?_⟩;conv=>whnf
   try (refine oN ?_;conv=>whnf)
   refine zH (fls 0 2 (fls 3 2 (.e1 2 [4] (.e1 5 [] (.fl 6 .done))))) ?_;refine squ ?_;refine zk (fun _ _=>aVA l[k]) ?_;refine squ ?_;refine zk (fun _ _=>aVA l[j]) ?_;refine squ ?_;refine ⟨fun he=>?_,fun he=>?_⟩<;>conv=>whnf
   ·try refine gR ?_
    refine sqv ?_;exact zb (meet (true) ((hr▸(decide_eq_true (aFA hk hj he.symm)).symm)))
   refine sqr ?_;refine dT ?_;exact zb (back (j+1) ((⟨hj,fun i hi hil=>(Nat.lt_succ_iff_lt_or_eq.1 hi).elim (fun hi=>hJ.2 i hi hil) (fun e=>by subst e;exact fun h=>he h.symm)⟩)) (by (try dsimp only);omega))
  have hj:j=k:=by omega
  have hJ2:=hJ.2;subst hj;have back:=backO;refine cG ?_;exact zb (back (j+1) ((⟨hk,yP hk hJo hJ2⟩)) (by (try dsimp only);omega))
 have hk:k=l.length:=by omega
 have h2:=hJ.2;rw [hk,List.take_length] at h2;conv=>whnf
 exact zb (meet (false) ((hr▸(decide_eq_false (fun h=>h h2)).symm)))
theorem aUQ {h:Array Obj} (c:Am):FV 239 #[.agg c.row.toArray] h (.int .i64 c.inn):=by
 refine zO Tryz.func239 Tryz.ntmps239 (args:=[.agg c.row.toArray]) fun w0 cs=>?_;exact zR Tryz.func239
theorem aWO {h:Array Obj} (l:List Am) {v:Value} (hv:Ro h v 7 (rws Am.row l)):FV 238 #[v,.func (.func 239) #[] #[]] h (.bool (decide (¬(l.map Am.inn).Nodup))):=by
 have hl:=aE Am.row l;have hm:=hv.len;obtain ⟨r,hr⟩:∃r,r=decide (¬(l.map Am.inn).Nodup):=⟨_,rfl⟩;rw [<-hr];refine zG 1 (show Ros _ [v] [(7,rws Am.row l)] from ⟨hv,trivial⟩) [.buf 0,.v (.func (.func 239) #[] #[])] Tryz.func238 Tryz.ntmps238 fun w0 cs=>?_;refine aA.meet (fun (b:Bool)=>[(5,.v (.bool b))]) (fun (b:Bool)=>[(0,.ro 7 (rws Am.row l))]) 1 (fun (b:Bool)=>b=r) ?_ (fun meet=>?_)
 ·rintro b rfl;refine sqs ?_;exact zR Tryz.func238
 refine zL (fun (k:Nat)=>[(12,nV k),(11,nV ((rws Am.row l).length)),(10,.buf 0),(5,.v (.bool false)),(0,.buf 0),(1,.v (.func (.func 239) #[] #[]))]) (fun k=>[(0,.ro 7 (rws Am.row l))]) 1 (fun k=>k<=l.length/\((l.take k).map Am.inn).Nodup) (fun k=>l.length - k) (0) (⟨Nat.zero_le _,by simp⟩) ?_;rintro k hJ back;try dsimp only at hJ back
 conv=>whnf
 try dsimp only
 refine gS ?_;conv=>whnf
 refine ⟨fun hk=>?_,fun hk=>?_⟩<;>conv=>whnf
 ·have hk:k<l.length:=by omega
  refine cG ?_;refine ⟨_,bA hk,?_⟩;conv=>whnf
  try (refine oN ?_;conv=>whnf)
  refine sqC ?_;refine sqs ?_;have htl:((rws Am.row l).take ((k:Int)).toNat).length=k:=by rw [List.length_take,hl,Int.toNat_natCast];omega
  have backO:=back;have hJo:=hJ.2;refine zL (fun (j:Nat)=>[(21,nV j),(20,nV (((rws Am.row l).take ((k:Int)).toNat).length)),(19,.buf 2),(7,.ptr 1 0),(12,nV k),(11,nV ((rws Am.row l).length)),(10,.buf 0),(5,.v (.bool false)),(0,.buf 0),(1,.v (.func (.func 239) #[] #[]))]) (fun j=>[(2,.ro 7 ((rws Am.row l).take ((k:Int)).toNat)),(1,.cells 55 (toV (Am.row l[k]))),(0,.ro 7 (rws Am.row l))]) 3 (fun j=>j<=k /\ ∀i (hi:i<j) (hil:i<l.length),l[i].inn≠l[k].inn) (fun j=>k - j) (0) (⟨Nat.zero_le _,fun i hi=>absurd hi (Nat.not_lt_zero _)⟩) ?_;rintro j hJ back;conv=>whnf
  refine gS ?_;conv=>whnf
  refine ⟨fun hj=>?_,fun hj=>?_⟩<;>conv=>whnf
  ·have hj:j<k:=by omega
   have hjl:j<l.length:=by omega
   refine cG ?_;refine ⟨_,aFD hj hjl,?_⟩;conv=>whnf
   try (refine oN ?_;conv=>whnf)
   refine zH (fls 0 2 (fls 3 2 (.e1 2 [4] (.e1 5 [] (.fl 6 .done))))) ?_;refine squ ?_;refine zk (fun _ _=>aUQ l[k]) ?_;refine squ ?_;refine zk (fun _ _=>aUQ l[j]) ?_;refine squ ?_;refine ⟨fun he=>?_,fun he=>?_⟩<;>conv=>whnf
   ·try refine gR ?_
    refine sqv ?_;exact zb (meet (true) ((hr▸(decide_eq_true (aFA hk hj he.symm)).symm)))
   refine sqr ?_;refine dT ?_;exact zb (back (j+1) ((⟨hj,fun i hi hil=>(Nat.lt_succ_iff_lt_or_eq.1 hi).elim (fun hi=>hJ.2 i hi hil) (fun e=>by subst e;exact fun h=>he h.symm)⟩)) (by (try dsimp only);omega))
  have hj:j=k:=by omega
  have hJ2:=hJ.2;subst hj;have back:=backO;refine cG ?_;exact zb (back (j+1) ((⟨hk,yP hk hJo hJ2⟩)) (by (try dsimp only);omega))
 have hk:k=l.length:=by omega
 have h2:=hJ.2;rw [hk,List.take_length] at h2;conv=>whnf
 exact zb (meet (false) ((hr▸(decide_eq_false (fun h=>h h2)).symm)))
theorem aTD {h:Array Obj} (c:Rn):FV 241 #[.agg c.row.toArray] h (.int .i64 c.mn):=by
 refine zO Tryz.func241 Tryz.ntmps241 (args:=[.agg c.row.toArray]) fun w0 cs=>?_;exact zR Tryz.func241
theorem aXT {h:Array Obj} (l:List Rn) {v:Value} (hv:Ro h v 3 (rws Rn.row l)):FV 240 #[v,.func (.func 241) #[] #[]] h (.bool (decide (¬(l.map Rn.mn).Nodup))):=by
 have hl:=aE Rn.row l;have hm:=hv.len;obtain ⟨r,hr⟩:∃r,r=decide (¬(l.map Rn.mn).Nodup):=⟨_,rfl⟩;rw [<-hr];refine zG 1 (show Ros _ [v] [(3,rws Rn.row l)] from ⟨hv,trivial⟩) [.buf 0,.v (.func (.func 241) #[] #[])] Tryz.func240 Tryz.ntmps240 fun w0 cs=>?_;refine aA.meet (fun (b:Bool)=>[(5,.v (.bool b))]) (fun (b:Bool)=>[(0,.ro 3 (rws Rn.row l))]) 1 (fun (b:Bool)=>b=r) ?_ (fun meet=>?_)
 ·rintro b rfl;refine sqs ?_;exact zR Tryz.func240
 refine zL (fun (k:Nat)=>[(12,nV k),(11,nV ((rws Rn.row l).length)),(10,.buf 0),(5,.v (.bool false)),(0,.buf 0),(1,.v (.func (.func 241) #[] #[]))]) (fun k=>[(0,.ro 3 (rws Rn.row l))]) 1 (fun k=>k<=l.length/\((l.take k).map Rn.mn).Nodup) (fun k=>l.length - k) (0) (⟨Nat.zero_le _,by simp⟩) ?_;rintro k hJ back;try dsimp only at hJ back
 conv=>whnf
 try dsimp only
 refine gS ?_;conv=>whnf
 refine ⟨fun hk=>?_,fun hk=>?_⟩<;>conv=>whnf
 ·have hk:k<l.length:=by omega
  refine cG ?_;refine ⟨_,bA hk,?_⟩;conv=>whnf
  try (refine oN ?_;conv=>whnf)
  refine sqC ?_;refine sqs ?_;have htl:((rws Rn.row l).take ((k:Int)).toNat).length=k:=by rw [List.length_take,hl,Int.toNat_natCast];omega
  have backO:=back;have hJo:=hJ.2;refine zL (fun (j:Nat)=>[(21,nV j),(20,nV (((rws Rn.row l).take ((k:Int)).toNat).length)),(19,.buf 2),(7,.ptr 1 0),(12,nV k),(11,nV ((rws Rn.row l).length)),(10,.buf 0),(5,.v (.bool false)),(0,.buf 0),(1,.v (.func (.func 241) #[] #[]))]) (fun j=>[(2,.ro 3 ((rws Rn.row l).take ((k:Int)).toNat)),(1,.cells 272 (toV (Rn.row l[k]))),(0,.ro 3 (rws Rn.row l))]) 3 (fun j=>j<=k /\ ∀i (hi:i<j) (hil:i<l.length),l[i].mn≠l[k].mn) (fun j=>k - j) (0) (⟨Nat.zero_le _,fun i hi=>absurd hi (Nat.not_lt_zero _)⟩) ?_;rintro j hJ back;conv=>whnf
  refine gS ?_;conv=>whnf
  refine ⟨fun hj=>?_,fun hj=>?_⟩<;>conv=>whnf
  ·have hj:j<k:=by omega
   have hjl:j<l.length:=by omega
   refine cG ?_;refine ⟨_,aFD hj hjl,?_⟩;conv=>whnf
   try (refine oN ?_;conv=>whnf)
   refine zH (fls 0 2 (fls 3 2 (.e1 2 [4] (.e1 5 [] (.fl 6 .done))))) ?_;refine squ ?_;refine zk (fun _ _=>aTD l[k]) ?_;refine squ ?_;refine zk (fun _ _=>aTD l[j]) ?_;refine squ ?_;refine ⟨fun he=>?_,fun he=>?_⟩<;>conv=>whnf
   ·try refine gR ?_
    refine sqv ?_;exact zb (meet (true) ((hr▸(decide_eq_true (aFA hk hj he.symm)).symm)))
   refine sqr ?_;refine dT ?_;exact zb (back (j+1) ((⟨hj,fun i hi hil=>(Nat.lt_succ_iff_lt_or_eq.1 hi).elim (fun hi=>hJ.2 i hi hil) (fun e=>by subst e;exact fun h=>he h.symm)⟩)) (by (try dsimp only);omega))
  have hj:j=k:=by omega
  have hJ2:=hJ.2;subst hj;have back:=backO;refine cG ?_;exact zb (back (j+1) ((⟨hk,yP hk hJo hJ2⟩)) (by (try dsimp only);omega))
 have hk:k=l.length:=by omega
 have h2:=hJ.2;rw [hk,List.take_length] at h2;conv=>whnf
 exact zb (meet (false) ((hr▸(decide_eq_false (fun h=>h h2)).symm)))

theorem iG {α:Type} {p:α->Prop} {l:List α} {k:Nat} (hk:k<l.length) {b b' x:Bool} {d1:Decidable (∀c∈l.take k,p c)} {d2:Decidable (∀c∈l.take (k+1),p c)} {d3:Decidable (p l[k])} (hb:b'=(b && @decide _ d1)) (hx:x = @decide _ d3):(b'&&x)=(b && @decide _ d2):=by
 rw [hb,hx,Bool.eq_iff_iff];simp only [Bool.and_eq_true,decide_eq_true_eq,and_assoc];rw [List.take_add_one,List.getElem?_eq_getElem hk];simp only [List.mem_append,Option.toList,List.mem_singleton];exact and_congr_right fun _=>⟨fun h c hc=>hc.elim (h.1 c) (fun e=>e▸h.2),fun h=>⟨fun c hc=>h c (.inl hc),h _ (.inr rfl)⟩⟩
theorem kG {α:Type} {p:α->Prop} {l:List α} {d:Decidable (∀c∈l.take 0,p c)} (b:Bool):b=(b && @decide _ d):=by
 rw [decide_eq_true (by simp)];simp
theorem bCT {s:aG} {c:Cd} (h:¬idx c.on s.options.length):false=decide (vN s c):=by
 refine (decide_eq_false fun hc=>?_).symm;unfold vN at hc;rw [at?_none h] at hc;exact hc
theorem bAC {s:aG} {c:Cd} {k:Nat} (e:c.on=k) (hk:k<s.options.length):decide (0<=c.cn/\c.cn<s.options[k].ch.length)=decide (vN s c):=by
 refine decide_eq_decide.2 ?_;unfold vN;rw [e,at?_nat,aLI hk]
theorem aIL (s:aG) (b:Bool) (l:List Cd) (a:Option Addr) (c:Nat):FnT Tryz.prog (fun F h=>RoF F h (.slice a l.length c) 4 (rws Cd.row l)) 85 9 [.ptr 8 0,.v (.slice a l.length c)] (ckH s b) (fun _:Unit=>True) (fun _=>.ret (.tup []) 9 (ckH s (b&&decide (jL s l)))):=by
 have lU:=aZ s.units;have lI:=aE It.row s.items;have lP:=cK s.plants;have lM:=aE Mc.row s.machines;have lO:=aE OpV.row s.options;have lF:=aE FbV.row s.forbids;have lR:=aE RcV.row s.recipes;have lS:=aE Sw.row s.swaps;have hl:=aE Cd.row l;refine zT Tryz.func85 Tryz.ntmps85 fun E0 F h hT w0 cs=>?_;have hm:=hT.len;refine aA.nameAt (fun _ x=>x) 6 (by exact hT) ?_;refine sqv ?_;refine zL (fun (⟨k,b'⟩:Nat×Bool)=>[(8,nV k),(7,nV l.length),(6,.buf 9),(0,.ptr 8 0),(1,.v (.slice a l.length c))]) (fun ⟨k,b'⟩=>((9,.ro 4 (rws Cd.row l))::ckC b'::bFM s)) 10 (fun ⟨k,b'⟩=>k<=l.length/\b'=(b&&decide (∀c∈l.take k,vN s c))) (fun ⟨k,b'⟩=>l.length - k) ((0,b)) (⟨Nat.zero_le _,kG b⟩) ?_;rintro ⟨k,b'⟩ hJ back;try dsimp only at hJ back
 conv=>whnf
 try dsimp only
 refine gS ?_;conv=>whnf
 refine ⟨fun hk=>?_,fun hk=>?_⟩<;>conv=>whnf
 ·have hk:k<l.length:=by omega
  refine cG ?_;refine ⟨_,bA hk,?_⟩;conv=>whnf
  try (refine oN ?_;conv=>whnf)
  by_cases h1:idx l[k].on s.options.length
  ·obtain ⟨j,e,hj,_⟩:=at?_idx h1;refine zH (fls 0 9 (.e1 9 [] (fls 10 14 (.e1 24 [] (.fl 25 (.e1 26 [] .done)))))) ?_;refine squ ?_;refine zk (fun _ _=>oO l[k].on (rws OpV.row s.options).length (by omega)) ?_;refine aBF ?_;conv=>whnf
   refine ⟨_,(by rw [e];exact bA hj),?_⟩;conv=>whnf
   refine zk (fun _ _=>qO l[k].cn s.options[j].ch.length) ?_;refine squ ?_;refine zK (aX b' (decide (0<=l[k].cn/\l[k].cn<s.options[j].ch.length))) [0,1,2,3,4,5,6,7,8] ?_;refine sqr ?_;refine dT ?_;exact zb (back ((k+1,b'&&decide (0<=l[k].cn/\l[k].cn<s.options[j].ch.length))) ((⟨hk,iG hk hJ.2 (bAC e hj)⟩)) (by (try dsimp only);omega))
  refine zH (fls 0 9 (.e1 9 [] (fls 10 14 (.e1 24 [] (.fl 25 (.e1 26 [] .done)))))) ?_;refine squ ?_;refine zk (fun _ _=>rT l[k].on (rws OpV.row s.options).length (by rw [lO];exact h1)) ?_;refine aBF ?_;conv=>whnf
  refine zK (aX b' false) [0,1,2,3,4,5,6,7,8] ?_;refine sqr ?_;refine dT ?_;exact zb (back ((k+1,b'&&false)) ((⟨hk,iG hk hJ.2 (bCT h1)⟩)) (by (try dsimp only);omega))
 have hk:k=l.length:=by omega
 have h2:=hJ.2;rw [hk,List.take_length] at h2;conv=>whnf
 refine aA.callV (fun _ _ _ _ K=>aVQ l (RoF.up (Up.kp K) hT)) ?_;refine sqv ?_;refine zN (aX b' (!decide (¬(l.map Cd.on).Nodup))) [0,1,2,3,4,5,6,7,8] ?_;refine sqs ?_;have e:(b' && !decide (¬(l.map Cd.on).Nodup))=(b&&decide (jL s l)):=by
  rw [h2,Bool.eq_iff_iff];simp only [Bool.and_eq_true,decide_eq_true_eq,and_assoc,Bool.not_eq_true',decide_eq_false_iff_not,Decidable.not_not];exact Iff.rfl
 rw [e];exact zI Tryz.func85 () trivial
theorem aEN (s:aG) (b:Bool) (a:Am):FnS Tryz.prog 138 9 [.ptr 8 0,.agg (toV a.row)] (ckH s b) (fun _:Unit=>True) (fun _=>.ret (.tup []) 9 (ckH s (b&&decide (fX s a)))):=by
 have lU:=aZ s.units;have lI:=aE It.row s.items;have lP:=cK s.plants;have lM:=aE Mc.row s.machines;have lO:=aE OpV.row s.options;have lF:=aE FbV.row s.forbids;have lR:=aE RcV.row s.recipes;have lS:=aE Sw.row s.swaps;have key:∀x:Bool,(x=true↔tW (s.base a.inn) fun b=>tW (at? s.units a.un) fun u=>u.base=b)->(b&&decide (bt a.n 1 1048576)&&decide (bt a.d 1 1048576)&&x)=(b&&decide (fX s a)):=by
  intro x hx;rw [Bool.eq_iff_iff];simp only [Bool.and_eq_true,decide_eq_true_eq,fX,and_assoc,hx]
 cases hb:s.base a.inn with
 |none=>
  refine zS Tryz.func138 Tryz.ntmps138 fun E0 F h w0 cs=>?_;refine zc (fun _ _=>cX a.n 1 1048576) ?_;refine sqv ?_;refine zN (aX b (decide (bt a.n 1 1048576))) [0,1,2,3,4,5,6,7,8] ?_;refine sqs ?_;refine zc (fun _ _=>cX a.d 1 1048576) ?_;refine sqv ?_;refine zN (aX _ (decide (bt a.d 1 1048576))) [0,1,2,3,4,5,6,7,8] ?_;refine sqs ?_;refine zN (qY _ hb) [0,1,2,3,4,5,6,7,8] ?_;refine sqs ?_;refine zH (fls 0 11 (.e1 11 [] (fls 12 15 (.e1 27 [] .done)))) ?_;refine aBF ?_;conv=>whnf
  refine zK (aX _ false) [0,1,2,3,4,5,6,7,8] ?_;refine sqr ?_;refine sqs ?_;rw [key false (by rw [hb];exact ⟨fun h=>(by cases h),fun h=>h.elim⟩)];exact zI Tryz.func138 () trivial
 |some n=>
  by_cases h1:idx a.un s.units.length
  ·obtain ⟨j,e,hj,e3⟩:=at?_idx h1;refine zS Tryz.func138 Tryz.ntmps138 fun E0 F h w0 cs=>?_;refine zc (fun _ _=>cX a.n 1 1048576) ?_;refine sqv ?_;refine zN (aX b (decide (bt a.n 1 1048576))) [0,1,2,3,4,5,6,7,8] ?_;refine sqs ?_;refine zc (fun _ _=>cX a.d 1 1048576) ?_;refine sqv ?_;refine zN (aX _ (decide (bt a.d 1 1048576))) [0,1,2,3,4,5,6,7,8] ?_;refine sqs ?_;refine zN (kQ _ hb) [0,1,2,3,4,5,6,7,8] ?_;refine sqs ?_;refine zH (fls 0 11 (.e1 11 [] (fls 12 15 (.e1 27 [] .done)))) ?_;refine squ ?_;refine zk (fun _ _=>oO a.un (aL s.units).length (by omega)) ?_;refine aBF ?_;conv=>whnf
   refine ⟨_,(by rw [e];exact dK hj),?_⟩;conv=>whnf
   refine zK (aX _ (decide (s.units[j].base=n))) [0,1,2,3,4,5,6,7,8] ?_;refine sqr ?_;refine sqs ?_;rw [key (decide (s.units[j].base=n)) (by rw [hb,e3];exact decide_eq_true_iff)];exact zI Tryz.func138 () trivial
  refine zS Tryz.func138 Tryz.ntmps138 fun E0 F h w0 cs=>?_;refine zc (fun _ _=>cX a.n 1 1048576) ?_;refine sqv ?_;refine zN (aX b (decide (bt a.n 1 1048576))) [0,1,2,3,4,5,6,7,8] ?_;refine sqs ?_;refine zc (fun _ _=>cX a.d 1 1048576) ?_;refine sqv ?_;refine zN (aX _ (decide (bt a.d 1 1048576))) [0,1,2,3,4,5,6,7,8] ?_;refine sqs ?_;refine zN (kQ _ hb) [0,1,2,3,4,5,6,7,8] ?_;refine sqs ?_;refine zH (fls 0 11 (.e1 11 [] (fls 12 15 (.e1 27 [] .done)))) ?_;refine squ ?_;refine zk (fun _ _=>rT a.un (aL s.units).length (by rw [lU];exact h1)) ?_;refine squ ?_;refine zK (aX _ false) [0,1,2,3,4,5,6,7,8] ?_;refine sqr ?_;refine sqs ?_;rw [key false (by rw [hb,at?_none h1];exact ⟨fun h=>(by cases h),fun h=>h.elim⟩)];exact zI Tryz.func138 () trivial
theorem aPL {r:RcV} (h:r.out=[]):false=decide (iT r):=by
 refine (decide_eq_false fun hc=>?_).symm;unfold iT at hc;rw [h] at hc;exact hc
theorem aRM {r:RcV} (h:0<r.out.length):decide ((r.out[0]'h).inn=r.inum)=decide (iT r):=by
 refine decide_eq_decide.2 ?_;unfold iT;rw [aLI h]
abbrev rcC (b:Nat) (r:RcV) (c i o u:SV):Nat×Fw.Blk:=(b,.cells 49 [.v (.string r.item),.v (.string r.plant),nV r.fr,nV r.to,c,i,o,nV r.rwN,nV r.rwD,nV r.yN,nV r.yD,nV r.tN,nV r.tD,nV r.lead,u,nV r.inum,nV r.pnum])
theorem aYF (s:aG) (b:Bool) (r:RcV):FnT Tryz.prog (fun F h=>r.ok F h) 139 9 [.ptr 8 0,.agg (toV r.row)] (ckH s b) (fun _:Unit=>True) (fun _=>.ret (.tup []) 9 (ckH s (b&&decide (sE s r)))):=by
 have hl:=aE Am.row r.out;have hd:∀a:Am,(decide (fX s a) && !a.back)=decide (fX s a/\a.back=false):=fun a=>by
  rw [Bool.eq_iff_iff];simp only [Bool.and_eq_true,decide_eq_true_eq,Bool.not_eq_true']
 refine zT Tryz.func139 Tryz.ntmps139 fun E0 F h hT w0 cs=>?_;have hm:=hT.o.len;refine aA.nameCell (fun _ x=>x) 9 6 (by exact hT.o) ?_;refine sqv ?_;refine aA.join (fun (_:Unit)=>[(3,.ptr 9 0),(0,.ptr 8 0)]) (fun (_:Unit)=>(ckC (b&&decide (iT r))::(10,.ro 7 (rws Am.row r.out))::rcC 9 r (.v (.slice r.hc.a r.cs.length r.hc.c)) (.v (.slice r.hi.a r.inn.length r.hi.c)) (.buf 10) (.v (.slice r.hr.a r.runs.length r.hr.c))::bFM s)) 11 (fun (_:Unit)=>True) ?_ (fun meet=>?_);rotate_left
 ·by_cases h0:0<r.out.length
  ·refine zH (fls 0 15 (.e1 15 [] .done)) ?_;refine aBF ?_;conv=>whnf
   refine ⟨_,(bA (k:=0) h0),?_⟩;conv=>whnf
   refine zK (aX b (decide ((r.out[0]'h0).inn=r.inum))) [0,1,2,3,4,5,6,7,8] ?_;refine sqr ?_;refine sqs ?_;rw [aRM h0];exact zb (meet (()) (by first|trivial|omega|((try dsimp only);omega)))
  refine zH (fls 0 15 (.e1 15 [] .done)) ?_;refine aBF ?_;conv=>whnf
  refine zK (aX b false) [0,1,2,3,4,5,6,7,8] ?_;refine sqr ?_;refine sqs ?_;rw [show (b&&false)=(b&&decide (iT r)) by rw [aPL (r:=r) (List.eq_nil_of_length_eq_zero (by omega))]];exact zb (meet (()) (by first|trivial|omega|((try dsimp only);omega)))
 intro _ _;refine sqs ?_;refine zL (fun (⟨k,b'⟩:Nat×Bool)=>[(25,nV k),(24,nV ((rws Am.row r.out).length)),(23,.buf 10),(3,.ptr 9 0),(0,.ptr 8 0)]) (fun ⟨k,b'⟩=>(ckC b'::(10,.ro 7 (rws Am.row r.out))::rcC 9 r (.v (.slice r.hc.a r.cs.length r.hc.c)) (.v (.slice r.hi.a r.inn.length r.hi.c)) (.buf 10) (.v (.slice r.hr.a r.runs.length r.hr.c))::bFM s)) 11 (fun ⟨k,b'⟩=>k<=r.out.length/\b'=(b&&decide (iT r)&&decide (∀a∈r.out.take k,fX s a/\a.back=false))) (fun ⟨k,b'⟩=>r.out.length - k) ((0,b&&decide (iT r))) (⟨Nat.zero_le _,kG _⟩) ?_;rintro ⟨k,b'⟩ hJ back;try dsimp only at hJ back
 conv=>whnf
 try dsimp only
 refine gS ?_;conv=>whnf
 refine ⟨fun hk=>?_,fun hk=>?_⟩<;>conv=>whnf
 ·have hk:k<r.out.length:=by omega
  refine cG ?_;refine ⟨_,bA hk,?_⟩;conv=>whnf
  try (refine oN ?_;conv=>whnf)
  refine zN (aEN s b' r.out[k]) [0,1,2,3,4,5,6,7,8] ?_;refine sqs ?_;refine zN (aX (b'&&decide (fX s r.out[k])) (!r.out[k].back)) [0,1,2,3,4,5,6,7,8] ?_;refine dT ?_;rw [Bool.and_assoc b',hd];exact zb (back ((k+1,b'&&decide (fX s r.out[k]/\r.out[k].back=false))) ((⟨hk,iG hk hJ.2 rfl⟩)) (by (try dsimp only);omega))
 have hk:k=r.out.length:=by omega
 have h2:=hJ.2;rw [hk,List.take_length] at h2;conv=>whnf
 refine aA.callV (fun _ _ _ Sz _=>aWO r.out (Sz.ro (b:=10) rfl)) ?_;refine sqv ?_;refine zN (aX b' (!decide (¬(r.out.map Am.inn).Nodup))) [0,1,2,3,4,5,6,7,8] ?_;refine sqs ?_;have e:(b' && !decide (¬(r.out.map Am.inn).Nodup))=(b&&decide (sE s r)):=by
  rw [h2,Bool.eq_iff_iff];simp only [Bool.and_eq_true,decide_eq_true_eq,and_assoc,Bool.not_eq_true',decide_eq_false_iff_not,Decidable.not_not];exact Iff.rfl
 rw [e];exact zI Tryz.func139 () trivial
theorem runOk_n {s:aG} {r:RcV} {x:Rn} (h:¬idx x.mn s.machines.length):(false&&decide (bt x.slots 0 15))=decide (xL s r x):=by
 rw [Bool.false_and];refine (decide_eq_false fun hc=>?_).symm;unfold xL at hc;rw [at?_none h] at hc;exact hc.1
theorem runOk_y {s:aG} {r:RcV} {x:Rn} {k:Nat} (e:x.mn=k) (hk:k<s.machines.length):(decide (s.machines[k].pn=r.pnum)&&decide (bt x.slots 0 15))=decide (xL s r x):=by
 rw [Bool.eq_iff_iff];simp only [Bool.and_eq_true,decide_eq_true_eq];unfold xL;rw [e,at?_nat,aLI hk]
theorem aZP (s:aG) (b:Bool) (r:RcV):FnT Tryz.prog (fun F h=>r.ok F h) 141 9 [.ptr 8 0,.agg (toV r.row)] (ckH s b) (fun _:Unit=>True) (fun _=>.ret (.tup []) 9 (ckH s (b&&decide (aBG s r)))):=by
 have lU:=aZ s.units;have lI:=aE It.row s.items;have lP:=cK s.plants;have lM:=aE Mc.row s.machines;have lO:=aE OpV.row s.options;have lF:=aE FbV.row s.forbids;have lR:=aE RcV.row s.recipes;have lS:=aE Sw.row s.swaps;have hl:=aE Rn.row r.runs;refine zT Tryz.func141 Tryz.ntmps141 fun E0 F h hT w0 cs=>?_;have hm:=hT.rn.len;refine aA.nameCell (fun _ x=>x) 9 14 (by exact hT.rn) ?_;refine sqv ?_;refine aA.nameAt (fun _ x=>x) 7 (by exact hT.rn) ?_;refine sqv ?_;refine zL (fun (⟨k,b'⟩:Nat×Bool)=>[(9,nV k),(8,nV r.runs.length),(7,.buf 11),(3,.ptr 9 0),(0,.ptr 8 0)]) (fun ⟨k,b'⟩=>(ckC b'::(11,.ro 3 (rws Rn.row r.runs))::(10,.ro 3 (rws Rn.row r.runs))::rcC 9 r (.v (.slice r.hc.a r.cs.length r.hc.c)) (.v (.slice r.hi.a r.inn.length r.hi.c)) (.v (.slice r.ho.a r.out.length r.ho.c)) (.buf 10)::bFM s)) 12 (fun ⟨k,b'⟩=>k<=r.runs.length/\b'=(b&&decide (∀a∈r.runs.take k,xL s r a))) (fun ⟨k,b'⟩=>r.runs.length - k) ((0,b)) (⟨Nat.zero_le _,kG b⟩) ?_;rintro ⟨k,b'⟩ hJ back;try dsimp only at hJ back
 conv=>whnf
 try dsimp only
 refine gS ?_;conv=>whnf
 refine ⟨fun hk=>?_,fun hk=>?_⟩<;>conv=>whnf
 ·have hk:k<r.runs.length:=by omega
  refine cG ?_;refine ⟨_,bA hk,?_⟩;conv=>whnf
  try (refine oN ?_;conv=>whnf)
  by_cases h1:idx r.runs[k].mn s.machines.length
  ·obtain ⟨j,e,hj,_⟩:=at?_idx h1;refine zH (fls 0 9 (.e1 9 [] (fls 10 15 (.e1 25 [] .done)))) ?_;refine squ ?_;refine zk (fun _ _=>oO r.runs[k].mn (rws Mc.row s.machines).length (by omega)) ?_;refine aBF ?_;conv=>whnf
   refine ⟨_,(by rw [e];exact bA hj),?_⟩;conv=>whnf
   refine zK (aX b' (decide (s.machines[j].pn=r.pnum))) [0,1,2,3,4,5,6,7,8] ?_;refine sqr ?_;refine sqs ?_;refine zc (fun _ _=>cX r.runs[k].slots 0 15) ?_;refine sqv ?_;refine zN (aX _ (decide (bt r.runs[k].slots 0 15))) [0,1,2,3,4,5,6,7,8] ?_;refine dT ?_;rw [Bool.and_assoc b',runOk_y e hj];exact zb (back ((k+1,b'&&decide (xL s r r.runs[k]))) ((⟨hk,iG hk hJ.2 rfl⟩)) (by (try dsimp only);omega))
  refine zH (fls 0 9 (.e1 9 [] (fls 10 15 (.e1 25 [] .done)))) ?_;refine squ ?_;refine zk (fun _ _=>rT r.runs[k].mn (rws Mc.row s.machines).length (by rw [lM];exact h1)) ?_;refine squ ?_;refine zK (aX b' false) [0,1,2,3,4,5,6,7,8] ?_;refine sqr ?_;refine sqs ?_;refine zc (fun _ _=>cX r.runs[k].slots 0 15) ?_;refine sqv ?_;refine zN (aX _ (decide (bt r.runs[k].slots 0 15))) [0,1,2,3,4,5,6,7,8] ?_;refine dT ?_;rw [Bool.and_assoc b',runOk_n h1];exact zb (back ((k+1,b'&&decide (xL s r r.runs[k]))) ((⟨hk,iG hk hJ.2 rfl⟩)) (by (try dsimp only);omega))
 have hk:k=r.runs.length:=by omega
 have h2:=hJ.2;rw [hk,List.take_length] at h2;conv=>whnf
 refine aA.callV (fun _ _ _ Sz _=>aXT r.runs (Sz.ro (b:=10) rfl)) ?_;refine sqv ?_;refine zN (aX b' (!decide (¬(r.runs.map Rn.mn).Nodup))) [0,1,2,3,4,5,6,7,8] ?_;refine sqs ?_;have e:(b' && !decide (¬(r.runs.map Rn.mn).Nodup))=(b&&decide (aBG s r)):=by
  rw [h2,Bool.eq_iff_iff];simp only [Bool.and_eq_true,decide_eq_true_eq,and_assoc,Bool.not_eq_true',decide_eq_false_iff_not,Decidable.not_not];exact Iff.rfl
 rw [e];exact zI Tryz.func141 () trivial

theorem aKI {h:Array Obj} (n:Int) {m l:Nat} (e:m=l):FV 73 #[.int .i64 n,.int .i64 m] h (.bool (decide (idx n l))):=by
 subst e;exact qO n m
theorem aQR (s:aG) (b:Bool) (r:RcV):FnT Tryz.prog (fun F h=>r.ok F h) 86 9 [.ptr 8 0,.agg (toV r.row)] (ckH s b) (fun _:Unit=>True) (fun _=>.ret (.tup []) 9 (ckH s (b&&decide (mY s r)))):=by
 have lU:=aZ s.units;have lI:=aE It.row s.items;have lP:=cK s.plants;have lM:=aE Mc.row s.machines;have lO:=aE OpV.row s.options;have lF:=aE FbV.row s.forbids;have lR:=aE RcV.row s.recipes;have lS:=aE Sw.row s.swaps;have hl:=aE Am.row r.inn;refine zT Tryz.func86 Tryz.ntmps86 fun E0 F h hT w0 cs=>?_;have hm:=hT.i.len;refine zH (fls 0 9 (.e1 9 [] (.e1 10 [] .done))) ?_;refine squ ?_;refine zk (fun _ _=>aKI r.inum lI) ?_;refine squ ?_;refine zK (aX b (decide (idx r.inum s.items.length))) [0,1,2,3,4,5,6,7,8] ?_;refine sqr ?_;refine sqs ?_;refine aA.join (fun (_:Unit)=>[(3,.ptr 9 0),(0,.ptr 8 0)]) (fun (_:Unit)=>(ckC (b&&decide (idx r.inum s.items.length)&&decide (idx r.pnum s.plants.length))::(9,.cells 49 (toV r.row))::bFM s)) 10 (fun (_:Unit)=>True) ?_ (fun meet=>?_);rotate_left
 ·refine zH (fls 0 9 (.e1 9 [] (.e1 10 [] .done))) ?_;refine squ ?_;refine zk (fun _ _=>aKI r.pnum lP) ?_;refine squ ?_;refine zK (aX _ (decide (idx r.pnum s.plants.length))) [0,1,2,3,4,5,6,7,8] ?_;refine sqr ?_;refine sqs ?_;exact zb (meet (()) (by first|trivial|omega|((try dsimp only);omega)))
 intro _ _;refine pM tab 1 _ _ _ _ ?_;conv=>whnf
 refine aA.join (fun (_:Unit)=>[(3,.ptr 9 0),(0,.ptr 8 0)]) (fun (_:Unit)=>(ckC (b&&decide (idx r.inum s.items.length)&&decide (idx r.pnum s.plants.length)&&decide (uK r))::(9,.cells 49 (toV r.row))::bFM s)) 10 (fun (_:Unit)=>True) ?_ (fun meet=>?_);rotate_left
 ·have kd:∀x:Bool,(x=true↔(0<=r.fr/\r.fr<r.to/\r.to<=1024))->(b&&decide (idx r.inum s.items.length)&&decide (idx r.pnum s.plants.length)&&x)=(b&&decide (idx r.inum s.items.length)&&decide (idx r.pnum s.plants.length)&&decide (uK r)):=fun x hx=>by
   rw [show x=decide (uK r) by rw [Bool.eq_iff_iff,decide_eq_true_eq];exact hx]
  by_cases d1:0<=r.fr
  ·by_cases d2:r.fr<r.to
   ·try refine gS ?_
    refine cG ?_;refine zN (aX _ (decide (r.to<=1024))) [0,1,2,3,4,5,6,7,8] ?_;refine sqs ?_;rw [kd (decide (r.to<=1024)) (by rw [decide_eq_true_eq];omega)];exact zb (meet (()) (by first|trivial|omega|((try dsimp only);omega)))
   refine dT ?_;refine zN (aX _ false) [0,1,2,3,4,5,6,7,8] ?_;refine sqs ?_;rw [kd false ⟨fun h=>(by cases h),fun h=>(by omega)⟩];exact zb (meet (()) (by first|trivial|omega|((try dsimp only);omega)))
  refine dT ?_;refine zN (aX _ false) [0,1,2,3,4,5,6,7,8] ?_;refine sqs ?_;rw [kd false ⟨fun h=>(by cases h),fun h=>(by omega)⟩];exact zb (meet (()) (by first|trivial|omega|((try dsimp only);omega)))
 intro _ _;refine sqs ?_;refine zM (RoF.tok _ _ _) (hT.c) (aIL s _ r.cs r.hc.a r.hc.c) [0,1,2,3,4,5,6,7,8] ?_;refine sqs ?_;refine aA.nameAt (fun _ x=>x) 50 (by exact hT.i) ?_;refine sqv ?_;refine zL (fun (⟨k,b'⟩:Nat×Bool)=>[(52,nV k),(51,nV r.inn.length),(50,.buf 10),(3,.ptr 9 0),(0,.ptr 8 0)]) (fun ⟨k,b'⟩=>((10,.ro 7 (rws Am.row r.inn))::ckC b'::(9,.cells 49 (toV r.row))::bFM s)) 11 (fun ⟨k,b'⟩=>k<=r.inn.length/\b'=(b&&decide (idx r.inum s.items.length)&&decide (idx r.pnum s.plants.length)&&decide (uK r)&&decide (jL s r.cs)&&decide (∀a∈r.inn.take k,fX s a))) (fun ⟨k,b'⟩=>r.inn.length - k) ((0,b&&decide (idx r.inum s.items.length)&&decide (idx r.pnum s.plants.length)&&decide (uK r)&&decide (jL s r.cs))) (⟨Nat.zero_le _,kG _⟩) ?_;rintro ⟨k,b'⟩ hJ back;try dsimp only at hJ back
 conv=>whnf
 try dsimp only
 refine gS ?_;conv=>whnf
 refine ⟨fun hk=>?_,fun hk=>?_⟩<;>conv=>whnf
 ·have hk:k<r.inn.length:=by omega
  refine cG ?_;refine ⟨_,bA hk,?_⟩;conv=>whnf
  try (refine oN ?_;conv=>whnf)
  refine zN (aEN s b' r.inn[k]) [0,1,2,3,4,5,6,7,8] ?_;refine dT ?_;exact zb (back ((k+1,b'&&decide (fX s r.inn[k]))) ((⟨hk,iG hk hJ.2 rfl⟩)) (by (try dsimp only);omega))
 have hk:k=r.inn.length:=by omega
 have h2:=hJ.2;rw [hk,List.take_length] at h2;conv=>whnf
 refine zM (RcV.ok.tok _) (hT) (aYF s b' r) [0,1,2,3,4,5,6,7,8] ?_;refine sqs ?_;refine zN (aCE s _ r.rwN r.rwD) [0,1,2,3,4,5,6,7,8] ?_;refine sqs ?_;refine zN (aCE s _ r.yN r.yD) [0,1,2,3,4,5,6,7,8] ?_;refine sqs ?_;refine zN (aCE s _ r.tN r.tD) [0,1,2,3,4,5,6,7,8] ?_;refine sqs ?_;refine zN (aX _ (decide (r.rwN<r.rwD))) [0,1,2,3,4,5,6,7,8] ?_;refine sqs ?_;refine zc (fun _ _=>cX r.lead 0 15) ?_;refine sqv ?_;refine zN (aX _ (decide (bt r.lead 0 15))) [0,1,2,3,4,5,6,7,8] ?_;refine sqs ?_;refine zM (RcV.ok.tok _) (hT) (aZP s _ r) [0,1,2,3,4,5,6,7,8] ?_;refine sqs ?_;have e:(b'&&decide (sE s r)&&decide (lJ r.rwN r.rwD)&&decide (lJ r.yN r.yD)&&decide (lJ r.tN r.tD)&&decide (r.rwN<r.rwD)&&decide (bt r.lead 0 15)&&decide (aBG s r))=(b&&decide (mY s r)):=by
  rw [h2,Bool.eq_iff_iff];simp only [Bool.and_eq_true,decide_eq_true_eq];unfold mY;simp only [and_assoc]
 rw [e];exact zI Tryz.func86 () trivial
theorem bAW (s:aG) (b:Bool) (x:Sw):FnS Tryz.prog 87 9 [.ptr 8 0,.agg (toV x.row)] (ckH s b) (fun _:Unit=>True) (fun _=>.ret (.tup []) 9 (ckH s (b&&decide (pA s x)))):=by
 have key:∀y:Bool,(y=true↔pA s x)->(b&&y)=(b&&decide (pA s x)):=fun y hy=>by
  rw [show y=decide (pA s x) by rw [Bool.eq_iff_iff,decide_eq_true_eq];exact hy]
 have hP:pA s x↔((tW (s.base x.an) fun b=>tW (s.base x.bn) fun c=>b=c)/\x.an≠x.bn):=Iff.rfl
 cases h1:s.base x.an with
 |none=>
  rw [h1] at hP
  cases h2:s.base x.bn with
  |none=>
   refine zS Tryz.func87 Tryz.ntmps87 fun E0 F h w0 cs=>?_;refine zN (qY _ h1) [0,1,2,3,4,5,6,7,8] ?_;refine sqs ?_;refine zN (qY _ h2) [0,1,2,3,4,5,6,7,8] ?_;refine sqs ?_;refine zN (aX _ false) [0,1,2,3,4,5,6,7,8] ?_;refine sqs ?_;rw [key false (by rw [hP];exact ⟨fun h=>(by cases h),fun h=>h.1.elim⟩)];exact zI Tryz.func87 () trivial
  |some n2=>
   refine zS Tryz.func87 Tryz.ntmps87 fun E0 F h w0 cs=>?_;refine zN (qY _ h1) [0,1,2,3,4,5,6,7,8] ?_;refine sqs ?_;refine zN (kQ _ h2) [0,1,2,3,4,5,6,7,8] ?_;refine sqs ?_;refine zN (aX _ false) [0,1,2,3,4,5,6,7,8] ?_;refine sqs ?_;rw [key false (by rw [hP];exact ⟨fun h=>(by cases h),fun h=>h.1.elim⟩)];exact zI Tryz.func87 () trivial
 |some n=>
  rw [h1] at hP
  cases h2:s.base x.bn with
  |none=>
   rw [h2] at hP;refine zS Tryz.func87 Tryz.ntmps87 fun E0 F h w0 cs=>?_;refine zN (kQ _ h1) [0,1,2,3,4,5,6,7,8] ?_;refine sqs ?_;refine zN (qY _ h2) [0,1,2,3,4,5,6,7,8] ?_;refine sqs ?_;refine zN (aX _ false) [0,1,2,3,4,5,6,7,8] ?_;refine sqs ?_;rw [key false (by rw [hP];exact ⟨fun h=>(by cases h),fun h=>h.1.elim⟩)];exact zI Tryz.func87 () trivial
  |some m=>
   rw [h2] at hP;by_cases h3:n=m
   ·refine zS Tryz.func87 Tryz.ntmps87 fun E0 F h w0 cs=>?_;refine zN (kQ _ h1) [0,1,2,3,4,5,6,7,8] ?_;refine sqs ?_;refine zN (kQ _ h2) [0,1,2,3,4,5,6,7,8] ?_;refine dT ?_;refine zN (aX _ (!decide (x.an=x.bn))) [0,1,2,3,4,5,6,7,8] ?_;refine sqs ?_;rw [key (!decide (x.an=x.bn)) (by rw [hP,Bool.not_eq_true',decide_eq_false_iff_not];exact ⟨fun h=>⟨h3,h⟩,fun h=>h.2⟩)];exact zI Tryz.func87 () trivial
   refine zS Tryz.func87 Tryz.ntmps87 fun E0 F h w0 cs=>?_;refine zN (kQ _ h1) [0,1,2,3,4,5,6,7,8] ?_;refine sqs ?_;refine zN (kQ _ h2) [0,1,2,3,4,5,6,7,8] ?_;refine dT ?_;refine zN (aX _ false) [0,1,2,3,4,5,6,7,8] ?_;refine sqs ?_;rw [key false (by rw [hP];exact ⟨fun h=>(by cases h),fun h=>absurd h.1 h3⟩)];exact zI Tryz.func87 () trivial

structure aIB (c:Int) (m:Nat) (P:Prop):Prop where
 nn:0<=c
 iff:c<=m↔P
theorem aMA {α:Type} {f:α->Nat} {l:List α} {k m:Nat} (hk:k<l.length) {c:Int} (hc:aIB c m (∀o∈l.take k,f o<=m)):aIB (max c (f l[k])) m (∀o∈l.take (k+1),f o<=m):=by
 obtain ⟨h0,hi⟩:=hc;rw [List.take_add_one,List.getElem?_eq_getElem hk];simp only [List.mem_append,Option.toList,List.mem_singleton];refine ⟨by omega,⟨fun h o ho=>ho.elim (hi.1 (by omega) o) (fun e=>by subst e;omega),fun h=>?_⟩⟩;have h1:=hi.2 fun o ho=>h o (.inl ho);have h2:=h _ (.inr rfl);omega
theorem aGT {α:Type} {f:α->Nat} {l:List α} {m:Nat}:aIB 0 m (∀o∈l.take 0,f o<=m):=⟨by omega,by simp⟩
theorem aGK {h:Array Obj} (s:aG) {vU vI vP vM vO vF vR vS:Value} (hs:Top h vU vI vP vM vO vF vR vS s):FV 52 #[xY vU vI vP vM vO vF vR vS] h (.bool (decide (lW s))):=by
 have lU:=aZ s.units;have lI:=aE It.row s.items;have lP:=cK s.plants;have lM:=aE Mc.row s.machines;have lO:=aE OpV.row s.options;have lF:=aE FbV.row s.forbids;have lR:=aE RcV.row s.recipes;have lS:=aE Sw.row s.swaps;have mU:=hs.U.len;have mI:=hs.I.len;have mP:=hs.P.len;have mM:=hs.M.len;have mO:=hs.O.len;have mF:=hs.F.len;have mR:=hs.R.len;have mS:=hs.S.len;obtain ⟨r,hr⟩:∃r,r=decide (lW s):=⟨_,rfl⟩;rw [<-hr];refine zG 8 (zA hs (vs:=[]) (l:=[]) trivial) [.agg [.buf 0,.buf 1,.buf 2,.buf 3,.buf 4,.buf 5,.buf 6,.buf 7]] Tryz.func52 Tryz.ntmps52 fun w0 cs=>?_;refine zL (fun (⟨k,c⟩:Nat×Int)=>[(15,nV k),(14,nV ((rws OpV.row s.options).length)),(13,.buf 4),(5,nV 0),(4,nV 0),(3,nV c),(1,.ptr 8 0)]) (fun ⟨k,c⟩=>((8,.cells 31 [.buf 0,.buf 1,.buf 2,.buf 3,.buf 4,.buf 5,.buf 6,.buf 7])::bFM s)) 9 (fun ⟨k,c⟩=>k<=s.options.length/\aIB c 4 (∀o∈s.options.take k,o.ch.length<=4)) (fun ⟨k,c⟩=>s.options.length - k) ((0,0)) (⟨Nat.zero_le _,aGT⟩) ?_;rintro ⟨k,c⟩ hJ back;try dsimp only at hJ back
 conv=>whnf
 try dsimp only
 refine gS ?_;conv=>whnf
 refine ⟨fun hk=>?_,fun hk=>?_⟩<;>conv=>whnf
 ·have hk:k<s.options.length:=by omega
  refine cG ?_;refine ⟨_,bA hk,?_⟩;conv=>whnf
  try (refine oN ?_;conv=>whnf)
  refine sqC ?_;exact zb (back ((k+1,max c s.options[k].ch.length)) ((⟨hk,aMA (f:=fun o=>o.ch.length) hk hJ.2⟩)) (by (try dsimp only);omega))
 have hk:k=s.options.length:=by omega
 have hO:=hJ.2;rw [hk,List.take_length] at hO;clear back hJ;conv=>whnf
 refine zL (fun (⟨k,p⟩:Nat×(Int×Int))=>[(28,nV k),(27,nV ((rws RcV.row s.recipes).length)),(26,.buf 6),(5,nV p.2),(4,nV p.1),(3,nV c),(1,.ptr 8 0)]) (fun ⟨k,p⟩=>((8,.cells 31 [.buf 0,.buf 1,.buf 2,.buf 3,.buf 4,.buf 5,.buf 6,.buf 7])::bFM s)) 9 (fun ⟨k,p⟩=>k<=s.recipes.length/\aIB p.1 8 (∀r∈s.recipes.take k,r.inn.length<=8)/\aIB p.2 8 (∀r∈s.recipes.take k,r.out.length<=8)) (fun ⟨k,p⟩=>s.recipes.length - k) ((0,(0,0))) (⟨Nat.zero_le _,aGT,aGT⟩) ?_;rintro ⟨k,p⟩ hJ back;try dsimp only at hJ back
 conv=>whnf
 try dsimp only
 refine gS ?_;conv=>whnf
 refine ⟨fun hk=>?_,fun hk=>?_⟩<;>conv=>whnf
 ·have hk:k<s.recipes.length:=by omega
  refine cG ?_;refine ⟨_,bA hk,?_⟩;conv=>whnf
  try (refine oN ?_;conv=>whnf)
  refine zH (fls 0 12 .done) ?_;refine squ ?_;refine dT ?_;exact zb (back ((k+1,(max p.1 s.recipes[k].inn.length,max p.2 s.recipes[k].out.length))) ((⟨hk,aMA (f:=fun o=>o.inn.length) hk hJ.2.1,aMA (f:=fun o=>o.out.length) hk hJ.2.2⟩)) (by (try dsimp only);omega))
 have hk:k=s.recipes.length:=by omega
 have hI2:=hJ.2.1;have hP2:=hJ.2.2;rw [hk,List.take_length] at hI2 hP2;clear back hJ;conv=>whnf
 refine aA.loopU ?_;refine dT ?_;refine aA.indexA tab 0 ?_;refine dT ?_;refine ⟨fun q0=>?_,fun q0=>?_⟩<;>conv=>whnf
 ·conv=>whnf
  rw [hr,decide_eq_false (fun hsm=>by obtain ⟨a1,a2,a3⟩:=hsm;have:=hO.iff.2 a1;have:=hI2.iff.2 (fun r hr=>(a2 r hr).1);have:=hP2.iff.2 (fun r hr=>(a2 r hr).2);omega)];exact zR Tryz.func52
 refine cG ?_;refine aA.againU ?_;refine dT ?_;refine aA.indexA tab 1 ?_;refine dT ?_;refine ⟨fun q1=>?_,fun q1=>?_⟩<;>conv=>whnf
 ·conv=>whnf
  rw [hr,decide_eq_false (fun hsm=>by obtain ⟨a1,a2,a3⟩:=hsm;have:=hO.iff.2 a1;have:=hI2.iff.2 (fun r hr=>(a2 r hr).1);have:=hP2.iff.2 (fun r hr=>(a2 r hr).2);omega)];exact zR Tryz.func52
 refine cG ?_;refine aA.againU ?_;refine dT ?_;refine aA.indexA tab 2 ?_;refine dT ?_;refine ⟨fun q2=>?_,fun q2=>?_⟩<;>conv=>whnf
 ·conv=>whnf
  rw [hr,decide_eq_false (fun hsm=>by obtain ⟨a1,a2,a3⟩:=hsm;have:=hO.iff.2 a1;have:=hI2.iff.2 (fun r hr=>(a2 r hr).1);have:=hP2.iff.2 (fun r hr=>(a2 r hr).2);omega)];exact zR Tryz.func52
 refine cG ?_;refine aA.againU ?_;refine dT ?_;refine aA.indexA tab 3 ?_;refine dT ?_;refine ⟨fun q3=>?_,fun q3=>?_⟩<;>conv=>whnf
 ·conv=>whnf
  rw [hr,decide_eq_false (fun hsm=>by obtain ⟨a1,a2,a3⟩:=hsm;have:=hO.iff.2 a1;have:=hI2.iff.2 (fun r hr=>(a2 r hr).1);have:=hP2.iff.2 (fun r hr=>(a2 r hr).2);omega)];exact zR Tryz.func52
 refine cG ?_;refine aA.againU ?_;refine dT ?_;refine aA.indexA tab 4 ?_;refine dT ?_;refine ⟨fun q4=>?_,fun q4=>?_⟩<;>conv=>whnf
 ·conv=>whnf
  rw [hr,decide_eq_false (fun hsm=>by obtain ⟨a1,a2,a3⟩:=hsm;have:=hO.iff.2 a1;have:=hI2.iff.2 (fun r hr=>(a2 r hr).1);have:=hP2.iff.2 (fun r hr=>(a2 r hr).2);omega)];exact zR Tryz.func52
 refine cG ?_;refine aA.againU ?_;refine dT ?_;refine aA.indexA tab 5 ?_;refine dT ?_;refine ⟨fun q5=>?_,fun q5=>?_⟩<;>conv=>whnf
 ·conv=>whnf
  rw [hr,decide_eq_false (fun hsm=>by obtain ⟨a1,a2,a3⟩:=hsm;have:=hO.iff.2 a1;have:=hI2.iff.2 (fun r hr=>(a2 r hr).1);have:=hP2.iff.2 (fun r hr=>(a2 r hr).2);omega)];exact zR Tryz.func52
 refine cG ?_;refine aA.againU ?_;refine dT ?_;refine aA.indexA tab 6 ?_;refine dT ?_;refine ⟨fun q6=>?_,fun q6=>?_⟩<;>conv=>whnf
 ·conv=>whnf
  rw [hr,decide_eq_false (fun hsm=>by obtain ⟨a1,a2,a3⟩:=hsm;have:=hO.iff.2 a1;have:=hI2.iff.2 (fun r hr=>(a2 r hr).1);have:=hP2.iff.2 (fun r hr=>(a2 r hr).2);omega)];exact zR Tryz.func52
 refine cG ?_;refine aA.againU ?_;refine dT ?_;refine aA.indexA tab 7 ?_;refine dT ?_;refine ⟨fun q7=>?_,fun q7=>?_⟩<;>conv=>whnf
 ·conv=>whnf
  rw [hr,decide_eq_false (fun hsm=>by obtain ⟨a1,a2,a3⟩:=hsm;have:=hO.iff.2 a1;have:=hI2.iff.2 (fun r hr=>(a2 r hr).1);have:=hP2.iff.2 (fun r hr=>(a2 r hr).2);omega)];exact zR Tryz.func52
 refine cG ?_;refine aA.againU ?_;refine dT ?_;refine aA.indexA tab 8 ?_;refine dT ?_;refine ⟨fun q8=>?_,fun q8=>?_⟩<;>conv=>whnf
 ·conv=>whnf
  rw [hr,decide_eq_false (fun hsm=>by obtain ⟨a1,a2,a3⟩:=hsm;have:=hO.iff.2 a1;have:=hI2.iff.2 (fun r hr=>(a2 r hr).1);have:=hP2.iff.2 (fun r hr=>(a2 r hr).2);omega)];exact zR Tryz.func52
 refine cG ?_;refine aA.againU ?_;refine dT ?_;refine aA.indexA tab 9 ?_;refine dT ?_;refine ⟨fun q9=>?_,fun q9=>?_⟩<;>conv=>whnf
 ·conv=>whnf
  rw [hr,decide_eq_false (fun hsm=>by obtain ⟨a1,a2,a3⟩:=hsm;have:=hO.iff.2 a1;have:=hI2.iff.2 (fun r hr=>(a2 r hr).1);have:=hP2.iff.2 (fun r hr=>(a2 r hr).2);omega)];exact zR Tryz.func52
 refine cG ?_;refine aA.againU ?_;refine dT ?_;have hsm:lW s:=⟨hO.iff.1 (by omega),fun r hr=>⟨hI2.iff.1 (by omega) r hr,hP2.iff.1 (by omega) r hr⟩,by omega⟩;rw [hr,decide_eq_true hsm];exact zR Tryz.func52
theorem opt_ne (o:OpV):decide (0<(o.ch.length:Int))=decide (o.ch ≠ []):=by
 refine decide_eq_decide.2 ?_;cases o.ch<;>simp
theorem fb_ne (o:FbV):decide (0<(o.cs.length:Int))=decide (o.cs ≠ []):=by
 refine decide_eq_decide.2 ?_;cases o.cs<;>simp
theorem aRD (s:aG) (b:Bool):FnT Tryz.prog (fun F h=>s.sub F h) 53 9 [.ptr 8 0] (ckH s b) (fun _:Unit=>True) (fun _=>.ret (.tup []) 9 (ckH s (b&&decide (vE s)))):=by
 have lU:=aZ s.units;have lI:=aE It.row s.items;have lP:=cK s.plants;have lM:=aE Mc.row s.machines;have lO:=aE OpV.row s.options;have lF:=aE FbV.row s.forbids;have lR:=aE RcV.row s.recipes;have lS:=aE Sw.row s.swaps;refine zT Tryz.func53 Tryz.ntmps53 fun E0 F h hT w0 cs=>?_;refine aA.lenB 1 (fun m1=>?_);refine zL (fun (⟨k,b1⟩:Nat×Bool)=>[(20,nV k),(19,nV ((rws It.row s.items).length)),(18,.buf 1),(0,.ptr 8 0)]) (fun ⟨k,b1⟩=>(ckC b1::bFM s)) 9 (fun ⟨k,b1⟩=>k<=s.items.length/\b1=(b&&decide (∀a∈s.items.take k,qF s a))) (fun ⟨k,b1⟩=>s.items.length - k) ((0,b)) (⟨Nat.zero_le _,kG _⟩) ?_;rintro ⟨k,b1⟩ hJ back;try dsimp only at hJ back
 conv=>whnf
 try dsimp only
 refine gS ?_;conv=>whnf
 refine ⟨fun hk=>?_,fun hk=>?_⟩<;>conv=>whnf
 ·have hk:k<s.items.length:=by omega
  refine cG ?_;refine ⟨_,bA hk,?_⟩;conv=>whnf
  try (refine oN ?_;conv=>whnf)
  refine aA.callN (bAA s b1 s.items[k]) [0,1,2,3,4,5,6,7,8] ?_ sH ?CNa6;case CNa6=>rfl
  intro _ _;refine bFP ?_;exact zb (back ((k+1,b1&&decide (qF s s.items[k]))) ((⟨hk,iG hk hJ.2 rfl⟩)) (by (try dsimp only);omega))
 have hk:k=s.items.length:=by omega
 have h1:=hJ.2;rw [hk,List.take_length] at h1
 rename_i hk0
 clear back hJ hk hk0 m1;conv=>whnf
 refine aA.lenB 3 (fun m2=>?_);refine zL (fun (⟨k,b2⟩:Nat×Bool)=>[(34,nV k),(33,nV ((rws Mc.row s.machines).length)),(32,.buf 3),(0,.ptr 8 0)]) (fun ⟨k,b2⟩=>(ckC b2::bFM s)) 9 (fun ⟨k,b2⟩=>k<=s.machines.length/\b2=(b1&&decide (∀a∈s.machines.take k,yE s a))) (fun ⟨k,b2⟩=>s.machines.length - k) ((0,b1)) (⟨Nat.zero_le _,kG _⟩) ?_;rintro ⟨k,b2⟩ hJ back;try dsimp only at hJ back
 conv=>whnf
 try dsimp only
 refine gS ?_;conv=>whnf
 refine ⟨fun hk=>?_,fun hk=>?_⟩<;>conv=>whnf
 ·have hk:k<s.machines.length:=by omega
  refine cG ?_;refine ⟨_,bA hk,?_⟩;conv=>whnf
  try (refine oN ?_;conv=>whnf)
  refine zH (fls 0 9 (.e1 9 [] (.e1 10 [] .done))) ?_;refine squ ?_;refine zk (fun _ _=>aKI s.machines[k].pn lP) ?_;refine squ ?_;refine zK (aX b2 (decide (idx s.machines[k].pn s.plants.length))) [0,1,2,3,4,5,6,7,8] ?_;refine sqr ?_;refine sqs ?_;refine zc (fun _ _=>cX s.machines[k].clean 0 15) ?_;refine sqv ?_;refine zN (aX _ (decide (bt s.machines[k].clean 0 15))) [0,1,2,3,4,5,6,7,8] ?_;refine dT ?_;rw [Bool.and_assoc b2,show (decide (idx s.machines[k].pn s.plants.length)&&decide (bt s.machines[k].clean 0 15))=decide (yE s s.machines[k]) by rw [Bool.eq_iff_iff];simp only [Bool.and_eq_true,decide_eq_true_eq];exact Iff.rfl];exact zb (back ((k+1,b2&&decide (yE s s.machines[k]))) ((⟨hk,iG hk hJ.2 rfl⟩)) (by (try dsimp only);omega))
 have hk:k=s.machines.length:=by omega
 have h2:=hJ.2;rw [hk,List.take_length] at h2
 rename_i hk0
 clear back hJ hk hk0 m2;conv=>whnf
 refine aA.lenB 4 (fun m3=>?_);refine zL (fun (⟨k,b3⟩:Nat×Bool)=>[(61,nV k),(60,nV ((rws OpV.row s.options).length)),(59,.buf 4),(0,.ptr 8 0)]) (fun ⟨k,b3⟩=>(ckC b3::bFM s)) 9 (fun ⟨k,b3⟩=>k<=s.options.length/\b3=(b2&&decide (∀a∈s.options.take k,a.ch ≠ []))) (fun ⟨k,b3⟩=>s.options.length - k) ((0,b2)) (⟨Nat.zero_le _,kG _⟩) ?_;rintro ⟨k,b3⟩ hJ back;try dsimp only at hJ back
 conv=>whnf
 try dsimp only
 refine gS ?_;conv=>whnf
 refine ⟨fun hk=>?_,fun hk=>?_⟩<;>conv=>whnf
 ·have hk:k<s.options.length:=by omega
  refine cG ?_;refine ⟨_,bA hk,?_⟩;conv=>whnf
  try (refine oN ?_;conv=>whnf)
  refine aA.callN (aX b3 (decide (0<(s.options[k].ch.length:Int)))) [0,1,2,3,4,5,6,7,8] ?_ sH ?CNa13;case CNa13=>rfl
  intro _ _;refine bFP ?_;exact zb (back ((k+1,b3&&decide (0<(s.options[k].ch.length:Int)))) ((⟨hk,iG hk hJ.2 (opt_ne _)⟩)) (by (try dsimp only);omega))
 have hk:k=s.options.length:=by omega
 have h3:=hJ.2;rw [hk,List.take_length] at h3
 rename_i hk0
 clear back hJ hk hk0 m3;conv=>whnf
 refine aA.lenB 5 (fun m4=>?_);refine zL (fun (⟨k,b4⟩:Nat×Bool)=>[(78,nV k),(77,nV ((rws FbV.row s.forbids).length)),(76,.buf 5),(0,.ptr 8 0)]) (fun ⟨k,b4⟩=>(ckC b4::bFM s)) 9 (fun ⟨k,b4⟩=>k<=s.forbids.length/\b4=(b3&&decide (∀a∈s.forbids.take k,a.cs ≠ []/\jL s a.cs))) (fun ⟨k,b4⟩=>s.forbids.length - k) ((0,b3)) (⟨Nat.zero_le _,kG _⟩) ?_;rintro ⟨k,b4⟩ hJ back;try dsimp only at hJ back
 conv=>whnf
 try dsimp only
 refine gS ?_;conv=>whnf
 refine ⟨fun hk=>?_,fun hk=>?_⟩<;>conv=>whnf
 ·have hk:k<s.forbids.length:=by omega
  refine cG ?_;refine ⟨_,bA hk,?_⟩;conv=>whnf
  refine zN (aX b4 (decide (0<(s.forbids[k].cs.length:Int)))) [0,1,2,3,4,5,6,7,8] ?_;refine sqs ?_;refine zM (RoF.tok _ _ _) (hT.f _ (List.getElem_mem hk)) (aIL s _ s.forbids[k].cs s.forbids[k].hd.a s.forbids[k].hd.c) [0,1,2,3,4,5,6,7,8] ?_;refine dT ?_;rw [Bool.and_assoc b4,fb_ne,show (decide (s.forbids[k].cs ≠ [])&&decide (jL s s.forbids[k].cs))=decide (s.forbids[k].cs ≠ []/\jL s s.forbids[k].cs) by rw [Bool.eq_iff_iff];simp only [Bool.and_eq_true,decide_eq_true_eq]];exact zb (back ((k+1,b4&&decide (s.forbids[k].cs ≠ []/\jL s s.forbids[k].cs))) ((⟨hk,iG hk hJ.2 rfl⟩)) (by (try dsimp only);omega))
 have hk:k=s.forbids.length:=by omega
 have h4:=hJ.2;rw [hk,List.take_length] at h4
 rename_i hk0
 clear back hJ hk hk0 m4;conv=>whnf
 refine aA.lenB 6 (fun m5=>?_);refine zL (fun (⟨k,b5⟩:Nat×Bool)=>[(97,nV k),(96,nV ((rws RcV.row s.recipes).length)),(95,.buf 6),(0,.ptr 8 0)]) (fun ⟨k,b5⟩=>(ckC b5::bFM s)) 9 (fun ⟨k,b5⟩=>k<=s.recipes.length/\b5=(b4&&decide (∀a∈s.recipes.take k,mY s a))) (fun ⟨k,b5⟩=>s.recipes.length - k) ((0,b4)) (⟨Nat.zero_le _,kG _⟩) ?_;rintro ⟨k,b5⟩ hJ back;try dsimp only at hJ back
 conv=>whnf
 try dsimp only
 refine gS ?_;conv=>whnf
 refine ⟨fun hk=>?_,fun hk=>?_⟩<;>conv=>whnf
 ·have hk:k<s.recipes.length:=by omega
  refine cG ?_;refine ⟨_,bA hk,?_⟩;conv=>whnf
  try (refine oN ?_;conv=>whnf)
  refine aA.callT (RcV.ok.tok _) (hT.r _ (List.getElem_mem hk)) (aQR s b5 s.recipes[k]) [0,1,2,3,4,5,6,7,8] sH ?CNa20 ?_;case CNa20=>rfl
  intro _ _;refine bFP ?_;exact zb (back ((k+1,b5&&decide (mY s s.recipes[k]))) ((⟨hk,iG hk hJ.2 rfl⟩)) (by (try dsimp only);omega))
 have hk:k=s.recipes.length:=by omega
 have h5:=hJ.2;rw [hk,List.take_length] at h5
 rename_i hk0
 clear back hJ hk hk0 m5;conv=>whnf
 refine aA.lenB 7 (fun m6=>?_);refine zL (fun (⟨k,b6⟩:Nat×Bool)=>[(111,nV k),(110,nV ((rws Sw.row s.swaps).length)),(109,.buf 7),(0,.ptr 8 0)]) (fun ⟨k,b6⟩=>(ckC b6::bFM s)) 9 (fun ⟨k,b6⟩=>k<=s.swaps.length/\b6=(b5&&decide (∀a∈s.swaps.take k,pA s a))) (fun ⟨k,b6⟩=>s.swaps.length - k) ((0,b5)) (⟨Nat.zero_le _,kG _⟩) ?_;rintro ⟨k,b6⟩ hJ back;try dsimp only at hJ back
 conv=>whnf
 try dsimp only
 refine gS ?_;conv=>whnf
 refine ⟨fun hk=>?_,fun hk=>?_⟩<;>conv=>whnf
 ·have hk:k<s.swaps.length:=by omega
  refine cG ?_;refine ⟨_,bA hk,?_⟩;conv=>whnf
  try (refine oN ?_;conv=>whnf)
  refine aA.callN (bAW s b6 s.swaps[k]) [0,1,2,3,4,5,6,7,8] ?_ sH ?CNa23;case CNa23=>rfl
  intro _ _;refine bFP ?_;exact zb (back ((k+1,b6&&decide (pA s s.swaps[k]))) ((⟨hk,iG hk hJ.2 rfl⟩)) (by (try dsimp only);omega))
 have hk:k=s.swaps.length:=by omega
 have h6:=hJ.2;rw [hk,List.take_length] at h6
 rename_i hk0
 clear back hJ hk hk0 m6;conv=>whnf
 have e:b6=(b&&decide (vE s)):=by
  rw [h6,h5,h4,h3,h2,h1,Bool.eq_iff_iff];simp only [Bool.and_eq_true,decide_eq_true_eq,and_assoc];exact ⟨fun ⟨a,b,c,d,e,f,g⟩=>⟨a,b,c,d,e,f,g⟩,fun ⟨a,⟨b,c,d,e,f,g⟩⟩=>⟨a,b,c,d,e,f,g⟩⟩
 rw [e];exact zI Tryz.func53 () trivial

theorem qI {h:Array Obj} (s:aG) {vU vI vP vM vO vF vR vS:Value} (hs:Top h vU vI vP vM vO vF vR vS s) (hw:s.wf) (hT:gN h):FV 25 #[xY vU vI vP vM vO vF vR vS] h (.int .i64 (bE s)):=by
 refine zG 8 (zA hs (vs:=[]) (l:=[]) trivial) [.agg [.buf 0,.buf 1,.buf 2,.buf 3,.buf 4,.buf 5,.buf 6,.buf 7]] Tryz.func25 Tryz.ntmps25 fun w0 cs=>?_;by_cases hu:eT s.units=0
 ·refine aA.callV (fun _ _ _ Sz K=>vZ s.units hw.U (Sz.ro (b:=0) rfl) (hT.keeps ⟨K.size,K.same⟩)) ?_;conv=>whnf
  rw [hu];try dsimp only
  refine dT ?_;by_cases hm:lW s
  ·refine aA.callV (fun _ _ _ Sz K=>aGK s (zB Sz K hs)) ?_;conv=>whnf
   rw [decide_eq_true hm];refine sqs ?_;have C:=aRD s true;by_cases ht:vE s
   ·rw [Bool.true_and,decide_eq_true ht] at C;refine zM (aG.sub.tok _) (hs.below) (C) [0,1,2,3,4,5,6,7,9] ?_;refine sqs ?_;have:bE s=0:=by unfold bE;rw [if_neg (fun h=>h hu),if_neg (fun h=>h hm),if_neg (fun h=>h ht)]
    rw [this];exact zR Tryz.func25
   rw [Bool.true_and,decide_eq_false ht] at C;refine zM (aG.sub.tok _) (hs.below) (C) [0,1,2,3,4,5,6,7,9] ?_;refine sqs ?_;have:bE s=120:=by unfold bE;rw [if_neg (fun h=>h hu),if_neg (fun h=>h hm),if_pos ht]
   rw [this];exact zR Tryz.func25
  refine aA.callV (fun _ _ _ Sz K=>aGK s (zB Sz K hs)) ?_;conv=>whnf
  rw [decide_eq_false hm];refine sqs ?_;have:bE s=2:=by unfold bE;rw [if_neg (fun h=>h hu),if_pos hm]
  rw [this];exact zR Tryz.func25
 refine aA.callV (fun _ _ _ Sz K=>vZ s.units hw.U (Sz.ro (b:=0) rfl) (hT.keeps ⟨K.size,K.same⟩)) ?_;refine bFP ?_;have:bE s=eT s.units:=by unfold bE;rw [if_pos hu]
 rw [this];exact zR Tryz.func25
abbrev amV (a:Am):Value:=.agg a.row.toArray
abbrev zrC (b:Nat):Nat×Fw.Blk:=(b,.cells 35 [.v (.bool false),.v (.string ⟨#[]⟩),.v (.string ⟨#[]⟩)])
theorem tAmt_fn {h:Array Obj} (s:aG) {vU vI vP vM vO vF vR vS:Value} (hs:Top h vU vI vP vM vO vF vR vS s) (hw:s.wf) (a:Am) (ha:a.wf) (hT:gN h):FV 45 #[xY vU vI vP vM vO vF vR vS,amV a] h (rev (aDL s a)):=by
 have lU:=aZ s.units;have lI:=aE It.row s.items;have lP:=cK s.plants;have lM:=aE Mc.row s.machines;have lO:=aE OpV.row s.options;have lF:=aE FbV.row s.forbids;have lR:=aE RcV.row s.recipes;have lS:=aE Sw.row s.swaps;obtain ⟨y,hy⟩:∃y,y=aDL s a:=⟨_,rfl⟩;rw [<-hy];unfold aDL at hy;refine zG 8 (zA hs (vs:=[]) (l:=[]) trivial) [.agg [.buf 0,.buf 1,.buf 2,.buf 3,.buf 4,.buf 5,.buf 6,.buf 7],.agg (toV a.row)] Tryz.func45 Tryz.ntmps45 fun w0 cs=>?_;by_cases h1:idx a.inn s.items.length
 ·obtain ⟨k,e,hk,e3⟩:=at?_idx h1;rw [e3] at hy;dsimp only at hy;refine zc (fun _ _=>oO a.inn (rws It.row s.items).length (by omega)) ?_;refine sqv ?_;refine aA.callV (fun _ _ _ _ K=>iC a.n a.d ha.1 ha.2.1 (hT.keeps ⟨K.size,K.same⟩)) ?_;refine sqv ?_;refine ⟨fun h2=>?_,fun h2=>?_⟩<;>conv=>whnf
  ·conv=>whnf
   rw [if_neg (fun h=>h h2)] at hy;refine zH (fls 0 12 (.e1 12 [] (fls 13 2 (.e1 15 [] (.fl 16 .done))))) ?_;refine aBF ?_;conv=>whnf
   refine ⟨_,(by rw [e];exact bA hk),?_⟩;conv=>whnf
   refine aK.callV (fun _ _ _ Sz K=>aSF s.units hw.U (Sz.ro (b:=0) rfl) a.un s.items[k].un (eU a.n a.d).1 (hT.keeps ⟨K.size,K.same⟩)) zP ?_;refine aBF ?_;refine sqs ?_;subst hy;exact zR Tryz.func45
  conv=>whnf
  rw [if_pos h2] at hy;subst hy;exact zR Tryz.func45
 rw [at?_none h1] at hy;subst hy;refine zc (fun _ _=>rT a.inn (rws It.row s.items).length (by rw [lI];exact h1)) ?_;refine sqv ?_;exact zR Tryz.func45
theorem aFK {h:Array Obj} (s:aG) {vU vI vP vM vO vF vR vS:Value} (hs:Top h vU vI vP vM vO vF vR vS s) (hw:s.wf) (a:Am) (ha:a.wf) (hT:gN h):FV 19 #[xY vU vI vP vM vO vF vR vS,amV a] h (rev (nR s a)):=by
 have lU:=aZ s.units;have lI:=aE It.row s.items;have lP:=cK s.plants;have lM:=aE Mc.row s.machines;have lO:=aE OpV.row s.options;have lF:=aE FbV.row s.forbids;have lR:=aE RcV.row s.recipes;have lS:=aE Sw.row s.swaps;obtain ⟨y,hy⟩:∃y,y=nR s a:=⟨_,rfl⟩;rw [<-hy];unfold nR at hy;refine zG 8 (zA hs (vs:=[]) (l:=[]) trivial) [.agg [.buf 0,.buf 1,.buf 2,.buf 3,.buf 4,.buf 5,.buf 6,.buf 7],.agg (toV a.row)] Tryz.func19 Tryz.ntmps19 fun w0 cs=>?_;refine aA.callV (fun _ _ _ Sz K=>tAmt_fn s (zB Sz K hs) hw a ha (hT.keeps ⟨K.size,K.same⟩)) ?_;refine sqv ?_;refine ⟨fun h0=>?_,fun h0=>?_⟩<;>conv=>whnf
 ·conv=>whnf
  rw [if_neg (fun h=>h h0)] at hy;have h1:idx a.inn s.items.length:=Decidable.byContradiction fun h1=>by
   unfold aDL at h0;rw [at?_none h1] at h0;exact absurd (show (120:Int)=0 from h0) (by omega)
  obtain ⟨k,e,hk,e3⟩:=at?_idx h1;rw [e3] at hy;dsimp only at hy;have hi:=hw.I _ (List.getElem_mem hk);refine aA.join (fun (_:Unit)=>[(7,.ptr 12 0),(6,.ptr 11 0),(5,nV ((eU s.items[k].mn s.items[k].md).2)),(4,.ptr 10 0)]) (fun (_:Unit)=>[rtB 12 (eU s.items[k].mn s.items[k].md).1,rtB 11 (aDL s a).1,zrC 10]) 13 (fun (_:Unit)=>True) ?_ (fun meet=>?_);rotate_left
  ·refine zH (fls 0 14 (.e2 14 [] (fls 15 3 (.e1 18 [1,3,6,8,10,13] (.e1 19 [] (.fl 20 .done)))) 18 [1,3,6,8,10,13] (.e1 14 [] (fls 15 3 (.e1 19 [] (.fl 20 .done)))))) ?_;refine aBF ?_;conv=>whnf
   refine ⟨_,(by rw [e];exact bA hk),?_⟩;conv=>whnf
   try (refine oN ?_;conv=>whnf)
   conv=>whnf
   refine ⟨_,(by rw [e];exact bA hk),?_⟩;conv=>whnf
   refine ⟨?_,?_⟩<;>conv=>whnf
   ·refine aK.callV (fun _ _ _ _ K=>iC s.items[k].mn s.items[k].md hi.1 hi.2.1 (hT.keeps ⟨K.size,K.same⟩)) zP ?_;refine aBF ?_;refine sqs ?_;exact zb (meet (()) (by first|trivial|omega|((try dsimp only);omega)))
   refine mE ?_;conv=>whnf
   refine aK.callV (fun _ _ _ _ K=>iC s.items[k].mn s.items[k].md hi.1 hi.2.1 (hT.keeps ⟨K.size,K.same⟩)) zP ?_;refine aBF ?_;refine sqs ?_;exact zb (meet (()) (by first|trivial|omega|((try dsimp only);omega)))
  intro _ _;refine sqs ?_;refine ⟨fun h2=>?_,fun h2=>?_⟩<;>conv=>whnf
  ·conv=>whnf
   rw [if_neg (fun h=>h h2)] at hy;refine aA.callV (fun _ _ _ _ K=>nT (aDL s a).1 (eU s.items[k].mn s.items[k].md).1 (hT.keeps ⟨K.size,K.same⟩)) ?_;refine sqv ?_;subst hy;exact zR Tryz.func19
  conv=>whnf
  rw [if_pos h2] at hy;subst hy;exact zR Tryz.func19
 conv=>whnf
 rw [if_pos h0] at hy;subst hy;exact zR Tryz.func19

theorem bDH {h:Array Obj} (n a b:Int):FV 98 #[.int .i64 n,.int .i64 a,.int .i64 b] h (.bool (decide (bt n a b))):=by
 refine zO Tryz.func98 Tryz.ntmps98 (args:=[.int .i64 n,.int .i64 a,.int .i64 b]) fun w0 cs=>?_;repeat' (refine And.intro (fun hs=>?_) (fun hs=>?_)<;>(conv=>whnf))
 all_goals (
  refine zW Tryz.func98 fun Ez=>?_
  first|exact congrArg Value.bool (decide_eq_true (by omega)).symm|exact congrArg Value.bool (decide_eq_false (by omega)).symm|exact congrArg Value.bool (decide_eq_decide.2 (by omega))
 )
theorem aGU {h:Array Obj} {n a b:Int} (k:bt n a b):FV 98 #[.int .i64 n,.int .i64 a,.int .i64 b] h (.bool true):=by
 have:=bDH (h:=h) n a b;rw [decide_eq_true k] at this;exact this
theorem aPO {h:Array Obj} {n a b:Int} (k:¬bt n a b):FV 98 #[.int .i64 n,.int .i64 a,.int .i64 b] h (.bool false):=by
 have:=bDH (h:=h) n a b;rw [decide_eq_false k] at this;exact this
theorem bEL {h:Array Obj} (n:Int) {m l:Nat} (e:m=l) (hm:m<=9223372036854775807):FV 97 #[.int .i64 n,.int .i64 m] h (.bool (decide (idx n l))):=by
 subst e;refine zO Tryz.func97 Tryz.ntmps97 (args:=[.int .i64 n,.int .i64 m]) fun w0 cs=>?_;refine sqC ?_;refine zc (fun _ _=>bDH n 0 ((m:Int) - 1)) ?_;refine sqv ?_;refine zW Tryz.func97 fun Ez=>?_;exact congrArg Value.bool (decide_eq_decide.2 (by omega))
theorem mC {h:Array Obj} {n:Int} {m l:Nat} (e:m=l) (hm:m<=9223372036854775807) (k:idx n l):FV 97 #[.int .i64 n,.int .i64 m] h (.bool true):=by
 have:=bEL (h:=h) n e hm;rw [decide_eq_true k] at this;exact this
theorem aGV {h:Array Obj} {n:Int} {m l:Nat} (e:m=l) (hm:m<=9223372036854775807) (k:¬idx n l):FV 97 #[.int .i64 n,.int .i64 m] h (.bool false):=by
 have:=bEL (h:=h) n e hm;rw [decide_eq_false k] at this;exact this
theorem oP {h:Array Obj} (n d:Int):FV 207 #[.int .i64 n,.int .i64 d] h (.bool (decide (lJ n d))):=by
 refine zO Tryz.func207 Tryz.ntmps207 (args:=[.int .i64 n,.int .i64 d]) fun w0 cs=>?_;by_cases k:bt d 1 1048576
 ·refine zc (fun _ _=>aGU k) ?_;refine sqv ?_;refine zc (fun _ _=>bDH n 0 d) ?_;refine sqv ?_;refine zW Tryz.func207 fun Ez=>?_;exact congrArg Value.bool (decide_eq_decide.2 ⟨fun h=>⟨k,h⟩,fun h=>h.2⟩)
 refine zc (fun _ _=>aPO k) ?_;refine sqv ?_;refine zW Tryz.func207 fun Ez=>?_;exact congrArg Value.bool (decide_eq_false fun h=>k h.1).symm
theorem aLD {h:Array Obj} (s:aG) {vU vI vP vM vO vF vR vS:Value} (hs:Top h vU vI vP vM vO vF vR vS s) {i:Int} {k j:Nat} (e:i=k) (hk:k<s.items.length) (hu:s.items[k].un=j) (hj:j<s.units.length):
  FV 101 #[xY vU vI vP vM vO vF vR vS,.int .i64 i] h (.int .i64 s.units[j].base):=by
 have lU:=aZ s.units;have lI:=aE It.row s.items;have lP:=cK s.plants;have lM:=aE Mc.row s.machines;have lO:=aE OpV.row s.options;have lF:=aE FbV.row s.forbids;have lR:=aE RcV.row s.recipes;have lS:=aE Sw.row s.swaps;refine zG 8 (zA hs (vs:=[]) (l:=[]) trivial) [.agg [.buf 0,.buf 1,.buf 2,.buf 3,.buf 4,.buf 5,.buf 6,.buf 7],nV i] Tryz.func101 Tryz.ntmps101 fun w0 cs=>?_;refine zH (fls 0 12 .done) ?_;refine aBF ?_;conv=>whnf
 refine ⟨_,(by rw [e];exact bA hk),?_⟩;conv=>whnf
 try (refine oN ?_;conv=>whnf)
 conv=>whnf
 refine ⟨_,(by rw [hu];exact dK hj),?_⟩;refine sqv ?_;exact zR Tryz.func101
theorem aVB {h:Array Obj} (s:aG) {vU vI vP vM vO vF vR vS:Value} (hs:Top h vU vI vP vM vO vF vR vS s) (hi:∀i∈s.items,idx i.un s.units.length) (a:Am):
  FV 271 #[xY vU vI vP vM vO vF vR vS,amV a] h (.bool (decide (fX s a))):=by
 have lU:=aZ s.units;have lI:=aE It.row s.items;have lP:=cK s.plants;have lM:=aE Mc.row s.machines;have lO:=aE OpV.row s.options;have lF:=aE FbV.row s.forbids;have lR:=aE RcV.row s.recipes;have lS:=aE Sw.row s.swaps;have mU:=hs.U.len;have mI:=hs.I.len;have mP:=hs.P.len;have mM:=hs.M.len;have mO:=hs.O.len;have mF:=hs.F.len;have mR:=hs.R.len;have mS:=hs.S.len;refine zG 8 (zA hs (vs:=[]) (l:=[]) trivial) [.agg [.buf 0,.buf 1,.buf 2,.buf 3,.buf 4,.buf 5,.buf 6,.buf 7],.agg (toV a.row)] Tryz.func271 Tryz.ntmps271 fun w0 cs=>?_;by_cases h1:bt a.n 1 1048576
 rotate_left
 ·refine zH (fls 0 2 (.e1 2 [] (fls 3 3 (.e1 6 [] (fls 7 7 (.e1 14 [] (fls 15 7 (.e1 22 [] (fls 23 12 (.e1 35 [26,28,31] (fls 36 3 .done))))))))))) ?_;refine squ ?_;refine zk (fun _ _=>aPO h1) ?_;refine aBF ?_;refine sqs ?_;refine aA.retU (aB.ret tab Tryz.func271 rfl fun Ez Hz Az Sz K=>⟨_,rfl,congrArg Value.bool (decide_eq_false fun h=>h1 h.1).symm,K.keeps⟩)
 by_cases h2:bt a.d 1 1048576
 rotate_left
 ·refine zH (fls 0 2 (.e1 2 [] (fls 3 3 (.e1 6 [] (fls 7 7 (.e1 14 [] (fls 15 7 (.e1 22 [] (fls 23 12 (.e1 35 [26,28,31] (fls 36 3 .done))))))))))) ?_;refine squ ?_;refine zk (fun _ _=>aGU h1) ?_;refine squ ?_;refine zk (fun _ _=>aPO h2) ?_;refine aBF ?_;refine sqs ?_;refine aA.retU (aB.ret tab Tryz.func271 rfl fun Ez Hz Az Sz K=>⟨_,rfl,congrArg Value.bool (decide_eq_false fun h=>h2 h.2.1).symm,K.keeps⟩)
 by_cases h3:idx a.un s.units.length
 rotate_left
 ·refine zH (fls 0 2 (.e1 2 [] (fls 3 3 (.e1 6 [] (fls 7 7 (.e1 14 [] (fls 15 7 (.e1 22 [] (fls 23 12 (.e1 35 [26,28,31] (fls 36 3 .done))))))))))) ?_;refine squ ?_;refine zk (fun _ _=>aGU h1) ?_;refine squ ?_;refine zk (fun _ _=>aGU h2) ?_;refine squ ?_;refine zk (fun _ _=>aGV lU mU h3) ?_;refine aBF ?_;refine sqs ?_;refine aA.retU (aB.ret tab Tryz.func271 rfl fun Ez Hz Az Sz K=>⟨_,rfl,congrArg Value.bool (decide_eq_false fun h=>by have:=h.2.2;rw [at?_none h3] at this;obtain ⟨b,_,hb⟩:=aMG.1 this;exact hb).symm,K.keeps⟩)
 by_cases h4:idx a.inn s.items.length
 rotate_left
 ·have hb:s.base a.inn=none:=by unfold aG.base;rw [at?_none h4]
  refine zH (fls 0 2 (.e1 2 [] (fls 3 3 (.e1 6 [] (fls 7 7 (.e1 14 [] (fls 15 7 (.e1 22 [] (fls 23 12 (.e1 35 [26,28,31] (fls 36 3 .done))))))))))) ?_;refine squ ?_;refine zk (fun _ _=>aGU h1) ?_;refine squ ?_;refine zk (fun _ _=>aGU h2) ?_;refine squ ?_;refine zk (fun _ _=>mC lU mU h3) ?_;refine squ ?_;refine zk (fun _ _=>aGV lI mI h4) ?_;refine aBF ?_;refine sqs ?_;refine aA.retU (aB.ret tab Tryz.func271 rfl fun Ez Hz Az Sz K=>⟨_,rfl,congrArg Value.bool (decide_eq_false fun h=>by have:=h.2.2;rw [hb] at this;exact this).symm,K.keeps⟩)
 obtain ⟨j,e1,hj,e2⟩:=at?_idx h3;obtain ⟨k,e3,hk,e4⟩:=at?_idx h4;obtain ⟨m,e5,hm,e6⟩:=at?_idx (hi _ (List.getElem_mem hk));have hb:s.base a.inn=some s.units[m].base:=by unfold aG.base;rw [e4];dsimp only;rw [e6]
 refine zH (fls 0 2 (.e1 2 [] (fls 3 3 (.e1 6 [] (fls 7 7 (.e1 14 [] (fls 15 7 (.e1 22 [] (fls 23 12 (.e1 35 [26,28,31] (fls 36 3 .done))))))))))) ?_;refine squ ?_;refine zk (fun _ _=>aGU h1) ?_;refine squ ?_;refine zk (fun _ _=>aGU h2) ?_;refine squ ?_;refine zk (fun _ _=>mC lU mU h3) ?_;refine squ ?_;refine zk (fun _ _=>mC lI mI h4) ?_;refine aBF ?_;conv=>whnf
 refine ⟨_,(by rw [e1];exact dK hj),?_⟩;conv=>whnf
 refine aK.callV (fun _ _ _ Sz K=>aLD s (zB Sz K hs) e3 hk e5 hm) zP ?_;refine squ ?_;refine sqs ?_;refine aA.retU (aB.ret tab Tryz.func271 rfl fun Ez Hz Az Sz K=>⟨_,rfl,congrArg Value.bool (decide_eq_decide.2 (by unfold fX;rw [hb,e2];exact ⟨fun h=>⟨h1,h2,h⟩,fun h=>h.2.2⟩)),K.keeps⟩)
theorem oC {h:Array Obj} (s:aG) {vU vI vP vM vO vF vR vS:Value} (hs:Top h vU vI vP vM vO vF vR vS s) (hi:∀i∈s.items,idx i.un s.units.length) (l:List Am) {v:Value} (hv:Ro h v 7 (rws Am.row l)):
  FV 205 #[xY vU vI vP vM vO vF vR vS,v] h (.bool (decide (∀a∈l,fX s a))):=by
 have hl:=aE Am.row l;have hm:=hv.len;obtain ⟨r,hr⟩:∃r,r=decide (∀a∈l,fX s a):=⟨_,rfl⟩;rw [<-hr];refine zG 9 (zA hs (vs:=[v]) (l:=[(7,rws Am.row l)]) ⟨hv,trivial⟩) [.agg [.buf 0,.buf 1,.buf 2,.buf 3,.buf 4,.buf 5,.buf 6,.buf 7],.buf 8] Tryz.func205 Tryz.ntmps205 fun w0 cs=>?_;refine zL (fun (k:Nat)=>[(5,nV k),(2,.ptr 9 0),(1,.buf 8)]) (fun k=>((9,.cells 31 [.buf 0,.buf 1,.buf 2,.buf 3,.buf 4,.buf 5,.buf 6,.buf 7])::(8,.ro 7 (rws Am.row l))::bFM s)) 10 (fun k=>k<=l.length /\ ∀a∈l.take k,fX s a) (fun k=>l.length - k) (0) (⟨Nat.zero_le _,by simp⟩) ?_;rintro k hJ back;try dsimp only at hJ back
 conv=>whnf
 try dsimp only
 refine gS ?_;conv=>whnf
 refine ⟨fun hk=>?_,fun hk=>?_⟩<;>conv=>whnf
 ·have hk:k<l.length:=by omega
  by_cases ho:fX s l[k]
  ·refine zH (fls 0 5 (.e1 5 [] (.fl 6 .done))) ?_;refine aBF ?_;conv=>whnf
   refine ⟨_,(bA hk),?_⟩;conv=>whnf
   try (refine oN ?_;conv=>whnf)
   conv=>whnf
   refine aK.callV (fun _ _ _ Sz K=>aVB s (zB Sz K hs) hi l[k]) zP ?_;conv=>whnf
   rw [decide_eq_true ho];refine sqr ?_;refine dT ?_;exact zb (back (k+1) ((⟨hk,vD hk hJ.2 ho⟩)) (by (try dsimp only);omega))
  have:r=false:=by rw [hr];exact decide_eq_false fun h=>ho (h _ (List.getElem_mem hk))
  rw [this];refine zH (fls 0 5 (.e1 5 [] (.fl 6 .done))) ?_;refine aBF ?_;conv=>whnf
  refine ⟨_,(bA hk),?_⟩;conv=>whnf
  try (refine oN ?_;conv=>whnf)
  conv=>whnf
  refine aK.callV (fun _ _ _ Sz K=>aVB s (zB Sz K hs) hi l[k]) zP ?_;conv=>whnf
  rw [decide_eq_false ho];refine sqr ?_;refine sqs ?_;exact zR Tryz.func205
 have hk:k=l.length:=by omega
 have h2:=hJ.2;rw [hk,List.take_length] at h2;have:r=true:=by rw [hr];exact decide_eq_true h2
 rw [this];conv=>whnf
 exact zR Tryz.func205
theorem aCY {h:Array Obj} (s:aG) {vU vI vP vM vO vF vR vS:Value} (hs:Top h vU vI vP vM vO vF vR vS s) (l:List Cd) {v:Value} (hv:Ro h v 4 (rws Cd.row l)):
  FV 99 #[xY vU vI vP vM vO vF vR vS,v] h (.bool (decide (jL s l))):=by
 have lU:=aZ s.units;have lI:=aE It.row s.items;have lP:=cK s.plants;have lM:=aE Mc.row s.machines;have lO:=aE OpV.row s.options;have lF:=aE FbV.row s.forbids;have lR:=aE RcV.row s.recipes;have lS:=aE Sw.row s.swaps;have mO:=hs.O.len;have hl:=aE Cd.row l;have hm:=hv.len;obtain ⟨r,hr⟩:∃r,r=decide (jL s l):=⟨_,rfl⟩;rw [<-hr];refine zG 9 (zA hs (vs:=[v]) (l:=[(4,rws Cd.row l)]) ⟨hv,trivial⟩) [.agg [.buf 0,.buf 1,.buf 2,.buf 3,.buf 4,.buf 5,.buf 6,.buf 7],.buf 8] Tryz.func99 Tryz.ntmps99 fun w0 cs=>?_;refine zL (fun (k:Nat)=>[(5,nV k),(2,.ptr 9 0),(1,.buf 8)]) (fun k=>((9,.cells 31 [.buf 0,.buf 1,.buf 2,.buf 3,.buf 4,.buf 5,.buf 6,.buf 7])::(8,.ro 4 (rws Cd.row l))::bFM s)) 10 (fun k=>k<=l.length/\(∀a∈l.take k,vN s a)/\((l.take k).map Cd.on).Nodup) (fun k=>l.length - k) (0) (⟨Nat.zero_le _,by simp,by simp⟩) ?_;rintro k hJ back;try dsimp only at hJ back
 conv=>whnf
 try dsimp only
 refine gS ?_;conv=>whnf
 refine ⟨fun hk=>?_,fun hk=>?_⟩<;>conv=>whnf
 rotate_left
 ·have hk:k=l.length:=by omega
  have h2:=hJ.2;rw [hk,List.take_length] at h2;have:r=true:=by rw [hr];exact decide_eq_true h2
  rw [this];conv=>whnf
  exact zR Tryz.func99
 have hk:k<l.length:=by omega
 by_cases h1:idx l[k].on s.options.length
 rotate_left
 ·have:r=false:=by rw [hr];exact decide_eq_false fun h=>absurd (decide_eq_true (h.1 _ (List.getElem_mem hk))) (by rw [<-bCT h1];decide)
  rw [this];refine zH (fls 0 8 (.e1 8 [] (fls 9 18 (.e1 27 [] (fls 28 2 .done))))) ?_;refine aBF ?_;conv=>whnf
  refine ⟨_,(bA hk),?_⟩;conv=>whnf
  refine zk (fun _ _=>aGV lO mO h1) ?_;refine aBF ?_;refine sqs ?_;exact zR Tryz.func99
 obtain ⟨j,e,hj,_⟩:=at?_idx h1;have hjo:=(hs.below.o _ (List.getElem_mem hj)).len;rw [cK] at hjo;by_cases h2:vN s l[k]
 rotate_left
 ·have h3:¬idx l[k].cn s.options[j].ch.length:=fun h=>h2 (of_decide_eq_true ((bAC (s:=s) e hj)▸decide_eq_true h));have:r=false:=by rw [hr];exact decide_eq_false fun h=>h2 (h.1 _ (List.getElem_mem hk))
  rw [this];refine zH (fls 0 8 (.e1 8 [] (fls 9 18 (.e1 27 [] (fls 28 2 .done))))) ?_;refine aBF ?_;conv=>whnf
  refine ⟨_,(bA hk),?_⟩;conv=>whnf
  refine zk (fun _ _=>mC lO mO h1) ?_;refine aBF ?_;conv=>whnf
  refine ⟨_,(bA hk),?_⟩;conv=>whnf
  try (refine oN ?_;conv=>whnf)
  conv=>whnf
  refine ⟨_,(bA hk),?_⟩;conv=>whnf
  try (refine oN ?_;conv=>whnf)
  conv=>whnf
  refine ⟨_,(by rw [e];exact bA hj),?_⟩;conv=>whnf
  refine zk (fun _ _=>aGV rfl hjo h3) ?_;refine squ ?_;refine sqs ?_;exact zR Tryz.func99
 have h3:idx l[k].cn s.options[j].ch.length:=of_decide_eq_true ((bAC (s:=s) (c:=l[k]) e hj).trans (decide_eq_true h2));refine zH (fls 0 8 (.e1 8 [] (fls 9 18 (.e1 27 [] (fls 28 2 .done))))) ?_;refine aBF ?_;conv=>whnf
 refine ⟨_,(bA hk),?_⟩;conv=>whnf
 refine zk (fun _ _=>mC lO mO h1) ?_;refine aBF ?_;conv=>whnf
 refine ⟨_,(bA hk),?_⟩;conv=>whnf
 try (refine oN ?_;conv=>whnf)
 conv=>whnf
 refine ⟨_,(bA hk),?_⟩;conv=>whnf
 try (refine oN ?_;conv=>whnf)
 conv=>whnf
 refine ⟨_,(by rw [e];exact bA hj),?_⟩;conv=>whnf
 refine zk (fun _ _=>mC rfl hjo h3) ?_;refine squ ?_;refine sqs ?_;have backO:=back;have hJo:=hJ.2;refine zL (fun (i:Nat)=>[(6,nV i),(5,nV k),(2,.ptr 9 0),(1,.buf 8)]) (fun i=>((9,.cells 31 [.buf 0,.buf 1,.buf 2,.buf 3,.buf 4,.buf 5,.buf 6,.buf 7])::(8,.ro 4 (rws Cd.row l))::bFM s)) 10 (fun i=>i<=k /\ ∀m (hm:m<i) (hml:m<l.length),l[m].on≠l[k].on) (fun i=>k - i) (0) (⟨Nat.zero_le _,fun i hi=>absurd hi (Nat.not_lt_zero _)⟩) ?_;rintro i hJ back;conv=>whnf
 refine gS ?_;conv=>whnf
 refine ⟨fun hi=>?_,fun hi=>?_⟩<;>conv=>whnf
 ·have hi:i<k:=by omega
  have hil:i<l.length:=by omega
  refine zH (fls 0 11 .done) ?_;refine aBF ?_;conv=>whnf
  refine ⟨_,(bA hil),?_⟩;conv=>whnf
  try (refine oN ?_;conv=>whnf)
  conv=>whnf
  refine ⟨_,(bA hk),?_⟩;conv=>whnf
  refine ⟨fun he=>?_,fun he=>?_⟩<;>conv=>whnf
  ·try refine gR ?_
   refine sqv ?_;have:r=false:=by rw [hr];exact decide_eq_false fun h=>aFA hk hi he h.2
   rw [this];exact zR Tryz.func99
  refine sqr ?_;refine dT ?_;exact zb (back (i+1) ((⟨hi,fun m hm hml=>(Nat.lt_succ_iff_lt_or_eq.1 hm).elim (fun hm=>hJ.2 m hm hml) (fun e=>by subst e;exact he)⟩)) (by (try dsimp only);omega))
 have hi:i=k:=by omega
 have hJ2:=hJ.2;subst hi;have back:=backO;refine cG ?_;exact zb (back (i+1) ((⟨hk,vD hk hJo.1 h2,yP hk hJo.2 hJ2⟩)) (by (try dsimp only);omega))

abbrev rcA (r:RcV) (c i o u:SV):SV:=.agg [.v (.string r.item),.v (.string r.plant),nV r.fr,nV r.to,c,i,o,nV r.rwN,nV r.rwD,nV r.yN,nV r.yD,nV r.tN,nV r.tD,nV r.lead,u,nV r.inum,nV r.pnum]
abbrev rcV (r:RcV):Value:=.agg r.row.toArray
theorem bDS {l:List Am} {k:Nat} (hk:k<l.length) {b:Bool} (hb:l[k].back=b):(rws Am.row l)[k]? = some [.int .i64 l[k].n,.int .i64 l[k].d,.string l[k].unit,.string l[k].item,.bool b,.int .i64 l[k].un,.int .i64 l[k].inn]:=by
 rw [bA hk];unfold Am.row;rw [hb]
theorem aHS {h:Array Obj} (s:aG) {vU vI vP vM vO vF vR vS:Value} (hs:Top h vU vI vP vM vO vF vR vS s) (hi:∀i∈s.items,idx i.un s.units.length) (r:RcV) (hr:r.ok (fun k=>k<h.size) h):
  FnV Tryz.prog 206 #[xY vU vI vP vM vO vF vR vS,rcV r] h fun y h'=>y=.bool (decide (sE s r))/\aH h.size h h':=by
 have hl:=aE Am.row r.out;have hm:=hr.o.len;obtain ⟨y,hy⟩:∃y,y=decide (sE s r):=⟨_,rfl⟩;rw [<-hy];refine zG 9 (zA hs (vs:=[.slice r.ho.a r.out.length r.ho.c]) (l:=[(7,rws Am.row r.out)]) ⟨hr.o,trivial⟩) [.agg [.buf 0,.buf 1,.buf 2,.buf 3,.buf 4,.buf 5,.buf 6,.buf 7],rcA r (.v (.slice r.hc.a r.cs.length r.hc.c)) (.v (.slice r.hi.a r.inn.length r.hi.c)) (.buf 8) (.v (.slice r.hr.a r.runs.length r.hr.c))] Tryz.func206 Tryz.ntmps206 fun w0 cs=>?_;by_cases h0:0<r.out.length
 rotate_left
 ·have h0:r.out=[]:=List.eq_nil_of_length_eq_zero (by omega);have:y=false:=by rw [hy];exact decide_eq_false fun h=>absurd (decide_eq_true h.1) (by rw [<-aPL h0];decide)
  rw [this];refine zH (fls 0 8 (.e1 8 [] (fls 9 12 .done))) ?_;refine aBF ?_;refine sqs ?_;exact zR Tryz.func206
 by_cases h1:∀a∈r.out,fX s a
 rotate_left
 ·have:y=false:=by rw [hy];exact decide_eq_false fun h=>h1 fun a ha=>(h.2.1 a ha).1
  rw [this];refine zH (fls 0 8 (.e1 8 [] (fls 9 12 .done))) ?_;refine aBF ?_;conv=>whnf
  refine aK.callV (fun _ _ _ Sz K=>oC s (zB Sz K hs) hi r.out (Sz.ro (b:=8) rfl)) zP ?_;conv=>whnf
  rw [decide_eq_false h1];try dsimp only
  refine sqr ?_;refine sqs ?_;exact zR Tryz.func206
 by_cases h2:(r.out[0]'h0).inn=r.inum
 rotate_left
 ·have:y=false:=by rw [hy];exact decide_eq_false fun h=>h2 (of_decide_eq_true ((aRM h0).trans (decide_eq_true h.1)))
  rw [this];refine zH (fls 0 8 (.e1 8 [] (fls 9 12 .done))) ?_;refine aBF ?_;conv=>whnf
  refine aK.callV (fun _ _ _ Sz K=>oC s (zB Sz K hs) hi r.out (Sz.ro (b:=8) rfl)) zP ?_;conv=>whnf
  rw [decide_eq_true h1];try dsimp only
  refine mE ?_;conv=>whnf
  refine ⟨_,(bA (k:=0) h0),?_⟩;conv=>whnf
  try (refine oN ?_;conv=>whnf)
  conv=>whnf
  try intro _
  refine sqv ?_;exact zR Tryz.func206
 have hf:iT r:=of_decide_eq_true ((aRM h0).symm.trans (decide_eq_true h2));refine zH (fls 0 8 (.e1 8 [] (fls 9 12 .done))) ?_;refine aBF ?_;conv=>whnf
 refine aK.callV (fun _ _ _ Sz K=>oC s (zB Sz K hs) hi r.out (Sz.ro (b:=8) rfl)) zP ?_;conv=>whnf
 rw [decide_eq_true h1];try dsimp only
 refine mE ?_;conv=>whnf
 refine ⟨_,(bA (k:=0) h0),?_⟩;refine xE ?_;refine sqs ?_;try intro _
 refine sqv ?_;refine zL (fun (k:Nat)=>[(5,nV k),(3,.ptr 10 0),(2,.ptr 9 0)]) (fun k=>(rcC 10 r (.v (.slice r.hc.a r.cs.length r.hc.c)) (.v (.slice r.hi.a r.inn.length r.hi.c)) (.buf 8) (.v (.slice r.hr.a r.runs.length r.hr.c))::(9,.cells 31 [.buf 0,.buf 1,.buf 2,.buf 3,.buf 4,.buf 5,.buf 6,.buf 7])::(8,.ro 7 (rws Am.row r.out))::bFM s)) 11 (fun k=>k<=r.out.length/\(∀a∈r.out.take k,a.back=false)/\((r.out.take k).map Am.inn).Nodup) (fun k=>r.out.length - k) (0) (⟨Nat.zero_le _,by simp,by simp⟩) ?_;rintro k hJ back;conv=>whnf
 refine gS ?_;conv=>whnf
 refine ⟨fun hk=>?_,fun hk=>?_⟩<;>conv=>whnf
 rotate_left
 ·have hk:k=r.out.length:=by omega
  have h2:=hJ.2;rw [hk,List.take_length] at h2;have:y=true:=by rw [hy];exact decide_eq_true ⟨hf,fun a ha=>⟨h1 a ha,h2.1 a ha⟩,h2.2⟩
  rw [this];conv=>whnf
  exact zR Tryz.func206
 have hk:k<r.out.length:=by omega
 refine cG ?_
 cases hb:r.out[k].back with
 |true=>
  have:y=false:=by rw [hy];exact decide_eq_false fun h=>by have:=(h.2.1 _ (List.getElem_mem hk)).2;rw [hb] at this;cases this
  rw [this];refine ⟨_,(bDS hk hb),?_⟩;conv=>whnf
  exact zR Tryz.func206
 |false=>
  refine ⟨_,(bDS hk hb),?_⟩;conv=>whnf
  have backO:=back;have hJo:=hJ.2;refine zL (fun (i:Nat)=>[(6,nV i),(5,nV k),(3,.ptr 10 0),(2,.ptr 9 0)]) (fun i=>(rcC 10 r (.v (.slice r.hc.a r.cs.length r.hc.c)) (.v (.slice r.hi.a r.inn.length r.hi.c)) (.buf 8) (.v (.slice r.hr.a r.runs.length r.hr.c))::(9,.cells 31 [.buf 0,.buf 1,.buf 2,.buf 3,.buf 4,.buf 5,.buf 6,.buf 7])::(8,.ro 7 (rws Am.row r.out))::bFM s)) 11 (fun i=>i<=k /\ ∀m (hm:m<i) (hml:m<r.out.length),r.out[m].inn≠r.out[k].inn) (fun i=>k - i) (0) (⟨Nat.zero_le _,fun i hi=>absurd hi (Nat.not_lt_zero _)⟩) ?_;rintro i hJ back;conv=>whnf
  refine gS ?_;conv=>whnf
  refine ⟨fun hi'=>?_,fun hi'=>?_⟩<;>conv=>whnf
  ·have hi':i<k:=by omega
   have hil:i<r.out.length:=by omega
   refine zH (fls 0 13 .done) ?_;refine aBF ?_;conv=>whnf
   refine ⟨_,(bA hil),?_⟩;conv=>whnf
   try (refine oN ?_;conv=>whnf)
   conv=>whnf
   refine ⟨_,(bA hk),?_⟩;conv=>whnf
   refine ⟨fun he=>?_,fun he=>?_⟩<;>conv=>whnf
   ·try refine gR ?_
    refine sqv ?_;have:y=false:=by rw [hy];exact decide_eq_false fun h=>aFA hk hi' he h.2.2
    rw [this];exact zR Tryz.func206
   refine sqr ?_;refine dT ?_;exact zb (back (i+1) ((⟨hi',fun m hm hml=>(Nat.lt_succ_iff_lt_or_eq.1 hm).elim (fun hm=>hJ.2 m hm hml) (fun e=>by subst e;exact he)⟩)) (by (try dsimp only);omega))
  have hi':i=k:=by omega
  have hJ2:=hJ.2;subst hi';have back:=backO;refine cG ?_;exact zb (back (i+1) ((⟨hk,vD hk hJo.1 hb,yP hk hJo.2 hJ2⟩)) (by (try dsimp only);omega))
theorem bFK {h:Array Obj} (s:aG) {vU vI vP vM vO vF vR vS:Value} (hs:Top h vU vI vP vM vO vF vR vS s) (r:RcV) (hr:r.ok (fun k=>k<h.size) h):
  FnV Tryz.prog 208 #[xY vU vI vP vM vO vF vR vS,rcV r] h fun y h'=>y=.bool (decide (aBG s r))/\aH h.size h h':=by
 have lM:=aE Mc.row s.machines;have mM:=hs.M.len;have hl:=aE Rn.row r.runs;have hm:=hr.rn.len;obtain ⟨y,hy⟩:∃y,y=decide (aBG s r):=⟨_,rfl⟩;rw [<-hy];refine zG 9 (zA hs (vs:=[.slice r.hr.a r.runs.length r.hr.c]) (l:=[(3,rws Rn.row r.runs)]) ⟨hr.rn,trivial⟩) [.agg [.buf 0,.buf 1,.buf 2,.buf 3,.buf 4,.buf 5,.buf 6,.buf 7],rcA r (.v (.slice r.hc.a r.cs.length r.hc.c)) (.v (.slice r.hi.a r.inn.length r.hi.c)) (.v (.slice r.ho.a r.out.length r.ho.c)) (.buf 8)] Tryz.func208 Tryz.ntmps208 fun w0 cs=>?_;refine zL (fun (k:Nat)=>[(5,nV k),(3,.ptr 10 0),(2,.ptr 9 0)]) (fun k=>(rcC 10 r (.v (.slice r.hc.a r.cs.length r.hc.c)) (.v (.slice r.hi.a r.inn.length r.hi.c)) (.v (.slice r.ho.a r.out.length r.ho.c)) (.buf 8)::(9,.cells 31 [.buf 0,.buf 1,.buf 2,.buf 3,.buf 4,.buf 5,.buf 6,.buf 7])::(8,.ro 3 (rws Rn.row r.runs))::bFM s)) 11 (fun k=>k<=r.runs.length/\(∀a∈r.runs.take k,xL s r a)/\((r.runs.take k).map Rn.mn).Nodup) (fun k=>r.runs.length - k) (0) (⟨Nat.zero_le _,by simp,by simp⟩) ?_;rintro k hJ back;try dsimp only at hJ back
 conv=>whnf
 try dsimp only
 refine gS ?_;conv=>whnf
 refine ⟨fun hk=>?_,fun hk=>?_⟩<;>conv=>whnf
 rotate_left
 ·have hk:k=r.runs.length:=by omega
  have h2:=hJ.2;rw [hk,List.take_length] at h2;have:y=true:=by rw [hy];exact decide_eq_true h2
  rw [this];conv=>whnf
  exact zR Tryz.func208
 have hk:k<r.runs.length:=by omega
 refine cG ?_;refine ⟨_,(bA hk),?_⟩;conv=>whnf
 try (refine oN ?_;conv=>whnf)
 by_cases h1:idx r.runs[k].mn s.machines.length
 rotate_left
 ·have:y=false:=by rw [hy];exact decide_eq_false fun h=>by have:=(h.1 _ (List.getElem_mem hk)).1;rw [at?_none h1] at this;exact this
  rw [this];refine zH (fls 0 5 (.e1 5 [] (fls 6 16 (.e1 22 [] (fls 23 2 .done))))) ?_;refine squ ?_;refine zk (fun _ _=>aGV lM mM h1) ?_;refine aBF ?_;refine sqs ?_;exact zR Tryz.func208
 obtain ⟨j,e,hj,e3⟩:=at?_idx h1;by_cases h2:s.machines[j].pn=r.pnum
 rotate_left
 ·have:y=false:=by rw [hy];exact decide_eq_false fun h=>by have:=(h.1 _ (List.getElem_mem hk)).1;rw [e3] at this;exact h2 this
  rw [this];refine zH (fls 0 5 (.e1 5 [] (fls 6 16 (.e1 22 [] (fls 23 2 .done))))) ?_;refine squ ?_;refine zk (fun _ _=>mC lM mM h1) ?_;refine aBF ?_;conv=>whnf
  refine ⟨_,(by rw [e];exact bA hj),?_⟩;conv=>whnf
  try (refine oN ?_;conv=>whnf)
  conv=>whnf
  try intro _
  refine xE ?_;refine sqs ?_;exact zR Tryz.func208
 by_cases h3:bt r.runs[k].slots 0 15
 rotate_left
 ·have:y=false:=by rw [hy];exact decide_eq_false fun h=>h3 (h.1 _ (List.getElem_mem hk)).2
  rw [this];refine zH (fls 0 5 (.e1 5 [] (fls 6 16 (.e1 22 [] (fls 23 2 .done))))) ?_;refine squ ?_;refine zk (fun _ _=>mC lM mM h1) ?_;refine aBF ?_;conv=>whnf
  refine ⟨_,(by rw [e];exact bA hj),?_⟩;conv=>whnf
  refine sqE ?_;conv=>whnf
  try intro _
  conv=>whnf
  refine zk (fun _ _=>aPO h3) ?_;refine squ ?_;refine sqs ?_;exact zR Tryz.func208
 have h4:xL s r r.runs[k]:=by refine ⟨?_,h3⟩;rw [e3];exact h2
 refine zH (fls 0 5 (.e1 5 [] (fls 6 16 (.e1 22 [] (fls 23 2 .done))))) ?_;refine squ ?_;refine zk (fun _ _=>mC lM mM h1) ?_;refine aBF ?_;conv=>whnf
 refine ⟨_,(by rw [e];exact bA hj),?_⟩;conv=>whnf
 refine sqE ?_;conv=>whnf
 try intro _
 conv=>whnf
 refine zk (fun _ _=>aGU h3) ?_;refine squ ?_;refine sqs ?_;have backO:=back;have hJo:=hJ.2;refine zL (fun (i:Nat)=>[(7,nV i),(6,.ptr 11 0),(5,nV k),(3,.ptr 10 0),(2,.ptr 9 0)]) (fun i=>((11,.cells 272 (toV (Rn.row r.runs[k])))::rcC 10 r (.v (.slice r.hc.a r.cs.length r.hc.c)) (.v (.slice r.hi.a r.inn.length r.hi.c)) (.v (.slice r.ho.a r.out.length r.ho.c)) (.buf 8)::(9,.cells 31 [.buf 0,.buf 1,.buf 2,.buf 3,.buf 4,.buf 5,.buf 6,.buf 7])::(8,.ro 3 (rws Rn.row r.runs))::bFM s)) 12 (fun i=>i<=k /\ ∀m (hm:m<i) (hml:m<r.runs.length),r.runs[m].mn≠r.runs[k].mn) (fun i=>k - i) (0) (⟨Nat.zero_le _,fun i hi=>absurd hi (Nat.not_lt_zero _)⟩) ?_;rintro i hJ back;conv=>whnf
 refine gS ?_;conv=>whnf
 refine ⟨fun hi'=>?_,fun hi'=>?_⟩<;>conv=>whnf
 ·have hi':i<k:=by omega
  have hil:i<r.runs.length:=by omega
  refine zH (fls 0 9 .done) ?_;refine aBF ?_;conv=>whnf
  refine ⟨_,(bA hil),?_⟩;conv=>whnf
  refine ⟨fun he=>?_,fun he=>?_⟩<;>conv=>whnf
  ·try refine gR ?_
   refine sqv ?_;have:y=false:=by rw [hy];exact decide_eq_false fun h=>aFA hk hi' he h.2
   rw [this];exact zR Tryz.func208
  refine sqr ?_;refine dT ?_;exact zb (back (i+1) ((⟨hi',fun m hm hml=>(Nat.lt_succ_iff_lt_or_eq.1 hm).elim (fun hm=>hJ.2 m hm hml) (fun e=>by subst e;exact he)⟩)) (by (try dsimp only);omega))
 have hi':i=k:=by omega
 have hJ2:=hJ.2;subst hi';have back:=backO;refine cG ?_;exact zb (back (i+1) ((⟨hk,vD hk hJo.1 h4,yP hk hJo.2 hJ2⟩)) (by (try dsimp only);omega))
end Go.Proofs.YthjedpdedjhndaaGreatDoor
