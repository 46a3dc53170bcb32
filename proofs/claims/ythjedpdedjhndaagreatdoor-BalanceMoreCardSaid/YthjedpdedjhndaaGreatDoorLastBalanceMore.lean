/- BalanceMore: for every input the law returns true, and each argument reads behind the call as it read before; the listed tables hold, when the call be -/
import Derived.Test.YthjedpdedjhndaaGreatDoorJoinH
set_option linter.unusedVariables false
set_option linter.unusedSimpArgs false
namespace Go.SrcM
open Go Go.Fw Go.NatM Go.RatM
theorem but_chk {t:aG} (hc:bE t=0) (H:∀r∈t.recipes,(exR t r).2=0→(exR t r).1.2=false):fV t=0∨fV t=2:=by
 unfold fV wrT
 rw [if_pos hc]
 rcases wrF_but hc (l:=t.recipes) (fun r hr=>⟨mC hc hr,H r hr⟩) 0 with e|e<;>rw [e]
 ·exact .inl rfl
 exact .inr rfl
theorem more_fewer {s:aG} (h:fV s=0) (k:Nat):fV (s.wr (s.recipes.take k++s.recipes.drop (k+1)))=0:=by
 obtain ⟨h1,h2⟩:=oC.1 h
 refine oC.2 ⟨aVI h1 rfl rfl rfl rfl rfl (List.Sublist.refl _) (aED _ _) (List.Sublist.refl _),fun r hr=>?_⟩
 have:=h2 r ((aED _ _).subset hr)
 unfold Fine at this ⊢
 rw [aTT (s:=s) (t:=s.wr (s.recipes.take k++s.recipes.drop (k+1))) rfl rfl]
 exact this
theorem set_small {s:aG} {k:Nat} {x:RcV} (hS:lW s) (hx:x.inn.length≤8∧x.out.length≤8):lW (s.wr (s.recipes.set k x)):=by
 obtain ⟨a1,a2,a3,a4,a5,a6,a7,a8,a9⟩:=hS
 refine ⟨a1,fun r hr=>?_,a3,a4,a5,a6,a7,?_,a9⟩
 ·rcases List.mem_or_eq_of_mem_set hr with hr|rfl
  ·exact a2 r hr
  exact hx
 unfold aG.wr
 dsimp only
 rw [List.length_set]
 exact a8
theorem set_zero {s:aG} {k:Nat} {x:RcV} (h:bE s=0) (hx:x.inn.length≤8∧x.out.length≤8) (hr:mY s x):bE (s.wr (s.recipes.set k x))=0:=by
 obtain ⟨h1,h2,h3⟩:=fU.1 h
 refine fU.2 ⟨h1,set_small h2 hx,⟨h3.I,h3.M,h3.O,h3.F,fun r hr2=>?_,h3.S⟩⟩
 rcases List.mem_or_eq_of_mem_set hr2 with hr2|rfl
 ·exact h3.R r hr2
 exact hr
theorem set_chk {s:aG} {k:Nat} {x:RcV} (h:fV s=0) (hc:bE (s.wr (s.recipes.set k x))=0) (hx:(exR s x).2=0→(exR s x).1.2=false):fV (s.wr (s.recipes.set k x))=0∨fV (s.wr (s.recipes.set k x))=2:=by
 refine but_chk hc fun r hr=>?_
 rw [aTT (s:=s) (t:=s.wr (s.recipes.set k x)) rfl rfl]
 rcases List.mem_or_eq_of_mem_set hr with hr|rfl
 ·exact fun _=>((oC.1 h).2 r hr).2
 exact hx
section
variable {s:aG} {k:Nat} (h:fV s=0) (hk:k<s.recipes.length)
include h
def RcV.turn (r:RcV) (hi:Hd):RcV:={r with inn:=r.inn.reverse,hi:=hi}
theorem more_turned (hi:Hd):fV (s.wr (s.recipes.set k (s.recipes[k].turn hi)))=0∨fV (s.wr (s.recipes.set k (s.recipes[k].turn hi)))=2:=by
 obtain ⟨h1,h2⟩:=oC.1 h
 have hm:=List.getElem_mem hk
 obtain ⟨g1,g2,g3⟩:=fU.1 h1
 have hr:=g3.R _ hm
 have hr':mY s (s.recipes[k].turn hi):=by
  obtain ⟨b1,b2,b3,b4,b5,b6⟩:=hr
  exact ⟨b1,b2,b3,b4,fun a ha=>b5 a (List.mem_reverse.1 ha),b6⟩
 have hl:(s.recipes[k].turn hi).inn.length≤8∧(s.recipes[k].turn hi).out.length≤8:=by
  have:=g2.2.1 _ hm
  unfold RcV.turn
  dsimp only
  rw [List.length_reverse]
  exact this
 refine set_chk h (set_zero h1 hl hr') fun h0=>Bool.eq_false_iff.2 fun hb=>?_
 obtain ⟨_,_,_,_,_,w⟩:=tH h1 (rec_b hr') h0
 have e:mvs s (s.recipes[k].turn hi).inn=mvs s s.recipes[k].inn:=aSP s _
 rw [e] at w
 obtain ⟨f1,f2⟩:=h2 _ hm
 obtain ⟨_,_,_,_,_,w2⟩:=tH h1 (rec_b hr) f1
 exact absurd (w2.2 (w.1 hb)) (by rw [f2];decide)
def RcV.tol (r:RcV) (n d:Int):RcV:={r with tN:=n,tD:=d}
theorem more_wide {n d:Int} {a b:Rt} (ha:eU n d=(a,0)) (hb:eU s.recipes[k].tN s.recipes[k].tD=(b,0)) (hc:(lE b a).2=0) (hc2:(lE b a).1≤0):
  fV (s.wr (s.recipes.set k (s.recipes[k].tol n d)))=0∨fV (s.wr (s.recipes.set k (s.recipes[k].tol n d)))=2∨fV (s.wr (s.recipes.set k (s.recipes[k].tol n d)))=bE (s.wr (s.recipes.set k (s.recipes[k].tol n d))):=by
 obtain ⟨h1,h2⟩:=oC.1 h
 have hm:=List.getElem_mem hk
 by_cases ht:bE (s.wr (s.recipes.set k (s.recipes[k].tol n d)))=0
 rotate_left
 ·refine .inr (.inr ?_)
  unfold fV wrT
  rw [if_neg ht]
  exact if_neg ht
 have hr:=mC h1 hm
 have hr':aEK s (s.recipes[k].tol n d):=by
  have:=mC ht (r:=s.recipes[k].tol n d) (List.mem_set hk _)
  exact ⟨this.i,this.o,this.y,this.t⟩
 refine (set_chk h ht fun h0=>Bool.eq_false_iff.2 fun hb2=>?_).elim .inl fun x=>.inr (.inl x)
 obtain ⟨_,_,_,_,_,w⟩:=tH h1 hr' h0
 obtain ⟨f1,f2⟩:=h2 _ hm
 obtain ⟨_,_,_,_,_,w2⟩:=tH h1 hr f1
 obtain ⟨p,p1,p2,_⟩:=pO hr'.t
 obtain ⟨q,q1,q2,_⟩:=pO hr.t
 have p1:eU n d=(aN p,0):=p1
 rw [ha] at p1
 rw [hb] at q1
 obtain rfl:a=aN p:=congrArg Prod.fst p1
 obtain rfl:b=aN q:=congrArg Prod.fst q1
 rw [aAQ q2.ok p2.ok q2.le p2.le] at hc hc2
 have hf:dJ (q.n*p.d)∧dJ (p.n*q.d):=Decidable.byContradiction fun hf=>by rw [if_neg hf] at hc;exact absurd hc (by decide)
 rw [if_pos hf] at hc2
 have hle:=(aLD q2.ok p2.ok).1 hc2
 rw [p2.val,q2.val] at hle
 have hnn:=bAF h1 hr.i
 have hmul:=Rat.mul_le_mul_of_nonneg_right hle hnn
 have hbad:=w.1 hb2
 refine absurd (w2.2 ?_) (by rw [f2];decide)
 unfold Bad at hbad ⊢
 have e1:devv (s.recipes[k].tol n d)=devv s.recipes[k]:=rfl
 have e2:(s.recipes[k].tol n d).inn=s.recipes[k].inn:=rfl
 have e3:(s.recipes[k].tol n d).out=s.recipes[k].out:=rfl
 rw [e1,e2,e3] at hbad
 have hmul:shv s.recipes[k].tN s.recipes[k].tD*mvs s s.recipes[k].inn≤shv (s.recipes[k].tol n d).tN (s.recipes[k].tol n d).tD*mvs s s.recipes[k].inn:=hmul
 exact hbad.elim (fun x=>.inl (by grind)) (fun x=>.inr (by grind))
end
end Go.SrcM

namespace Go.Proofs.YthjedpdedjhndaaGreatDoor
open Go Go.Fw Go.NatM Go.RatM Go.SrcM
set_option maxRecDepth 100000
set_option maxHeartbeats 99999999
theorem rev_app {l:List Am} {m:Nat} (h:m<l.length):rws Am.row (l.drop (m+1)).reverse++[l[m].row]=rws Am.row (l.drop m).reverse:=by
 rw [←List.getElem_cons_drop (h:=h),List.reverse_cons]
 simp [rws]
theorem turnB_fn (rows:List (List Value)) (k:Nat) (r:RcV) (hrow:rows[k]? = some r.row) (hl:r.inn.length≤1000):FnX Tryz.prog 22 1 [.row 0 k 0 17] [(0,.own 49 17 rows)] (fun G h=>RoF G h (.slice r.hi.a r.inn.length r.hi.c) 7 (rws Am.row r.inn))
  (fun (x:Hd) G h=>RoF G h (.slice x.a r.inn.length x.c) 7 (rws Am.row r.inn.reverse)) (fun x=>.ret (.tup []) 1 [(0,.own 49 17 (rows.set k (r.turn x).row))]):=by
 have hr':rows[((k:Nat):Int).toNat]? = some r.row:=hrow
 have hlt:k<rows.length:=(List.getElem?_eq_some_iff.1 hrow).1
 have ll:=aE Am.row r.inn
 refine FnX.of Tryz.func22 (by kernel_rfl) rfl Tryz.ntmps22 rfl fun E0 F G h N hP w0 cs=>?_
 conv=>whnf
 refine aBF ?_
 refine ⟨_,hr',?_⟩;conv=>whnf
 try (refine oN ?_;conv=>whnf)
 refine sqA ?_
 refine aA.subR (nx':=1) (l':=[(3,.v (.int .i64 ((r.inn.length:Int) - 1))),(2,.v (.slice none 0 0)),(0,.row 0 k 0 17)]) (H':=[(0,.own 49 17 rows)]) [] ?_ sH sH
 refine aA.nilOwn (l':=[(3,.v (.int .i64 ((r.inn.length:Int) - 1))),(2,.buf 1),(0,.row 0 k 0 17)]) (H':=[(0,.own 49 17 rows)]) 55 7 ?_ (by rfl) (by rfl) (by rfl)
 refine aA.rowsEq 1 (show ([]:List (List Value))=rws Am.row (r.inn.drop r.inn.length).reverse by rw [List.drop_length];rfl) ?_
 conv=>whnf
 refine aA.subR [] (aA.loop (fun (n:Nat)=>[(3,.v (.int .i64 ((n:Int) - 1))),(2,.buf 1),(0,.row 0 k 0 17)]) (fun (n:Nat)=>[(1,.own 55 7 (rws Am.row (r.inn.drop n).reverse)),(0,.own 49 17 rows)]) 2 (fun (n:Nat)=>n≤r.inn.length) (fun (n:Nat)=>n) ?round1 (r.inn.length) ?J01) sH sH
 case J01=>exact (Nat.le_refl _)
 rintro n hJ back
 try dsimp only at hJ back
 conv=>whnf
 try dsimp only
 refine pM tab 16 _ _ _ _ ?_;refine dB ?_
 refine ⟨fun hn=>?_,fun hn=>?_⟩<;>conv=>whnf
 ·obtain ⟨m,rfl⟩:∃m,n=m+1:=⟨n - 1,by omega⟩
  have em:(((m+1:Nat):Int) - 1)=(m:Int):=by omega
  have hm:m<r.inn.length:=hJ
  rw [em]
  refine dB ?_
  refine ⟨_,hr',?_⟩;conv=>whnf
  try (refine oN ?_;conv=>whnf)
  refine sqA ?_
  refine aA.nameAt (fun _ x=>x) 18 (by exact RoF.up ⟨N.gsub,fun _ _=>rfl⟩ hP) ?_
  conv=>whnf
  refine bZ ?_
  refine ⟨_,bA hm,?_⟩;conv=>whnf
  try (refine oN ?_;conv=>whnf)
  refine sqA ?_
  refine And.intro (aOS (by rw [aE,List.length_reverse,List.length_drop];omega)) ?_;conv=>whnf
  refine bZ ?_
  refine aA.rowsEq (4) (rev_app hm) ?_;conv=>whnf
  refine aA.subR [(1,4)] (back (m) (by (try dsimp only);first|omega|trivial) (by (try dsimp only);omega)) sH sH
 obtain rfl:n=0:=by omega
 clear back
 refine dB ?_
 refine aA.concY (n:=r.inn.length) (N.gsub) 1 ?_ (hlen:=(by rw [aE,List.length_reverse];rfl))
 intro _ a1 c1 G1 h1 N1 R1
 conv=>whnf
 refine bZ ?_
 refine ⟨_,hr',?_⟩;conv=>whnf
 try (refine oN ?_;conv=>whnf)
 refine sqA ?_
 have e:(r.turn ⟨a1,c1⟩).row=jX r.row 5 [.slice a1 r.inn.length c1]:=by
  have el:r.inn.reverse.length=r.inn.length:=List.length_reverse
  unfold RcV.turn RcV.row
  dsimp only
  rw [el];rfl
 refine aA.rowsEq 0 (show rows.set k (jX r.row 5 [.slice a1 r.inn.length c1])=rows.set k (r.turn ⟨a1,c1⟩).row by rw [e]) ?_
 conv=>whnf
 try refine aA.retU ?_
 try refine aA.finU ?_
 exact aB.ret tab Tryz.func22 rfl (eX (N.trans N1) (⟨a1,c1⟩) (fun h U=>RoF.up U R1))
theorem wideB_fn (rows:List (List Value)) (k:Nat) (r:RcV) (hrow:rows[k]? = some r.row) (n d:Int):FnS Tryz.prog 24 3 [.row 0 k 0 17,.ptr 1 0,.ptr 2 0] [(2,.cells 3 [.v (.int .i64 d)]),(1,.cells 3 [.v (.int .i64 n)]),(0,.own 49 17 rows)]
  (fun (_:Unit)=>True) (fun _=>.ret (.tup []) 3 [(2,.cells 3 [.v (.int .i64 d)]),(1,.cells 3 [.v (.int .i64 n)]),(0,.own 49 17 (rows.set k (r.tol n d).row))]):=by
 have hr':rows[((k:Nat):Int).toNat]? = some r.row:=hrow
 have hlt:k<rows.length:=(List.getElem?_eq_some_iff.1 hrow).1
 refine FnS.of Tryz.func24 (by kernel_rfl) rfl Tryz.ntmps24 rfl fun E0 F h w0 cs=>?_
 conv=>whnf
 refine aBF ?_
 refine aA.held tab (.fl 0 (.fl 1 (.fl 2 (.fl 3 (.fl 4 (.fl 5 (.e1 6 [3] (.fl 7 (.fl 8 (.e1 9 [] .done)))))))))) (by kernel_rfl) ?_;conv=>whnf
 refine fA ?_
 refine bZ ?_
 refine aK.rput tab (_) (hr') ?_;conv=>whnf
 try refine oB ?_
 refine fA ?_
 refine bZ ?_
 refine aK.rput tab (_) (jD hr') ?_;conv=>whnf
 try refine oB ?_
 refine fA ?_
 refine bZ ?_
 refine aA.rowsEq 0 (show (rows.set k (jX r.row 11 [.int .i64 n])).set k (jX (jX r.row 11 [.int .i64 n]) 12 [.int .i64 d])=rows.set k (r.tol n d).row by rw [List.set_set];rfl) ?_
 conv=>whnf
 try refine aA.retU ?_
 try refine aA.finU ?_
 exact aB.ret tab Tryz.func24 rfl (eN () trivial)
abbrev intB (b:Nat) (k:Int):Nat×Fw.Blk:=(b,.cells 3 [.v (.int .i64 k)])
theorem set_rws {α:Type} (f:α→List Value) (l:List α) (k:Nat) (x:α):(rws f l).set k (f x)=rws f (l.set k x):=by simp [rws,List.map_set]
theorem changeT_fn (s:aG) (k:Nat) (hk:k<s.recipes.length) (hl:s.recipes[k].inn.length≤1000) (hR:s.recipes.length≤1000):FnX Tryz.prog 21 10 [.v (.func (.func 22) #[] #[]),.ptr 8 0,.ptr 9 0] [intB 9 k,dQ 8,(0,.ro 8 (aL s.units)),(1,.ro 6 (rws It.row s.items)),(2,.ro 1 (bV s.plants)),(3,.ro 4 (rws Mc.row s.machines)),(4,.ro 2 (rws OpV.row s.options)),(5,.ro 1 (rws FbV.row s.forbids)),(6,.ro 17 (rws RcV.row s.recipes)),(7,.ro 4 (rws Sw.row s.swaps))]
  (fun G h=>RoF G h (.slice s.recipes[k].hi.a s.recipes[k].inn.length s.recipes[k].hi.c) 7 (rws Am.row s.recipes[k].inn)) (fun (x:Hd) G h=>RoF G h (.slice x.a s.recipes[k].inn.length x.c) 7 (rws Am.row s.recipes[k].inn.reverse))
  (fun x=>.ret (.agg [.buf 0,.buf 1,.buf 2,.buf 3,.buf 4,.buf 5,.buf 10,.buf 7]) 11 [(10,.own 49 17 (rws RcV.row (s.recipes.set k (s.recipes[k].turn x)))),intB 9 k,dQ 8]):=by
 have lR:=aE RcV.row s.recipes
 refine FnX.of Tryz.func21 (by kernel_rfl) rfl Tryz.ntmps21 rfl fun E0 F G h N hP w0 cs=>?_
 conv=>whnf
 refine aBF ?_
 refine And.intro (fL (show 0+(rws RcV.row s.recipes).length≤1000000 by omega)) ?_
 conv=>whnf
 refine bZ ?_
 refine And.intro (show (0:Int)≤(k:Int)∧(k:Int)<(((rws RcV.row s.recipes).length:Nat):Int) by omega) ?_
 conv=>whnf
 refine bZ ?_
 refine aA.rowsEq 13 (rows':=rws RcV.row s.recipes) rfl ?_;conv=>whnf
 refine aA.callY (N.gsub) (turnB_fn (rws RcV.row s.recipes) k s.recipes[k] (bA hk) hl) (fun h U=>RoF.up U hP) [13] sH ?CNa3 ?_
 case CNa3=>rfl
 rintro _ x G1 h1 N1 J1
 conv=>whnf
 refine bZ ?_
 refine aA.rowsEq 13 (set_rws RcV.row s.recipes k (s.recipes[k].turn x)) ?_;conv=>whnf
 try refine aA.retU ?_
 try refine aA.finU ?_
 exact aB.ret tab Tryz.func21 rfl (jP.mk (N.trans N1) (x) (fun h U=>RoF.up U J1) [(10,13)] sH rfl rfl (bH rfl rfl))
theorem changeW_fn (s:aG) (k:Nat) (hk:k<s.recipes.length) (n d:Int) (hR:s.recipes.length≤1000):FnS Tryz.prog 21 12 [.fn (.func 24) [] [.ptr 10 0,.ptr 11 0],.ptr 8 0,.ptr 9 0] [intB 11 d,intB 10 n,intB 9 k,dQ 8,(0,.ro 8 (aL s.units)),(1,.ro 6 (rws It.row s.items)),(2,.ro 1 (bV s.plants)),(3,.ro 4 (rws Mc.row s.machines)),(4,.ro 2 (rws OpV.row s.options)),(5,.ro 1 (rws FbV.row s.forbids)),(6,.ro 17 (rws RcV.row s.recipes)),(7,.ro 4 (rws Sw.row s.swaps))]
  (fun (_:Unit)=>True) (fun _=>.ret (.agg [.buf 0,.buf 1,.buf 2,.buf 3,.buf 4,.buf 5,.buf 12,.buf 7]) 13 [(12,.own 49 17 (rws RcV.row (s.recipes.set k (s.recipes[k].tol n d)))),intB 11 d,intB 10 n,intB 9 k,dQ 8]):=by
 have lR:=aE RcV.row s.recipes
 refine FnS.of Tryz.func21 (by kernel_rfl) rfl Tryz.ntmps21 rfl fun E0 F h w0 cs=>?_
 conv=>whnf
 refine aBF ?_
 refine And.intro (fL (show 0+(rws RcV.row s.recipes).length≤1000000 by omega)) ?_
 conv=>whnf
 refine bZ ?_
 refine And.intro (show (0:Int)≤(k:Int)∧(k:Int)<(((rws RcV.row s.recipes).length:Nat):Int) by omega) ?_
 conv=>whnf
 refine bZ ?_
 refine aA.rowsEq 15 (rows':=rws RcV.row s.recipes) rfl ?_;conv=>whnf
 refine aA.callN (wideB_fn (rws RcV.row s.recipes) k s.recipes[k] (bA hk) n d) [15,10,11] ?_ sH ?CNa4
 case CNa4=>rfl
 intro _ _
 conv=>whnf
 refine bZ ?_
 refine aA.rowsEq 15 (set_rws RcV.row s.recipes k (s.recipes[k].tol n d)) ?_;conv=>whnf
 try refine aA.retU ?_
 try refine aA.finU ?_
 exact aB.ret tab Tryz.func21 rfl (aT.mk (()) (trivial) [(12,15)] sH rfl rfl (bH rfl rfl))
theorem balMore_fn {h:Array Obj} (s:aG) {vU vI vP vM vO vF vR vS:Value} (hs:Top h vU vI vP vM vO vF vR vS s) (hw:s.wf) (i n d:Int) (hi:0≤i∧i<256) (hn: -9223372036854775808≤n∧n≤9223372036854775807) (hd: -9223372036854775808≤d∧d≤9223372036854775807) (hT:gN h):FnV Tryz.prog 7 #[xY vU vI vP vM vO vF vR vS,.int .u8 i,.int .i64 n,.int .i64 d] h fun r h'=>r=.bool true∧aH h.size h h':=by
 have lU:=aZ s.units
 have lI:=aE It.row s.items
 have lP:=cK s.plants
 have lM:=aE Mc.row s.machines
 have lO:=aE OpV.row s.options
 have lF:=aE FbV.row s.forbids
 have lR:=aE RcV.row s.recipes
 have lS:=aE Sw.row s.swaps
 refine Fn.ofG (mJ [vU,vI,vP,vM,vO,vF,vR,vS]) 8 [.agg [.buf 0,.buf 1,.buf 2,.buf 3,.buf 4,.buf 5,.buf 6,.buf 7],.v (.int .u8 i),.v (.int .i64 n),.v (.int .i64 d)] [(0,.ro (8) (aL s.units)),(1,.ro (6) (rws It.row s.items)),(2,.ro (1) (bV s.plants)),(3,.ro (4) (rws Mc.row s.machines)),(4,.ro (2) (rws OpV.row s.options)),(5,.ro (1) (rws FbV.row s.forbids)),(6,.ro (17) (rws RcV.row s.recipes)),(7,.ro (4) (rws Sw.row s.swaps))] (fun k=>k<_) Tryz.func7 (by kernel_rfl) rfl Tryz.ntmps7 rfl (fun _ hk=>hk) (Sat.ros (vs:=[vU,vI,vP,vM,vO,vF,vR,vS]) (l:=[(8,aL s.units),(6,rws It.row s.items),(1,bV s.plants),(4,rws Mc.row s.machines),(2,rws OpV.row s.options),(1,rws FbV.row s.forbids),(17,rws RcV.row s.recipes),(4,rws Sw.row s.swaps)]) ⟨hs.U,hs.I,hs.P,hs.M,hs.O,hs.F,hs.R,hs.S,trivial⟩) fun w0 cs=>?_
 conv=>whnf
 refine aBF ?_
 refine aA.callV (fun Ez Hz Az Sz K=>aDY (hT.keeps ⟨K.size,K.same⟩)) ?_
 conv=>whnf
 refine bZ ?_
 by_cases hf:aHK s
 rotate_left
 ·refine aA.callV (fun Ez Hz Az Sz K=>pP s ⟨Sz.ro (b:=0) rfl,Sz.ro (b:=1) rfl,Sz.ro (b:=2) rfl,Sz.ro (b:=3) rfl,Sz.ro (b:=4) rfl,Sz.ro (b:=5) rfl,Sz.ro (b:=6) rfl,Sz.ro (b:=7) rfl,hs.below.up (Up.kp K)⟩) ?_
  conv=>whnf
  rw [decide_eq_false hf]
  try dsimp only
  refine bZ ?_
  refine aA.retU (aB.ret tab Tryz.func7 rfl fun _ _ _ _ K=>⟨_,rfl,rfl,K.keeps⟩)
 refine aA.callV (fun Ez Hz Az Sz K=>pP s ⟨Sz.ro (b:=0) rfl,Sz.ro (b:=1) rfl,Sz.ro (b:=2) rfl,Sz.ro (b:=3) rfl,Sz.ro (b:=4) rfl,Sz.ro (b:=5) rfl,Sz.ro (b:=6) rfl,Sz.ro (b:=7) rfl,hs.below.up (Up.kp K)⟩) ?_
 conv=>whnf
 rw [decide_eq_true hf]
 try dsimp only
 refine bZ ?_
 refine ⟨fun h0=>?_,fun h0=>?_⟩<;>conv=>whnf
 ·refine dB ?_
  refine aA.retU (aB.ret tab Tryz.func7 rfl fun _ _ _ _ K=>⟨_,rfl,rfl,K.keeps⟩)
 refine dB ?_
 obtain ⟨z,hz⟩:∃z,fV s=z:=⟨_,rfl⟩
 refine aA.callV (fun Ez Hz Az Sz K=>fO s ⟨Sz.ro (b:=0) rfl,Sz.ro (b:=1) rfl,Sz.ro (b:=2) rfl,Sz.ro (b:=3) rfl,Sz.ro (b:=4) rfl,Sz.ro (b:=5) rfl,Sz.ro (b:=6) rfl,Sz.ro (b:=7) rfl,hs.below.up (Up.kp K)⟩ hw (hT.keeps ⟨K.size,K.same⟩)) ?_
 conv=>whnf
 rw [hz]
 try dsimp only
 refine bZ ?_
 refine ⟨fun hz0=>?_,fun hz0=>?_⟩<;>conv=>whnf
 rotate_left
 ·refine dB ?_
  refine aA.retU (aB.ret tab Tryz.func7 rfl fun _ _ _ _ K=>⟨_,rfl,rfl,K.keeps⟩)
 obtain rfl:z=0:=by omega
 refine dB ?_
 obtain ⟨k,e,hk⟩:=emodB (i:=i) (n:=(rws RcV.row s.recipes).length) hi.1 (by omega)
 rw [aE] at hk
 refine dB ?_
 rw [e]
 have hm:=List.getElem_mem hk
 have hwr:=hw.R _ hm
 have hok:=hs.below.r _ hm
 have hfr:=hf.1.2.2.2.1 _ hm
 have h12:s.recipes.length≤12:=hf.2
 refine aA.subR (nx':=13) (l':=[(11,.ptr 12 0),(10,.fn (.func 21) [] [.ptr 8 0,.ptr 11 0]),(9,.ptr 11 0),(8,.v (.bool false)),(7,.ptr 10 0),(6,.ptr 9 0),(4,.ptr 8 0)]) (H':=[dQ 12,intB 11 k,intB 10 d,intB 9 n,dQ 8,(0,.ro 8 (aL s.units)),(1,.ro 6 (rws It.row s.items)),(2,.ro 1 (bV s.plants)),(3,.ro 4 (rws Mc.row s.machines)),(4,.ro 2 (rws OpV.row s.options)),(5,.ro 1 (rws FbV.row s.forbids)),(6,.ro 17 (rws RcV.row s.recipes)),(7,.ro 4 (rws Sw.row s.swaps))]) [] ?_ sH sH
 refine aA.join (fun (_:Unit)=>[(11,.ptr 12 0),(10,.fn (.func 21) [] [.ptr 8 0,.ptr 11 0]),(9,.ptr 11 0),(8,.v (.bool false)),(7,.ptr 10 0),(6,.ptr 9 0),(4,.ptr 8 0)]) (fun (_:Unit)=>[(13,.own 49 17 (rws RcV.row (s.recipes.take k++s.recipes.drop (k+1)))),(12,.cells 31 [.buf 0,.buf 1,.buf 2,.buf 3,.buf 4,.buf 5,.buf 13,.buf 7]),intB 11 k,intB 10 d,intB 9 n,dQ 8,(0,.ro 8 (aL s.units)),(1,.ro 6 (rws It.row s.items)),(2,.ro 1 (bV s.plants)),(3,.ro 4 (rws Mc.row s.machines)),(4,.ro 2 (rws OpV.row s.options)),(5,.ro 1 (rws FbV.row s.forbids)),(6,.ro 17 (rws RcV.row s.recipes)),(7,.ro 4 (rws Sw.row s.swaps))]) 14 (fun (_:Unit)=>True) ?_ (fun meet=>?_)
 rotate_left
 ·refine aA.held tab (.fl 1 (.fl 2 (.fl 3 (.fl 4 (.fl 6 (.fl 7 (.fl 8 (.fl 9 (.fl 10 (.e1 0 [2,3,7,8] (.e1 5 [7,8] (.e1 11 [] (.fl 12 (.e1 13 [] .done)))))))))))))) (by kernel_rfl) ?_
  conv=>whnf
  refine fA ?_
  refine bZ ?_
  refine And.intro (fL (by rw [List.length_take];exact Nat.le_trans (Nat.le_of_eq (Nat.zero_add _)) (by omega))) ?_;conv=>whnf
  refine fA ?_
  refine bZ ?_
  refine And.intro (fL (by rw [List.length_append,List.length_take,List.length_drop];exact Nat.le_trans (Nat.le_of_eq (by rw [show (qR _ 0 []:List (List Value)).length=0 from rfl,Nat.zero_add])) (by omega))) ?_;conv=>whnf
  refine fA ?_
  refine bZ ?_
  refine aA.rowsEq 17 (show ([]++(rws RcV.row s.recipes).take k)++(rws RcV.row s.recipes).drop (k+1)=rws RcV.row (s.recipes.take k++s.recipes.drop (k+1)) by simp [rws]) ?_
  conv=>whnf
  refine aA.subR [(13,17)] (meet (()) (by first|trivial|omega|((try dsimp only);omega))) sH sH
 intro _ _
 refine bZ ?_
 refine aA.callY (fun _ x=>x) (changeT_fn s k hk (by omega) (by omega)) (fun h U=>RoF.up U hok.i) [0,1,2,3,4,5,6,7,8,11] sH ?CNa6 ?_
 case CNa6=>rfl
 rintro _ x G1 h1 N1 J1
 conv=>whnf
 refine bZ ?_
 refine aA.subR (nx':=16) (l':=[(61,.agg [.buf 0,.buf 1,.buf 2,.buf 3,.buf 4,.buf 5,.buf 13,.buf 7]),(12,.ptr 15 0),(11,.ptr 12 0),(10,.fn (.func 21) [] [.ptr 8 0,.ptr 11 0]),(9,.ptr 11 0),(8,.v (.bool false)),(7,.ptr 10 0),(6,.ptr 9 0),(4,.ptr 8 0)]) (H':=[(15,.cells 31 [.buf 0,.buf 1,.buf 2,.buf 3,.buf 4,.buf 5,.buf 14,.buf 7]),(14,.own 49 17 (rws RcV.row (s.recipes.set k (s.recipes[k].turn x)))),(13,.own 49 17 (rws RcV.row (s.recipes.take k++s.recipes.drop (k+1)))),(12,.cells 31 [.buf 0,.buf 1,.buf 2,.buf 3,.buf 4,.buf 5,.buf 13,.buf 7]),intB 11 k,intB 10 d,intB 9 n,dQ 8,(0,.ro 8 (aL s.units)),(1,.ro 6 (rws It.row s.items)),(2,.ro 1 (bV s.plants)),(3,.ro 4 (rws Mc.row s.machines)),(4,.ro 2 (rws OpV.row s.options)),(5,.ro 1 (rws FbV.row s.forbids)),(6,.ro 17 (rws RcV.row s.recipes)),(7,.ro 4 (rws Sw.row s.swaps))]) [] ?_ sH sH
 have TB:=fun (Hz:Array Obj) (K:Kp _ h1 Hz)=>hT.keeps (h':=Hz) ⟨(N1.conv _ K).size,(N1.conv _ K).same⟩
 have UB:=fun (Hz:Array Obj) (K:Kp _ h1 Hz)=>hs.below.up (Up.kp (N1.conv Hz K))
 have w1:(s.wr (s.recipes.take k++s.recipes.drop (k+1))).wf:=⟨hw.U,hw.I,hw.M,hw.F,fun y hy=>hw.R y ((aED _ _).subset hy),hw.S⟩
 have w2:(s.wr (s.recipes.set k (s.recipes[k].turn x))).wf:=⟨hw.U,hw.I,hw.M,hw.F,fun y hy=>(List.mem_or_eq_of_mem_set hy).elim (hw.R y) fun e=>by rw [e];exact ⟨hwr.c,fun a ha=>hwr.i a (List.mem_reverse.1 ha),hwr.o,hwr.rn,hwr.n⟩,hw.S⟩
 have w3:(s.wr (s.recipes.set k (s.recipes[k].tol n d))).wf:=⟨hw.U,hw.I,hw.M,hw.F,fun y hy=>(List.mem_or_eq_of_mem_set hy).elim (hw.R y) fun e=>by
  obtain ⟨q1,q2,q3,q4,q5,q6,_,_,q7,q8,q9⟩:=hwr.n
  rw [e];exact ⟨hwr.c,hwr.i,hwr.o,hwr.rn,q1,q2,q3,q4,q5,q6,hn,hd,q7,q8,q9⟩,hw.S⟩
 have u1:=fun (Hz:Array Obj) (K:Kp _ h1 Hz)=>(show (s.wr (s.recipes.take k++s.recipes.drop (k+1))).sub (fun k=>k<Hz.size) Hz from ⟨(UB Hz K).o,(UB Hz K).f,fun y hy=>(UB Hz K).r y ((aED _ _).subset hy)⟩)
 have u2:=fun (Hz:Array Obj) (K:Kp _ h1 Hz)=>(show (s.wr (s.recipes.set k (s.recipes[k].turn x))).sub (fun k=>k<Hz.size) Hz from ⟨(UB Hz K).o,(UB Hz K).f,fun y hy=>(List.mem_or_eq_of_mem_set hy).elim ((UB Hz K).r y) fun e=>by
  have z:=(UB Hz K).r _ hm
  rw [e]
  refine ⟨z.c,?_,z.o,z.rn⟩
  unfold RcV.turn
  dsimp only
  rw [List.length_reverse]
  exact RoF.up ((N1.up K).trans (Up.below N1.gsub K)) J1⟩)
 have u3:=fun (Hz:Array Obj) (K:Kp _ h1 Hz)=>(show (s.wr (s.recipes.set k (s.recipes[k].tol n d))).sub (fun k=>k<Hz.size) Hz from ⟨(UB Hz K).o,(UB Hz K).f,fun y hy=>(List.mem_or_eq_of_mem_set hy).elim ((UB Hz K).r y) fun e=>by
  have z:=(UB Hz K).r _ hm
  rw [e]
  exact ⟨z.c,z.i,z.o,z.rn⟩⟩)
 refine aA.callV (fun Ez Hz Az Sz K=>fO (s.wr (s.recipes.take k++s.recipes.drop (k+1))) ⟨Sz.ro (b:=0) rfl,Sz.ro (b:=1) rfl,Sz.ro (b:=2) rfl,Sz.ro (b:=3) rfl,Sz.ro (b:=4) rfl,Sz.ro (b:=5) rfl,Sz.ro (b:=13) rfl,Sz.ro (b:=7) rfl,u1 _ K⟩ w1 (TB _ K)) ?_
 conv=>whnf
 rw [more_fewer hz k]
 try dsimp only
 refine bZ ?_
 refine aA.callV (fun Ez Hz Az Sz K=>fO (s.wr (s.recipes.set k (s.recipes[k].turn x))) ⟨Sz.ro (b:=0) rfl,Sz.ro (b:=1) rfl,Sz.ro (b:=2) rfl,Sz.ro (b:=3) rfl,Sz.ro (b:=4) rfl,Sz.ro (b:=5) rfl,Sz.ro (b:=14) rfl,Sz.ro (b:=7) rfl,u2 _ K⟩ w2 (TB _ K)) ?_
 conv=>whnf
 refine pM tab 4 _ _ _ _ ?_;conv=>whnf
 refine aA.joinO (fun (_:Unit)=>[(71,.v (.bool false)),(11,.ptr 12 0),(10,.fn (.func 21) [] [.ptr 8 0,.ptr 11 0]),(9,.ptr 11 0),(8,.v (.bool false)),(7,.ptr 10 0),(6,.ptr 9 0),(4,.ptr 8 0)]) (fun (_:Unit)=>[intB 11 k,intB 10 d,intB 9 n,dQ 8,(0,.ro 8 (aL s.units)),(1,.ro 6 (rws It.row s.items)),(2,.ro 1 (bV s.plants)),(3,.ro 4 (rws Mc.row s.machines)),(4,.ro 2 (rws OpV.row s.options)),(5,.ro 1 (rws FbV.row s.forbids)),(6,.ro 17 (rws RcV.row s.recipes)),(7,.ro 4 (rws Sw.row s.swaps))]) 16 (fun (_:Unit)=>True) ?_ (fun meet=>?_)
 rotate_left
 ·rcases more_turned hz hk x with ht|ht
  ·rw [ht]
   refine bZ ?_
   refine aA.subR [] (meet (()) (by first|trivial|omega|((try dsimp only);omega))) sH sH
  rw [ht]
  refine bZ ?_
  refine aA.subR [] (meet (()) (by first|trivial|omega|((try dsimp only);omega))) sH sH
 intro _ _
 refine bZ ?_
 obtain ⟨⟨a,e1⟩,ha⟩:∃x,eU n d=x:=⟨_,rfl⟩
 obtain ⟨q,q1,q2,_⟩:=pO (mC (oC.1 hz).1 hm).t
 have hb:eU s.recipes[k].tN s.recipes[k].tD=(aN q,0):=q1
 obtain ⟨b,hbq⟩:∃b,b=aN q:=⟨_,rfl⟩
 rw [←hbq] at hb
 refine aA.callV (fun Ez Hz Az Sz K=>iC n d hn hd (TB _ K)) ?_
 conv=>whnf
 rw [ha]
 try dsimp only
 refine bZ ?_
 refine aA.join (fun (_:Unit)=>[(17,.v (.int .i64 0)),(16,.ptr 17 0),(15,.v (.int .i64 e1)),(14,.ptr 16 0),(11,.ptr 12 0),(10,.fn (.func 21) [] [.ptr 8 0,.ptr 11 0]),(9,.ptr 11 0),(8,.v (.bool false)),(7,.ptr 10 0),(6,.ptr 9 0),(4,.ptr 8 0)]) (fun (_:Unit)=>[rtB 17 b,rtB 16 a,intB 11 k,intB 10 d,intB 9 n,dQ 8,(0,.ro 8 (aL s.units)),(1,.ro 6 (rws It.row s.items)),(2,.ro 1 (bV s.plants)),(3,.ro 4 (rws Mc.row s.machines)),(4,.ro 2 (rws OpV.row s.options)),(5,.ro 1 (rws FbV.row s.forbids)),(6,.ro 17 (rws RcV.row s.recipes)),(7,.ro 4 (rws Sw.row s.swaps))]) 18 (fun (_:Unit)=>True) ?_ (fun meet=>?_)
 rotate_left
 ·refine aA.held tab (.fl 0 (.fl 1 (.fl 2 (.fl 3 (.fl 4 (.fl 5 (.fl 6 (.fl 7 (.fl 8 (.fl 9 (.fl 10 (.fl 11 (.e2 12 [] (.fl 13 (.fl 14 (.fl 15 (.e1 16 [1,2,5,7,8,11] (.e1 17 [] (.fl 18 .done)))))) 16 [1,2,5,7,8,11] (.e1 12 [] (.fl 13 (.fl 14 (.fl 15 (.e1 17 [] (.fl 18 .done))))))))))))))))))) (by kernel_rfl) ?_
  conv=>whnf
  refine fA ?_
  refine bZ ?_
  refine ⟨_,bA hk,?_⟩;conv=>whnf
  try (refine And.intro (by first|omega|exact Nat.le_of_ble_eq_true rfl) ?_;(try intro _);conv=>whnf)
  refine fA ?_
  refine bZ ?_
  refine ⟨_,bA hk,?_⟩;conv=>whnf
  try (refine And.intro (by first|omega|exact Nat.le_of_ble_eq_true rfl) ?_;(try intro _);conv=>whnf)
  refine fA ?_
  refine bZ ?_
  have hrn:=hwr.n
  repeat' first
   |(guard_target=_∧_
     refine And.intro ?_ ?_
     all_goals conv=>whnf
     all_goals repeat ((first|(guard_target=_∧_;(first|refine oL ?_|refine oR ?_|refine oB ?_))|(guard_target=Exists _;refine oM ?_));(try intro _);conv=>whnf))
   |(refine aK.callV (fun Ez Hz Az Sz K=>iC s.recipes[k].tN s.recipes[k].tD hrn.2.2.2.2.2.2.1 hrn.2.2.2.2.2.2.2.1 (TB _ K)) (by (conv=>whnf);(repeat (guard_target=_∧_;refine And.intro (by (conv=>whnf);first|rfl|exact trivial) ?_;conv=>whnf));exact trivial) ?_
     conv=>whnf
     rw [hb]
     try dsimp only
     refine fA ?_
     refine sqs ?_
     repeat ((first|(guard_target=_∧_;(first|refine oL ?_|refine oR ?_))|(guard_target=Exists _;refine oM ?_));(try intro _);conv=>whnf))
   |(refine aA.subR [] (meet (()) ?_) ?_ ?_
     ·first|trivial|omega|((try dsimp only);omega)
     ·repeat (first|exact trivial|refine ⟨by rfl,?_⟩)
     repeat (first|exact trivial|refine ⟨by rfl,?_⟩))
 intro _ _
 by_cases he:e1=0
 rotate_left
 ·try refine gS ?_
  refine dB ?_
  refine dB ?_
  refine aA.retU (aB.ret tab Tryz.func7 rfl fun Ez Hz Az Sz K=>⟨_,rfl,congrArg Value.bool (show (!decide (e1=0))=true by simp [he]),(N1.conv Hz K).keeps⟩)
 subst he
 refine bZ ?_
 obtain ⟨⟨c,e2⟩,hc⟩:∃x,lE b a=x:=⟨_,rfl⟩
 refine aA.callV (fun Ez Hz Az Sz K=>pR b a (TB _ K)) ?_
 conv=>whnf
 rw [hc]
 try dsimp only
 refine bZ ?_
 by_cases he2:e2=0
 rotate_left
 ·try refine gS ?_
  refine dB ?_
  refine dB ?_
  refine aA.retU (aB.ret tab Tryz.func7 rfl fun Ez Hz Az Sz K=>⟨_,rfl,rfl,(N1.conv Hz K).keeps⟩)
 subst he2
 by_cases hc0:c≤0
 rotate_left
 ·try refine gS ?_
  refine dB ?_
  refine dB ?_
  refine aA.retU (aB.ret tab Tryz.func7 rfl fun Ez Hz Az Sz K=>⟨_,rfl,rfl,(N1.conv Hz K).keeps⟩)
 refine bZ ?_
 refine aA.callN (changeW_fn s k hk n d (by omega)) [0,1,2,3,4,5,6,7,8,11,9,10] ?_ sH ?CNa9
 case CNa9=>rfl
 intro _ _
 conv=>whnf
 refine bZ ?_
 refine aA.subR (nx':=20) (l':=[(20,.ptr 19 0),(117,.agg [.buf 0,.buf 1,.buf 2,.buf 3,.buf 4,.buf 5,.buf 18,.buf 7]),(8,.v (.bool false))]) (H':=[(19,.cells 31 [.buf 0,.buf 1,.buf 2,.buf 3,.buf 4,.buf 5,.buf 18,.buf 7]),(18,.own 49 17 (rws RcV.row (s.recipes.set k (s.recipes[k].tol n d)))),(0,.ro 8 (aL s.units)),(1,.ro 6 (rws It.row s.items)),(2,.ro 1 (bV s.plants)),(3,.ro 4 (rws Mc.row s.machines)),(4,.ro 2 (rws OpV.row s.options)),(5,.ro 1 (rws FbV.row s.forbids)),(6,.ro 17 (rws RcV.row s.recipes)),(7,.ro 4 (rws Sw.row s.swaps))]) [] ?_ sH sH
 have hq:=more_wide hz hk ha hb (by rw [hc]) (by rw [hc];exact hc0)
 obtain ⟨y,hy⟩:∃y,fV (s.wr (s.recipes.set k (s.recipes[k].tol n d)))=y:=⟨_,rfl⟩
 rw [hy] at hq
 refine aA.callV (fun Ez Hz Az Sz K=>fO (s.wr (s.recipes.set k (s.recipes[k].tol n d))) ⟨Sz.ro (b:=0) rfl,Sz.ro (b:=1) rfl,Sz.ro (b:=2) rfl,Sz.ro (b:=3) rfl,Sz.ro (b:=4) rfl,Sz.ro (b:=5) rfl,Sz.ro (b:=18) rfl,Sz.ro (b:=7) rfl,u3 _ K⟩ w3 (TB _ K)) ?_
 conv=>whnf
 rw [hy]
 try dsimp only
 refine bZ ?_
 refine ⟨fun hy0=>?_,fun hy0=>?_⟩<;>conv=>whnf
 ·refine dB ?_
  refine aA.retU (aB.ret tab Tryz.func7 rfl fun Ez Hz Az Sz K=>⟨_,rfl,rfl,(N1.conv Hz K).keeps⟩)
 refine ⟨fun hy2=>?_,fun hy2=>?_⟩<;>conv=>whnf
 ·refine dB ?_
  refine aA.retU (aB.ret tab Tryz.func7 rfl fun Ez Hz Az Sz K=>⟨_,rfl,rfl,(N1.conv Hz K).keeps⟩)
 have hy3:bE (s.wr (s.recipes.set k (s.recipes[k].tol n d)))=y:=by
  rcases hq with e|e|e
  ·exact absurd e hy0
  ·exact absurd e hy2
  exact e.symm
 refine aA.callV (fun Ez Hz Az Sz K=>qI (s.wr (s.recipes.set k (s.recipes[k].tol n d))) ⟨Sz.ro (b:=0) rfl,Sz.ro (b:=1) rfl,Sz.ro (b:=2) rfl,Sz.ro (b:=3) rfl,Sz.ro (b:=4) rfl,Sz.ro (b:=5) rfl,Sz.ro (b:=18) rfl,Sz.ro (b:=7) rfl,u3 _ K⟩ w3 (TB _ K)) ?_
 conv=>whnf
 rw [hy3]
 try dsimp only
 refine bZ ?_
 refine aA.retU (aB.ret tab Tryz.func7 rfl fun Ez Hz Az Sz K=>⟨_,rfl,congrArg Value.bool (decide_eq_true rfl),(N1.conv Hz K).keeps⟩)
end Go.Proofs.YthjedpdedjhndaaGreatDoor

namespace Go.Proofs.YthjedpdedjhndaaGreatDoor.balanceMore
open Go Go.Fw Go.ChangeShapes Go.ChangeMaps Go.WideShapes Go.ChangeAt Go.RowKit
set_option maxRecDepth 100000
theorem int_wf {n:Int} (h:(Lit.int .i64 n).wf=true): -9223372036854775808≤n∧n≤9223372036854775807:=by
 have h1:IntKind.i64.min≤n∧n≤9223372036854775807:=by simpa [Lit.wf] using h
 have e:IntKind.i64.min = -9223372036854775808:=rfl
 omega
theorem contract (H:Type) (enc:TypeId×Value→H) (W:World) (base:Nat) (args:Array Value) (ds gs:List (DataW H)) (before:List MemPlace)
  (hval:∀(j:Nat) t v,Tryz.f7.params[j]? = some t→args[j]? = some v→Value.okWide Tryz.prog W .any base t v)
  (hW:DataW.Whole enc Tryz.prog Tryz.f7.params.toList Rows.balanceMoreSpec.vars false W args.toList ds gs before) (hL:laidMetH Tryz.prog Rows.balanceMoreRow.laid W):
  Calls Tryz.prog 7 args W fun e W'=>∃v,e=.returned v∧Rows.balanceMoreSpec.post enc Tryz.prog Tryz.f7 false true false false W args v W':=by
 have hW':=hW
 obtain ⟨p,q,hA0,hV,rfl,hfz,hnd⟩:=hW
 have hA:DataW.TrodAll enc Tryz.prog W 0 (fun _=>true) true Tryz.f7.params.toList args.toList ds p:=hA0
 rw [Tryz.params7] at hA hval
 obtain ⟨v0,vs0,d0,ds0,p0,q0,hargs,rfl,rfl,h0,r0⟩:=trodAll_cons hA
 obtain ⟨v1,vs1,d1,ds1,p1,q1,rfl,rfl,rfl,h1,r1⟩:=trodAll_cons r0
 obtain ⟨v2,vs2,d2,ds2,p2,q2,rfl,rfl,rfl,h2,r2⟩:=trodAll_cons r1
 obtain ⟨v3,vs3,d3,ds3,p3,q3,rfl,rfl,rfl,h3,r3⟩:=trodAll_cons r2
 obtain ⟨rfl,rfl,rfl⟩:=trodAll_nil r3
 obtain rfl:args = #[v0,v1,v2,v3]:=by cases args;simp_all
 obtain ⟨rfl,rfl⟩:=trodVars_none hV
 obtain ⟨z0U,z0I,z0P,z0M,z0O,z0F,z0R,z0S,s0,rfl,T0,X0⟩:=aAF (hval 0 31 v0 rfl rfl) h0
 obtain ⟨x1,rfl,rfl,rfl,m1⟩:=open_int Tryz.underlying5 (hval 1 5 v1 rfl rfl) h1
 obtain ⟨x2,rfl,rfl,rfl,m2⟩:=open_int Tryz.underlying3 (hval 2 3 v2 rfl rfl) h2
 obtain ⟨x3,rfl,rfl,rfl,m3⟩:=open_int Tryz.underlying3 (hval 3 3 v3 rfl rfl) h3
 clear hA0
 simp only [List.append_nil] at hW'
 have walk:=FnV.below (W:=W) (R:=fun r=>r=.bool true) (balMore_fn s0 T0 X0 x1 x2 x3 (aGU m1) (int_wf m2) (int_wf m3) (aTJ hL))
 refine walk.mono fun e W' ⟨v,he,hv,hg⟩=>?_
 subst he hv
 exact ⟨_,rfl,wN aEC (by kernel_rfl) Tryz.underlying4 rfl hW' rfl (fun _ _=>⟨rfl,rfl,rfl⟩) hg⟩
theorem laid_met (os:Os):laidMet Tryz.prog Rows.balanceMoreRow.laid ((fP os).forCall (fun _ _=>0) ⟨#[],#[.agg #[.slice none 0 0,.slice none 0 0,.slice none 0 0,.slice none 0 0,.slice none 0 0,.slice none 0 0,.slice none 0 0,.slice none 0 0],.int .u8 0,.int .i64 0,.int .i64 0],[]⟩).memory:=
 laidMet_of_run' 8 (by kernel_rfl) (by kernel_rfl)
theorem reads (os:Os) {H:Type} (enc:TypeId×Value→H):∃places,DataW.whole enc Tryz.prog ((fP os).forCall (fun _ _=>0) ⟨#[],#[.agg #[.slice none 0 0,.slice none 0 0,.slice none 0 0,.slice none 0 0,.slice none 0 0,.slice none 0 0,.slice none 0 0,.slice none 0 0],.int .u8 0,.int .i64 0,.int .i64 0],[]⟩).memory Tryz.f7.params.toList Rows.balanceMoreSpec.vars false (#[.agg #[.slice none 0 0,.slice none 0 0,.slice none 0 0,.slice none 0 0,.slice none 0 0,.slice none 0 0,.slice none 0 0,.slice none 0 0],.int .u8 0,.int .i64 0,.int .i64 0]:Array Value).toList 8=some ([.agg [.nil,.nil,.nil,.nil,.nil,.nil,.nil,.nil],.lit (.int .u8 0),.lit (.int .i64 0),.lit (.int .i64 0)],[],places):=
 ⟨[],by kernel_rfl⟩
theorem lifted (os:Os) (started:os.Started) (H:Type) (enc:TypeId×Value→H) (F:Stop.Interp):
  ReturnsInHanded {} Tryz.checked os 7 .any ((OpenSpec.ofChange Rows.balanceMoreSpec).preRow enc Tryz.prog Tryz.f7 Rows.balanceMoreRow.domain false Rows.balanceMoreRow.laid) (((OpenSpec.ofChange Rows.balanceMoreSpec).at F).post enc Tryz.prog Tryz.f7 false true false false):=by
 obtain ⟨places,hx⟩:=reads os enc
 refine returnsInHanded_of_row (C:=Tryz.checked) (s:=OpenSpec.ofChange Rows.balanceMoreSpec) own started (by kernel_rfl) Tryz.func7
  (witness_row_at (enc:=enc) (C:=Tryz.checked) false (fP os) #[.agg #[.slice none 0 0,.slice none 0 0,.slice none 0 0,.slice none 0 0,.slice none 0 0,.slice none 0 0,.slice none 0 0,.slice none 0 0],.int .u8 0,.int .i64 0,.int .i64 0] rfl (by kernel_rfl) (by kernel_rfl) (by kernel_rfl)
   (OpenSpec.preRow_of_cond 8 hx (by kernel_rfl) (fun k hk=>by cases hk) (by kernel_rfl) (laid_met os))) ?_
 intro W base args ds gs before hval hW _ _ hS hL _ _
 exact contract H enc W base args ds gs before hval hW hL
set_option maxHeartbeats 99999999
theorem andB {a b:Bool} (h:a=true) (g:b=true):(a&&b)=true:=by rw [h,g];rfl
theorem closed:joinedFacts Tryz.pinned.checked.prog 7 Tryz.f7 (OpenSpec.ofChange Rows.balanceMoreSpec).bare Rows.balanceMoreRow=true:=by
 unfold joinedFacts
 repeat' with_reducible refine andB ?_ ?_
 all_goals as_aux_lemma=>kernel_rfl
theorem said:Rows.BalanceMoreSaid:=
 OpenClaim.holds_of_cond 7 Tryz.f7 rfl rfl rfl rfl rfl rfl rfl ⟨rfl,rfl,rfl,rfl,rfl⟩ rfl rfl rfl rfl rfl (by kernel_rfl) Tryz.func7 closed
  (of_decide_eq_true (by kernel_rfl)) (by unfold Func.isWrapper;first|(rw [if_pos (by decide +kernel)];kernel_rfl)|(rw [if_neg (by decide +kernel)];exact ⟨rfl,rfl⟩))
  (fun os started H enc _ F=>by rw [OpenClaim.pre_eq_preRow];exact lifted os started H enc F)
theorem plain (f:FuncId) (fn:Func) (hf:Tryz.pinned.checked.prog.funcNamed "backflush/backflushlaw14.BalanceMore" = some f) (hfn:Tryz.pinned.checked.prog.funcs[f]? = some fn):
  true=Tryz.pinned.checked.prog.looks [] ∧ ∀(j:Nat) t,fn.params[j]? = some t→Tryz.pinned.checked.prog.wantsStandIn t=false:=by
 obtain rfl:f=7:=Option.some.inj ((show Tryz.prog.funcNamed "backflush/backflushlaw14.BalanceMore" = some 7 by kernel_rfl).symm.trans hf) |>.symm
 obtain rfl:fn=Tryz.f7:=(Option.some.inj (Tryz.func7.symm.trans hfn)).symm
 refine ⟨by kernel_rfl,fun j t ht=>?_⟩
 rw [Tryz.params7] at ht
 have hm:=Array.mem_of_getElem? ht
 simp only [List.mem_toArray,List.mem_cons,List.not_mem_nil,or_false] at hm
 rcases hm with rfl|rfl|rfl|rfl
 ·exact (show Tryz.prog.wantsStandIn 31=false by kernel_rfl)
 ·exact (show Tryz.prog.wantsStandIn 5=false by kernel_rfl)
 ·exact (show Tryz.prog.wantsStandIn 3=false by kernel_rfl)
 exact (show Tryz.prog.wantsStandIn 3=false by kernel_rfl)
theorem card:Rows.BalanceMoreCardSaid:=
 Claim7.holds_tied_plain_at .later [] _ _ _ _ said (fun _ h=>by cases h) (by kernel_rfl) (fun _ h=>by cases h) balanceMore_row_tie rfl ⟨rfl,rfl⟩ (by kernel_rfl) rfl plain (by kernel_rfl)
end Go.Proofs.YthjedpdedjhndaaGreatDoor.balanceMore
