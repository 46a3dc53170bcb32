/- Texts of this seat, joined: How many parts a source reads as, at the most; for rows with a bound. -/
import Derived.Test.YtofjdbmcloemnaaGreatDoorJoinE
set_option linter.unusedVariables false
set_option linter.unusedSimpArgs false
namespace Go.Proofs.YtofjdbmcloemnaaGreatDoor
open Go Go.Fw Go.RatM Go.SrcM Go.ChangeShapes Go.WideShapes Go.ChangeAt Go.RowKit
set_option maxRecDepth 100000
section
variable {H:Type} {enc:TypeId×Value→H} {W:World} {cs:List Value} {d:DataW H}
def TD (enc:TypeId×Value→H) (W:World) (t:TypeId) (cs:List Value) (d:DataW H):Prop:=∃fuel ps,DataW.trod enc Tryz.prog W 0 (fun _=>true) true fuel t cs=some (d,ps)
theorem bulk_app (l r:List (DataW H)):Rows.uptoBulkAll (l++r)=Rows.uptoBulkAll l+Rows.uptoBulkAll r:=by
 induction l with
 |nil=>simp [Rows.uptoBulkAll]
 |cons x l ih=>simp only [List.cons_append,Rows.uptoBulkAll,ih];omega
theorem bulk_range (D:Nat→DataW H) (f:Nat→Nat):∀n,(∀i,i<n→f i≤Rows.uptoBulk (D i))→((List.range n).map f).sum≤Rows.uptoBulkAll ((List.range n).map D)
 |0,_=>by simp [Rows.uptoBulkAll]
 |n+1,h=>by
  have ih:=bulk_range D f n fun i hi=>h i (by omega)
  have h1:=h n (by omega)
  rw [List.range_succ,List.map_append,List.map_append,bulk_app,List.sum_append]
  simp only [List.map_cons,List.map_nil,List.sum_cons,List.sum_nil,Rows.uptoBulkAll]
  omega
theorem one_bulk (d:DataW H):1≤Rows.uptoBulk d:=by
 cases d with
 |lit l=>cases l<;>simp [Rows.uptoBulk]
 |nil=>simp [Rows.uptoBulk]
 |ptr d=>simp [Rows.uptoBulk]
 |slice elems spare=>simp [Rows.uptoBulk]
 |agg parts=>simp [Rows.uptoBulk]
 |iface t d=>simp [Rows.uptoBulk]
 |map entries=>simp [Rows.uptoBulk]
 |held h=>simp [Rows.uptoBulk]
theorem part_bulk {x:DataW H} {l:List (DataW H)} (h:x∈l):Rows.uptoBulk x≤Rows.uptoBulkAll l:=by
 induction l with
 |nil=>cases h
 |cons y r ih=>
  simp only [Rows.uptoBulkAll]
  rcases List.mem_cons.1 h with rfl|h
  ·omega
  have:=ih h;omega
theorem TD.slice {t e:TypeId} {a:Option Addr} {n c:Nat} (ht:Tryz.prog.underlying t=some (.slice e)) (h:TD enc W t [.slice a n c] d):
  n=0 ∨ ∃(ad:Addr) (D:Nat→DataW H),a=some ad∧(∀i,i<n → ∃cs',W.cells? 0 (ad.add (i*Tryz.prog.cellsOf e)) (Tryz.prog.cellsOf e)=some cs'∧TD enc W e cs' (D i))∧Rows.uptoBulkAll ((List.range n).map D)+1≤Rows.uptoBulk d:=by
 obtain ⟨fuel,ps,h⟩:=h
 rcases Deep.open_slice ht h with ⟨h0,_⟩|⟨ad,len,cap,m,k,D,Pl,h1,hb,hlc,hm,hmm,hx,hcell⟩
 ·cases h0;exact .inl rfl
 cases h1
 have hlm:n≤m:=by rw [hmm];simpa using hlc
 cases hx
 refine .inr ⟨ad,D,rfl,fun i hi=>?_,?_⟩
 ·obtain ⟨cs',e1,e2⟩:=hcell i (by omega)
  exact ⟨cs',e1,_,_,e2⟩
 simp only [Rows.uptoBulk];omega
theorem TD.ones {t:TypeId} {fs:Array Field} {n:Nat} (ht:Tryz.prog.underlying t=some (.struct fs)) (hc:Tryz.prog.cellsOf t=n) (hf:onesB Tryz.prog fs n=true) (h:TD enc W t cs d):
  cs.length=n ∧ ∃xs:List (DataW H),d=.agg xs∧xs.length=fs.size ∧ ∀(i:Nat) (f:Field) (v:Value),fs[i]? = some f→cs[i]? = some v → ∃x,xs[i]? = some x∧TD enc W f.type [v] x:=by
 obtain ⟨fuel,ps,hx⟩:=h
 obtain ⟨xs,m,_,e,hl,hlen,hg⟩:=DataW.trod_struct ht hx
 rw [hc] at hl
 cases e
 refine ⟨hl,_,rfl,by rw [List.length_map];exact hlen,fun i f v h1 h2=>?_⟩
 have hi:i<n:=by rw [←hl];exact (List.getElem?_eq_some_iff.1 h2).1
 obtain ⟨f',e1,e2,e3⟩:=onesB_at hf i hi
 rw [h1] at e1
 cases e1
 have g:=hg i f h1
 have hix:i<xs.length:=by rw [hlen];exact (Array.getElem?_eq_some_iff.1 h1).1
 rw [List.getElem?_eq_getElem hix,e2,e3] at g
 have e4:(cs.drop i).take 1=[v]:=by
  rw [List.take_one,List.head?_drop,h2];rfl
 rw [e4] at g
 exact ⟨xs[i].1,by rw [List.getElem?_map,List.getElem?_eq_getElem hix];rfl,m,xs[i].2,g⟩
theorem bulk_rows {α:Type} {row:α→List Value} {t e:TypeId} {sz:Nat} {l:List α} {v:Value} (ht:Tryz.prog.underlying t=some (.slice e)) (hsz:Tryz.prog.cellsOf e=sz) (f:α→Nat) (hf:∀a∈l,∀d,TD enc W e (row a) d→f a≤Rows.uptoBulk d)
  (hv:RoF (below W) W.heap v sz (rws row l)) (h:TD enc W t [v] d):(l.map f).sum+1≤Rows.uptoBulk d:=by
 obtain ⟨q1,q2,a,cap,rfl,q3⟩:=hv
 rcases h.slice ht with h0|⟨ad,D,rfl,h1,h2⟩
 ·rw [rws_len] at h0
  rw [List.eq_nil_of_length_eq_zero h0];exact one_bulk d
 rw [rws_len] at h1 h2
 rw [hsz] at h1
 have each:∀i (hi:i<l.length),f l[i]≤Rows.uptoBulk (D i):=fun i hi=>by
  obtain ⟨cs',e1,e2⟩:=h1 i hi
  rcases q3 with q3|⟨g,o,e3,e4,e5⟩
  ·have:=congrArg List.length q3
   rw [rws_len] at this
   rw [List.length_nil] at this
   omega
  cases e3
  have c1:=World.cells?_some e1
  have hrl:(row l[i]).length=sz:=(q1 _ (List.mem_map_of_mem (List.getElem_mem hi))).1
  have hcs:cs'=row l[i]:=by
   refine List.ext_getElem? fun j=>?_
   by_cases hj:j<sz
   ·have hr:(row l[i])[j]? = some ((row l[i])[j]'(by omega)):=List.getElem?_eq_getElem (by omega)
    have hfl:=e5 (i*sz+j) _ (flat_get (sz:=sz) q1 (rws_get hi) hr)
    have c2:=c1.2.2 j hj
    have hjl:j<cs'.length:=by rw [c1.2.1];exact hj
    rw [List.getElem?_eq_getElem hjl] at c2 ⊢
    rw [hr]
    have c3:W.cell? ((Addr.add ⟨g,o,none⟩ (i*sz)).add j)=some ((row l[i])[j]'(by omega)):=by
     rw [add_none,add_none,Nat.add_assoc]
     exact cell_of hfl
    rw [c3] at c2
    exact c2.symm
   rw [List.getElem?_eq_none (by rw [c1.2.1];omega),List.getElem?_eq_none (by omega)]
  rw [hcs] at e2
  exact hf _ (List.getElem_mem hi) _ e2
 have hsum:=bulk_range D (fun i=>(l[i]?.map f).getD 0) l.length fun i hi=>by
  rw [List.getElem?_eq_getElem hi];exact each i hi
 have e:∀l:List α,((List.range l.length).map fun i=>(l[i]?.map f).getD 0).sum=(l.map f).sum:=by
  intro l
  induction l with
  |nil=>rfl
  |cons r l ih=>
   rw [List.length_cons,List.range_succ_eq_map,List.map_cons,List.sum_cons,List.map_map,List.map_cons,List.sum_cons,←ih]
   rfl
 rw [e] at hsum
 omega
theorem sum_one {α:Type} (l:List α):(l.map fun _=>1).sum=l.length:=by
 induction l with
 |nil=>rfl
 |cons a l ih=>rw [List.map_cons,List.sum_cons,ih,List.length_cons];omega
theorem bulk_len {α:Type} {row:α→List Value} {t e:TypeId} {sz:Nat} {l:List α} {v:Value} (ht:Tryz.prog.underlying t=some (.slice e)) (hsz:Tryz.prog.cellsOf e=sz) (hv:RoF (below W) W.heap v sz (rws row l)) (h:TD enc W t [v] d):l.length+1≤Rows.uptoBulk d:=by
 have:=bulk_rows ht hsz (fun _=>1) (fun _ _ d _=>one_bulk d) hv h
 rwa [sum_one] at this
section
variable {ch:List ByteArray} {v:Value}
theorem bulk_op {o:OpV} (hb:o.ok (below W) W.heap) (h:TD enc W 61 o.row d):fwO o≤Rows.uptoBulk d:=by
 obtain ⟨_,xs,rfl,hl,hc⟩:=h.ones Tryz.underlying61 (n:=2) (by kernel_rfl) (by kernel_rfl)
 obtain ⟨x1,e1,h1⟩:=hc 1 _ _ rfl rfl
 have b1:=bulk_len Tryz.underlying24 (by kernel_rfl) hb h1
 have:=part_bulk (List.mem_of_getElem? e1)
 simp only [Rows.uptoBulk,fwO]
 omega
theorem bulk_fb {o:FbV} (hb:o.ok (below W) W.heap) (h:TD enc W 45 o.row d):fwF o≤Rows.uptoBulk d:=by
 have b1:=bulk_len Tryz.underlying45 (by kernel_rfl) hb h
 simp only [fwF]
 omega
theorem bulk_rc {r:RcV} (hb:r.ok (below W) W.heap) (h:TD enc W 49 r.row d):fwR r≤Rows.uptoBulk d:=by
 obtain ⟨_,xs,rfl,hl,hc⟩:=h.ones Tryz.underlying49 (n:=17) (by kernel_rfl) (by kernel_rfl)
 obtain ⟨x4,e4,h4⟩:=hc 4 _ _ rfl rfl
 obtain ⟨x5,e5,h5⟩:=hc 5 _ _ rfl rfl
 obtain ⟨x6,e6,h6⟩:=hc 6 _ _ rfl rfl
 obtain ⟨x14,e14,h14⟩:=hc 14 _ _ rfl rfl
 have b4:=bulk_len Tryz.underlying45 (by kernel_rfl) hb.c h4
 have b5:=bulk_len Tryz.underlying46 (by kernel_rfl) hb.i h5
 have b6:=bulk_len Tryz.underlying46 (by kernel_rfl) hb.o h6
 have b14:=bulk_len Tryz.underlying47 (by kernel_rfl) hb.rn h14
 have:xs.length=17:=hl
 match xs,this with
 | [a,b,c,d,e,f,g,h,i,j,k,l,m,n,o,p,q],_=>
  cases e4
  cases e5
  cases e6
  cases e14
  simp only [Rows.uptoBulk,Rows.uptoBulkAll,fwR]
  omega
end
theorem bulk_src0 {b0:Nat} {rr:Reach} {ps:List MemPlace} {v:Value} (hval:Value.okWide Tryz.prog W rr b0 31 v) (hd:DataW.Trod enc Tryz.prog W 0 (fun _=>true) true 31 v d ps):
  ∃vU vI vP vM vO vF vR vS,∃s:SrcV,v=srcV vU vI vP vM vO vF vR vS∧Top W.heap vU vI vP vM vO vF vR vS s∧s.wf∧fewN s≤Rows.uptoBulk d:=by
 obtain ⟨vU,vI,vP,vM,vO,vF,vR,vS,s,rfl,h1,h2⟩:=open_src hval hd
 refine ⟨vU,vI,vP,vM,vO,vF,vR,vS,s,rfl,h1,h2,?_⟩
 obtain ⟨fuel,hf⟩:=hd
 have hd':TD enc W 31 [vU,vI,vP,vM,vO,vF,vR,vS] d:=⟨fuel,_,hf⟩
 obtain ⟨_,xs,rfl,hl,hc⟩:=hd'.ones Tryz.underlying31 (n:=8) (by kernel_rfl) (by kernel_rfl)
 obtain ⟨x0,e0,h0⟩:=hc 0 _ _ rfl rfl
 obtain ⟨x1,e1,h1'⟩:=hc 1 _ _ rfl rfl
 obtain ⟨x2,e2,h2'⟩:=hc 2 _ _ rfl rfl
 obtain ⟨x3,e3,h3⟩:=hc 3 _ _ rfl rfl
 obtain ⟨x4,e4,h4⟩:=hc 4 _ _ rfl rfl
 obtain ⟨x5,e5,h5⟩:=hc 5 _ _ rfl rfl
 obtain ⟨x6,e6,h6⟩:=hc 6 _ _ rfl rfl
 obtain ⟨x7,e7,h7⟩:=hc 7 _ _ rfl rfl
 have b0:=bulk_len (row:=Un.row) Tryz.underlying22 (by kernel_rfl) (Ro.rof h1.U) h0
 have b1:=bulk_len Tryz.underlying23 (by kernel_rfl) (Ro.rof h1.I) h1'
 have b2:=bulk_len Tryz.underlying24 (by kernel_rfl) (Ro.rof h1.P) h2'
 have b3:=bulk_len Tryz.underlying25 (by kernel_rfl) (Ro.rof h1.M) h3
 have b4:=bulk_rows Tryz.underlying26 (by kernel_rfl) fwO (fun o ho d=>bulk_op (h1.below.o o ho)) (Ro.rof h1.O) h4
 have b5:=bulk_rows Tryz.underlying27 (by kernel_rfl) fwF (fun o ho d=>bulk_fb (h1.below.f o ho)) (Ro.rof h1.F) h5
 have b6:=bulk_rows Tryz.underlying28 (by kernel_rfl) fwR (fun o ho d=>bulk_rc (h1.below.r o ho)) (Ro.rof h1.R) h6
 have b7:=bulk_len Tryz.underlying29 (by kernel_rfl) (Ro.rof h1.S) h7
 have:xs.length=8:=hl
 match xs,this with
 | [a,b,c,d,e,f,g,h],_=>
  cases e0
  cases e1
  cases e2
  cases e3
  cases e4
  cases e5
  cases e6
  cases e7
  simp only [Rows.uptoBulk,Rows.uptoBulkAll]
  unfold fewN
  omega
end
end Go.Proofs.YtofjdbmcloemnaaGreatDoor
