/- Texts of this seat, joined: Package syntax: what can be printed, once more; plain. Package syntax: what the printer adds; plain. Package syntax: the r -/
import Derived.Test.YtgbeechjghajcaaGreatDoorJoinC
set_option linter.unusedVariables false
set_option linter.unusedSimpArgs false
namespace Go.SynM
open Go Go.Fw Go.RatM Go.SrcM
open Go.Proofs.YtgbeechjghajcaaGreatDoor (Tok)
section
variable {N:ByteArray→Prop}
theorem fb_un {f:FbV}:f.un.good N↔f.good N:=by
 unfold FbV.good FbV.un
 simp only [List.length_map,List.forall_mem_map]
 exact Iff.rfl
theorem rc_un {r:RcV}:r.un.good N↔r.good N:=by
 constructor
 ·rintro ⟨h1,h2,h3,h4,h5,h6,h7,h8,h9,h10,h11,h12,h13,h14,h15,h16,h17,h18,h19⟩
  simp only [RcV.un,List.length_map,List.forall_mem_map] at h5 h6 h7 h8 h9 h10 h18 h19
  exact ⟨h1,h2,h3,h4,h5,h6,h7,h8,h9,h10,h11,h12,h13,h14,h15,h16,h17,h18,h19⟩
 rintro ⟨h1,h2,h3,h4,h5,h6,h7,h8,h9,h10,h11,h12,h13,h14,h15,h16,h17,h18,h19⟩
 refine ⟨h1,h2,h3,h4,?_,?_,?_,?_,?_,?_,h11,h12,h13,h14,h15,h16,h17,?_,?_⟩<;>simp only [RcV.un,List.length_map,List.forall_mem_map]<;>assumption
theorem good_un {s:SrcV}:s.un.good N↔s.good N:=by
 constructor
 ·rintro ⟨h1,h2,h3,h4,h5,h6,h7,h8,h9,h10,h11,h12,h13,h14,h15,h16⟩
  simp only [SrcV.un,List.length_map,List.forall_mem_map,fb_un,rc_un] at h1 h2 h3 h4 h7 h8 h9 h10 h11 h12 h13 h14 h15 h16
  exact ⟨h1,h2,h3,h4,h5,h6,h7,h8,h9,h10,h11,h12,h13,h14,h15,h16⟩
 rintro ⟨h1,h2,h3,h4,h5,h6,h7,h8,h9,h10,h11,h12,h13,h14,h15,h16⟩
 refine ⟨?_,?_,?_,?_,h5,h6,?_,?_,?_,?_,?_,?_,?_,?_,?_,?_⟩<;>simp only [SrcV.un,List.length_map,List.forall_mem_map,fb_un,rc_un]<;>assumption
theorem rc_bare {r:RcV}:r.bare.good N↔r.good N:=⟨fun h=>{h with},fun h=>{h with}⟩
theorem good_bare {s:SrcV}:s.bare.good N↔s.good N:=by
 constructor
 ·rintro ⟨h1,h2,h3,h4,h5,h6,h7,h8,h9,h10,h11,h12,h13,h14,h15,h16⟩
  simp only [SrcV.bare,List.length_map,List.forall_mem_map,rc_bare] at h9 h10 h11 h12 h13 h14
  exact ⟨h1,h2,h3,h4,h5,h6,h7,h8,h9,h10,h11,h12,h13,h14,h15,h16⟩
 rintro ⟨h1,h2,h3,h4,h5,h6,h7,h8,h9,h10,h11,h12,h13,h14,h15,h16⟩
 refine ⟨h1,h2,h3,h4,h5,h6,h7,h8,?_,?_,?_,?_,?_,?_,h15,h16⟩<;>simp only [SrcV.bare,List.length_map,List.forall_mem_map,rc_bare]<;>assumption
theorem good_same {s t:SrcV} (h:s.bare=t.un.bare):s.good N↔t.good N:=by
 rw [←good_bare,h,good_bare,good_un]
/-! the tokens do not show numbers of names, nor where lists lie -/
theorem sep_map {α β:Type} {T:β→List Tok} {f:α→β} (l:List α):sepT T (l.map f)=sepT (fun x=>T (f x)) l:=by
 cases l with
 |nil=>rfl
 |cons x l=>simp only [List.map_cons,sepT,List.map_map];rfl
theorem forbT_un {f:FbV}:forbT f.un=forbT f:=by
 unfold forbT FbV.un
 simp only [sep_map];rfl
theorem recT_un {r:RcV}:recT r.un=recT r:=by
 unfold recT RcV.un
 simp only [sep_map,List.map_map,List.map_eq_nil_iff];rfl
theorem srcT_un {s:SrcV}:srcT s.un=srcT s:=by
 unfold srcT SrcV.un
 simp only [List.map_map]
 rw [show forbT∘FbV.un=forbT from funext fun f=>forbT_un,show recT∘RcV.un=recT from funext fun r=>recT_un];rfl
theorem srcT_bare {s:SrcV}:srcT s.bare=srcT s:=by
 unfold srcT SrcV.bare
 simp only [List.map_map];rfl
theorem srcT_same {s t:SrcV} (h:s.bare=t.un.bare):srcT s=srcT t:=by rw [←srcT_bare,h,srcT_bare,srcT_un]
end
/-! the tokens are valid -/
section
variable {N:ByteArray→Prop}
structure VT (N:ByteArray→Prop) (S:UInt8→Prop) (t:Tok):Prop where
 or:(∃x,t=tm x∧N x)∨(∃c,t=ts c∧S c) ∨ ∃n,t=tn n∧okV n
variable {S:UInt8→Prop}
abbrev AV (N:ByteArray→Prop) (S:UInt8→Prop) (l:List Tok):Prop:=∀t∈l,VT N S t
theorem av_nil:AV N S []:=fun _ h=>nomatch h
theorem av_app {a b:List Tok} (ha:AV N S a) (hb:AV N S b):AV N S (a++b):=fun t ht=>(List.mem_append.1 ht).elim (ha t) (hb t)
theorem av_cons {t:Tok} {l:List Tok} (h:VT N S t) (hl:AV N S l):AV N S (t::l):=fun u hu=>(List.mem_cons.1 hu).elim (fun e=>e▸h) (hl u)
theorem av_flat {α:Type} {T:α→List Tok} {l:List α} (h:∀x∈l,AV N S (T x)):AV N S (l.map T).flatten:=fun t ht=>by
 obtain ⟨a,ha,ht⟩:=List.mem_flatten.1 ht
 obtain ⟨x,hx,rfl⟩:=List.mem_map.1 ha
 exact h x hx t ht
theorem vm {x:ByteArray} (h:N x):VT N S (tm x):=⟨.inl ⟨x,rfl,h⟩⟩
theorem vs {c:UInt8} (h:S c):VT N S (ts c):=⟨.inr (.inl ⟨c,rfl,h⟩)⟩
theorem vn {n:Int} (h:okV n):VT N S (tn n):=⟨.inr (.inr ⟨n,rfl,h⟩)⟩
structure Voc (N:ByteArray→Prop) (S:UInt8→Prop):Prop where
 w:∀l ∈ [wUnit,wItem,wPlant,wMachine,wOption,wForbid,wMake,wSwap,wIn,wMass,wKeeps,wAt,wClean,wFor,wBack,wFrom,wTo,wIf,wOut,wRework,wYield,wWithin,wLead,wRun],N (B l)
 s:∀c∈([61,47,59,123,125,44]:List UInt8),S c
theorem av_sep {α:Type} {T:α→List Tok} {l:List α} (hs:S 44) (h:∀x∈l,AV N S (T x)):AV N S (sepT T l):=by
 cases l with
 |nil=>exact av_nil
 |cons x l=>exact av_app (h x (List.mem_cons_self ..)) (av_flat fun y hy=>av_cons (vs hs) (h y (List.mem_cons_of_mem _ hy)))
theorem srcT_valid (V:Voc N S) {s:SrcV} (h:s.good N):AV N S (srcT s):=by
 have W:∀l ∈ [wUnit,wItem,wPlant,wMachine,wOption,wForbid,wMake,wSwap,wIn,wMass,wKeeps,wAt,wClean,wFor,wBack,wFrom,wTo,wIf,wOut,wRework,wYield,wWithin,wLead,wRun],VT N S (tw l):=fun l hl=>vm (V.w l hl)
 have Sg:∀c∈([61,47,59,123,125,44]:List UInt8),VT N S (ts c):=fun c hc=>vs (V.s c hc)
 simp only [List.forall_mem_cons] at W Sg
 obtain ⟨w1,w2,w3,w4,w5,w6,w7,w8,w9,w10,w11,w12,w13,w14,w15,w16,w17,w18,w19,w20,w21,w22,w23,w24,-⟩:=W
 obtain ⟨s1,s2,s3,s4,s5,s6,-⟩:=Sg
 have hc:=V.s 44 (by simp)
 have cond:∀c:Cd,c.good N→AV N S (condT c):=fun c h=>av_cons (vm h.1) (av_cons s1 (av_cons (vm h.2) av_nil))
 have am:∀a:Am,a.good N→AV N S (amT a):=fun a h=>av_cons (vn h.1) (av_cons s2 (av_cons (vn h.2.1) (av_cons (vm h.2.2.1) (av_cons (vm h.2.2.2) (av_cons s3 av_nil)))))
 refine av_app (av_flat fun u hu=>?_) (av_app (av_flat fun u hu=>?_) (av_app (av_flat fun u hu=>?_) (av_app (av_flat fun u hu=>?_) (av_app (av_flat fun u hu=>?_) (av_app (av_flat fun u hu=>?_) (av_app (av_flat fun u hu=>?_) (av_flat fun u hu=>?_)))))))
 ·obtain ⟨h1,h2⟩:=h.U u hu
  refine av_cons w1 (av_cons (vm h1) (av_app ?_ (av_cons s3 av_nil)))
  rcases h2 with ⟨h2,_⟩|⟨h2,h3,h4,h5⟩
  ·rw [if_pos h2];exact av_nil
  rw [if_neg h2];exact av_cons s1 (av_cons (vn h4) (av_cons s2 (av_cons (vn h5) (av_cons (vm h3) av_nil))))
 ·obtain ⟨h1,h2,h3,h4,h5⟩:=h.I u hu
  refine av_cons w2 (av_cons (vm h1) (av_cons w9 (av_cons (vm h2) (av_cons w10 (av_cons (vn h3) (av_cons s2 (av_cons (vn h4) (av_app ?_ (av_cons s3 av_nil)))))))))
  by_cases h0:u.shelf=0
  ·rw [if_pos h0];exact av_nil
  rw [if_neg h0];exact av_cons w11 (av_cons (vn h5) av_nil)
 ·exact av_cons w3 (av_cons (vm (h.P u hu)) (av_cons s3 av_nil))
 ·obtain ⟨h1,h2,h3⟩:=h.M u hu
  exact av_cons w4 (av_cons (vm h1) (av_cons w12 (av_cons (vm h2) (av_cons w13 (av_cons (vn h3) (av_cons s3 av_nil))))))
 ·obtain ⟨h1,_,h3⟩:=h.O u hu
  exact av_cons w5 (av_cons (vm h1) (av_cons s4 (av_app (av_sep hc fun c hc=>av_cons (vm (h3 c hc)) av_nil) (av_cons s5 (av_cons s3 av_nil)))))
 ·obtain ⟨_,h2⟩:=h.F u hu
  exact av_cons w6 (av_app (av_sep hc fun c hc=>cond c (h2 c hc)) (av_cons s3 av_nil))
 ·have r:=h.R u hu
  refine av_cons w7 (av_cons (vm r.it) (av_cons w12 (av_cons (vm r.pl) (av_cons w16 (av_cons (vn r.fr) (av_cons w17 (av_cons (vn r.to) (av_app ?_ (av_cons s4 (av_app (av_flat fun a ha=>av_cons w9 (av_app ?_ (am a (r.inn a ha)))) (av_app (av_flat fun a ha=>av_cons w19 (am a (r.out a ha).1)) ?_)))))))))))
  ·by_cases h0:u.cs=[]
   ·rw [if_pos h0];exact av_nil
   rw [if_neg h0];exact av_cons w18 (av_sep hc fun c hc=>cond c (r.cs c hc))
  ·by_cases h0:a.back=true
   ·rw [if_pos h0];exact av_cons w15 av_nil
   rw [if_neg h0];exact av_nil
  exact av_cons w20 (av_cons (vn r.rw1) (av_cons s2 (av_cons (vn r.rw2) (av_cons s3 (av_cons w21 (av_cons (vn r.y1) (av_cons s2 (av_cons (vn r.y2) (av_cons w22 (av_cons (vn r.t1) (av_cons s2 (av_cons (vn r.t2) (av_cons s3 (av_cons w23 (av_cons (vn r.ld) (av_cons s3 (av_app (av_flat fun x hx=>av_cons w24 (av_cons (vm (r.runs x hx).1) (av_cons (vn (r.runs x hx).2) (av_cons s3 av_nil)))) (av_cons s5 av_nil))))))))))))))))))
 obtain ⟨h1,h2⟩:=h.S u hu
 exact av_cons w8 (av_cons (vm h1) (av_cons w14 (av_cons (vm h2) (av_cons s3 av_nil))))
end
end Go.SynM

namespace Go.SynM
open Go Go.Fw Go.RatM Go.SrcM
open Go.Proofs.YtgbeechjghajcaaGreatDoor (Tok)
inductive Pt where
 |w (l:List UInt8)
 |s (x:ByteArray)
 |n (i:Int)
section
variable (N:ByteArray→Prop) [DecidablePred N]
def Pt.tok:Pt→Tok
 | .w l=>⟨if N (B l) then 1 else 3,0,B l,0⟩
 | .s x=>tm x
 | .n i=>tn i
def Pt.ok:Pt→Bool
 | .w _=>true
 | .s x=>decide (N x)
 | .n i=>decide (okV i)
def okPs (l:List Pt):Bool:=l.all (Pt.ok N)
def tokPs (l:List Pt):List Tok:=l.map (Pt.tok N)
end
structure Pr where
 l:List Pt
 ok:Bool
def Pr.nil:Pr:=⟨[],true⟩
def Pr.add (a b:Pr):Pr:=⟨a.l++b.l,a.ok&&b.ok⟩
def Pr.all {α:Type} (f:α→Pr):List α→Pr
 | []=>Pr.nil
 |x::l=>(f x).add (Pr.all f l)
abbrev wS (c:UInt8):Pt:=.w [c]
def condsPt (l:List Cd):List Pt:=match l with
 | []=>[]
 |c::l=>[.s c.opt,wS 61,.s c.ch]++(l.map fun c=>[wS 44,.s c.opt,wS 61,.s c.ch]).flatten
def unitPr (u:Un):Pr:=if u.of_=e0 then ⟨[.w wUnit,.s u.name,wS 59],decide (u.n=0∧u.d=0)⟩ else ⟨[.w wUnit,.s u.name,wS 61,.n u.n,wS 47,.n u.d,.s u.of_,wS 59],true⟩
def itemPr (i:It):Pr:=⟨[.w wItem,.s i.name,.w wIn,.s i.unit,.w wMass,.n i.mn,wS 47,.n i.md]++(if i.shelf=0 then [] else [.w wKeeps,.n i.shelf])++[wS 59],true⟩
def plantPr (x:ByteArray):Pr:=⟨[.w wPlant,.s x,wS 59],true⟩
def machPr (m:Mc):Pr:=⟨[.w wMachine,.s m.name,.w wAt,.s m.plant,.w wClean,.n m.clean,wS 59],true⟩
def chsPt (l:List ByteArray):List Pt:=match l with
 | []=>[]
 |c::l=>.s c::(l.map fun c=>[wS 44,.s c]).flatten
def optnPr (o:OpV):Pr:=⟨[.w wOption,.s o.name,wS 123]++chsPt o.ch++[wS 125,wS 59],decide (1≤o.ch.length∧o.ch.length≤4)⟩
def forbPr (f:FbV):Pr:=⟨[.w wForbid]++condsPt f.cs++[wS 59],decide (1≤f.cs.length∧f.cs.length≤6)⟩
def amPt (a:Am):List Pt:=[.n a.n,wS 47,.n a.d,.s a.unit,.s a.item,wS 59]
def inPt (a:Am):List Pt:=.w wIn::((if a.back then [.w wBack] else [])++amPt a)
def outPt (a:Am):List Pt:=.w wOut::amPt a
def runPt (x:Rn):List Pt:=[.w wRun,.s x.mach,.n x.slots,wS 59]
def recPr (r:RcV):Pr:=⟨[.w wMake,.s r.item,.w wAt,.s r.plant,.w wFrom,.n r.fr,.w wTo,.n r.to]++((if r.cs=[] then [] else .w wIf::condsPt r.cs)++(wS 123::((r.inn.map inPt).flatten++((r.out.map outPt).flatten ++
  ([.w wRework,.n r.rwN,wS 47,.n r.rwD,wS 59,.w wYield,.n r.yN,wS 47,.n r.yD,.w wWithin,.n r.tN,wS 47,.n r.tD,wS 59,.w wLead,.n r.lead,wS 59]++((r.runs.map runPt).flatten++[wS 125])))))),
 decide (r.inn.length≤8∧r.out.length≤8∧r.runs.length≤8)&&(decide (r.cs.length≤6)&&r.out.all fun a=> !a.back)⟩
def swapPr (x:Sw):Pr:=⟨[.w wSwap,.s x.a,.w wFor,.s x.b,wS 59],true⟩
def srcPr (s:SrcV):Pr:=(Pr.all unitPr s.units).add ((Pr.all itemPr s.items).add ((Pr.all plantPr s.plants).add ((Pr.all machPr s.machines).add ((Pr.all optnPr s.options).add ((Pr.all forbPr s.forbids).add ((Pr.all recPr s.recipes).add (Pr.all swapPr s.swaps)))))))
section
variable {N:ByteArray→Prop} [DecidablePred N]
theorem Pr.all_l {α:Type} {f:α→Pr}:∀l:List α,(Pr.all f l).l=(l.map fun x=>(f x).l).flatten
 | []=>rfl
 |x::l=>by simp only [Pr.all,Pr.add,List.map_cons,List.flatten_cons,Pr.all_l l]
theorem Pr.all_ok {α:Type} {f:α→Pr}:∀l:List α,(Pr.all f l).ok=true ↔ ∀x∈l,(f x).ok=true
 | []=>by simp [Pr.all,Pr.nil]
 |x::l=>by simp only [Pr.all,Pr.add,Bool.and_eq_true,List.forall_mem_cons,Pr.all_ok l]
theorem okPs_app {a b:List Pt}:okPs N (a++b)=true↔okPs N a=true∧okPs N b=true:=by simp [okPs]
theorem okPs_cons {p:Pt} {l:List Pt}:okPs N (p::l)=true↔p.ok N=true∧okPs N l=true:=by simp [okPs]
theorem okPs_nil:okPs N []=true:=rfl
theorem okPs_flat {α:Type} {f:α→List Pt} {l:List α}:okPs N (l.map f).flatten=true ↔ ∀x∈l,okPs N (f x)=true:=by
 induction l with
 |nil=>simp [okPs_nil]
 |cons x l ih=>simp only [List.map_cons,List.flatten_cons,okPs_app,ih,List.forall_mem_cons]
theorem ok_w {l:List UInt8}:(Pt.w l).ok N=true↔True:=by simp [Pt.ok]
theorem ok_s {x:ByteArray}:(Pt.s x).ok N=true↔N x:=by simp [Pt.ok]
theorem ok_n {i:Int}:(Pt.n i).ok N=true↔okV i:=by simp [Pt.ok]
abbrev Pr.good (N:ByteArray→Prop) [DecidablePred N] (p:Pr):Prop:=okPs N p.l=true∧p.ok=true
theorem all_good {α:Type} {f:α→Pr} {l:List α}:(Pr.all f l).good N ↔ ∀x∈l,(f x).good N:=by
 unfold Pr.good
 rw [Pr.all_l,okPs_flat,Pr.all_ok]
 exact ⟨fun h x hx=>⟨h.1 x hx,h.2 x hx⟩,fun h=>⟨fun x hx=>(h x hx).1,fun x hx=>(h x hx).2⟩⟩
theorem add_good {a b:Pr}:(a.add b).good N↔a.good N∧b.good N:=by
 unfold Pr.good
 simp only [Pr.add,okPs_app,Bool.and_eq_true]
 exact ⟨fun h=>⟨⟨h.1.1,h.2.1⟩,h.1.2,h.2.2⟩,fun h=>⟨⟨h.1.1,h.2.1⟩,h.1.2,h.2.2⟩⟩
theorem unit_good {u:Un}:(unitPr u).good N↔goodU N u:=by
 unfold unitPr goodU Pr.good
 by_cases h:u.of_=e0
 ·rw [if_pos h]
  simp [okPs_cons,okPs_nil,ok_w,ok_s,h]
 rw [if_neg h]
 simp only [okPs_cons,okPs_nil,ok_w,ok_s,ok_n,h]
 constructor
 ·rintro ⟨⟨-,h1,-,h2,-,h3,h4,-,-⟩,-⟩
  exact ⟨h1,.inr ⟨h,h4,h2,h3⟩⟩
 rintro ⟨h1,⟨h2,_⟩|⟨_,h2,h3,h4⟩⟩
 ·exact h2.elim
 exact ⟨⟨trivial,h1,trivial,h3,trivial,h4,h2,trivial,trivial⟩,trivial⟩
theorem item_good {i:It}:(itemPr i).good N↔i.good N:=by
 unfold itemPr It.good Pr.good
 by_cases h:i.shelf=0
 ·rw [if_pos h]
  simp only [okPs_app,okPs_cons,okPs_nil,ok_w,ok_s,ok_n]
  constructor
  ·rintro ⟨⟨⟨⟨-,h1,-,h2,-,h3,-,h4,-⟩,-⟩,-⟩,-⟩
   exact ⟨h1,h2,h3,h4,by rw [h];decide⟩
  rintro ⟨h1,h2,h3,h4,_⟩
  exact ⟨⟨⟨⟨trivial,h1,trivial,h2,trivial,h3,trivial,h4,trivial⟩,trivial⟩,trivial,trivial⟩,trivial⟩
 rw [if_neg h]
 simp only [okPs_app,okPs_cons,okPs_nil,ok_w,ok_s,ok_n]
 constructor
 ·rintro ⟨⟨⟨⟨-,h1,-,h2,-,h3,-,h4,-⟩,-,h5,-⟩,-⟩,-⟩
  exact ⟨h1,h2,h3,h4,h5⟩
 rintro ⟨h1,h2,h3,h4,h5⟩
 exact ⟨⟨⟨⟨trivial,h1,trivial,h2,trivial,h3,trivial,h4,trivial⟩,trivial,h5,trivial⟩,trivial,trivial⟩,trivial⟩
theorem plant_good {x:ByteArray}:(plantPr x).good N↔N x:=by
 unfold plantPr Pr.good
 simp [okPs_cons,okPs_nil,ok_w,ok_s]
theorem mach_good {m:Mc}:(machPr m).good N↔m.good N:=by
 unfold machPr Mc.good Pr.good
 simp [okPs_cons,okPs_nil,ok_w,ok_s,ok_n]
theorem chs_good {l:List ByteArray}:okPs N (chsPt l)=true ↔ ∀x∈l,N x:=by
 cases l with
 |nil=>simp [chsPt,okPs_nil]
 |cons x l=>simp only [chsPt,okPs_cons,okPs_flat,okPs_nil,ok_w,ok_s,List.forall_mem_cons,true_and,and_true]
theorem conds_good {l:List Cd}:okPs N (condsPt l)=true ↔ ∀c∈l,c.good N:=by
 cases l with
 |nil=>simp [condsPt,okPs_nil]
 |cons x l=>simp only [condsPt,okPs_app,okPs_cons,okPs_flat,okPs_nil,ok_w,ok_s,List.forall_mem_cons,true_and,and_true,Cd.good]
theorem optn_good {o:OpV}:(optnPr o).good N↔o.good N:=by
 unfold optnPr OpV.good Pr.good
 simp only [okPs_app,okPs_cons,okPs_nil,ok_w,ok_s,chs_good,decide_eq_true_eq,true_and,and_true]
 exact ⟨fun h=>⟨h.1.1,h.2,h.1.2⟩,fun h=>⟨⟨h.1,h.2.2⟩,h.2.1⟩⟩
theorem forb_good {f:FbV}:(forbPr f).good N↔f.good N:=by
 unfold forbPr FbV.good Pr.good
 simp only [okPs_app,okPs_cons,okPs_nil,ok_w,conds_good,decide_eq_true_eq,true_and,and_true]
 exact ⟨fun h=>⟨h.2,h.1⟩,fun h=>⟨h.2,h.1⟩⟩
theorem am_good {a:Am}:okPs N (amPt a)=true↔a.good N:=by
 unfold amPt Am.good
 simp only [okPs_cons,okPs_nil,ok_w,ok_s,ok_n,true_and,and_true]
theorem in_good {a:Am}:okPs N (inPt a)=true↔a.good N:=by
 unfold inPt
 cases a.back<;>simp [okPs_cons,okPs_nil,ok_w,am_good]
theorem out_good {a:Am}:okPs N (outPt a)=true↔a.good N:=by
 unfold outPt
 simp [okPs_cons,ok_w,am_good]
theorem run_good {x:Rn}:okPs N (runPt x)=true↔x.good N:=by
 unfold runPt Rn.good
 simp only [okPs_cons,okPs_nil,ok_w,ok_s,ok_n,true_and,and_true]
theorem rec_good {r:RcV}:(recPr r).good N↔r.good N:=by
 have hc:okPs N (if r.cs=[] then [] else .w wIf::condsPt r.cs)=true ↔ ∀c∈r.cs,c.good N:=by
  by_cases h:r.cs=[]
  ·rw [if_pos h,h];simp [okPs_nil]
  rw [if_neg h];simp only [okPs_cons,ok_w,conds_good,true_and]
 unfold recPr Pr.good
 simp only [okPs_app,okPs_cons,okPs_nil,okPs_flat,ok_w,ok_s,ok_n,hc,in_good,out_good,run_good,Bool.and_eq_true,decide_eq_true_eq,List.all_eq_true,Bool.not_eq_true',true_and,and_true]
 constructor
 ·rintro ⟨⟨⟨a1,a2,a3,a4⟩,b1,b2,b3,⟨c1,c2,c3,c4,c5,c6,c7⟩,d⟩,⟨e1,e2,e3⟩,f1,f2⟩
  exact ⟨a1,a2,a3,a4,f1,b1,e1,b2,e2,fun a ha=>⟨b3 a ha,f2 a ha⟩,c1,c2,c3,c4,c5,c6,c7,e3,d⟩
 rintro ⟨a1,a2,a3,a4,f1,b1,e1,b2,e2,b3,c1,c2,c3,c4,c5,c6,c7,e3,d⟩
 exact ⟨⟨⟨a1,a2,a3,a4⟩,b1,b2,fun a ha=>(b3 a ha).1,⟨c1,c2,c3,c4,c5,c6,c7⟩,d⟩,⟨e1,e2,e3⟩,f1,fun a ha=>(b3 a ha).2⟩
theorem swap_good {x:Sw}:(swapPr x).good N↔x.good N:=by
 unfold swapPr Sw.good Pr.good
 simp [okPs_cons,okPs_nil,ok_w,ok_s]
theorem src_good {s:SrcV} (hF:Fit s):(srcPr s).good N↔s.good N:=by
 unfold srcPr
 rw [add_good,add_good,add_good,add_good,add_good,add_good,add_good,all_good,all_good,all_good,all_good,all_good,all_good,all_good,all_good]
 simp only [unit_good,item_good,plant_good,mach_good,optn_good,forb_good,rec_good,swap_good]
 constructor
 ·rintro ⟨h1,h2,h3,h4,h5,h6,h7,h8⟩
  exact ⟨hF.U,h1,hF.I,h2,hF.P,h3,hF.M,h4,hF.O,h5,hF.F,h6,hF.R,h7,hF.S,h8⟩
 rintro ⟨_,h1,_,h2,_,h3,_,h4,_,h5,_,h6,_,h7,_,h8⟩
 exact ⟨h1,h2,h3,h4,h5,h6,h7,h8⟩
omit [DecidablePred N] in
theorem good_fit {s:SrcV} (h:s.good N):Fit s:=⟨h.lU,h.lI,h.lP,h.lM,h.lO,h.lF,h.lR,h.lS⟩
/-! the tokens are those of srcT -/
structure VocN (N:ByteArray→Prop):Prop where
 w:∀l ∈ [wUnit,wItem,wPlant,wMachine,wOption,wForbid,wMake,wSwap,wIn,wMass,wKeeps,wAt,wClean,wFor,wBack,wFrom,wTo,wIf,wOut,wRework,wYield,wWithin,wLead,wRun],N (B l)
 s:∀c∈([61,47,59,123,125,44]:List UInt8),¬N (B [c])
theorem tok_w {l:List UInt8} (h:N (B l)):(Pt.w l).tok N=tw l:=by simp only [Pt.tok,if_pos h];rfl
theorem tok_g {c:UInt8} (h:¬N (B [c])):(wS c).tok N=ts c:=by simp only [Pt.tok,if_neg h];rfl
theorem tokPs_app {a b:List Pt}:tokPs N (a++b)=tokPs N a++tokPs N b:=List.map_append
theorem tokPs_cons {p:Pt} {l:List Pt}:tokPs N (p::l)=p.tok N::tokPs N l:=rfl
theorem tokPs_nil:tokPs N []=[]:=rfl
theorem tokPs_flat {α:Type} {f:α→List Pt} {l:List α}:tokPs N (l.map f).flatten=(l.map fun x=>tokPs N (f x)).flatten:=by
 induction l with
 |nil=>rfl
 |cons x l ih=>simp only [List.map_cons,List.flatten_cons,tokPs_app,ih]
theorem all_tok {α:Type} {f:α→Pr} {T:α→List Tok} {l:List α} (h:∀x,tokPs N (f x).l=T x):tokPs N (Pr.all f l).l=(l.map T).flatten:=by
 rw [Pr.all_l,tokPs_flat,List.map_congr_left fun x _=>h x]
theorem src_tok (V:VocN N) {s:SrcV}:tokPs N (srcPr s).l=srcT s:=by
 have W:∀l ∈ [wUnit,wItem,wPlant,wMachine,wOption,wForbid,wMake,wSwap,wIn,wMass,wKeeps,wAt,wClean,wFor,wBack,wFrom,wTo,wIf,wOut,wRework,wYield,wWithin,wLead,wRun],(Pt.w l).tok N=tw l:=fun l hl=>tok_w (V.w l hl)
 have Sg:∀c∈([61,47,59,123,125,44]:List UInt8),(wS c).tok N=ts c:=fun c hc=>tok_g (V.s c hc)
 simp only [List.forall_mem_cons] at W Sg
 obtain ⟨w1,w2,w3,w4,w5,w6,w7,w8,w9,w10,w11,w12,w13,w14,w15,w16,w17,w18,w19,w20,w21,w22,w23,w24,-⟩:=W
 obtain ⟨s1,s2,s3,s4,s5,s6,-⟩:=Sg
 have ts':∀x,(Pt.s x).tok N=tm x:=fun _=>rfl
 have tn':∀i,(Pt.n i).tok N=tn i:=fun _=>rfl
 have cond:∀l:List Cd,tokPs N (condsPt l)=sepT condT l:=fun l=>by
  cases l with
  |nil=>rfl
  |cons c l=>simp only [condsPt,tokPs_app,tokPs_cons,tokPs_nil,tokPs_flat,ts',s1,s6,sepT,condT]
 have chs:∀l:List ByteArray,tokPs N (chsPt l)=sepT (fun c=>[tm c]) l:=fun l=>by
  cases l with
  |nil=>rfl
  |cons c l=>simp only [chsPt,tokPs_cons,tokPs_nil,tokPs_flat,ts',s6,sepT];rfl
 have am:∀a:Am,tokPs N (amPt a)=amT a:=fun a=>by simp only [amPt,tokPs_cons,tokPs_nil,ts',tn',s2,s3,amT]
 unfold srcPr srcT
 simp only [Pr.add,tokPs_app]
 refine congr (congrArg _ (all_tok fun u=>?_))<|congr (congrArg _ (all_tok fun i=>?_))<|congr (congrArg _ (all_tok fun x=>?_))<|congr (congrArg _ (all_tok fun m=>?_))<|congr (congrArg _ (all_tok fun o=>?_))<|congr (congrArg _ (all_tok fun f=>?_))<|congr (congrArg _ (all_tok fun r=>?_)) (all_tok fun x=>?_)
 ·unfold unitPr unitT
  by_cases h:u.of_=e0
  ·simp only [if_pos h,tokPs_cons,tokPs_nil,ts',w1,s3,List.nil_append]
  simp only [if_neg h,tokPs_cons,tokPs_nil,ts',tn',w1,s1,s2,s3,List.cons_append,List.nil_append]
 ·unfold itemPr itemT
  by_cases h:i.shelf=0
  ·simp only [if_pos h,tokPs_app,tokPs_cons,tokPs_nil,ts',tn',w2,w9,w10,s2,s3,List.nil_append,List.cons_append,List.append_nil]
  simp only [if_neg h,tokPs_app,tokPs_cons,tokPs_nil,ts',tn',w2,w9,w10,w11,s2,s3,List.nil_append,List.cons_append]
 ·simp only [plantPr,plantT,tokPs_cons,tokPs_nil,ts',w3,s3]
 ·simp only [machPr,machT,tokPs_cons,tokPs_nil,ts',tn',w4,w12,w13,s3]
 ·simp only [optnPr,optnT,tokPs_app,tokPs_cons,tokPs_nil,ts',chs,w5,s3,s4,s5,List.cons_append,List.nil_append]
 ·simp only [forbPr,forbT,tokPs_app,tokPs_cons,tokPs_nil,cond,w6,s3,List.cons_append,List.nil_append]
 ·have hc:tokPs N (if r.cs=[] then [] else .w wIf::condsPt r.cs)=if r.cs=[] then [] else tw wIf::sepT condT r.cs:=by
   by_cases h:r.cs=[]
   ·rw [if_pos h,if_pos h];rfl
   rw [if_neg h,if_neg h,tokPs_cons,w18,cond]
  have hi:∀a:Am,tokPs N (inPt a)=tw wIn::inT a:=fun a=>by
   unfold inPt inT
   cases a.back<;>simp [tokPs_cons,tokPs_app,tokPs_nil,w9,w15,am]
  have ho:∀a:Am,tokPs N (outPt a)=tw wOut::amT a:=fun a=>by simp only [outPt,tokPs_cons,w19,am]
  have hr:∀x:Rn,tokPs N (runPt x)=tw wRun::runT x:=fun x=>by simp only [runPt,runT,tokPs_cons,tokPs_nil,ts',tn',w24,s3]
  simp only [recPr,recT,tokPs_app,tokPs_cons,tokPs_nil,tokPs_flat,ts',tn',hc,hi,ho,hr,w7,w12,w16,w17,w20,w21,w22,w23,s2,s3,s4,s5,List.cons_append,List.nil_append]
 simp only [swapPr,swapT,tokPs_cons,tokPs_nil,ts',w8,w14,s3]
end
end Go.SynM

namespace Go.SynM
open Go Go.Fw Go.RatM Go.SrcM
open Go.Proofs.YtgbeechjghajcaaGreatDoor (Tok)
structure St where
 n:Nat
 e:Int
 pl:Int
abbrev M (α:Type):=St→α×St
def rt {α:Type} (a:α):M α:=fun s=>(a,s)
/-! the two agree -/
section
variable {L:List Tok} {en:Int} {α β:Type}
structure At (L:List Tok) (s:St) (r:List Tok):Prop where
 e:s.e=0
 r:L.drop s.n=r
end
end Go.SynM

namespace Go.SynM
open Go Go.Fw Go.RatM Go.SrcM
open Go.Proofs.YtgbeechjghajcaaGreatDoor (Tok)
end Go.SynM

namespace Go.Proofs.YtgbeechjghajcaaGreatDoor
open Go Go.Fw Go.SynM Go.SrcM
abbrev NmP (x:ByteArray):Prop:=NameP x
theorem nm_e0:¬NmP e0:=by unfold NmP;decide
theorem same_er {a b:List Tok}:SameP a b↔a.map er=b.map er:=by
 have h1:∀l:List Tok,l.map er=(l.map Tok.key).map fun q=>(⟨q.1,0,q.2.1,q.2.2⟩:Tok):=fun l=>by rw [List.map_map];rfl
 have h2:∀l:List Tok,l.map Tok.key=(l.map er).map Tok.key:=fun l=>by rw [List.map_map];rfl
 exact ⟨fun h=>by rw [h1,h1,(show a.map Tok.key=b.map Tok.key from h)],fun h=>by show a.map Tok.key=b.map Tok.key;rw [h2 a,h2 b,h]⟩
theorem okT_of {t:Tok} (h:ValidP t):OkT NmP t where
 nm hk:=by
  rcases h with h|h|h
  ·exact h.2.1
  ·rw [h.1] at hk;cases hk
  rw [h.1] at hk;cases hk
 num hk:=by
  rcases h with h|h|h
  ·rw [h.1] at hk;cases hk
  ·exact h.2.2.1
  rw [h.1] at hk;cases hk
theorem all_okT {l:List Tok} (h:AllV l):SynM.AllV NmP l:=fun t ht=>okT_of (h t ht)
theorem valid_of {t:Tok} (h:VT NmP (fun c=>cls c.toNat=4) t):ValidP t:=by
 rcases h.or with ⟨x,rfl,g⟩|⟨c,rfl,g⟩|⟨n,rfl,g⟩
 ·exact .inl ⟨rfl,g,rfl⟩
 ·exact .inr (.inr ⟨rfl,rfl,g,rfl⟩)
 exact .inr (.inl ⟨rfl,rfl,g.1,Int.le_trans g.2 (by decide)⟩)
theorem voc_ok:Voc NmP (fun c=>cls c.toNat=4):=⟨by decide,by decide⟩
theorem vocN:VocN NmP:=⟨by decide,by decide⟩
theorem src_valid {s:SrcV} (h:s.good NmP):AllV (srcT s):=fun t ht=>valid_of (srcT_valid voc_ok h t ht)
def parseP (src:ByteArray):SrcV ⊕ (Int×Int):=match lexS (bs src) 0 with
 | .inr q=>.inr (q,50)
 | .inl l=>match readP (toksP l) with
  | .ok x _=>.inl x
  | .bad r e=>.inr ((place src.size e r).1,(place src.size e r).2)
theorem parse_text {s:SrcV} (h:s.good NmP):parseP (joinB (srcT s))=.inl s.un:=by
 obtain ⟨L,h1,h2⟩:=lex_back (src_valid h)
 have e:=readP_er (toksP L)
 rw [←same_er.1 h2,readP_er,read_src h] at e
 unfold parseP
 rw [h1]
 simp only
 cases hr:readP (toksP L) with
 |ok x r=>
  rw [hr] at e
  have:=(Rs.ok.inj e).1
  rw [←this]
 |bad r k=>rw [hr] at e;cases e
theorem parse_good {src:ByteArray} {x:SrcV} (h:parseP src=.inl x):x.good NmP∧x.un=x:=by
 unfold parseP at h
 split at h
 ·cases h
 rename_i l hl
 have hV:=(lex_allV hl).1
 cases hr:readP (toksP l) with
 |ok y r=>
  rw [hr] at h
  cases h
  exact read_good nm_e0 (all_okT hV) hr
 |bad r e=>rw [hr] at h;cases h
theorem parse_spaces {src:ByteArray} {l:List (Nat×Tk)} (hl:lexS (bs src) 0=.inl l):match parseP src with
  | .inl x=>parseP (joinB (toksP l))=.inl x
  | .inr q=>∃p,parseP (joinB (toksP l))=.inr (p,q.2):=by
 obtain ⟨L,h1,h2⟩:=lex_back (lex_allV hl).1
 have e:=readP_er (toksP l)
 rw [same_er.1 h2,readP_er] at e
 unfold parseP
 rw [hl,h1]
 simp only
 cases hr:readP (toksP l) with
 |ok x r=>
  rw [hr] at e
  cases hr2:readP (toksP L) with
  |ok y r2=>rw [hr2] at e;simp only;rw [(Rs.ok.inj e).1]
  |bad r2 k=>rw [hr2] at e;cases e
 |bad r k=>
  rw [hr] at e
  cases hr2:readP (toksP L) with
  |ok y r2=>rw [hr2] at e;cases e
  |bad r2 k2=>
   rw [hr2] at e
   have e:=Rs.bad.inj e
   have e0:r2.map er=r.map er:=e.1
   have e1:k2=k:=e.2
   subst e1
   simp only
   cases r with
   |nil=>
    have:r2=[]:=by simpa using e0
    subst this
    exact ⟨_,rfl⟩
   |cons t r=>
    cases r2 with
    |nil=>cases e0
    |cons t2 r2=>exact ⟨_,rfl⟩

theorem toksP_cons (p:Nat) (t:Tk) (l:List (Nat×Tk)):toksP ((p,t)::l)=t.tok p::toksP l:=rfl
theorem toksP_split:∀ {l:List (Nat×Tk)} {A:List Tok} {t:Tok} {R:List Tok},toksP l=A++t::R → ∃A' q tk R',l=A'++(q,tk)::R'∧toksP A'=A∧t=tk.tok q
 | [],A,t,R,h=>by cases A<;>cases h
 |(p,k)::l,[],t,R,h=>by
  rw [toksP_cons] at h
  exact ⟨[],p,k,l,rfl,rfl,(List.cons.inj h).1.symm⟩
 |(p,k)::l,a::A,t,R,h=>by
  rw [toksP_cons] at h
  obtain ⟨A',q,tk,R',e1,e2,e3⟩:=toksP_split (List.cons.inj h).2
  exact ⟨(p,k)::A',q,tk,R',by rw [e1];rfl,by rw [toksP_cons,e2,(List.cons.inj h).1],e3⟩
theorem bs_take {s:ByteArray} {q:Nat}:bs (s.extract 0 q)=(bs s).take q:=by
 simp [bs]
theorem parse_places {src:ByteArray} {l:List (Nat×Tk)} (hl:lexS (bs src) 0=.inl l) {p e:Int} (h:parseP src=.inr (p,e)):
  (e=100∨e=2)∧((p=src.size∧e=100) ∨ ∃q:Nat,p=q∧q<src.size∧(∃t∈toksP l,t.pos=p)) ∧ ∃q:Nat,p=q∧q≤src.size∧((∃x,parseP (src.extract 0 q)=.inl x)∨parseP (src.extract 0 q)=.inr (p,100)):=by
 unfold parseP at h
 rw [hl] at h
 simp only at h
 cases hr:readP (toksP l) with
 |ok x r=>rw [hr] at h;cases h
 |bad r k=>
  rw [hr] at h
  have hk:=er_defs _ _ _ _ _ hr
  have hsuf:=defs_suf _ _ _ _ _ hr
  cases r with
  |nil=>
   simp only [place] at h
   cases h
   refine ⟨.inl rfl,.inl ⟨rfl,rfl⟩,src.size,rfl,Nat.le_refl _,.inr ?_⟩
   have:src.extract 0 src.size=src:=by simp
   rw [this]
   unfold parseP
   rw [hl]
   simp only
   rw [hr]
   rfl
  |cons t R=>
   simp only [place] at h
   cases h
   obtain ⟨A,hA⟩:=hsuf
   obtain ⟨A',q,tk,R',e1,e2,e3⟩:=toksP_split hA.symm
   have hp:t.pos=(q:Int):=by rw [e3,tok_pos]
   have hin:=lex_in _ (bs src) 0 l rfl hl (q,tk) (by rw [e1];simp)
   rw [Nat.zero_add,bs_len] at hin
   have ht:=lex_take _ (bs src) 0 A' q tk R' rfl (by rw [hl,e1])
   rw [Nat.sub_zero,←bs_take] at ht
   refine ⟨hk.imp (fun e=>by rw [e];rfl) (fun e=>by rw [e];rfl),.inr ⟨q,hp,hin.2,t,by rw [←hA];simp,rfl⟩,q,hp,Nat.le_of_lt hin.2,?_⟩
   unfold parseP
   rw [ht]
   simp only
   rw [e2]
   have hd:defsP ((toksP l).length+1) noS (A++t::R)=.bad (t::R) k:=by rw [hA];exact hr
   have hsz:((src.extract 0 q).size:Int)=q:=by
    rw [ByteArray.size_extract];omega
   rcases defs_bad _ noS A (t::R) k hd (A.length+1) (Nat.lt_succ_self _) with ⟨e',h1⟩|⟨x,h1⟩
   ·rw [show readP A=.bad [] e' from h1]
    exact .inr (by simp only [place,hsz];rw [hp];rfl)
   rw [show readP A=.ok x [] from h1]
   exact .inl ⟨x,rfl⟩
/-! one source behind another -/
theorem er_later (d:Int) (l:List Tok):(l.map (Tok.later d)).map er=l.map er:=by rw [List.map_map];rfl
theorem read_later {R:List Tok} {y:SrcV} {r:List Tok} (d:Int) (h:readP R=.ok y r):∃r',readP (R.map (Tok.later d))=.ok y r':=by
 have e:=readP_er (R.map (Tok.later d))
 rw [er_later,readP_er,h] at e
 cases hr:readP (R.map (Tok.later d)) with
 |ok x r'=>rw [hr] at e;exact ⟨r',by rw [(Rs.ok.inj e).1]⟩
 |bad r' k=>rw [hr] at e;cases e
theorem addS_no (x:SrcV):addS x noS=x:=by simp [addS,noS]
theorem parse_joins {a b:ByteArray} {x y:SrcV} (ha:parseP a=.inl x) (hb:parseP b=.inl y):
  (Fit (addS x y)∧parseP (a++⟨#[10]⟩++b)=.inl (addS x y))∨(¬Fit (addS x y) ∧ ∃p:Int,a.size<p∧parseP (a++⟨#[10]⟩++b)=.inr (p,2)):=by
 unfold parseP at ha hb
 cases la:lexS (bs a) 0 with
 |inr q=>rw [la] at ha;cases ha
 |inl A=>
  cases lb:lexS (bs b) 0 with
  |inr q=>rw [lb] at hb;cases hb
  |inl R=>
   rw [la] at ha
   rw [lb] at hb
   simp only at ha hb
   cases ra:readP (toksP A) with
   |bad r e=>rw [ra] at ha;cases ha
   |ok x' r1=>
    rw [ra] at ha
    cases ha
    cases rb:readP (toksP R) with
    |bad r e=>rw [rb] at hb;cases hb
    |ok y' r2=>
     rw [rb] at hb
     cases hb
     have e1:r1=[]:=defs_end _ _ _ (Nat.lt_succ_self _) _ _ ra
     subst e1
     obtain ⟨r3,rc⟩:=read_later ((a.size+1:Nat):Int) rb
     obtain ⟨R',hR'⟩:∃R',R'=(toksP R).map (Tok.later ((a.size+1:Nat):Int)):=⟨_,rfl⟩
     rw [←hR'] at rc
     have hl:=joined_lex a b
     rw [la,lb] at hl
     simp only at hl
     have ht:toksP (A++R.map fun q=>(q.1+(a.size+1),q.2))=toksP A++R':=by
      rw [toksP_app,toksP_shift,hR']
     have hV:=(lex_allV hl).1
     have hd:=defs_app ((toksP A).length+1) noS x (toksP A) R' (Nat.lt_succ_self _) ra ((toksP A++R').length+1) (R'.length+1) (by rw [List.length_append];omega) (Nat.lt_succ_self _)
     have hj:=(join_defs x (R'.length+1) noS R' y r3 (Nat.lt_succ_self _) rc).2
     rw [addS_no] at hj
     unfold parseP
     rw [hl]
     simp only
     rw [ht] at hV ⊢
     rcases hj with hj|⟨z,r4,e1,e2,e3,e4⟩
     ·have hr:readP (toksP A++R')=.ok (addS x y) r3:=hd.trans hj
      rw [hr]
      exact .inl ⟨good_fit (read_good nm_e0 (all_okT hV) hr).1,rfl⟩
     have hr:readP (toksP A++R')=.bad r4 2:=hd.trans e3
     rw [hr]
     refine .inr ⟨e4,?_⟩
     cases r4 with
     |nil=>exact absurd rfl e2
     |cons t r4=>
      refine ⟨t.pos,?_,rfl⟩
      have:t∈R':=by rw [e1];simp
      rw [hR'] at this
      obtain ⟨u,hu,rfl⟩:=List.mem_map.1 this
      have:=(toksP_pos lb u hu).1
      show (a.size:Int)<u.pos+((a.size+1:Nat):Int)
      omega
end Go.Proofs.YtgbeechjghajcaaGreatDoor

namespace Go.SrcM
open Go Go.Fw Go.RatM
noncomputable def eqB {α:Type} (a b:α):Bool:=@decide (a=b) (Classical.propDecidable _)
theorem eqB_yes {α:Type} {a b:α} (h:a=b):eqB a b=true:=@decide_eq_true _ (Classical.propDecidable _) h
theorem eqB_no {α:Type} {a b:α} (h:¬a=b):eqB a b=false:=@decide_eq_false _ (Classical.propDecidable _) h
theorem at_eq {α:Type} {a b:List α} (h:a=b) {k:Nat} (ha:k<a.length) (hb:k<b.length):a[k]=b[k]:=by subst h;rfl
theorem all_at {α:Type} {a b:List α} (h:a.length=b.length) (H:∀j (ha:j<a.length) (hb:j<b.length),a[j]=b[j]):a=b:=List.ext_getElem h H
theorem more_at {α:Type} {a b:List α} {k:Nat} (ha:k<a.length) (hb:k<b.length) (H:∀j (_:j<k) (ha:j<a.length) (hb:j<b.length),a[j]=b[j]) (h:a[k]=b[k]):∀j (_:j<k+1) (ha:j<a.length) (hb:j<b.length),a[j]=b[j]:=
 fun j hj h1 h2=>(Nat.lt_succ_iff_lt_or_eq.1 hj).elim (fun hj=>H j hj h1 h2) (fun e=>by subst e;exact h)
theorem Cd.ext_iff' {a b:Cd}:a=b↔a.opt=b.opt∧a.ch=b.ch∧a.on=b.on∧a.cn=b.cn:=by
 obtain ⟨_,_,_,_⟩:=a;obtain ⟨_,_,_,_⟩:=b;simp
theorem Am.ext_iff' {a b:Am}:a=b↔a.n=b.n∧a.d=b.d∧a.unit=b.unit∧a.item=b.item∧a.back=b.back∧a.un=b.un∧a.inn=b.inn:=by
 obtain ⟨_,_,_,_,_,_,_⟩:=a;obtain ⟨_,_,_,_,_,_,_⟩:=b;simp
theorem Rn.ext_iff' {a b:Rn}:a=b↔a.mach=b.mach∧a.slots=b.slots∧a.mn=b.mn:=by
 obtain ⟨_,_,_⟩:=a;obtain ⟨_,_,_⟩:=b;simp
theorem It.ext_iff' {a b:It}:a=b↔a.name=b.name∧a.unit=b.unit∧a.mn=b.mn∧a.md=b.md∧a.shelf=b.shelf∧a.un=b.un:=by
 obtain ⟨_,_,_,_,_,_⟩:=a;obtain ⟨_,_,_,_,_,_⟩:=b;simp
theorem Mc.ext_iff' {a b:Mc}:a=b↔a.name=b.name∧a.plant=b.plant∧a.clean=b.clean∧a.pn=b.pn:=by
 obtain ⟨_,_,_,_⟩:=a;obtain ⟨_,_,_,_⟩:=b;simp
theorem Sw.ext_iff' {a b:Sw}:a=b↔a.a=b.a∧a.b=b.b∧a.an=b.an∧a.bn=b.bn:=by
 obtain ⟨_,_,_,_⟩:=a;obtain ⟨_,_,_,_⟩:=b;simp
theorem RcV.bare_iff {a b:RcV}:a.bare=b.bare↔a.item=b.item∧a.plant=b.plant∧a.fr=b.fr∧a.to=b.to∧a.cs=b.cs∧a.inn=b.inn∧a.out=b.out∧a.rwN=b.rwN∧a.rwD=b.rwD∧a.yN=b.yN∧a.yD=b.yD∧a.tN=b.tN∧a.tD=b.tD∧a.lead=b.lead∧a.runs=b.runs∧a.inum=b.inum∧a.pnum=b.pnum:=by
 obtain ⟨_,_,_,_,_,_,_,_,_,_,_,_,_,_,_,_,_,_,_,_,_⟩:=a;obtain ⟨_,_,_,_,_,_,_,_,_,_,_,_,_,_,_,_,_,_,_,_,_⟩:=b;simp [RcV.bare]
abbrev Two (va vb:Value) (sz:Nat) (ra rb:List (List Value)) (F:Nat→Prop) (h:Array Obj):Prop:=RoF F h va sz ra∧RoF F h vb sz rb
theorem Two.tok (va vb:Value) (sz:Nat) (ra rb:List (List Value)):TOk (Two va vb sz ra rb):=
 ⟨fun _ _ _ hs H=>⟨RoF.up ⟨hs,fun _ _=>rfl⟩ H.1,RoF.up ⟨hs,fun _ _=>rfl⟩ H.2⟩,fun _ _ _ H K=>⟨RoF.up ⟨fun _ x=>x,K.same⟩ H.1,RoF.up ⟨fun _ x=>x,K.same⟩ H.2⟩⟩
abbrev TwoR (a b:RcV) (F:Nat→Prop) (h:Array Obj):Prop:=a.ok F h∧b.ok F h
theorem TwoR.tok (a b:RcV):TOk (TwoR a b):=
 ⟨fun _ _ _ hs H=>⟨H.1.up ⟨hs,fun _ _=>rfl⟩,H.2.up ⟨hs,fun _ _=>rfl⟩⟩,fun _ _ _ H K=>⟨H.1.up ⟨fun _ x=>x,K.same⟩,H.2.up ⟨fun _ x=>x,K.same⟩⟩⟩
end Go.SrcM
namespace Go.Proofs.YtgbeechjghajcaaGreatDoor
open Go Go.Fw Go.NatM Go.RatM Go.SrcM
set_option maxRecDepth 100000
set_option maxHeartbeats 99999999
theorem sNames_fn (va vb:Value) (a b:List ByteArray):FnT Tryz.prog (Two va vb 1 (rwsB a) (rwsB b)) 27 0 [.v va,.v vb] [] (fun _:Unit=>True) (fun _=>.ret (.v (.bool (eqB a b))) 0 []):=by
 have hla:(rwsB a).length=a.length:=rws_len _ _
 have hlb:(rwsB b).length=b.length:=rws_len _ _
 obtain ⟨r,hr⟩:∃r,r=eqB a b:=⟨_,rfl⟩
 rw [←hr]
 refine FnT.of Tryz.func27 (by kernel_rfl) rfl Tryz.ntmps27 rfl fun E0 F h hT w0 cs=>?_
 have mA:=hT.1.len
 obtain ⟨aa,ca,rfl⟩:=RoF.sli hT.1 hla
 obtain ⟨ab,cb,rfl⟩:=RoF.sli hT.2 hlb
 conv=>whnf
 (try refine gS ?_);conv=>whnf
 refine ⟨fun hs=>?_,fun hs=>?_⟩<;>conv=>whnf
 rotate_left
 ·conv=>whnf
  have:r=false:=by rw [hr];exact eqB_no (fun e=>hs (by rw [e]))
  rw [this]
  try refine RunsS.retU ?_
  exact UnwS.ret tab Tryz.func27 rfl (eN () trivial)
 conv=>whnf
 have hn:a.length=b.length:=by omega
 refine RunsS.nameAt (fun _ x=>x) 0 (by exact hT.1) ?_
 conv=>whnf
 (try refine gS ?_);conv=>whnf
 refine RunsS.nameAt (fun _ x=>x) 1 (by exact hT.2) ?_
 conv=>whnf
 (try refine gS ?_);conv=>whnf
 refine RunsS.subR [] (RunsS.loop (fun (k:Nat)=>[(5,.v (.int .i64 k)),(0,.buf 0),(1,.buf 1)]) (fun (k:Nat)=>[(0,.ro 1 (rwsB a)),(1,.ro 1 (rwsB b))]) 2 (fun (k:Nat)=>k≤a.length ∧ ∀j (_:j<k) (ha:j<a.length) (hb:j<b.length),a[j]=b[j]) (fun (k:Nat)=>a.length - k) ?round1 (0) ?J01) sH sH
 case J01=>exact (⟨Nat.zero_le _,fun j hj=>absurd hj (Nat.not_lt_zero _)⟩)
 rintro k hJ back
 conv=>whnf
 refine gS ?_;conv=>whnf
 refine ⟨fun hk=>?_,fun hk=>?_⟩<;>conv=>whnf
 ·have hk:k<a.length:=by omega
  have hk2:k<b.length:=by omega
  conv=>whnf
  refine RunsS.held tab (.fl 0 (.fl 1 (.fl 2 (.fl 3 (.fl 4 (.fl 5 (.fl 6 (.fl 7 (.fl 8 .done))))))))) (by kernel_rfl) ?_;conv=>whnf
  (try refine gR ?_);conv=>whnf
  repeat ((first|refine oL ?_|refine oR ?_|refine oB ?_);(try intro _);conv=>whnf)
  conv=>whnf
  refine ⟨_,rws_get hk,?_⟩;conv=>whnf
  try (refine oN ?_;conv=>whnf)
  conv=>whnf
  refine ⟨_,rws_get hk2,?_⟩;conv=>whnf
  conv=>whnf
  refine ⟨fun hs=>?_,fun hs=>?_⟩<;>conv=>whnf
  ·try refine gR ?_
   conv=>whnf
   (try refine gS ?_);conv=>whnf
   repeat ((first|refine oL ?_|refine oR ?_);(try intro _);conv=>whnf)
   refine RunsS.subR [] (back (k+1) (by exact (⟨hk,more_at hk hk2 hJ.2 (hs)⟩)) (by (try dsimp only);omega)) sH sH
  (try refine gR ?_);conv=>whnf
  (try refine gS ?_);conv=>whnf
  have:r=false:=by rw [hr];exact eqB_no (fun e=>(fun e=>hs e) (at_eq e hk hk2))
  rw [this]
  try refine RunsS.retU ?_
  exact UnwS.ret tab Tryz.func27 rfl (eN () trivial)
 conv=>whnf
 have:r=true:=by rw [hr];exact eqB_yes (all_at hn fun j h1 h2=>hJ.2 j (by omega) h1 h2)
 rw [this]
 try refine RunsS.retU ?_
 exact UnwS.ret tab Tryz.func27 rfl (eN () trivial)
theorem sConds_fn (va vb:Value) (a b:List Cd):FnT Tryz.prog (Two va vb 4 (rws Cd.row a) (rws Cd.row b)) 28 0 [.v va,.v vb] [] (fun _:Unit=>True) (fun _=>.ret (.v (.bool (eqB a b))) 0 []):=by
 have hla:(rws Cd.row a).length=a.length:=rws_len _ _
 have hlb:(rws Cd.row b).length=b.length:=rws_len _ _
 obtain ⟨r,hr⟩:∃r,r=eqB a b:=⟨_,rfl⟩
 rw [←hr]
 refine FnT.of Tryz.func28 (by kernel_rfl) rfl Tryz.ntmps28 rfl fun E0 F h hT w0 cs=>?_
 have mA:=hT.1.len
 obtain ⟨aa,ca,rfl⟩:=RoF.sli hT.1 hla
 obtain ⟨ab,cb,rfl⟩:=RoF.sli hT.2 hlb
 conv=>whnf
 (try refine gS ?_);conv=>whnf
 refine ⟨fun hs=>?_,fun hs=>?_⟩<;>conv=>whnf
 rotate_left
 ·conv=>whnf
  have:r=false:=by rw [hr];exact eqB_no (fun e=>hs (by rw [e]))
  rw [this]
  try refine RunsS.retU ?_
  exact UnwS.ret tab Tryz.func28 rfl (eN () trivial)
 conv=>whnf
 have hn:a.length=b.length:=by omega
 refine RunsS.nameAt (fun _ x=>x) 0 (by exact hT.1) ?_
 conv=>whnf
 (try refine gS ?_);conv=>whnf
 refine RunsS.nameAt (fun _ x=>x) 1 (by exact hT.2) ?_
 conv=>whnf
 (try refine gS ?_);conv=>whnf
 refine RunsS.subR [] (RunsS.loop (fun (k:Nat)=>[(5,.v (.int .i64 k)),(0,.buf 0),(1,.buf 1)]) (fun (k:Nat)=>[(0,.ro 4 (rws Cd.row a)),(1,.ro 4 (rws Cd.row b))]) 2 (fun (k:Nat)=>k≤a.length ∧ ∀j (_:j<k) (ha:j<a.length) (hb:j<b.length),a[j]=b[j]) (fun (k:Nat)=>a.length - k) ?round3 (0) ?J03) sH sH
 case J03=>exact (⟨Nat.zero_le _,fun j hj=>absurd hj (Nat.not_lt_zero _)⟩)
 rintro k hJ back
 conv=>whnf
 refine gS ?_;conv=>whnf
 refine ⟨fun hk=>?_,fun hk=>?_⟩<;>conv=>whnf
 ·have hk:k<a.length:=by omega
  have hk2:k<b.length:=by omega
  conv=>whnf
  refine RunsS.held tab (.fl 0 (.fl 1 (.fl 2 (.fl 3 (.fl 4 (.fl 5 (.fl 6 (.fl 7 (.fl 8 .done))))))))) (by kernel_rfl) ?_;conv=>whnf
  (try refine gR ?_);conv=>whnf
  repeat ((first|refine oL ?_|refine oR ?_|refine oB ?_);(try intro _);conv=>whnf)
  conv=>whnf
  refine ⟨_,rws_get hk,?_⟩;conv=>whnf
  try (refine oN ?_;conv=>whnf)
  conv=>whnf
  repeat ((first|refine oL ?_|refine oR ?_|refine oB ?_);(try intro _);conv=>whnf)
  conv=>whnf
  refine ⟨_,rws_get hk2,?_⟩;conv=>whnf
  try (refine oN ?_;conv=>whnf)
  conv=>whnf
  refine ⟨fun hs=>?_,fun hs=>?_⟩<;>conv=>whnf
  ·try refine gR ?_
   conv=>whnf
   (try refine gS ?_);conv=>whnf
   repeat ((first|refine oL ?_|refine oR ?_);(try intro _);conv=>whnf)
   refine RunsS.subR [] (back (k+1) (by exact (⟨hk,more_at hk hk2 hJ.2 (Cd.ext_iff'.2 hs)⟩)) (by (try dsimp only);omega)) sH sH
  (try refine gR ?_);conv=>whnf
  (try refine gS ?_);conv=>whnf
  have:r=false:=by rw [hr];exact eqB_no (fun e=>(fun e=>hs (Cd.ext_iff'.1 e)) (at_eq e hk hk2))
  rw [this]
  try refine RunsS.retU ?_
  exact UnwS.ret tab Tryz.func28 rfl (eN () trivial)
 conv=>whnf
 have:r=true:=by rw [hr];exact eqB_yes (all_at hn fun j h1 h2=>hJ.2 j (by omega) h1 h2)
 rw [this]
 try refine RunsS.retU ?_
 exact UnwS.ret tab Tryz.func28 rfl (eN () trivial)
theorem sAms_fn (va vb:Value) (a b:List Am):FnT Tryz.prog (Two va vb 7 (rws Am.row a) (rws Am.row b)) 90 0 [.v va,.v vb] [] (fun _:Unit=>True) (fun _=>.ret (.v (.bool (eqB a b))) 0 []):=by
 have hla:(rws Am.row a).length=a.length:=rws_len _ _
 have hlb:(rws Am.row b).length=b.length:=rws_len _ _
 obtain ⟨r,hr⟩:∃r,r=eqB a b:=⟨_,rfl⟩
 rw [←hr]
 refine FnT.of Tryz.func90 (by kernel_rfl) rfl Tryz.ntmps90 rfl fun E0 F h hT w0 cs=>?_
 have mA:=hT.1.len
 obtain ⟨aa,ca,rfl⟩:=RoF.sli hT.1 hla
 obtain ⟨ab,cb,rfl⟩:=RoF.sli hT.2 hlb
 conv=>whnf
 (try refine gS ?_);conv=>whnf
 refine ⟨fun hs=>?_,fun hs=>?_⟩<;>conv=>whnf
 rotate_left
 ·conv=>whnf
  have:r=false:=by rw [hr];exact eqB_no (fun e=>hs (by rw [e]))
  rw [this]
  try refine RunsS.retU ?_
  exact UnwS.ret tab Tryz.func90 rfl (eN () trivial)
 conv=>whnf
 have hn:a.length=b.length:=by omega
 refine RunsS.nameAt (fun _ x=>x) 0 (by exact hT.1) ?_
 conv=>whnf
 (try refine gS ?_);conv=>whnf
 refine RunsS.nameAt (fun _ x=>x) 1 (by exact hT.2) ?_
 conv=>whnf
 (try refine gS ?_);conv=>whnf
 refine RunsS.subR [] (RunsS.loop (fun (k:Nat)=>[(5,.v (.int .i64 k)),(0,.buf 0),(1,.buf 1)]) (fun (k:Nat)=>[(0,.ro 7 (rws Am.row a)),(1,.ro 7 (rws Am.row b))]) 2 (fun (k:Nat)=>k≤a.length ∧ ∀j (_:j<k) (ha:j<a.length) (hb:j<b.length),a[j]=b[j]) (fun (k:Nat)=>a.length - k) ?round5 (0) ?J05) sH sH
 case J05=>exact (⟨Nat.zero_le _,fun j hj=>absurd hj (Nat.not_lt_zero _)⟩)
 rintro k hJ back
 conv=>whnf
 refine gS ?_;conv=>whnf
 refine ⟨fun hk=>?_,fun hk=>?_⟩<;>conv=>whnf
 ·have hk:k<a.length:=by omega
  have hk2:k<b.length:=by omega
  conv=>whnf
  refine RunsS.held tab (.fl 0 (.fl 1 (.fl 2 (.fl 3 (.fl 4 (.fl 5 (.fl 6 (.fl 7 (.fl 8 .done))))))))) (by kernel_rfl) ?_;conv=>whnf
  (try refine gR ?_);conv=>whnf
  repeat ((first|refine oL ?_|refine oR ?_|refine oB ?_);(try intro _);conv=>whnf)
  conv=>whnf
  refine ⟨_,rws_get hk,?_⟩;conv=>whnf
  try (refine oN ?_;conv=>whnf)
  conv=>whnf
  repeat ((first|refine oL ?_|refine oR ?_|refine oB ?_);(try intro _);conv=>whnf)
  conv=>whnf
  refine ⟨_,rws_get hk2,?_⟩;conv=>whnf
  try (refine oN ?_;conv=>whnf)
  conv=>whnf
  refine ⟨fun hs=>?_,fun hs=>?_⟩<;>conv=>whnf
  ·try refine gR ?_
   conv=>whnf
   (try refine gS ?_);conv=>whnf
   repeat ((first|refine oL ?_|refine oR ?_);(try intro _);conv=>whnf)
   refine RunsS.subR [] (back (k+1) (by exact (⟨hk,more_at hk hk2 hJ.2 (Am.ext_iff'.2 hs)⟩)) (by (try dsimp only);omega)) sH sH
  (try refine gR ?_);conv=>whnf
  (try refine gS ?_);conv=>whnf
  have:r=false:=by rw [hr];exact eqB_no (fun e=>(fun e=>hs (Am.ext_iff'.1 e)) (at_eq e hk hk2))
  rw [this]
  try refine RunsS.retU ?_
  exact UnwS.ret tab Tryz.func90 rfl (eN () trivial)
 conv=>whnf
 have:r=true:=by rw [hr];exact eqB_yes (all_at hn fun j h1 h2=>hJ.2 j (by omega) h1 h2)
 rw [this]
 try refine RunsS.retU ?_
 exact UnwS.ret tab Tryz.func90 rfl (eN () trivial)
end Go.Proofs.YtgbeechjghajcaaGreatDoor

namespace Go.Proofs.YtgbeechjghajcaaGreatDoor
open Go Go.Fw Go.NatM Go.RatM Go.SrcM
set_option maxRecDepth 100000
set_option maxHeartbeats 99999999
theorem sRc_fn (a b:RcV):FnT Tryz.prog (TwoR a b) 29 0 [.agg (toV a.row),.agg (toV b.row)] [] (fun _:Unit=>True) (fun _=>.ret (.v (.bool (eqB a.bare b.bare))) 0 []):=by
 have hla:(rws Rn.row a.runs).length=a.runs.length:=rws_len _ _
 have hlb:(rws Rn.row b.runs).length=b.runs.length:=rws_len _ _
 obtain ⟨r,hr⟩:∃r,r=eqB a.bare b.bare:=⟨_,rfl⟩
 rw [←hr]
 have no:¬a.bare=b.bare→r=false:=fun h=>by rw [hr];exact eqB_no h
 refine FnT.of Tryz.func29 (by kernel_rfl) rfl Tryz.ntmps29 rfl fun E0 F h hT w0 cs=>?_
 conv=>whnf
 refine gS ?_;conv=>whnf
 have mA:=hT.1.rn.len
 refine ⟨fun hs=>?_,fun hs=>?_⟩<;>conv=>whnf
 rotate_left
 ·conv=>whnf
  rw [no fun e=>hs (by rw [(RcV.bare_iff.1 e).2.2.2.2.2.2.2.2.2.2.2.2.2.2.1])]
  try refine RunsS.retU ?_
  exact UnwS.ret tab Tryz.func29 rfl (eN () trivial)
 conv=>whnf
 have hn:a.runs.length=b.runs.length:=by omega
 refine RunsS.callT (Two.tok _ _ _ _ _) (⟨hT.1.c,hT.2.c⟩) (sConds_fn (a.hc.v a.cs.length) (b.hc.v b.cs.length) a.cs b.cs) [] sH ?CNa1 ?_
 case CNa1=>rfl
 rintro _ _
 by_cases n2:a.cs=b.cs
 rotate_left
 ·rw [eqB_no n2]
  conv=>whnf
  (try refine gS ?_);conv=>whnf
  rw [no fun e=>n2 ((RcV.bare_iff.1 e).2.2.2.2.1)]
  try refine RunsS.retU ?_
  exact UnwS.ret tab Tryz.func29 rfl (eN () trivial)
 rw [eqB_yes n2]
 conv=>whnf
 (try refine gS ?_);conv=>whnf
 refine RunsS.callT (Two.tok _ _ _ _ _) (⟨hT.1.i,hT.2.i⟩) (sAms_fn (a.hi.v a.inn.length) (b.hi.v b.inn.length) a.inn b.inn) [] sH ?CNa2 ?_
 case CNa2=>rfl
 rintro _ _
 by_cases n3:a.inn=b.inn
 rotate_left
 ·rw [eqB_no n3]
  conv=>whnf
  (try refine gS ?_);conv=>whnf
  rw [no fun e=>n3 ((RcV.bare_iff.1 e).2.2.2.2.2.1)]
  try refine RunsS.retU ?_
  exact UnwS.ret tab Tryz.func29 rfl (eN () trivial)
 rw [eqB_yes n3]
 conv=>whnf
 (try refine gS ?_);conv=>whnf
 refine RunsS.callT (Two.tok _ _ _ _ _) (⟨hT.1.o,hT.2.o⟩) (sAms_fn (a.ho.v a.out.length) (b.ho.v b.out.length) a.out b.out) [] sH ?CNa3 ?_
 case CNa3=>rfl
 rintro _ _
 by_cases n4:a.out=b.out
 rotate_left
 ·rw [eqB_no n4]
  conv=>whnf
  (try refine gS ?_);conv=>whnf
  rw [no fun e=>n4 ((RcV.bare_iff.1 e).2.2.2.2.2.2.1)]
  try refine RunsS.retU ?_
  exact UnwS.ret tab Tryz.func29 rfl (eN () trivial)
 rw [eqB_yes n4]
 conv=>whnf
 (try refine gS ?_);conv=>whnf
 refine RunsS.nameCell (fun _ x=>x) 0 14 (by exact hT.1.rn) ?_
 conv=>whnf
 (try refine gS ?_);conv=>whnf
 refine RunsS.nameCell (fun _ x=>x) 1 14 (by exact hT.2.rn) ?_
 conv=>whnf
 (try refine gS ?_);conv=>whnf
 refine RunsS.subR [] (RunsS.loop (fun (k:Nat)=>[(5,.v (.int .i64 k)),(2,.ptr 0 0),(3,.ptr 1 0)]) (fun (k:Nat)=>[(0,.cells 61 [.v (.string a.item),.v (.string a.plant),.v (.int .i64 a.fr),.v (.int .i64 a.to),.v (a.hc.v a.cs.length),.v (a.hi.v a.inn.length),.v (a.ho.v a.out.length),.v (.int .i64 a.rwN),.v (.int .i64 a.rwD),.v (.int .i64 a.yN),.v (.int .i64 a.yD),.v (.int .i64 a.tN),.v (.int .i64 a.tD),.v (.int .i64 a.lead),.buf 2,.v (.int .i64 a.inum),.v (.int .i64 a.pnum)]),(1,.cells 61 [.v (.string b.item),.v (.string b.plant),.v (.int .i64 b.fr),.v (.int .i64 b.to),.v (b.hc.v b.cs.length),.v (b.hi.v b.inn.length),.v (b.ho.v b.out.length),.v (.int .i64 b.rwN),.v (.int .i64 b.rwD),.v (.int .i64 b.yN),.v (.int .i64 b.yD),.v (.int .i64 b.tN),.v (.int .i64 b.tD),.v (.int .i64 b.lead),.buf 3,.v (.int .i64 b.inum),.v (.int .i64 b.pnum)]),(2,.ro 3 (rws Rn.row a.runs)),(3,.ro 3 (rws Rn.row b.runs))]) 4 (fun (k:Nat)=>k≤a.runs.length ∧ ∀j (_:j<k) (ha:j<a.runs.length) (hb:j<b.runs.length),a.runs[j]=b.runs[j]) (fun (k:Nat)=>a.runs.length - k) ?round4 (0) ?J04) sH sH
 case J04=>exact (⟨Nat.zero_le _,fun j hj=>absurd hj (Nat.not_lt_zero _)⟩)
 rintro k hJ back
 conv=>whnf
 refine gS ?_;conv=>whnf
 refine ⟨fun hk=>?_,fun hk=>?_⟩<;>conv=>whnf
 ·have hk:k<a.runs.length:=by omega
  have hk2:k<b.runs.length:=by omega
  conv=>whnf
  refine RunsS.held tab (.fl 0 (.fl 1 (.fl 2 (.fl 3 (.fl 4 (.fl 5 (.fl 6 (.fl 7 (.fl 8 (.fl 9 (.fl 10 .done))))))))))) (by kernel_rfl) ?_;conv=>whnf
  (try refine gR ?_);conv=>whnf
  repeat ((first|refine oL ?_|refine oR ?_|refine oB ?_);(try intro _);conv=>whnf)
  conv=>whnf
  refine ⟨_,rws_get hk,?_⟩;conv=>whnf
  try (refine oN ?_;conv=>whnf)
  conv=>whnf
  repeat ((first|refine oL ?_|refine oR ?_|refine oB ?_);(try intro _);conv=>whnf)
  conv=>whnf
  refine ⟨_,rws_get hk2,?_⟩;conv=>whnf
  try (refine oN ?_;conv=>whnf)
  conv=>whnf
  refine ⟨fun hs=>?_,fun hs=>?_⟩<;>conv=>whnf
  ·try refine gR ?_
   conv=>whnf
   (try refine gS ?_);conv=>whnf
   repeat ((first|refine oL ?_|refine oR ?_);(try intro _);conv=>whnf)
   refine RunsS.subR [] (back (k+1) (by exact (⟨hk,more_at hk hk2 hJ.2 (Rn.ext_iff'.2 hs)⟩)) (by (try dsimp only);omega)) sH sH
  (try refine gR ?_);conv=>whnf
  (try refine gS ?_);conv=>whnf
  rw [no fun e=>hs (Rn.ext_iff'.1 (at_eq (RcV.bare_iff.1 e).2.2.2.2.2.2.2.2.2.2.2.2.2.2.1 hk hk2))]
  try refine RunsS.retU ?_
  exact UnwS.ret tab Tryz.func29 rfl (eN () trivial)
 have hruns:a.runs=b.runs:=all_at hn fun j h1 h2=>hJ.2 j (by omega) h1 h2
 clear back
 conv=>whnf
 refine ⟨fun mitem=>?_,fun mitem=>?_⟩<;>conv=>whnf
 rotate_left
 ·conv=>whnf
  (try refine gS ?_);conv=>whnf
  rw [no fun e=>mitem ((RcV.bare_iff.1 e).1)]
  try refine RunsS.retU ?_
  exact UnwS.ret tab Tryz.func29 rfl (eN () trivial)
 conv=>whnf
 refine ⟨fun mplant=>?_,fun mplant=>?_⟩<;>conv=>whnf
 rotate_left
 ·conv=>whnf
  (try refine gS ?_);conv=>whnf
  rw [no fun e=>mplant ((RcV.bare_iff.1 e).2.1)]
  try refine RunsS.retU ?_
  exact UnwS.ret tab Tryz.func29 rfl (eN () trivial)
 conv=>whnf
 refine ⟨fun mfr=>?_,fun mfr=>?_⟩<;>conv=>whnf
 rotate_left
 ·conv=>whnf
  (try refine gS ?_);conv=>whnf
  rw [no fun e=>mfr ((RcV.bare_iff.1 e).2.2.1)]
  try refine RunsS.retU ?_
  exact UnwS.ret tab Tryz.func29 rfl (eN () trivial)
 conv=>whnf
 refine ⟨fun mto=>?_,fun mto=>?_⟩<;>conv=>whnf
 rotate_left
 ·conv=>whnf
  (try refine gS ?_);conv=>whnf
  rw [no fun e=>mto ((RcV.bare_iff.1 e).2.2.2.1)]
  try refine RunsS.retU ?_
  exact UnwS.ret tab Tryz.func29 rfl (eN () trivial)
 conv=>whnf
 refine ⟨fun mrwN=>?_,fun mrwN=>?_⟩<;>conv=>whnf
 rotate_left
 ·conv=>whnf
  (try refine gS ?_);conv=>whnf
  rw [no fun e=>mrwN ((RcV.bare_iff.1 e).2.2.2.2.2.2.2.1)]
  try refine RunsS.retU ?_
  exact UnwS.ret tab Tryz.func29 rfl (eN () trivial)
 conv=>whnf
 refine ⟨fun mrwD=>?_,fun mrwD=>?_⟩<;>conv=>whnf
 rotate_left
 ·conv=>whnf
  (try refine gS ?_);conv=>whnf
  rw [no fun e=>mrwD ((RcV.bare_iff.1 e).2.2.2.2.2.2.2.2.1)]
  try refine RunsS.retU ?_
  exact UnwS.ret tab Tryz.func29 rfl (eN () trivial)
 conv=>whnf
 refine ⟨fun myN=>?_,fun myN=>?_⟩<;>conv=>whnf
 rotate_left
 ·conv=>whnf
  (try refine gS ?_);conv=>whnf
  rw [no fun e=>myN ((RcV.bare_iff.1 e).2.2.2.2.2.2.2.2.2.1)]
  try refine RunsS.retU ?_
  exact UnwS.ret tab Tryz.func29 rfl (eN () trivial)
 conv=>whnf
 refine ⟨fun myD=>?_,fun myD=>?_⟩<;>conv=>whnf
 rotate_left
 ·conv=>whnf
  (try refine gS ?_);conv=>whnf
  rw [no fun e=>myD ((RcV.bare_iff.1 e).2.2.2.2.2.2.2.2.2.2.1)]
  try refine RunsS.retU ?_
  exact UnwS.ret tab Tryz.func29 rfl (eN () trivial)
 conv=>whnf
 refine ⟨fun mtN=>?_,fun mtN=>?_⟩<;>conv=>whnf
 rotate_left
 ·conv=>whnf
  (try refine gS ?_);conv=>whnf
  rw [no fun e=>mtN ((RcV.bare_iff.1 e).2.2.2.2.2.2.2.2.2.2.2.1)]
  try refine RunsS.retU ?_
  exact UnwS.ret tab Tryz.func29 rfl (eN () trivial)
 conv=>whnf
 refine ⟨fun mtD=>?_,fun mtD=>?_⟩<;>conv=>whnf
 rotate_left
 ·conv=>whnf
  (try refine gS ?_);conv=>whnf
  rw [no fun e=>mtD ((RcV.bare_iff.1 e).2.2.2.2.2.2.2.2.2.2.2.2.1)]
  try refine RunsS.retU ?_
  exact UnwS.ret tab Tryz.func29 rfl (eN () trivial)
 conv=>whnf
 refine ⟨fun mlead=>?_,fun mlead=>?_⟩<;>conv=>whnf
 rotate_left
 ·conv=>whnf
  (try refine gS ?_);conv=>whnf
  rw [no fun e=>mlead ((RcV.bare_iff.1 e).2.2.2.2.2.2.2.2.2.2.2.2.2.1)]
  try refine RunsS.retU ?_
  exact UnwS.ret tab Tryz.func29 rfl (eN () trivial)
 conv=>whnf
 refine ⟨fun minum=>?_,fun minum=>?_⟩<;>conv=>whnf
 rotate_left
 ·conv=>whnf
  (try refine gS ?_);conv=>whnf
  rw [no fun e=>minum ((RcV.bare_iff.1 e).2.2.2.2.2.2.2.2.2.2.2.2.2.2.2.1)]
  try refine RunsS.retU ?_
  exact UnwS.ret tab Tryz.func29 rfl (eN () trivial)
 conv=>whnf
 (try refine gS ?_);conv=>whnf
 have:r=decide (a.pnum=b.pnum):=by
  by_cases mp:a.pnum=b.pnum
  ·rw [decide_eq_true mp,hr]
   exact eqB_yes (RcV.bare_iff.2 ⟨mitem,mplant,mfr,mto,n2,n3,n4,mrwN,mrwD,myN,myD,mtN,mtD,mlead,hruns,minum,mp⟩)
  rw [decide_eq_false mp]
  exact no fun e=>mp (RcV.bare_iff.1 e).2.2.2.2.2.2.2.2.2.2.2.2.2.2.2.2
 rw [this]
 try refine RunsS.retU ?_
 exact UnwS.ret tab Tryz.func29 rfl (eN () trivial)
end Go.Proofs.YtgbeechjghajcaaGreatDoor

namespace Go.SrcM
open Go Go.Fw Go.RatM
theorem SrcV.bare_mk {a b:SrcV} (h1:a.units=b.units) (h2:a.items=b.items) (h3:a.plants=b.plants) (h4:a.machines=b.machines) (h5:a.options.map OpV.bare=b.options.map OpV.bare) (h6:a.forbids.map FbV.bare=b.forbids.map FbV.bare) (h7:a.recipes.map RcV.bare=b.recipes.map RcV.bare) (h8:a.swaps=b.swaps):a.bare=b.bare:=by
 unfold SrcV.bare
 rw [h1,h2,h3,h4,h5,h6,h7,h8]
theorem SrcV.of_bare {a b:SrcV} (h:a.bare=b.bare):a.units=b.units∧a.items=b.items∧a.plants=b.plants∧a.machines=b.machines∧a.options.map OpV.bare=b.options.map OpV.bare∧a.forbids.map FbV.bare=b.forbids.map FbV.bare∧a.recipes.map RcV.bare=b.recipes.map RcV.bare∧a.swaps=b.swaps:=
 ⟨(congrArg SrcV.units h :),(congrArg SrcV.items h :),(congrArg SrcV.plants h :),(congrArg SrcV.machines h :),(congrArg SrcV.options h :),(congrArg SrcV.forbids h :),(congrArg SrcV.recipes h :),(congrArg SrcV.swaps h :)⟩
theorem map_len {α β:Type} {f:α→β} {a b:List α} (h:a.map f=b.map f):a.length=b.length:=by
 have:=congrArg List.length h
 rwa [List.length_map,List.length_map] at this
theorem map_at {α β:Type} {f:α→β} {a b:List α} (h:a.map f=b.map f) {k:Nat} (ha:k<a.length) (hb:k<b.length):f a[k]=f b[k]:=by
 have:=at_eq h (k:=k) (by rwa [List.length_map]) (by rwa [List.length_map])
 rwa [List.getElem_map,List.getElem_map] at this
theorem map_all {α β:Type} {f:α→β} {a b:List α} (h:a.length=b.length) (H:∀j (ha:j<a.length) (hb:j<b.length),f a[j]=f b[j]):a.map f=b.map f:=
 all_at (by rw [List.length_map,List.length_map,h]) fun j h1 h2=>by
  rw [List.length_map] at h1 h2
  rw [List.getElem_map,List.getElem_map]
  exact H j h1 h2
theorem more_by {α β:Type} {f:α→β} {a b:List α} {k:Nat} (ha:k<a.length) (hb:k<b.length) (H:∀j (_:j<k) (ha:j<a.length) (hb:j<b.length),f a[j]=f b[j]) (h:f a[k]=f b[k]):∀j (_:j<k+1) (ha:j<a.length) (hb:j<b.length),f a[j]=f b[j]:=
 fun j hj h1 h2=>(Nat.lt_succ_iff_lt_or_eq.1 hj).elim (fun hj=>H j hj h1 h2) (fun e=>by subst e;exact h)
theorem OpV.bare_iff {a b:OpV}:a.bare=b.bare↔a.name=b.name∧a.ch=b.ch:=by
 obtain ⟨_,_,_⟩:=a;obtain ⟨_,_,_⟩:=b;simp [OpV.bare]
theorem FbV.bare_iff {a b:FbV}:a.bare=b.bare↔a.cs=b.cs:=by
 obtain ⟨_,_⟩:=a;obtain ⟨_,_⟩:=b;simp [FbV.bare]
end Go.SrcM
namespace Go.Proofs.YtgbeechjghajcaaGreatDoor
open Go Go.Fw Go.NatM Go.RatM Go.SrcM
set_option maxRecDepth 100000
set_option maxHeartbeats 99999999
section
variable {vU vI vP vM vO vF vR vS wU wI wP wM wO wF wR wS:Value}
abbrev Two2T (vU vI vP vM vO vF vR vS wU wI wP wM wO wF wR wS:Value) (a b:SrcV) (F:Nat→Prop) (h:Array Obj):Prop:=TopF F h vU vI vP vM vO vF vR vS a∧TopF F h wU wI wP wM wO wF wR wS b
theorem Two2T.tok (vU vI vP vM vO vF vR vS wU wI wP wM wO wF wR wS:Value) (a b:SrcV):TOk (Two2T vU vI vP vM vO vF vR vS wU wI wP wM wO wF wR wS a b):=
 ⟨fun _ _ _ hs H=>⟨H.1.up ⟨hs,fun _ _=>rfl⟩,H.2.up ⟨hs,fun _ _=>rfl⟩⟩,fun _ _ _ H K=>⟨H.1.up ⟨fun _ x=>x,K.same⟩,H.2.up ⟨fun _ x=>x,K.same⟩⟩⟩
theorem sSame_fn (a b:SrcV):FnT Tryz.prog (Two2T vU vI vP vM vO vF vR vS wU wI wP wM wO wF wR wS a b) 13 0 [srcA vU vI vP vM vO vF vR vS,srcA wU wI wP wM wO wF wR wS] [] (fun _:Unit=>True) (fun _=>.ret (.v (.bool (eqB a.bare b.bare))) 0 []):=by
 have laU:(rowsU a.units).length=a.units.length:=by first|exact rowsU_len _|exact rws_len _ _
 have laI:(rws It.row a.items).length=a.items.length:=by first|exact rowsU_len _|exact rws_len _ _
 have laP:(rwsB a.plants).length=a.plants.length:=by first|exact rowsU_len _|exact rws_len _ _
 have laM:(rws Mc.row a.machines).length=a.machines.length:=by first|exact rowsU_len _|exact rws_len _ _
 have laO:(rws OpV.row a.options).length=a.options.length:=by first|exact rowsU_len _|exact rws_len _ _
 have laF:(rws FbV.row a.forbids).length=a.forbids.length:=by first|exact rowsU_len _|exact rws_len _ _
 have laR:(rws RcV.row a.recipes).length=a.recipes.length:=by first|exact rowsU_len _|exact rws_len _ _
 have laS:(rws Sw.row a.swaps).length=a.swaps.length:=by first|exact rowsU_len _|exact rws_len _ _
 have lbU:(rowsU b.units).length=b.units.length:=by first|exact rowsU_len _|exact rws_len _ _
 have lbI:(rws It.row b.items).length=b.items.length:=by first|exact rowsU_len _|exact rws_len _ _
 have lbP:(rwsB b.plants).length=b.plants.length:=by first|exact rowsU_len _|exact rws_len _ _
 have lbM:(rws Mc.row b.machines).length=b.machines.length:=by first|exact rowsU_len _|exact rws_len _ _
 have lbO:(rws OpV.row b.options).length=b.options.length:=by first|exact rowsU_len _|exact rws_len _ _
 have lbF:(rws FbV.row b.forbids).length=b.forbids.length:=by first|exact rowsU_len _|exact rws_len _ _
 have lbR:(rws RcV.row b.recipes).length=b.recipes.length:=by first|exact rowsU_len _|exact rws_len _ _
 have lbS:(rws Sw.row b.swaps).length=b.swaps.length:=by first|exact rowsU_len _|exact rws_len _ _
 obtain ⟨r,hr⟩:∃r,r=eqB a.bare b.bare:=⟨_,rfl⟩
 rw [←hr]
 have no:¬a.bare=b.bare→r=false:=fun h=>by rw [hr];exact eqB_no h
 refine FnT.of Tryz.func13 (by kernel_rfl) rfl Tryz.ntmps13 rfl fun E0 F h hT w0 cs=>?_
 have mU:=hT.1.U.len
 obtain ⟨aaU,caU,rfl⟩:=RoF.sli hT.1.U laU
 have mI:=hT.1.I.len
 obtain ⟨aaI,caI,rfl⟩:=RoF.sli hT.1.I laI
 have mM:=hT.1.M.len
 obtain ⟨aaM,caM,rfl⟩:=RoF.sli hT.1.M laM
 have mO:=hT.1.O.len
 obtain ⟨aaO,caO,rfl⟩:=RoF.sli hT.1.O laO
 have mF:=hT.1.F.len
 obtain ⟨aaF,caF,rfl⟩:=RoF.sli hT.1.F laF
 have mR:=hT.1.R.len
 obtain ⟨aaR,caR,rfl⟩:=RoF.sli hT.1.R laR
 have mS:=hT.1.S.len
 obtain ⟨aaS,caS,rfl⟩:=RoF.sli hT.1.S laS
 obtain ⟨abU,cbU,rfl⟩:=RoF.sli hT.2.U lbU
 obtain ⟨abI,cbI,rfl⟩:=RoF.sli hT.2.I lbI
 obtain ⟨abM,cbM,rfl⟩:=RoF.sli hT.2.M lbM
 obtain ⟨abO,cbO,rfl⟩:=RoF.sli hT.2.O lbO
 obtain ⟨abF,cbF,rfl⟩:=RoF.sli hT.2.F lbF
 obtain ⟨abR,cbR,rfl⟩:=RoF.sli hT.2.R lbR
 obtain ⟨abS,cbS,rfl⟩:=RoF.sli hT.2.S lbS
 conv=>whnf
 (try refine gS ?_);conv=>whnf
 refine ⟨fun hs=>?_,fun hs=>?_⟩<;>conv=>whnf
 rotate_left
 ·conv=>whnf
  (try refine gS ?_);conv=>whnf
  rw [no fun e=>hs (by rw [(SrcV.of_bare e).1])]
  try refine RunsS.retU ?_
  exact UnwS.ret tab Tryz.func13 rfl (eN () trivial)
 conv=>whnf
 have nU:a.units.length=b.units.length:=by omega
 refine ⟨fun hs=>?_,fun hs=>?_⟩<;>conv=>whnf
 rotate_left
 ·conv=>whnf
  (try refine gS ?_);conv=>whnf
  rw [no fun e=>hs (by rw [(SrcV.of_bare e).2.1])]
  try refine RunsS.retU ?_
  exact UnwS.ret tab Tryz.func13 rfl (eN () trivial)
 conv=>whnf
 have nI:a.items.length=b.items.length:=by omega
 refine RunsS.callT (Two.tok _ _ _ _ _) (⟨hT.1.P,hT.2.P⟩) (sNames_fn vP wP a.plants b.plants) [] sH ?CNa1 ?_
 case CNa1=>rfl
 rintro _ _
 by_cases eP:a.plants=b.plants
 rotate_left
 ·rw [eqB_no eP]
  conv=>whnf
  (try refine gS ?_);conv=>whnf
  rw [no fun e=>eP (SrcV.of_bare e).2.2.1]
  try refine RunsS.retU ?_
  exact UnwS.ret tab Tryz.func13 rfl (eN () trivial)
 rw [eqB_yes eP]
 conv=>whnf
 (try refine gS ?_);conv=>whnf
 refine ⟨fun hs=>?_,fun hs=>?_⟩<;>conv=>whnf
 rotate_left
 ·conv=>whnf
  (try refine gS ?_);conv=>whnf
  rw [no fun e=>hs (by rw [(SrcV.of_bare e).2.2.2.1])]
  try refine RunsS.retU ?_
  exact UnwS.ret tab Tryz.func13 rfl (eN () trivial)
 conv=>whnf
 have nM:a.machines.length=b.machines.length:=by omega
 refine ⟨fun hs=>?_,fun hs=>?_⟩<;>conv=>whnf
 rotate_left
 ·conv=>whnf
  (try refine gS ?_);conv=>whnf
  rw [no fun e=>hs (by rw [map_len (SrcV.of_bare e).2.2.2.2.1])]
  try refine RunsS.retU ?_
  exact UnwS.ret tab Tryz.func13 rfl (eN () trivial)
 conv=>whnf
 have nO:a.options.length=b.options.length:=by omega
 refine ⟨fun hs=>?_,fun hs=>?_⟩<;>conv=>whnf
 rotate_left
 ·conv=>whnf
  (try refine gS ?_);conv=>whnf
  rw [no fun e=>hs (by rw [map_len (SrcV.of_bare e).2.2.2.2.2.1])]
  try refine RunsS.retU ?_
  exact UnwS.ret tab Tryz.func13 rfl (eN () trivial)
 conv=>whnf
 have nF:a.forbids.length=b.forbids.length:=by omega
 refine ⟨fun hs=>?_,fun hs=>?_⟩<;>conv=>whnf
 rotate_left
 ·conv=>whnf
  (try refine gS ?_);conv=>whnf
  rw [no fun e=>hs (by rw [map_len (SrcV.of_bare e).2.2.2.2.2.2.1])]
  try refine RunsS.retU ?_
  exact UnwS.ret tab Tryz.func13 rfl (eN () trivial)
 conv=>whnf
 have nR:a.recipes.length=b.recipes.length:=by omega
 refine ⟨fun hs=>?_,fun hs=>?_⟩<;>conv=>whnf
 rotate_left
 ·conv=>whnf
  (try refine gS ?_);conv=>whnf
  rw [no fun e=>hs (by rw [(SrcV.of_bare e).2.2.2.2.2.2.2])]
  try refine RunsS.retU ?_
  exact UnwS.ret tab Tryz.func13 rfl (eN () trivial)
 conv=>whnf
 have nS:a.swaps.length=b.swaps.length:=by omega
 refine RunsS.nameCell (fun _ x=>x) 0 0 (by exact hT.1.U) ?_
 conv=>whnf
 (try refine gS ?_);conv=>whnf
 refine RunsS.nameCell (fun _ x=>x) 1 0 (by exact hT.2.U) ?_
 conv=>whnf
 (try refine gS ?_);conv=>whnf
 refine RunsS.subR [] (RunsS.loop (fun (k:Nat)=>[(5,.v (.int .i64 k)),(2,.ptr 0 0),(3,.ptr 1 0)]) (fun (k:Nat)=>[(0,.cells 32 [.buf 2,.v (.slice aaI a.items.length caI),.v vP,.v (.slice aaM a.machines.length caM),.v (.slice aaO a.options.length caO),.v (.slice aaF a.forbids.length caF),.v (.slice aaR a.recipes.length caR),.v (.slice aaS a.swaps.length caS)]),(1,.cells 32 [.buf 3,.v (.slice abI b.items.length cbI),.v wP,.v (.slice abM b.machines.length cbM),.v (.slice abO b.options.length cbO),.v (.slice abF b.forbids.length cbF),.v (.slice abR b.recipes.length cbR),.v (.slice abS b.swaps.length cbS)]),(2,.ro 8 (rowsU a.units)),(3,.ro 8 (rowsU b.units))]) 4 (fun (k:Nat)=>k≤a.units.length ∧ ∀j (_:j<k) (ha:j<a.units.length) (hb:j<b.units.length),a.units[j]=b.units[j]) (fun (k:Nat)=>a.units.length - k) ?round2 (0) ?J02) sH sH
 case J02=>exact (⟨Nat.zero_le _,fun j hj=>absurd hj (Nat.not_lt_zero _)⟩)
 rintro k hJ back
 conv=>whnf
 refine gS ?_;conv=>whnf
 refine ⟨fun hk=>?_,fun hk=>?_⟩<;>conv=>whnf
 ·have hk:k<a.units.length:=by omega
  have hk2:k<b.units.length:=by omega
  conv=>whnf
  refine RunsS.held tab (.fl 0 (.fl 1 (.fl 2 (.fl 3 (.fl 4 (.fl 5 (.fl 6 (.fl 7 (.fl 8 (.fl 9 (.fl 10 .done))))))))))) (by kernel_rfl) ?_;conv=>whnf
  (try refine gR ?_);conv=>whnf
  repeat ((first|(guard_target=_∧_;(fail_if_success refine oF ?_ ?_);(first|refine oL ?_|refine oR ?_|refine oB ?_)));(try intro _);conv=>whnf)
  conv=>whnf
  refine ⟨_,rowsU_get hk,?_⟩;conv=>whnf
  try (refine And.intro (by first|omega|exact Nat.le_of_ble_eq_true rfl) ?_;(try intro _);conv=>whnf)
  conv=>whnf
  repeat ((first|(guard_target=_∧_;(fail_if_success refine oF ?_ ?_);(first|refine oL ?_|refine oR ?_|refine oB ?_)));(try intro _);conv=>whnf)
  conv=>whnf
  refine ⟨_,rowsU_get hk2,?_⟩;conv=>whnf
  try (refine And.intro (by first|omega|exact Nat.le_of_ble_eq_true rfl) ?_;(try intro _);conv=>whnf)
  conv=>whnf
  refine ⟨fun hs=>?_,fun hs=>?_⟩<;>conv=>whnf
  ·try refine gR ?_
   conv=>whnf
   (try refine gS ?_);conv=>whnf
   repeat ((first|(guard_target=_∧_;(fail_if_success refine oF ?_ ?_);(first|refine oL ?_|refine oR ?_)));(try intro _);conv=>whnf)
   refine RunsS.subR [] (back (k+1) (by exact (⟨hk,more_at hk hk2 hJ.2 (Un.ext8_iff.2 hs)⟩)) (by (try dsimp only);omega)) sH sH
  (try refine gR ?_);conv=>whnf
  (try refine gS ?_);conv=>whnf
  rw [no fun e=>hs (Un.ext8_iff.1 (at_eq ((SrcV.of_bare e).1) hk hk2))]
  try refine RunsS.retU ?_
  exact UnwS.ret tab Tryz.func13 rfl (eN () trivial)
 have eU:=all_at nU fun j h1 h2=>hJ.2 j (by omega) h1 h2
 clear back hJ
 conv=>whnf
 refine RunsS.nameCell (fun _ x=>x) 0 1 (by exact hT.1.I) ?_
 conv=>whnf
 (try refine gS ?_);conv=>whnf
 refine RunsS.nameCell (fun _ x=>x) 1 1 (by exact hT.2.I) ?_
 conv=>whnf
 (try refine gS ?_);conv=>whnf
 refine RunsS.subR [] (RunsS.loop (fun (k:Nat)=>[(6,.v (.int .i64 k)),(2,.ptr 0 0),(3,.ptr 1 0)]) (fun (k:Nat)=>[(0,.cells 32 [.buf 2,.buf 4,.v vP,.v (.slice aaM a.machines.length caM),.v (.slice aaO a.options.length caO),.v (.slice aaF a.forbids.length caF),.v (.slice aaR a.recipes.length caR),.v (.slice aaS a.swaps.length caS)]),(1,.cells 32 [.buf 3,.buf 5,.v wP,.v (.slice abM b.machines.length cbM),.v (.slice abO b.options.length cbO),.v (.slice abF b.forbids.length cbF),.v (.slice abR b.recipes.length cbR),.v (.slice abS b.swaps.length cbS)]),(4,.ro 6 (rws It.row a.items)),(5,.ro 6 (rws It.row b.items))]) 6 (fun (k:Nat)=>k≤a.items.length ∧ ∀j (_:j<k) (ha:j<a.items.length) (hb:j<b.items.length),a.items[j]=b.items[j]) (fun (k:Nat)=>a.items.length - k) ?round4 (0) ?J04) sH sH
 case J04=>exact (⟨Nat.zero_le _,fun j hj=>absurd hj (Nat.not_lt_zero _)⟩)
 rintro k hJ back
 conv=>whnf
 refine gS ?_;conv=>whnf
 refine ⟨fun hk=>?_,fun hk=>?_⟩<;>conv=>whnf
 ·have hk:k<a.items.length:=by omega
  have hk2:k<b.items.length:=by omega
  conv=>whnf
  refine RunsS.held tab (.fl 0 (.fl 1 (.fl 2 (.fl 3 (.fl 4 (.fl 5 (.fl 6 (.fl 7 (.fl 8 (.fl 9 (.fl 10 .done))))))))))) (by kernel_rfl) ?_;conv=>whnf
  (try refine gR ?_);conv=>whnf
  repeat ((first|(guard_target=_∧_;(fail_if_success refine oF ?_ ?_);(first|refine oL ?_|refine oR ?_|refine oB ?_)));(try intro _);conv=>whnf)
  conv=>whnf
  refine ⟨_,rws_get hk,?_⟩;conv=>whnf
  try (refine And.intro (by first|omega|exact Nat.le_of_ble_eq_true rfl) ?_;(try intro _);conv=>whnf)
  conv=>whnf
  repeat ((first|(guard_target=_∧_;(fail_if_success refine oF ?_ ?_);(first|refine oL ?_|refine oR ?_|refine oB ?_)));(try intro _);conv=>whnf)
  conv=>whnf
  refine ⟨_,rws_get hk2,?_⟩;conv=>whnf
  try (refine And.intro (by first|omega|exact Nat.le_of_ble_eq_true rfl) ?_;(try intro _);conv=>whnf)
  conv=>whnf
  refine ⟨fun hs=>?_,fun hs=>?_⟩<;>conv=>whnf
  ·try refine gR ?_
   conv=>whnf
   (try refine gS ?_);conv=>whnf
   repeat ((first|(guard_target=_∧_;(fail_if_success refine oF ?_ ?_);(first|refine oL ?_|refine oR ?_)));(try intro _);conv=>whnf)
   refine RunsS.subR [] (back (k+1) (by exact (⟨hk,more_at hk hk2 hJ.2 (It.ext_iff'.2 hs)⟩)) (by (try dsimp only);omega)) sH sH
  (try refine gR ?_);conv=>whnf
  (try refine gS ?_);conv=>whnf
  rw [no fun e=>hs (It.ext_iff'.1 (at_eq ((SrcV.of_bare e).2.1) hk hk2))]
  try refine RunsS.retU ?_
  exact UnwS.ret tab Tryz.func13 rfl (eN () trivial)
 have eI:=all_at nI fun j h1 h2=>hJ.2 j (by omega) h1 h2
 clear back hJ
 conv=>whnf
 refine RunsS.nameCell (fun _ x=>x) 0 3 (by exact hT.1.M) ?_
 conv=>whnf
 (try refine gS ?_);conv=>whnf
 refine RunsS.nameCell (fun _ x=>x) 1 3 (by exact hT.2.M) ?_
 conv=>whnf
 (try refine gS ?_);conv=>whnf
 refine RunsS.subR [] (RunsS.loop (fun (k:Nat)=>[(7,.v (.int .i64 k)),(2,.ptr 0 0),(3,.ptr 1 0)]) (fun (k:Nat)=>[(0,.cells 32 [.buf 2,.buf 4,.v vP,.buf 6,.v (.slice aaO a.options.length caO),.v (.slice aaF a.forbids.length caF),.v (.slice aaR a.recipes.length caR),.v (.slice aaS a.swaps.length caS)]),(1,.cells 32 [.buf 3,.buf 5,.v wP,.buf 7,.v (.slice abO b.options.length cbO),.v (.slice abF b.forbids.length cbF),.v (.slice abR b.recipes.length cbR),.v (.slice abS b.swaps.length cbS)]),(6,.ro 4 (rws Mc.row a.machines)),(7,.ro 4 (rws Mc.row b.machines))]) 8 (fun (k:Nat)=>k≤a.machines.length ∧ ∀j (_:j<k) (ha:j<a.machines.length) (hb:j<b.machines.length),a.machines[j]=b.machines[j]) (fun (k:Nat)=>a.machines.length - k) ?round6 (0) ?J06) sH sH
 case J06=>exact (⟨Nat.zero_le _,fun j hj=>absurd hj (Nat.not_lt_zero _)⟩)
 rintro k hJ back
 conv=>whnf
 refine gS ?_;conv=>whnf
 refine ⟨fun hk=>?_,fun hk=>?_⟩<;>conv=>whnf
 ·have hk:k<a.machines.length:=by omega
  have hk2:k<b.machines.length:=by omega
  conv=>whnf
  refine RunsS.held tab (.fl 0 (.fl 1 (.fl 2 (.fl 3 (.fl 4 (.fl 5 (.fl 6 (.fl 7 (.fl 8 (.fl 9 (.fl 10 .done))))))))))) (by kernel_rfl) ?_;conv=>whnf
  (try refine gR ?_);conv=>whnf
  repeat ((first|(guard_target=_∧_;(fail_if_success refine oF ?_ ?_);(first|refine oL ?_|refine oR ?_|refine oB ?_)));(try intro _);conv=>whnf)
  conv=>whnf
  refine ⟨_,rws_get hk,?_⟩;conv=>whnf
  try (refine And.intro (by first|omega|exact Nat.le_of_ble_eq_true rfl) ?_;(try intro _);conv=>whnf)
  conv=>whnf
  repeat ((first|(guard_target=_∧_;(fail_if_success refine oF ?_ ?_);(first|refine oL ?_|refine oR ?_|refine oB ?_)));(try intro _);conv=>whnf)
  conv=>whnf
  refine ⟨_,rws_get hk2,?_⟩;conv=>whnf
  try (refine And.intro (by first|omega|exact Nat.le_of_ble_eq_true rfl) ?_;(try intro _);conv=>whnf)
  conv=>whnf
  refine ⟨fun hs=>?_,fun hs=>?_⟩<;>conv=>whnf
  ·try refine gR ?_
   conv=>whnf
   (try refine gS ?_);conv=>whnf
   repeat ((first|(guard_target=_∧_;(fail_if_success refine oF ?_ ?_);(first|refine oL ?_|refine oR ?_)));(try intro _);conv=>whnf)
   refine RunsS.subR [] (back (k+1) (by exact (⟨hk,more_at hk hk2 hJ.2 (Mc.ext_iff'.2 hs)⟩)) (by (try dsimp only);omega)) sH sH
  (try refine gR ?_);conv=>whnf
  (try refine gS ?_);conv=>whnf
  rw [no fun e=>hs (Mc.ext_iff'.1 (at_eq ((SrcV.of_bare e).2.2.2.1) hk hk2))]
  try refine RunsS.retU ?_
  exact UnwS.ret tab Tryz.func13 rfl (eN () trivial)
 have eM:=all_at nM fun j h1 h2=>hJ.2 j (by omega) h1 h2
 clear back hJ
 conv=>whnf
 refine RunsS.nameCell (fun _ x=>x) 0 4 (by exact hT.1.O) ?_
 conv=>whnf
 (try refine gS ?_);conv=>whnf
 refine RunsS.nameCell (fun _ x=>x) 1 4 (by exact hT.2.O) ?_
 conv=>whnf
 (try refine gS ?_);conv=>whnf
 refine RunsS.subR [] (RunsS.loop (fun (k:Nat)=>[(8,.v (.int .i64 k)),(2,.ptr 0 0),(3,.ptr 1 0)]) (fun (k:Nat)=>[(0,.cells 32 [.buf 2,.buf 4,.v vP,.buf 6,.buf 8,.v (.slice aaF a.forbids.length caF),.v (.slice aaR a.recipes.length caR),.v (.slice aaS a.swaps.length caS)]),(1,.cells 32 [.buf 3,.buf 5,.v wP,.buf 7,.buf 9,.v (.slice abF b.forbids.length cbF),.v (.slice abR b.recipes.length cbR),.v (.slice abS b.swaps.length cbS)]),(8,.ro 2 (rws OpV.row a.options)),(9,.ro 2 (rws OpV.row b.options))]) 10 (fun (k:Nat)=>k≤a.options.length ∧ ∀j (_:j<k) (ha:j<a.options.length) (hb:j<b.options.length),OpV.bare a.options[j]=OpV.bare b.options[j]) (fun (k:Nat)=>a.options.length - k) ?round8 (0) ?J08) sH sH
 case J08=>exact (⟨Nat.zero_le _,fun j hj=>absurd hj (Nat.not_lt_zero _)⟩)
 rintro k hJ back
 conv=>whnf
 refine gS ?_;conv=>whnf
 refine ⟨fun hk=>?_,fun hk=>?_⟩<;>conv=>whnf
 ·have hk:k<a.options.length:=by omega
  have hk2:k<b.options.length:=by omega
  conv=>whnf
  refine RunsS.held tab (.fl 0 (.fl 1 (.fl 2 (.fl 3 (.fl 4 (.fl 5 (.fl 6 (.fl 7 (.fl 8 (.fl 9 (.fl 10 (.fl 11 (.fl 12 (.fl 13 (.fl 14 (.fl 15 (.fl 16 (.fl 17 (.fl 18 (.fl 19 (.fl 20 (.fl 21 (.fl 22 (.fl 23 (.fl 24 (.fl 25 (.e1 26 [] (.fl 27 (.fl 28 .done))))))))))))))))))))))))))))) (by kernel_rfl) ?_;conv=>whnf
  (try refine gR ?_);conv=>whnf
  repeat ((first|(guard_target=_∧_;(fail_if_success refine oF ?_ ?_);(first|refine oL ?_|refine oR ?_|refine oB ?_)));(try intro _);conv=>whnf)
  conv=>whnf
  refine ⟨_,rws_get hk,?_⟩;conv=>whnf
  try (refine And.intro (by first|omega|exact Nat.le_of_ble_eq_true rfl) ?_;(try intro _);conv=>whnf)
  conv=>whnf
  refine ⟨_,rws_get hk2,?_⟩;conv=>whnf
  conv=>whnf
  refine ⟨fun hs=>?_,fun hs=>?_⟩<;>conv=>whnf
  rotate_left
  ·try refine gR ?_
   conv=>whnf
   repeat ((first|(guard_target=_∧_;(fail_if_success refine oF ?_ ?_);(first|refine oL ?_|refine oR ?_|refine oB ?_)));(try intro _);conv=>whnf)
   (try refine gS ?_);conv=>whnf
   rw [no fun e=>hs (OpV.bare_iff.1 (map_at (SrcV.of_bare e).2.2.2.2.1 hk hk2)).1]
   try refine RunsS.retU ?_
   exact UnwS.ret tab Tryz.func13 rfl (eN () trivial)
  (try refine gR ?_);conv=>whnf
  repeat ((first|(guard_target=_∧_;(fail_if_success refine oF ?_ ?_);(first|refine oL ?_|refine oR ?_|refine oB ?_)));(try intro _);conv=>whnf)
  conv=>whnf
  refine ⟨_,rws_get hk,?_⟩;conv=>whnf
  try (refine And.intro (by first|omega|exact Nat.le_of_ble_eq_true rfl) ?_;(try intro _);conv=>whnf)
  conv=>whnf
  refine ⟨_,rws_get hk2,?_⟩;conv=>whnf
  conv=>whnf
  refine EffR.callT (Two.tok _ _ _ _ _) (⟨hT.1.below.o _ (List.getElem_mem hk),hT.2.below.o _ (List.getElem_mem hk2)⟩) (sNames_fn (a.options[k].hd.v a.options[k].ch.length) (b.options[k].hd.v b.options[k].ch.length) a.options[k].ch b.options[k].ch) [] ?_ sH ?CNa9
  case CNa9=>rfl
  intro _ _
  conv=>whnf
  try refine oB ?_
  (try refine gR ?_);conv=>whnf
  (try refine gS ?_);conv=>whnf
  by_cases hc:a.options[k].ch=b.options[k].ch
  ·rw [eqB_yes hc]
   conv=>whnf
   repeat ((first|(guard_target=_∧_;(fail_if_success refine oF ?_ ?_);(first|refine oL ?_|refine oR ?_)));(try intro _);conv=>whnf)
   refine RunsS.subR [] (back (k+1) (by exact (⟨hk,more_by hk hk2 hJ.2 (OpV.bare_iff.2 ⟨hs,hc⟩)⟩)) (by (try dsimp only);omega)) sH sH
  rw [eqB_no hc]
  conv=>whnf
  (try refine gS ?_);conv=>whnf
  rw [no fun e=>hc (OpV.bare_iff.1 (map_at (SrcV.of_bare e).2.2.2.2.1 hk hk2)).2]
  try refine RunsS.retU ?_
  exact UnwS.ret tab Tryz.func13 rfl (eN () trivial)
 have eO:=map_all nO fun j h1 h2=>hJ.2 j (by omega) h1 h2
 clear back hJ
 conv=>whnf
 refine RunsS.nameCell (fun _ x=>x) 0 5 (by exact hT.1.F) ?_
 conv=>whnf
 (try refine gS ?_);conv=>whnf
 refine RunsS.nameCell (fun _ x=>x) 1 5 (by exact hT.2.F) ?_
 conv=>whnf
 (try refine gS ?_);conv=>whnf
 refine RunsS.subR [] (RunsS.loop (fun (k:Nat)=>[(9,.v (.int .i64 k)),(2,.ptr 0 0),(3,.ptr 1 0)]) (fun (k:Nat)=>[(0,.cells 32 [.buf 2,.buf 4,.v vP,.buf 6,.buf 8,.buf 10,.v (.slice aaR a.recipes.length caR),.v (.slice aaS a.swaps.length caS)]),(1,.cells 32 [.buf 3,.buf 5,.v wP,.buf 7,.buf 9,.buf 11,.v (.slice abR b.recipes.length cbR),.v (.slice abS b.swaps.length cbS)]),(10,.ro 1 (rws FbV.row a.forbids)),(11,.ro 1 (rws FbV.row b.forbids))]) 12 (fun (k:Nat)=>k≤a.forbids.length ∧ ∀j (_:j<k) (ha:j<a.forbids.length) (hb:j<b.forbids.length),FbV.bare a.forbids[j]=FbV.bare b.forbids[j]) (fun (k:Nat)=>a.forbids.length - k) ?round11 (0) ?J011) sH sH
 case J011=>exact (⟨Nat.zero_le _,fun j hj=>absurd hj (Nat.not_lt_zero _)⟩)
 rintro k hJ back
 conv=>whnf
 refine gS ?_;conv=>whnf
 refine ⟨fun hk=>?_,fun hk=>?_⟩<;>conv=>whnf
 ·have hk:k<a.forbids.length:=by omega
  have hk2:k<b.forbids.length:=by omega
  conv=>whnf
  refine RunsS.held tab (.fl 0 (.fl 1 (.fl 2 (.fl 3 (.fl 4 (.fl 5 (.fl 6 (.fl 7 (.fl 8 (.fl 9 (.e1 10 [] (.fl 11 .done)))))))))))) (by kernel_rfl) ?_;conv=>whnf
  (try refine gR ?_);conv=>whnf
  repeat ((first|(guard_target=_∧_;(fail_if_success refine oF ?_ ?_);(first|refine oL ?_|refine oR ?_|refine oB ?_)));(try intro _);conv=>whnf)
  conv=>whnf
  refine ⟨_,rws_get hk,?_⟩;conv=>whnf
  try (refine And.intro (by first|omega|exact Nat.le_of_ble_eq_true rfl) ?_;(try intro _);conv=>whnf)
  conv=>whnf
  refine ⟨_,rws_get hk2,?_⟩;conv=>whnf
  conv=>whnf
  refine EffR.callT (Two.tok _ _ _ _ _) (⟨hT.1.below.f _ (List.getElem_mem hk),hT.2.below.f _ (List.getElem_mem hk2)⟩) (sConds_fn (a.forbids[k].hd.v a.forbids[k].cs.length) (b.forbids[k].hd.v b.forbids[k].cs.length) a.forbids[k].cs b.forbids[k].cs) [] ?_ sH ?CNa12
  case CNa12=>rfl
  intro _ _
  conv=>whnf
  try refine oB ?_
  (try refine gR ?_);conv=>whnf
  (try refine gS ?_);conv=>whnf
  by_cases hc:a.forbids[k].cs=b.forbids[k].cs
  ·rw [eqB_yes hc]
   conv=>whnf
   repeat ((first|(guard_target=_∧_;(fail_if_success refine oF ?_ ?_);(first|refine oL ?_|refine oR ?_)));(try intro _);conv=>whnf)
   refine RunsS.subR [] (back (k+1) (by exact (⟨hk,more_by hk hk2 hJ.2 (FbV.bare_iff.2 hc)⟩)) (by (try dsimp only);omega)) sH sH
  rw [eqB_no hc]
  conv=>whnf
  (try refine gS ?_);conv=>whnf
  rw [no fun e=>hc (FbV.bare_iff.1 (map_at (SrcV.of_bare e).2.2.2.2.2.1 hk hk2))]
  try refine RunsS.retU ?_
  exact UnwS.ret tab Tryz.func13 rfl (eN () trivial)
 have eF:=map_all nF fun j h1 h2=>hJ.2 j (by omega) h1 h2
 clear back hJ
 conv=>whnf
 refine RunsS.nameCell (fun _ x=>x) 0 6 (by exact hT.1.R) ?_
 conv=>whnf
 (try refine gS ?_);conv=>whnf
 refine RunsS.nameCell (fun _ x=>x) 1 6 (by exact hT.2.R) ?_
 conv=>whnf
 (try refine gS ?_);conv=>whnf
 refine RunsS.subR [] (RunsS.loop (fun (k:Nat)=>[(10,.v (.int .i64 k)),(2,.ptr 0 0),(3,.ptr 1 0)]) (fun (k:Nat)=>[(0,.cells 32 [.buf 2,.buf 4,.v vP,.buf 6,.buf 8,.buf 10,.buf 12,.v (.slice aaS a.swaps.length caS)]),(1,.cells 32 [.buf 3,.buf 5,.v wP,.buf 7,.buf 9,.buf 11,.buf 13,.v (.slice abS b.swaps.length cbS)]),(12,.ro 17 (rws RcV.row a.recipes)),(13,.ro 17 (rws RcV.row b.recipes))]) 14 (fun (k:Nat)=>k≤a.recipes.length ∧ ∀j (_:j<k) (ha:j<a.recipes.length) (hb:j<b.recipes.length),RcV.bare a.recipes[j]=RcV.bare b.recipes[j]) (fun (k:Nat)=>a.recipes.length - k) ?round14 (0) ?J014) sH sH
 case J014=>exact (⟨Nat.zero_le _,fun j hj=>absurd hj (Nat.not_lt_zero _)⟩)
 rintro k hJ back
 conv=>whnf
 refine gS ?_;conv=>whnf
 refine ⟨fun hk=>?_,fun hk=>?_⟩<;>conv=>whnf
 ·have hk:k<a.recipes.length:=by omega
  have hk2:k<b.recipes.length:=by omega
  conv=>whnf
  refine RunsS.held tab (.fl 0 (.fl 1 (.fl 2 (.fl 3 (.fl 4 (.fl 5 (.fl 6 (.fl 7 (.fl 8 (.fl 9 (.e1 10 [] (.fl 11 .done)))))))))))) (by kernel_rfl) ?_;conv=>whnf
  (try refine gR ?_);conv=>whnf
  repeat ((first|(guard_target=_∧_;(fail_if_success refine oF ?_ ?_);(first|refine oL ?_|refine oR ?_|refine oB ?_)));(try intro _);conv=>whnf)
  conv=>whnf
  refine ⟨_,rws_get hk,?_⟩;conv=>whnf
  try (refine And.intro (by first|omega|exact Nat.le_of_ble_eq_true rfl) ?_;(try intro _);conv=>whnf)
  conv=>whnf
  repeat ((first|(guard_target=_∧_;(fail_if_success refine oF ?_ ?_);(first|refine oL ?_|refine oR ?_|refine oB ?_)));(try intro _);conv=>whnf)
  conv=>whnf
  refine ⟨_,rws_get hk2,?_⟩;conv=>whnf
  try (refine And.intro (by first|omega|exact Nat.le_of_ble_eq_true rfl) ?_;(try intro _);conv=>whnf)
  conv=>whnf
  refine EffR.callT (TwoR.tok _ _) (⟨hT.1.below.r _ (List.getElem_mem hk),hT.2.below.r _ (List.getElem_mem hk2)⟩) (sRc_fn a.recipes[k] b.recipes[k]) [] ?_ sH ?CNa15
  case CNa15=>rfl
  intro _ _
  conv=>whnf
  try refine oB ?_
  (try refine gR ?_);conv=>whnf
  (try refine gS ?_);conv=>whnf
  by_cases hc:a.recipes[k].bare=b.recipes[k].bare
  ·rw [eqB_yes hc]
   conv=>whnf
   repeat ((first|(guard_target=_∧_;(fail_if_success refine oF ?_ ?_);(first|refine oL ?_|refine oR ?_)));(try intro _);conv=>whnf)
   refine RunsS.subR [] (back (k+1) (by exact (⟨hk,more_by hk hk2 hJ.2 hc⟩)) (by (try dsimp only);omega)) sH sH
  rw [eqB_no hc]
  conv=>whnf
  (try refine gS ?_);conv=>whnf
  rw [no fun e=>hc (map_at (SrcV.of_bare e).2.2.2.2.2.2.1 hk hk2)]
  try refine RunsS.retU ?_
  exact UnwS.ret tab Tryz.func13 rfl (eN () trivial)
 have eR:=map_all nR fun j h1 h2=>hJ.2 j (by omega) h1 h2
 clear back hJ
 conv=>whnf
 refine RunsS.nameCell (fun _ x=>x) 0 7 (by exact hT.1.S) ?_
 conv=>whnf
 (try refine gS ?_);conv=>whnf
 refine RunsS.nameCell (fun _ x=>x) 1 7 (by exact hT.2.S) ?_
 conv=>whnf
 (try refine gS ?_);conv=>whnf
 refine RunsS.subR [] (RunsS.loop (fun (k:Nat)=>[(11,.v (.int .i64 k)),(2,.ptr 0 0),(3,.ptr 1 0)]) (fun (k:Nat)=>[(0,.cells 32 [.buf 2,.buf 4,.v vP,.buf 6,.buf 8,.buf 10,.buf 12,.buf 14]),(1,.cells 32 [.buf 3,.buf 5,.v wP,.buf 7,.buf 9,.buf 11,.buf 13,.buf 15]),(14,.ro 4 (rws Sw.row a.swaps)),(15,.ro 4 (rws Sw.row b.swaps))]) 16 (fun (k:Nat)=>k≤a.swaps.length ∧ ∀j (_:j<k) (ha:j<a.swaps.length) (hb:j<b.swaps.length),a.swaps[j]=b.swaps[j]) (fun (k:Nat)=>a.swaps.length - k) ?round17 (0) ?J017) sH sH
 case J017=>exact (⟨Nat.zero_le _,fun j hj=>absurd hj (Nat.not_lt_zero _)⟩)
 rintro k hJ back
 conv=>whnf
 refine gS ?_;conv=>whnf
 refine ⟨fun hk=>?_,fun hk=>?_⟩<;>conv=>whnf
 ·have hk:k<a.swaps.length:=by omega
  have hk2:k<b.swaps.length:=by omega
  conv=>whnf
  refine RunsS.held tab (.fl 0 (.fl 1 (.fl 2 (.fl 3 (.fl 4 (.fl 5 (.fl 6 (.fl 7 (.fl 8 (.fl 9 (.fl 10 .done))))))))))) (by kernel_rfl) ?_;conv=>whnf
  (try refine gR ?_);conv=>whnf
  repeat ((first|(guard_target=_∧_;(fail_if_success refine oF ?_ ?_);(first|refine oL ?_|refine oR ?_|refine oB ?_)));(try intro _);conv=>whnf)
  conv=>whnf
  refine ⟨_,rws_get hk,?_⟩;conv=>whnf
  try (refine And.intro (by first|omega|exact Nat.le_of_ble_eq_true rfl) ?_;(try intro _);conv=>whnf)
  conv=>whnf
  repeat ((first|(guard_target=_∧_;(fail_if_success refine oF ?_ ?_);(first|refine oL ?_|refine oR ?_|refine oB ?_)));(try intro _);conv=>whnf)
  conv=>whnf
  refine ⟨_,rws_get hk2,?_⟩;conv=>whnf
  try (refine And.intro (by first|omega|exact Nat.le_of_ble_eq_true rfl) ?_;(try intro _);conv=>whnf)
  conv=>whnf
  refine ⟨fun hs=>?_,fun hs=>?_⟩<;>conv=>whnf
  ·try refine gR ?_
   conv=>whnf
   (try refine gS ?_);conv=>whnf
   repeat ((first|(guard_target=_∧_;(fail_if_success refine oF ?_ ?_);(first|refine oL ?_|refine oR ?_)));(try intro _);conv=>whnf)
   refine RunsS.subR [] (back (k+1) (by exact (⟨hk,more_at hk hk2 hJ.2 (Sw.ext_iff'.2 hs)⟩)) (by (try dsimp only);omega)) sH sH
  (try refine gR ?_);conv=>whnf
  (try refine gS ?_);conv=>whnf
  rw [no fun e=>hs (Sw.ext_iff'.1 (at_eq ((SrcV.of_bare e).2.2.2.2.2.2.2) hk hk2))]
  try refine RunsS.retU ?_
  exact UnwS.ret tab Tryz.func13 rfl (eN () trivial)
 have eS:=all_at nS fun j h1 h2=>hJ.2 j (by omega) h1 h2
 clear back hJ
 conv=>whnf
 have:r=true:=by rw [hr];exact eqB_yes (SrcV.bare_mk eU eI eP eM eO eF eR eS)
 rw [this]
 try refine RunsS.retU ?_
 exact UnwS.ret tab Tryz.func13 rfl (eN () trivial)
end
end Go.Proofs.YtgbeechjghajcaaGreatDoor

namespace Go.SrcM
open Go Go.Fw Go.RatM
section
variable {α:Type} {f:α→Nat} {l:List α}
def sumK (f:α→Nat) (l:List α) (k:Nat):Nat:=((l.take k).map f).sum
theorem sumK_zero:sumK f l 0=0:=rfl
theorem sumK_succ {k:Nat} (hk:k<l.length):sumK f l (k+1)=sumK f l k+f l[k]:=by
 unfold sumK
 rw [take_snoc hk,List.map_append,List.sum_append];simp
theorem sumK_all:sumK f l l.length=(l.map f).sum:=by unfold sumK;rw [List.take_length]
theorem sumK_le (k:Nat):sumK f l k≤(l.map f).sum:=by
 have e:(l.map f).sum=((l.take k).map f).sum+((l.drop k).map f).sum:=by rw [←List.sum_append,←List.map_append,List.take_append_drop]
 unfold sumK;omega
theorem sumK_mem {a:α} (h:a∈l):f a≤(l.map f).sum:=by
 induction l with
 |nil=>cases h
 |cons b l ih=>
  rcases List.mem_cons.1 h with rfl|h
  ·simp
  have:=ih h;simp;omega
theorem sumK_len:l.length≤(l.map fun a=>1+f a).sum:=by
 induction l with
 |nil=>exact Nat.zero_le _
 |cons b l ih=>simp only [List.map_cons,List.sum_cons,List.length_cons];omega
end
abbrev fwO (o:OpV):Nat:=1+o.ch.length
abbrev fwF (o:FbV):Nat:=1+o.cs.length
abbrev fwR (r:RcV):Nat:=1+(r.cs.length+r.inn.length+r.out.length+r.runs.length)
def fewN (s:SrcV):Nat:=s.units.length+s.items.length+s.plants.length+s.machines.length+s.swaps.length+(s.options.map fwO).sum+(s.forbids.map fwF).sum+(s.recipes.map fwR).sum
theorem fewN_lens {s:SrcV} {n:Nat} (h:fewN s≤n) (hn:n≤1000000):Lens s:=by
 unfold fewN at h
 have h1:s.options.length≤(s.options.map fwO).sum:=sumK_len (f:=fun o:OpV=>o.ch.length)
 have h2:s.forbids.length≤(s.forbids.map fwF).sum:=sumK_len (f:=fun o:FbV=>o.cs.length)
 have h3:s.recipes.length≤(s.recipes.map fwR).sum:=sumK_len (f:=fun r:RcV=>r.cs.length+r.inn.length+r.out.length+r.runs.length)
 have g1:∀a∈s.options,fwO a≤(s.options.map fwO).sum:=fun a ha=>sumK_mem (f:=fwO) ha
 have g2:∀a∈s.forbids,fwF a≤(s.forbids.map fwF).sum:=fun a ha=>sumK_mem (f:=fwF) ha
 have g3:∀a∈s.recipes,fwR a≤(s.recipes.map fwR).sum:=fun a ha=>sumK_mem (f:=fwR) ha
 exact ⟨by omega,by omega,by omega,by omega,by omega,by omega,by omega,by omega,fun a ha=>by have:=g1 a ha;simp only [fwO] at this;omega,fun a ha=>by have:=g2 a ha;simp only [fwF] at this;omega,
  fun a ha=>by have:=g3 a ha;simp only [fwR] at this;exact ⟨by omega,by omega,by omega,by omega⟩⟩
end Go.SrcM
namespace Go.Proofs.YtgbeechjghajcaaGreatDoor
open Go Go.Fw Go.NatM Go.RatM Go.SrcM
set_option maxRecDepth 100000
set_option maxHeartbeats 99999999
section
variable {vU vI vP vM vO vF vR vS:Value}
theorem sFew_fn (s:SrcV) (hB:fewN s≤4000000000000000000):FnT Tryz.prog (TopT vU vI vP vM vO vF vR vS s) 14 0 [srcA vU vI vP vM vO vF vR vS] [] (fun _:Unit=>True) (fun _=>.ret (.v (.bool (decide (fewN s≤160)))) 0 []):=by
 obtain ⟨oS,hoS⟩:∃x,x=(s.options.map fwO).sum:=⟨_,rfl⟩
 obtain ⟨fS,hfS⟩:∃x,x=(s.forbids.map fwF).sum:=⟨_,rfl⟩
 obtain ⟨rS,hrS⟩:∃x,x=(s.recipes.map fwR).sum:=⟨_,rfl⟩
 have hE:fewN s=s.units.length+s.items.length+s.plants.length+s.machines.length+s.swaps.length+oS+fS+rS:=by rw [hoS,hfS,hrS];rfl
 obtain ⟨r,hr⟩:∃r,r=decide (fewN s≤160):=⟨_,rfl⟩
 rw [←hr]
 rw [hE] at hr hB
 have lO:=rws_len OpV.row s.options
 have lF:=rws_len FbV.row s.forbids
 have lR:=rws_len RcV.row s.recipes
 refine FnT.of Tryz.func14 (by kernel_rfl) rfl Tryz.ntmps14 rfl fun E0 F h hT w0 cs=>?_
 have hTb:=hT.below
 obtain ⟨aU,cU,rfl⟩:=RoF.sli hT.U (rowsU_len s.units)
 obtain ⟨aI,cI,rfl⟩:=RoF.sli hT.I (rws_len It.row s.items)
 obtain ⟨aP,cP,rfl⟩:=RoF.sli hT.P (rwsB_len s.plants)
 obtain ⟨aM,cM,rfl⟩:=RoF.sli hT.M (rws_len Mc.row s.machines)
 obtain ⟨aS,cS,rfl⟩:=RoF.sli hT.S (rws_len Sw.row s.swaps)
 have mO:=hT.O.len
 have mF:=hT.F.len
 have mR:=hT.R.len
 conv=>whnf
 (try refine gS ?_);conv=>whnf
 repeat ((first|refine oL ?_|refine oR ?_);(try intro _);conv=>whnf)
 refine RunsS.nameCell (fun _ x=>x) 0 4 (by exact hT.O) ?_
 conv=>whnf
 (try refine gS ?_);conv=>whnf
 obtain ⟨b,hb⟩:∃b:Nat,b=s.units.length+s.items.length+s.plants.length+s.machines.length+s.swaps.length:=⟨_,rfl⟩
 refine RunsS.subR [] (RunsS.loop (fun (⟨k,n⟩:Nat×Int)=>[(3,.v (.int .i64 n)),(4,.v (.int .i64 k)),(1,.ptr 0 0)]) (fun (⟨k,n⟩:Nat×Int)=>[(0,.cells 32 [.v (.slice aU s.units.length cU),.v (.slice aI s.items.length cI),.v (.slice aP s.plants.length cP),.v (.slice aM s.machines.length cM),.buf 1,.v vF,.v vR,.v (.slice aS s.swaps.length cS)]),(1,.ro 2 (rws OpV.row s.options))]) 2 (fun (⟨k,n⟩:Nat×Int)=>k≤s.options.length∧n=(b+sumK fwO s.options k:Nat)) (fun (⟨k,n⟩:Nat×Int)=>s.options.length - k) ?round1 ((0,(s.units.length:Int)+s.items.length+s.plants.length+s.machines.length+s.swaps.length)) ?J01) sH sH
 case J01=>exact (⟨Nat.zero_le _,by rw [sumK_zero];omega⟩)
 rintro ⟨k,n⟩ hJ back
 try dsimp only at hJ back
 conv=>whnf
 try dsimp only
 refine gS ?_;conv=>whnf
 refine ⟨fun hk=>?_,fun hk=>?_⟩<;>conv=>whnf
 ·have hk:k<s.options.length:=by omega
  have hs1:=sumK_succ (f:=fwO) hk
  have hs2:=sumK_le (f:=fwO) (l:=s.options) (k+1)
  simp only [fwO] at hs1
  conv=>whnf
  repeat ((first|refine oL ?_|refine oR ?_);(try intro _);conv=>whnf)
  refine ⟨_,rws_get hk,?_⟩;conv=>whnf
  try (refine oN ?_;conv=>whnf)
  repeat ((first|refine oL ?_|refine oR ?_);(try intro _);conv=>whnf)
  refine RunsS.subR [] (back ((k+1,n+1+s.options[k].ch.length)) (by exact (⟨hk,by dsimp only;rw [hs1];omega⟩)) (by (try dsimp only);omega)) sH sH
 have hn:=hJ.2
 have hk:k=s.options.length:=by omega
 rw [hk,sumK_all,←hoS] at hn
 clear back hJ
 conv=>whnf
 refine RunsS.nameCell (fun _ x=>x) 0 5 (by exact hT.F) ?_
 conv=>whnf
 (try refine gS ?_);conv=>whnf
 clear hk
 refine RunsS.subR [] (RunsS.loop (fun (⟨k,m⟩:Nat×Int)=>[(3,.v (.int .i64 m)),(5,.v (.int .i64 k)),(1,.ptr 0 0)]) (fun (⟨k,m⟩:Nat×Int)=>[(0,.cells 32 [.v (.slice aU s.units.length cU),.v (.slice aI s.items.length cI),.v (.slice aP s.plants.length cP),.v (.slice aM s.machines.length cM),.buf 1,.buf 2,.v vR,.v (.slice aS s.swaps.length cS)]),(2,.ro 1 (rws FbV.row s.forbids))]) 3 (fun (⟨k,m⟩:Nat×Int)=>k≤s.forbids.length∧m=(b+oS+sumK fwF s.forbids k:Nat)) (fun (⟨k,m⟩:Nat×Int)=>s.forbids.length - k) ?round3 ((0,n)) ?J03) sH sH
 case J03=>exact (⟨Nat.zero_le _,by rw [sumK_zero];omega⟩)
 rintro ⟨k,m⟩ hJ back
 try dsimp only at hJ back
 conv=>whnf
 try dsimp only
 refine gS ?_;conv=>whnf
 refine ⟨fun hk=>?_,fun hk=>?_⟩<;>conv=>whnf
 ·have hk:k<s.forbids.length:=by omega
  have hs1:=sumK_succ (f:=fwF) hk
  have hs2:=sumK_le (f:=fwF) (l:=s.forbids) (k+1)
  simp only [fwF] at hs1
  conv=>whnf
  repeat ((first|refine oL ?_|refine oR ?_);(try intro _);conv=>whnf)
  refine ⟨_,rws_get hk,?_⟩;conv=>whnf
  try (refine oN ?_;conv=>whnf)
  repeat ((first|refine oL ?_|refine oR ?_);(try intro _);conv=>whnf)
  refine RunsS.subR [] (back ((k+1,m+1+s.forbids[k].cs.length)) (by exact (⟨hk,by dsimp only;rw [hs1];omega⟩)) (by (try dsimp only);omega)) sH sH
 have hm:=hJ.2
 have hk:k=s.forbids.length:=by omega
 rw [hk,sumK_all,←hfS] at hm
 clear back hJ
 conv=>whnf
 refine RunsS.nameCell (fun _ x=>x) 0 6 (by exact hT.R) ?_
 conv=>whnf
 (try refine gS ?_);conv=>whnf
 clear hk
 refine RunsS.subR [] (RunsS.loop (fun (⟨k,q⟩:Nat×Int)=>[(3,.v (.int .i64 q)),(6,.v (.int .i64 k)),(1,.ptr 0 0)]) (fun (⟨k,q⟩:Nat×Int)=>[(0,.cells 32 [.v (.slice aU s.units.length cU),.v (.slice aI s.items.length cI),.v (.slice aP s.plants.length cP),.v (.slice aM s.machines.length cM),.buf 1,.buf 2,.buf 3,.v (.slice aS s.swaps.length cS)]),(3,.ro 17 (rws RcV.row s.recipes))]) 4 (fun (⟨k,q⟩:Nat×Int)=>k≤s.recipes.length∧q=(b+oS+fS+sumK fwR s.recipes k:Nat)) (fun (⟨k,q⟩:Nat×Int)=>s.recipes.length - k) ?round5 ((0,m)) ?J05) sH sH
 case J05=>exact (⟨Nat.zero_le _,by rw [sumK_zero];omega⟩)
 rintro ⟨k,q⟩ hJ back
 try dsimp only at hJ back
 conv=>whnf
 try dsimp only
 refine gS ?_;conv=>whnf
 refine ⟨fun hk=>?_,fun hk=>?_⟩<;>conv=>whnf
 ·have hk:k<s.recipes.length:=by omega
  have hs1:=sumK_succ (f:=fwR) hk
  have hs2:=sumK_le (f:=fwR) (l:=s.recipes) (k+1)
  simp only [fwR] at hs1
  conv=>whnf
  repeat ((first|refine oL ?_|refine oR ?_);(try intro _);conv=>whnf)
  refine ⟨_,rws_get hk,?_⟩;conv=>whnf
  try (refine oN ?_;conv=>whnf)
  repeat ((first|refine oL ?_|refine oR ?_);(try intro _);conv=>whnf)
  refine RunsS.subR [] (back ((k+1,q+1+s.recipes[k].cs.length+s.recipes[k].inn.length+s.recipes[k].out.length+s.recipes[k].runs.length)) (by exact (⟨hk,by dsimp only;rw [hs1];omega⟩)) (by (try dsimp only);omega)) sH sH
 have hq:=hJ.2
 have hk:k=s.recipes.length:=by omega
 rw [hk,sumK_all,←hrS] at hq
 clear back hJ
 conv=>whnf
 have:r=decide (q≤160):=by rw [hr];exact decide_eq_decide.2 ⟨fun h=>by omega,fun h=>by omega⟩
 rw [this]
 try refine RunsS.retU ?_
 exact UnwS.ret tab Tryz.func14 rfl (eN () trivial)
end
end Go.Proofs.YtgbeechjghajcaaGreatDoor

namespace Go.Proofs.YtgbeechjghajcaaGreatDoor
open Go Go.Fw Go.NatM Go.RatM Go.SrcM Go.SynM
set_option maxRecDepth 100000
set_option maxHeartbeats 99999999
def ptRow:Pt→List Value
 | .w l=>[.iface 157 (.string (B l))]
 | .s x=>[.iface 9 (.string x)]
 | .n i=>[.iface 3 (.int .i64 i)]
abbrev Ac:=List Tok×Bool
def acc (x:Ac) (p:Pr):Ac:=(x.1++tokPs NmP p.l,x.2 || !(okPs NmP p.l&&p.ok))
theorem acc_add (x:Ac) (p q:Pr):acc (acc x p) q=acc x (p.add q):=by
 unfold acc Pr.add
 simp only [tokPs_app,List.append_assoc,Prod.mk.injEq,true_and]
 have:okPs NmP (p.l++q.l)=(okPs NmP p.l&&okPs NmP q.l):=by simp [okPs]
 rw [this]
 cases x.2<;>cases okPs NmP p.l<;>cases okPs NmP q.l<;>cases p.ok<;>cases q.ok<;>rfl
theorem acc_nil (x:Ac):acc x Pr.nil=x:=by
 unfold acc Pr.nil
 simp [tokPs,okPs]
abbrev prB (b:Bool) (n:Nat):Nat×Fw.Blk:=(0,.cells 91 [.buf n,.v (.bool b)])
def outY (n:Nat) (y:Ac):OutS:=.ret (.tup []) (n+1) [prB y.2 n,toksB y.1 n]
theorem wordT:Tryz.prog.underlying 157=some .string:=by kernel_rfl
theorem intT:Tryz.prog.underlying 3=some (.int .i64):=by kernel_rfl
theorem wordZ (w:World):(zeroValue 157).run Tryz.prog w=.ok (.string ⟨#[]⟩) w:=by kernel_rfl
theorem strZ (w:World):(zeroValue 9).run Tryz.prog w=.ok (.string ⟨#[]⟩) w:=by kernel_rfl
theorem stT2:Tryz.prog.underlying 9=some .string:=by kernel_rfl
theorem acc_len (x:Ac) (p:Pr):(acc x p).1.length=x.1.length+p.l.length:=by simp [acc,tokPs]
theorem acc_eq {x:Ac} {p q:Pr} (h1:p.l=q.l) (h2:p.ok=q.ok):acc x p=acc x q:=by unfold acc;rw [h1,h2]
theorem acc_need (x:Ac) (b:Bool):(x.1,x.2 || !b)=acc x ⟨[],b⟩:=by simp [acc,tokPs,okPs]
theorem pneed_fn (x:Ac) (c:Bool):FnS Tryz.prog 146 2 [.ptr 0 0,.v (.bool c)] [prB x.2 1,toksB x.1 1] (fun y=>y=acc x ⟨[],c⟩) (fun y=>.ret (.tup []) 2 [prB y.2 1,toksB y.1 1]):=by
 obtain ⟨x,b⟩:=x
 refine FnS.of Tryz.func146 (by kernel_rfl) rfl Tryz.ntmps146 rfl fun E0 F h w0 cs=>?_
 conv=>whnf
 refine gS ?_;conv=>whnf
 cases b
 ·cases c
  ·try refine gS ?_
   conv=>whnf
   try refine RunsS.finU ?_
   exact UnwS.ret tab Tryz.func146 rfl (EndS.mk ((x,true)) (acc_need (x,false) false) [] sH rfl rfl (okRet rfl rfl))
  (try refine gS ?_);conv=>whnf
  try refine RunsS.finU ?_
  exact UnwS.ret tab Tryz.func146 rfl (EndS.mk ((x,false)) (acc_need (x,false) true) [] sH rfl rfl (okRet rfl rfl))
 (try refine gS ?_);conv=>whnf
 try refine RunsS.finU ?_
 exact UnwS.ret tab Tryz.func146 rfl (EndS.mk ((x,true)) (acc_need (x,true) c) [] sH rfl rfl (okRet rfl rfl))
theorem padd_fn (x:Ac) (ps:List Pt) (hl:x.1.length+ps.length≤1000000):FnS Tryz.prog 93 3 [.ptr 0 0,.buf 2] [prB x.2 1,toksB x.1 1,(2,.own 20 1 (rws ptRow ps))] (fun y=>y=acc x ⟨ps,true⟩) (outY 3):=by
 have lp:=rws_len ptRow ps
 refine FnS.of Tryz.func93 (by kernel_rfl) rfl Tryz.ntmps93 rfl fun E0 F h w0 cs=>?_
 conv=>whnf
 refine gS ?_;conv=>whnf
 refine RunsS.subR (nx':=4) (l':=[(0,.ptr 0 0),(10,.buf 2),(11,.v (.int .i64 (rws ptRow ps).length)),(12,.v (.int .i64 0))]) (H':=[prB x.2 3,toksB x.1 3,(2,.own 20 1 (rws ptRow ps))]) [(3,1)] ?_ sH sH
 refine RunsS.subR [] (RunsS.loop (fun (⟨i,y⟩:Nat×Ac)=>[(0,.ptr 0 0),(10,.buf 2),(11,.v (.int .i64 (rws ptRow ps).length)),(12,.v (.int .i64 i))]) (fun (⟨i,y⟩:Nat×Ac)=>[prB y.2 3,toksB y.1 3,(2,.own 20 1 (rws ptRow ps))]) 4 (fun (⟨i,y⟩:Nat×Ac)=>i≤ps.length∧y=acc x ⟨ps.take i,true⟩) (fun (⟨i,y⟩:Nat×Ac)=>ps.length - i) ?round1 ((0,x)) ?J01) sH sH
 case J01=>exact (⟨Nat.zero_le _,(acc_nil x).symm⟩)
 rintro ⟨i,y⟩ hJ back
 try dsimp only at hJ back
 conv=>whnf
 try dsimp only
 refine gS ?_;conv=>whnf
 obtain ⟨hi,hJ⟩:=hJ
 refine ⟨fun hk=>?_,fun hk=>?_⟩<;>conv=>whnf
 ·have hk:i<ps.length:=by omega
  conv=>whnf
  repeat ((first|(guard_target=_∧_;(first|refine oL ?_|refine oR ?_))|(guard_target=Exists _;refine oM ?_));(try intro _);conv=>whnf)
  refine ⟨_,rws_get hk,?_⟩;conv=>whnf
  have hd:ps.take (i+1)=ps.take i++[ps[i]]:=by rw [List.take_add_one,List.getElem?_eq_getElem hk];rfl
  have hy:∀p,p=ps[i]→acc x ⟨ps.take (i+1),true⟩=(y.1++[p.tok NmP],y.2 || !(p.ok NmP)):=fun p hp=>by
   subst hp
   rw [hJ,hd]
   exact (acc_add x ⟨ps.take i,true⟩ ⟨[ps[i]],true⟩).symm.trans (by simp [acc,tokPs,okPs])
  have hm:y.1.length+1≤1000000:=by
   rw [hJ]
   simp only [acc,tokPs,List.length_append,List.length_map,List.length_take]
   omega
  cases hp:ps[i] with
  |w t=>
   have hy:=hy _ hp.symm
   conv=>whnf
   refine RunsS.effV (fun E h=>eff_assert wordT (fun _ e=>by cases e)) ?_
   (try refine gS ?_);conv=>whnf
   by_cases hn:NameP (B t)
   ·refine RunsS.callV (fun Ez Hz Az Sz K=>Name_fn (B t)) ?_
    conv=>whnf
    rw [decide_eq_true hn]
    (try refine gS ?_);conv=>whnf
    refine And.intro (appOb (by rw [List.length_map];omega)) ?_;conv=>whnf
    conv=>whnf
    repeat ((first|(guard_target=_∧_;(first|refine oL ?_|refine oR ?_))|(guard_target=Exists _;refine oM ?_));(try intro _);conv=>whnf)
    refine RunsS.rowsEq (5) (app_row y.1 1 0 (B t) 0) ?_;conv=>whnf
    refine RunsS.subR [(3,5)] (back ((i+1,(y.1++[⟨1,0,B t,0⟩],y.2))) (by exact (⟨hk,(by rw [hy];show _=(y.1++[(⟨if NmP (B t) then 1 else 3,0,B t,0⟩:Tok)],y.2 || !true);rw [if_pos (show NmP (B t) from hn)];simp)⟩)) (by (try dsimp only);omega)) sH sH
   refine RunsS.callV (fun Ez Hz Az Sz K=>Name_fn (B t)) ?_
   conv=>whnf
   rw [decide_eq_false hn]
   (try refine gS ?_);conv=>whnf
   refine And.intro (appOb (by rw [List.length_map];omega)) ?_;conv=>whnf
   conv=>whnf
   repeat ((first|(guard_target=_∧_;(first|refine oL ?_|refine oR ?_))|(guard_target=Exists _;refine oM ?_));(try intro _);conv=>whnf)
   refine RunsS.rowsEq (5) (app_row y.1 3 0 (B t) 0) ?_;conv=>whnf
   refine RunsS.subR [(3,5)] (back ((i+1,(y.1++[⟨3,0,B t,0⟩],y.2))) (by exact (⟨hk,(by rw [hy];show _=(y.1++[(⟨if NmP (B t) then 1 else 3,0,B t,0⟩:Tok)],y.2 || !true);rw [if_neg (show ¬NmP (B t) from hn)];simp)⟩)) (by (try dsimp only);omega)) sH sH
  |s t=>
   have hy:=hy _ hp.symm
   conv=>whnf
   refine RunsS.effV (fun E h=>eff_assertNo wordT (fun _ e=>by cases e) wordZ (t':=9) (by decide)) ?_
   (try refine gS ?_);conv=>whnf
   refine RunsS.effV (fun E h=>eff_assert stT2 (fun _ e=>by cases e)) ?_
   (try refine gS ?_);conv=>whnf
   refine RunsS.callV (fun Ez Hz Az Sz K=>Name_fn t) ?_
   conv=>whnf
   (try refine gS ?_);conv=>whnf
   refine RunsS.callN (pneed_fn y (decide (NameP t))) [0,3] ?_ sH ?CNa4
   case CNa4=>rfl
   rintro z hz<;>conv=>whnf
   have lz:z.1.length=y.1.length:=by rw [hz,acc_len];rfl
   refine RunsS.subR (nx':=4) (l':=[(0,.ptr 0 0),(10,.buf 2),(11,.v (.int .i64 (rws ptRow ps).length)),(12,.v (.int .i64 i)),(8,.v (.string t))]) (H':=[prB z.2 3,toksB z.1 3,(2,.own 20 1 (rws ptRow ps))]) [] ?_ sH sH
   (try refine gS ?_);conv=>whnf
   rw [←acc_need] at hz
   have z1:z.1=y.1:=by rw [hz]
   refine And.intro (appOb (by rw [List.length_map,z1];omega)) ?_;conv=>whnf
   conv=>whnf
   repeat ((first|(guard_target=_∧_;(first|refine oL ?_|refine oR ?_))|(guard_target=Exists _;refine oM ?_));(try intro _);conv=>whnf)
   refine RunsS.rowsEq (5) (app_row z.1 1 0 t 0) ?_;conv=>whnf
   refine RunsS.subR [(3,5)] (back ((i+1,(z.1++[⟨1,0,t,0⟩],z.2))) (by exact (⟨hk,by rw [hy,hz];rfl⟩)) (by (try dsimp only);omega)) sH sH
  |n t=>
   have hy:=hy _ hp.symm
   conv=>whnf
   refine RunsS.effV (fun E h=>eff_assertNo wordT (fun _ e=>by cases e) wordZ (t':=3) (by decide)) ?_
   (try refine gS ?_);conv=>whnf
   refine RunsS.effV (fun E h=>eff_assertNo stT2 (fun _ e=>by cases e) strZ (t':=3) (by decide)) ?_
   (try refine gS ?_);conv=>whnf
   refine RunsS.effV (fun E h=>eff_assert intT (fun _ e=>by cases e)) ?_
   (try refine gS ?_);conv=>whnf
   by_cases h0:0≤t
   ·refine ⟨fun _=>?_,fun h=>absurd h0 h⟩
    conv=>whnf
    (try refine gS ?_);conv=>whnf
    refine RunsS.callN (pneed_fn y (decide (t≤1048576))) [0,3] ?_ sH ?CNa6
    case CNa6=>rfl
    rintro z hz<;>conv=>whnf
    have lz:z.1.length=y.1.length:=by rw [hz,acc_len];rfl
    refine RunsS.subR (nx':=4) (l':=[(0,.ptr 0 0),(10,.buf 2),(11,.v (.int .i64 (rws ptRow ps).length)),(12,.v (.int .i64 i)),(9,.v (.int .i64 t))]) (H':=[prB z.2 3,toksB z.1 3,(2,.own 20 1 (rws ptRow ps))]) [] ?_ sH sH
    (try refine gS ?_);conv=>whnf
    rw [←acc_need] at hz
    have z1:z.1=y.1:=by rw [hz]
    refine And.intro (appOb (by rw [List.length_map,z1];omega)) ?_;conv=>whnf
    conv=>whnf
    repeat ((first|(guard_target=_∧_;(first|refine oL ?_|refine oR ?_))|(guard_target=Exists _;refine oM ?_));(try intro _);conv=>whnf)
    refine RunsS.rowsEq (5) (app_row z.1 2 0 ⟨#[]⟩ t) ?_;conv=>whnf
    refine RunsS.subR [(3,5)] (back ((i+1,(z.1++[⟨2,0,⟨#[]⟩,t⟩],z.2))) (by exact (⟨hk,(by rw [hy,hz];simp [Pt.ok,Pt.tok,okV,tn,h0])⟩)) (by (try dsimp only);omega)) sH sH
   refine ⟨fun h=>absurd h h0,fun _=>?_⟩
   conv=>whnf
   (try refine gS ?_);conv=>whnf
   refine RunsS.callN (pneed_fn y (false)) [0,3] ?_ sH ?CNa8
   case CNa8=>rfl
   rintro z hz<;>conv=>whnf
   have lz:z.1.length=y.1.length:=by rw [hz,acc_len];rfl
   refine RunsS.subR (nx':=4) (l':=[(0,.ptr 0 0),(10,.buf 2),(11,.v (.int .i64 (rws ptRow ps).length)),(12,.v (.int .i64 i)),(9,.v (.int .i64 t))]) (H':=[prB z.2 3,toksB z.1 3,(2,.own 20 1 (rws ptRow ps))]) [] ?_ sH sH
   (try refine gS ?_);conv=>whnf
   rw [←acc_need] at hz
   have z1:z.1=y.1:=by rw [hz]
   refine And.intro (appOb (by rw [List.length_map,z1];omega)) ?_;conv=>whnf
   conv=>whnf
   repeat ((first|(guard_target=_∧_;(first|refine oL ?_|refine oR ?_))|(guard_target=Exists _;refine oM ?_));(try intro _);conv=>whnf)
   refine RunsS.rowsEq (5) (app_row z.1 2 0 ⟨#[]⟩ t) ?_;conv=>whnf
   refine RunsS.subR [(3,5)] (back ((i+1,(z.1++[⟨2,0,⟨#[]⟩,t⟩],z.2))) (by exact (⟨hk,(by rw [hy,hz];simp [Pt.ok,Pt.tok,okV,tn,h0])⟩)) (by (try dsimp only);omega)) sH sH
 (try refine gS ?_);conv=>whnf
 try refine RunsS.finU ?_
 exact UnwS.ret tab Tryz.func93 rfl (EndS.mk (y) ((by rw [hJ,List.take_of_length_le (by omega)])) [] sH rfl rfl (okRet rfl rfl))

theorem pam_fn (x:Ac) (a:Am) (hl:x.1.length+6≤1000000):FnS Tryz.prog 147 2 [.ptr 0 0,.agg (toV a.row)] [prB x.2 1,toksB x.1 1] (fun y=>y=acc x ⟨amPt a,true⟩) (outY 2):=by
 refine FnS.of Tryz.func147 (by kernel_rfl) rfl Tryz.ntmps147 rfl fun E0 F h w0 cs=>?_
 conv=>whnf
 refine gS ?_;conv=>whnf
 refine RunsS.callN (padd_fn x [.n a.n,wS 47,.n a.d,.s a.unit,.s a.item,wS 59] (by show x.1.length+6≤_;omega)) [0,1,3] ?_ sH ?CNa1
 case CNa1=>rfl
 rintro y hy<;>conv=>whnf
 have ly:y.1.length=x.1.length+6:=by rw [hy,acc_len];rfl
 refine RunsS.subR (nx':=4) (l':=[(0,.ptr 0 0)]) (H':=[prB y.2 3,toksB y.1 3]) [(3,4)] ?_ sH sH
 (try refine gS ?_);conv=>whnf
 try refine RunsS.finU ?_
 exact UnwS.ret tab Tryz.func147 rfl (EndS.mk (y) (hy) [(2,3)] sH rfl rfl (okRet rfl rfl))
theorem punitP_fn (x:Ac) (u:Un) (hl:x.1.length+8≤1000000):FnS Tryz.prog 91 2 [.ptr 0 0,.agg (toV u.row)] [prB x.2 1,toksB x.1 1] (fun y=>y=acc x (unitPr u)) (outY 2):=by
 refine FnS.of Tryz.func91 (by kernel_rfl) rfl Tryz.ntmps91 rfl fun E0 F h w0 cs=>?_
 conv=>whnf
 refine gS ?_;conv=>whnf
 refine RunsS.callN (padd_fn x [.w wUnit,.s u.name] (by show x.1.length+2≤_;omega)) [0,1,3] ?_ sH ?CNa2
 case CNa2=>rfl
 rintro y hy<;>conv=>whnf
 have ly:y.1.length=x.1.length+2:=by rw [hy,acc_len];rfl
 refine RunsS.subR (nx':=4) (l':=[(0,.ptr 0 0),(3,.ptr 2 0)]) (H':=[prB y.2 3,toksB y.1 3,(2,.cells 81 (toV u.row))]) [(3,4)] ?_ sH sH
 (try refine gS ?_);conv=>whnf
 refine ⟨fun h0=>?_,fun h0=>?_⟩<;>conv=>whnf
 ·have eo:unitPr u=⟨[.w wUnit,.s u.name,wS 59],decide (u.n=0∧u.d=0)⟩:=by unfold unitPr;rw [if_pos h0]
  by_cases h1:u.n=0
  ·refine And.intro (fun _=>?_) (fun hn=>absurd (h1) hn)
   conv=>whnf
   (try refine gS ?_);conv=>whnf
   refine RunsS.callN (pneed_fn y (decide (u.d=0))) [0,3] ?_ sH ?CNa3
   case CNa3=>rfl
   rintro z hz<;>conv=>whnf
   have lz:z.1.length=y.1.length:=by rw [hz,acc_len];rfl
   refine RunsS.subR (nx':=4) (l':=[(0,.ptr 0 0)]) (H':=[prB z.2 3,toksB z.1 3]) [] ?_ sH sH
   (try refine gS ?_);conv=>whnf
   refine RunsS.callN (padd_fn z [wS 59] (by show z.1.length+1≤_;omega)) [0,3,4] ?_ sH ?CNa4
   case CNa4=>rfl
   rintro w hw<;>conv=>whnf
   have lw:w.1.length=z.1.length+1:=by rw [hw,acc_len];rfl
   refine RunsS.subR (nx':=4) (l':=[(0,.ptr 0 0)]) (H':=[prB w.2 3,toksB w.1 3]) [(3,5)] ?_ sH sH
   (try refine gS ?_);conv=>whnf
   try refine RunsS.finU ?_
   exact UnwS.ret tab Tryz.func91 rfl (EndS.mk (w) (by rw [eo,hw,hz,hy,acc_add,acc_add];exact acc_eq rfl (by simp [Pr.add,h1])) [(2,3)] sH rfl rfl (okRet rfl rfl))
  refine And.intro (fun hp=>absurd hp (h1)) (fun _=>?_)
  conv=>whnf
  (try refine gS ?_);conv=>whnf
  refine RunsS.callN (pneed_fn y (false)) [0,3] ?_ sH ?CNa5
  case CNa5=>rfl
  rintro z hz<;>conv=>whnf
  have lz:z.1.length=y.1.length:=by rw [hz,acc_len];rfl
  refine RunsS.subR (nx':=4) (l':=[(0,.ptr 0 0)]) (H':=[prB z.2 3,toksB z.1 3]) [] ?_ sH sH
  (try refine gS ?_);conv=>whnf
  refine RunsS.callN (padd_fn z [wS 59] (by show z.1.length+1≤_;omega)) [0,3,4] ?_ sH ?CNa6
  case CNa6=>rfl
  rintro w hw<;>conv=>whnf
  have lw:w.1.length=z.1.length+1:=by rw [hw,acc_len];rfl
  refine RunsS.subR (nx':=4) (l':=[(0,.ptr 0 0)]) (H':=[prB w.2 3,toksB w.1 3]) [(3,5)] ?_ sH sH
  (try refine gS ?_);conv=>whnf
  try refine RunsS.finU ?_
  exact UnwS.ret tab Tryz.func91 rfl (EndS.mk (w) (by rw [eo,hw,hz,hy,acc_add,acc_add];exact acc_eq rfl (by simp [Pr.add,h1])) [(2,3)] sH rfl rfl (okRet rfl rfl))
 have eo:unitPr u=⟨[.w wUnit,.s u.name,wS 61,.n u.n,wS 47,.n u.d,.s u.of_,wS 59],true⟩:=by unfold unitPr;rw [if_neg h0]
 (try refine gS ?_);conv=>whnf
 refine RunsS.callN (padd_fn y [wS 61,.n u.n,wS 47,.n u.d,.s u.of_] (by show y.1.length+5≤_;omega)) [0,3,4] ?_ sH ?CNa7
 case CNa7=>rfl
 rintro z hz<;>conv=>whnf
 have lz:z.1.length=y.1.length+5:=by rw [hz,acc_len];rfl
 refine RunsS.subR (nx':=4) (l':=[(0,.ptr 0 0)]) (H':=[prB z.2 3,toksB z.1 3]) [(3,5)] ?_ sH sH
 (try refine gS ?_);conv=>whnf
 refine RunsS.callN (padd_fn z [wS 59] (by show z.1.length+1≤_;omega)) [0,3,4] ?_ sH ?CNa8
 case CNa8=>rfl
 rintro w hw<;>conv=>whnf
 have lw:w.1.length=z.1.length+1:=by rw [hw,acc_len];rfl
 refine RunsS.subR (nx':=4) (l':=[(0,.ptr 0 0)]) (H':=[prB w.2 3,toksB w.1 3]) [(3,5)] ?_ sH sH
 (try refine gS ?_);conv=>whnf
 try refine RunsS.finU ?_
 exact UnwS.ret tab Tryz.func91 rfl (EndS.mk (w) (by rw [eo,hw,hz,hy,acc_add,acc_add];exact acc_eq rfl rfl) [(2,3)] sH rfl rfl (okRet rfl rfl))
theorem pitemP_fn (x:Ac) (i:It) (hl:x.1.length+12≤1000000):FnS Tryz.prog 92 2 [.ptr 0 0,.agg (toV i.row)] [prB x.2 1,toksB x.1 1] (fun y=>y=acc x (itemPr i)) (outY 2):=by
 refine FnS.of Tryz.func92 (by kernel_rfl) rfl Tryz.ntmps92 rfl fun E0 F h w0 cs=>?_
 conv=>whnf
 refine gS ?_;conv=>whnf
 refine RunsS.callN (padd_fn x [.w wItem,.s i.name,.w wIn,.s i.unit,.w wMass,.n i.mn,wS 47,.n i.md] (by show x.1.length+8≤_;omega)) [0,1,3] ?_ sH ?CNa9
 case CNa9=>rfl
 rintro y hy<;>conv=>whnf
 have ly:y.1.length=x.1.length+8:=by rw [hy,acc_len];rfl
 refine RunsS.subR (nx':=4) (l':=[(0,.ptr 0 0),(3,.ptr 2 0)]) (H':=[prB y.2 3,toksB y.1 3,(2,.cells 83 (toV i.row))]) [(3,4)] ?_ sH sH
 (try refine gS ?_);conv=>whnf
 refine ⟨fun h0=>?_,fun h0=>?_⟩<;>conv=>whnf
 ·try refine gS ?_
  conv=>whnf
  refine RunsS.callN (padd_fn y [wS 59] (by show y.1.length+1≤_;omega)) [0,3,4] ?_ sH ?CNa10
  case CNa10=>rfl
  rintro z hz<;>conv=>whnf
  have lz:z.1.length=y.1.length+1:=by rw [hz,acc_len];rfl
  refine RunsS.subR (nx':=4) (l':=[(0,.ptr 0 0)]) (H':=[prB z.2 3,toksB z.1 3]) [(3,5)] ?_ sH sH
  (try refine gS ?_);conv=>whnf
  try refine RunsS.finU ?_
  exact UnwS.ret tab Tryz.func92 rfl (EndS.mk (z) (by rw [hz,hy,acc_add];exact acc_eq (by simp [Pr.add,itemPr,h0]) rfl) [(2,3)] sH rfl rfl (okRet rfl rfl))
 (try refine gS ?_);conv=>whnf
 refine RunsS.callN (padd_fn y [.w wKeeps,.n i.shelf] (by show y.1.length+2≤_;omega)) [0,3,4] ?_ sH ?CNa11
 case CNa11=>rfl
 rintro z hz<;>conv=>whnf
 have lz:z.1.length=y.1.length+2:=by rw [hz,acc_len];rfl
 refine RunsS.subR (nx':=4) (l':=[(0,.ptr 0 0)]) (H':=[prB z.2 3,toksB z.1 3]) [(3,5)] ?_ sH sH
 (try refine gS ?_);conv=>whnf
 refine RunsS.callN (padd_fn z [wS 59] (by show z.1.length+1≤_;omega)) [0,3,4] ?_ sH ?CNa12
 case CNa12=>rfl
 rintro u hu<;>conv=>whnf
 have lu:u.1.length=z.1.length+1:=by rw [hu,acc_len];rfl
 refine RunsS.subR (nx':=4) (l':=[(0,.ptr 0 0)]) (H':=[prB u.2 3,toksB u.1 3]) [(3,5)] ?_ sH sH
 (try refine gS ?_);conv=>whnf
 try refine RunsS.finU ?_
 exact UnwS.ret tab Tryz.func92 rfl (EndS.mk (u) (by rw [hu,hz,hy,acc_add,acc_add];exact acc_eq (by simp [Pr.add,itemPr,h0]) rfl) [(2,3)] sH rfl rfl (okRet rfl rfl))
end Go.Proofs.YtgbeechjghajcaaGreatDoor

namespace Go.SynM
open Go Go.Fw Go.RatM Go.SrcM
theorem condsPt_snoc (l:List Cd) (c:Cd):condsPt (l++[c])=condsPt l++((if l=[] then [] else [wS 44])++[.s c.opt,wS 61,.s c.ch]):=by
 cases l with
 |nil=>rfl
 |cons d l=>simp [condsPt]
theorem chsPt_snoc (l:List ByteArray) (c:ByteArray):chsPt (l++[c])=chsPt l++((if l=[] then [] else [wS 44])++[.s c]):=by
 cases l with
 |nil=>rfl
 |cons d l=>simp [chsPt]
theorem condsPt_len (l:List Cd):(condsPt l).length≤4*l.length:=by
 cases l with
 |nil=>simp [condsPt]
 |cons c l=>
  have:((l.map fun c=>[wS 44,.s c.opt,wS 61,.s c.ch]).flatten).length=4*l.length:=by
   induction l with
   |nil=>rfl
   |cons d l ih=>simp only [List.map_cons,List.flatten_cons,List.length_append,ih,List.length_cons,List.length_nil];omega
  simp only [condsPt,List.length_append,this,List.length_cons,List.length_nil]
  omega
theorem chsPt_len (l:List ByteArray):(chsPt l).length≤2*l.length:=by
 cases l with
 |nil=>simp [chsPt]
 |cons c l=>
  have:((l.map fun c=>[wS 44,Pt.s c]).flatten).length=2*l.length:=by
   induction l with
   |nil=>rfl
   |cons d l ih=>simp only [List.map_cons,List.flatten_cons,List.length_append,ih,List.length_cons,List.length_nil];omega
  simp only [chsPt,this,List.length_cons]
  omega
end Go.SynM
namespace Go.Proofs.YtgbeechjghajcaaGreatDoor
open Go Go.Fw Go.NatM Go.RatM Go.SrcM Go.SynM
set_option maxRecDepth 100000
set_option maxHeartbeats 99999999
theorem take_nil {α:Type} {l:List α} {i:Nat} (hk:i<l.length):l.take i=[]↔i=0:=by
 cases l with
 |nil=>simp at hk
 |cons a l=>cases i<;>simp
theorem pconds_fn (v:Value) (l:List Cd) (x:Ac) (hl:x.1.length+4*l.length≤1000000):FnT Tryz.prog (fun F h=>RoF F h v 4 (rws Cd.row l)) 95 2 [.ptr 0 0,.v v] [prB x.2 1,toksB x.1 1] (fun y=>y=acc x ⟨condsPt l,decide (1≤l.length∧l.length≤6)⟩) (outY 2):=by
 have ll:=rws_len Cd.row l
 refine FnT.of Tryz.func95 (by kernel_rfl) rfl Tryz.ntmps95 rfl fun E0 F h hT w0 cs=>?_
 obtain ⟨a,c,rfl⟩:=RoF.sli hT ll
 conv=>whnf
 refine goS_run tab 2 _ _ _ _ ?_;conv=>whnf
 have hl':l.length≤1000000:=by omega
 obtain ⟨b,hb⟩:∃b,b=decide (1≤l.length∧l.length≤6):=⟨_,rfl⟩
 rw [←hb]
 refine RunsS.joinO (fun (y:Ac)=>[(0,.ptr 0 0),(1,.v (.slice a l.length c))]) (fun (y:Ac)=>[prB y.2 3,toksB y.1 3]) 4 (fun (y:Ac)=>y=acc x ⟨[],b⟩) ?_ (fun meet=>?_)
 rotate_left
 ·try refine gS ?_
  conv=>whnf
  by_cases h1:1≤l.length
  ·refine And.intro (fun _=>?_) (fun hn=>absurd ((by omega)) hn)
   conv=>whnf
   (try refine gS ?_);conv=>whnf
   refine RunsS.callN (pneed_fn x (decide ((l.length:Int)≤6))) [0,1] ?_ sH ?CNa1
   case CNa1=>rfl
   rintro y hy<;>conv=>whnf
   have ly:y.1.length=x.1.length:=by rw [hy,acc_len];rfl
   refine RunsS.subR (nx':=4) (l':=[(0,.ptr 0 0),(1,.v (.slice a l.length c))]) (H':=[prB y.2 3,toksB y.1 3]) [(3,1)] ?_ sH sH
   (try refine gS ?_);conv=>whnf
   refine RunsS.subR [] (meet (y) (by exact (hy.trans (acc_eq rfl (by rw [hb];exact decide_eq_decide.2 ⟨fun h=>⟨h1,by omega⟩,fun h=>by omega⟩))))) sH sH
  refine And.intro (fun hp=>absurd hp ((by omega))) (fun _=>?_)
  conv=>whnf
  (try refine gS ?_);conv=>whnf
  refine RunsS.callN (pneed_fn x (false)) [0,1] ?_ sH ?CNa3
  case CNa3=>rfl
  rintro y hy<;>conv=>whnf
  have ly:y.1.length=x.1.length:=by rw [hy,acc_len];rfl
  refine RunsS.subR (nx':=4) (l':=[(0,.ptr 0 0),(1,.v (.slice a l.length c))]) (H':=[prB y.2 3,toksB y.1 3]) [(3,1)] ?_ sH sH
  (try refine gS ?_);conv=>whnf
  refine RunsS.subR [] (meet (y) (by exact (hy.trans (acc_eq rfl (by rw [hb];exact (decide_eq_false fun h=>h1 h.1).symm))))) sH sH
 rintro y hy
 (try refine gS ?_);conv=>whnf
 refine RunsS.nameAt (fun _ x=>x) 16 (by exact hT) ?_
 conv=>whnf
 (try refine gS ?_);conv=>whnf
 have ly:y.1.length=x.1.length:=by rw [hy,acc_len];rfl
 refine RunsS.subR [] (RunsS.loop (fun (⟨i,z⟩:Nat×Ac)=>[(0,.ptr 0 0),(16,.buf 4),(17,.v (.int .i64 l.length)),(18,.v (.int .i64 i))]) (fun (⟨i,z⟩:Nat×Ac)=>[prB z.2 3,toksB z.1 3,(4,.ro 4 (rws Cd.row l))]) 5 (fun (⟨i,z⟩:Nat×Ac)=>i≤l.length∧z=acc y ⟨condsPt (l.take i),true⟩) (fun (⟨i,z⟩:Nat×Ac)=>l.length - i) ?round5 ((0,y)) ?J05) sH sH
 case J05=>exact (⟨Nat.zero_le _,(acc_nil y).symm⟩)
 rintro ⟨i,z⟩ hJ back
 try dsimp only at hJ back
 conv=>whnf
 try dsimp only
 refine gS ?_;conv=>whnf
 obtain ⟨hi,hJ⟩:=hJ
 have lz:z.1.length≤y.1.length+4*i:=by
  rw [hJ,acc_len]
  have:=condsPt_len (l.take i)
  rw [List.length_take] at this
  show _+(condsPt (l.take i)).length≤_
  omega
 refine ⟨fun hk=>?_,fun hk=>?_⟩<;>conv=>whnf
 ·have hk:i<l.length:=by omega
  conv=>whnf
  repeat ((first|(guard_target=_∧_;(first|refine oL ?_|refine oR ?_))|(guard_target=Exists _;refine oM ?_));(try intro _);conv=>whnf)
  refine ⟨_,rws_get hk,?_⟩;conv=>whnf
  try (refine oN ?_;conv=>whnf)
  have hn:=condsPt_snoc (l.take i) l[i]
  rw [←take_snoc hk] at hn
  refine ⟨fun h0=>?_,fun h0=>?_⟩<;>conv=>whnf
  ·have e0:l.take i ≠ []:=fun e=>by have:=(take_nil hk).1 e;omega
   rw [if_neg e0] at hn
   (try refine gS ?_);conv=>whnf
   refine RunsS.callN (padd_fn z [wS 44] (by show z.1.length+1≤_;omega)) [0,3,6] ?_ sH ?CNa6
   case CNa6=>rfl
   rintro z1 hz1<;>conv=>whnf
   have lz1:z1.1.length=z.1.length+1:=by rw [hz1,acc_len];rfl
   refine RunsS.subR (nx':=6) (l':=[(0,.ptr 0 0),(5,.ptr 5 0),(16,.buf 4),(17,.v (.int .i64 l.length)),(18,.v (.int .i64 i))]) (H':=[prB z1.2 3,toksB z1.1 3,(5,.cells 52 (toV l[i].row)),(4,.ro 4 (rws Cd.row l))]) [(3,7)] ?_ sH sH
   (try refine gS ?_);conv=>whnf
   refine RunsS.callN (padd_fn z1 [.s l[i].opt,wS 61,.s l[i].ch] (by show z1.1.length+3≤_;omega)) [0,3,6] ?_ sH ?CNa7
   case CNa7=>rfl
   rintro z2 hz2<;>conv=>whnf
   have lz2:z2.1.length=z1.1.length+3:=by rw [hz2,acc_len];rfl
   refine RunsS.subR (nx':=6) (l':=[(0,.ptr 0 0),(16,.buf 4),(17,.v (.int .i64 l.length)),(18,.v (.int .i64 i))]) (H':=[prB z2.2 3,toksB z2.1 3,(4,.ro 4 (rws Cd.row l))]) [(3,7)] ?_ sH sH
   (try refine gS ?_);conv=>whnf
   repeat ((first|(guard_target=_∧_;(first|refine oL ?_|refine oR ?_))|(guard_target=Exists _;refine oM ?_));(try intro _);conv=>whnf)
   refine RunsS.subR [] (back ((i+1,z2)) (by exact (⟨hk,by show z2=_;rw [hz2,hz1,hJ,acc_add,acc_add];exact acc_eq (by simp [Pr.add,hn]) rfl⟩)) (by (try dsimp only);omega)) sH sH
  have e0:l.take i=[]:=(take_nil hk).2 (by omega)
  rw [if_pos e0] at hn
  (try refine gS ?_);conv=>whnf
  refine RunsS.callN (padd_fn z [.s l[i].opt,wS 61,.s l[i].ch] (by show z.1.length+3≤_;omega)) [0,3,6] ?_ sH ?CNa9
  case CNa9=>rfl
  rintro z2 hz2<;>conv=>whnf
  have lz2:z2.1.length=z.1.length+3:=by rw [hz2,acc_len];rfl
  refine RunsS.subR (nx':=6) (l':=[(0,.ptr 0 0),(16,.buf 4),(17,.v (.int .i64 l.length)),(18,.v (.int .i64 i))]) (H':=[prB z2.2 3,toksB z2.1 3,(4,.ro 4 (rws Cd.row l))]) [(3,7)] ?_ sH sH
  (try refine gS ?_);conv=>whnf
  repeat ((first|(guard_target=_∧_;(first|refine oL ?_|refine oR ?_))|(guard_target=Exists _;refine oM ?_));(try intro _);conv=>whnf)
  refine RunsS.subR [] (back ((i+1,z2)) (by exact (⟨hk,by show z2=_;rw [hz2,hJ,acc_add];exact acc_eq (by simp [Pr.add,hn]) rfl⟩)) (by (try dsimp only);omega)) sH sH
 (try refine gS ?_);conv=>whnf
 try refine RunsS.finU ?_
 exact UnwS.ret tab Tryz.func95 rfl (EndS.mk (z) (by rw [hJ,hy,List.take_of_length_le (by omega),acc_add,hb];exact acc_eq rfl (by simp [Pr.add])) [(2,3)] sH rfl rfl (okRet rfl rfl))
theorem poptP_fn (o:OpV) (x:Ac) (hl:x.1.length+5+2*o.ch.length≤1000000):FnT Tryz.prog (fun F h=>o.ok F h) 94 2 [.ptr 0 0,.agg (toV o.row)] [prB x.2 1,toksB x.1 1] (fun y=>y=acc x (optnPr o)) (outY 2):=by
 obtain ⟨nm,⟨a,c⟩,l⟩:=o
 have hl:x.1.length+5+2*l.length≤1000000:=hl
 have ll:=rwsB_len l
 refine FnT.of Tryz.func94 (by kernel_rfl) rfl Tryz.ntmps94 rfl fun E0 F h hT w0 cs=>?_
 have hT:RoF F h (.slice a l.length c) 1 (rwsB l):=hT
 conv=>whnf
 refine goS_run tab 6 _ _ _ _ ?_;conv=>whnf
 have hl':l.length≤1000000:=by omega
 obtain ⟨b,hb⟩:∃b,b=decide (1≤l.length∧l.length≤4):=⟨_,rfl⟩
 have hO:optnPr ⟨nm,⟨a,c⟩,l⟩=⟨[.w wOption,.s nm,wS 123]++chsPt l++[wS 125,wS 59],b⟩:=by rw [hb];rfl
 rw [hO]
 refine RunsS.joinO (fun (y:Ac)=>[(0,.ptr 0 0),(3,.ptr 2 0)]) (fun (y:Ac)=>[prB y.2 3,toksB y.1 3,(2,.cells 50 [.v (.string nm),.v (.slice a l.length c)])]) 4 (fun (y:Ac)=>y=acc x ⟨[],b⟩) ?_ (fun meet=>?_)
 rotate_left
 ·try refine gS ?_
  conv=>whnf
  by_cases h1:1≤l.length
  ·refine And.intro (fun _=>?_) (fun hn=>absurd ((by show (1:Int)≤(l.length:Int);omega)) hn)
   conv=>whnf
   (try refine gS ?_);conv=>whnf
   refine RunsS.callN (pneed_fn x (decide ((l.length:Int)≤4))) [0,1] ?_ sH ?CNa11
   case CNa11=>rfl
   rintro y hy<;>conv=>whnf
   have ly:y.1.length=x.1.length:=by rw [hy,acc_len];rfl
   refine RunsS.subR (nx':=4) (l':=[(0,.ptr 0 0),(3,.ptr 2 0)]) (H':=[prB y.2 3,toksB y.1 3,(2,.cells 50 [.v (.string nm),.v (.slice a l.length c)])]) [(3,1)] ?_ sH sH
   (try refine gS ?_);conv=>whnf
   refine RunsS.subR [] (meet (y) (by exact (hy.trans (acc_eq rfl (by rw [hb];exact decide_eq_decide.2 ⟨fun h=>⟨h1,by omega⟩,fun h=>by omega⟩))))) sH sH
  refine And.intro (fun hp=>absurd hp ((by show ¬(1:Int)≤(l.length:Int);omega))) (fun _=>?_)
  conv=>whnf
  (try refine gS ?_);conv=>whnf
  refine RunsS.callN (pneed_fn x (false)) [0,1] ?_ sH ?CNa13
  case CNa13=>rfl
  rintro y hy<;>conv=>whnf
  have ly:y.1.length=x.1.length:=by rw [hy,acc_len];rfl
  refine RunsS.subR (nx':=4) (l':=[(0,.ptr 0 0),(3,.ptr 2 0)]) (H':=[prB y.2 3,toksB y.1 3,(2,.cells 50 [.v (.string nm),.v (.slice a l.length c)])]) [(3,1)] ?_ sH sH
  (try refine gS ?_);conv=>whnf
  refine RunsS.subR [] (meet (y) (by exact (hy.trans (acc_eq rfl (by rw [hb];exact (decide_eq_false fun h=>h1 h.1).symm))))) sH sH
 rintro x0 hx0
 have lx0:x0.1.length=x.1.length:=by rw [hx0,acc_len];rfl
 (try refine gS ?_);conv=>whnf
 refine RunsS.callN (padd_fn x0 [.w wOption,.s nm,wS 123] (by show x0.1.length+3≤_;omega)) [0,3,4] ?_ sH ?CNa15
 case CNa15=>rfl
 rintro y hy<;>conv=>whnf
 have ly:y.1.length=x0.1.length+3:=by rw [hy,acc_len];rfl
 refine RunsS.subR (nx':=4) (l':=[(0,.ptr 0 0),(3,.ptr 2 0)]) (H':=[prB y.2 3,toksB y.1 3,(2,.cells 50 [.v (.string nm),.v (.slice a l.length c)])]) [(3,5)] ?_ sH sH
 (try refine gS ?_);conv=>whnf
 refine RunsS.nameAt (fun _ x=>x) 27 (by exact hT) ?_
 conv=>whnf
 (try refine gS ?_);conv=>whnf
 refine RunsS.subR [] (RunsS.loop (fun (⟨i,z⟩:Nat×Ac)=>[(0,.ptr 0 0),(27,.buf 4),(28,.v (.int .i64 l.length)),(29,.v (.int .i64 i))]) (fun (⟨i,z⟩:Nat×Ac)=>[prB z.2 3,toksB z.1 3,(4,.ro 1 (rwsB l))]) 5 (fun (⟨i,z⟩:Nat×Ac)=>i≤l.length∧z=acc y ⟨chsPt (l.take i),true⟩) (fun (⟨i,z⟩:Nat×Ac)=>l.length - i) ?round16 ((0,y)) ?J016) sH sH
 case J016=>exact (⟨Nat.zero_le _,(acc_nil y).symm⟩)
 rintro ⟨i,z⟩ hJ back
 try dsimp only at hJ back
 conv=>whnf
 try dsimp only
 refine gS ?_;conv=>whnf
 obtain ⟨hi,hJ⟩:=hJ
 have lz:z.1.length≤y.1.length+2*i:=by
  rw [hJ,acc_len]
  have:=chsPt_len (l.take i)
  rw [List.length_take] at this
  show _+(chsPt (l.take i)).length≤_
  omega
 refine ⟨fun hk=>?_,fun hk=>?_⟩<;>conv=>whnf
 ·have hk:i<l.length:=by omega
  conv=>whnf
  repeat ((first|(guard_target=_∧_;(first|refine oL ?_|refine oR ?_))|(guard_target=Exists _;refine oM ?_));(try intro _);conv=>whnf)
  refine ⟨_,rws_get hk,?_⟩;conv=>whnf
  have hn:=chsPt_snoc (l.take i) l[i]
  rw [←take_snoc hk] at hn
  refine ⟨fun h0=>?_,fun h0=>?_⟩<;>conv=>whnf
  ·have e0:l.take i ≠ []:=fun e=>by have:=(take_nil hk).1 e;omega
   rw [if_neg e0] at hn
   (try refine gS ?_);conv=>whnf
   refine RunsS.callN (padd_fn z [wS 44] (by show z.1.length+1≤_;omega)) [0,3,5] ?_ sH ?CNa17
   case CNa17=>rfl
   rintro z1 hz1<;>conv=>whnf
   have lz1:z1.1.length=z.1.length+1:=by rw [hz1,acc_len];rfl
   refine RunsS.subR (nx':=5) (l':=[(0,.ptr 0 0),(5,.v (.string l[i])),(27,.buf 4),(28,.v (.int .i64 l.length)),(29,.v (.int .i64 i))]) (H':=[prB z1.2 3,toksB z1.1 3,(4,.ro 1 (rwsB l))]) [(3,6)] ?_ sH sH
   (try refine gS ?_);conv=>whnf
   refine RunsS.callN (padd_fn z1 [.s l[i]] (by show z1.1.length+1≤_;omega)) [0,3,5] ?_ sH ?CNa18
   case CNa18=>rfl
   rintro z2 hz2<;>conv=>whnf
   have lz2:z2.1.length=z1.1.length+1:=by rw [hz2,acc_len];rfl
   refine RunsS.subR (nx':=5) (l':=[(0,.ptr 0 0),(27,.buf 4),(28,.v (.int .i64 l.length)),(29,.v (.int .i64 i))]) (H':=[prB z2.2 3,toksB z2.1 3,(4,.ro 1 (rwsB l))]) [(3,6)] ?_ sH sH
   (try refine gS ?_);conv=>whnf
   repeat ((first|(guard_target=_∧_;(first|refine oL ?_|refine oR ?_))|(guard_target=Exists _;refine oM ?_));(try intro _);conv=>whnf)
   refine RunsS.subR [] (back ((i+1,z2)) (by exact (⟨hk,by show z2=_;rw [hz2,hz1,hJ,acc_add,acc_add];exact acc_eq (by simp [Pr.add,hn]) rfl⟩)) (by (try dsimp only);omega)) sH sH
  have e0:l.take i=[]:=(take_nil hk).2 (by omega)
  rw [if_pos e0] at hn
  (try refine gS ?_);conv=>whnf
  refine RunsS.callN (padd_fn z [.s l[i]] (by show z.1.length+1≤_;omega)) [0,3,5] ?_ sH ?CNa20
  case CNa20=>rfl
  rintro z2 hz2<;>conv=>whnf
  have lz2:z2.1.length=z.1.length+1:=by rw [hz2,acc_len];rfl
  refine RunsS.subR (nx':=5) (l':=[(0,.ptr 0 0),(27,.buf 4),(28,.v (.int .i64 l.length)),(29,.v (.int .i64 i))]) (H':=[prB z2.2 3,toksB z2.1 3,(4,.ro 1 (rwsB l))]) [(3,6)] ?_ sH sH
  (try refine gS ?_);conv=>whnf
  repeat ((first|(guard_target=_∧_;(first|refine oL ?_|refine oR ?_))|(guard_target=Exists _;refine oM ?_));(try intro _);conv=>whnf)
  refine RunsS.subR [] (back ((i+1,z2)) (by exact (⟨hk,by show z2=_;rw [hz2,hJ,acc_add];exact acc_eq (by simp [Pr.add,hn]) rfl⟩)) (by (try dsimp only);omega)) sH sH
 (try refine gS ?_);conv=>whnf
 refine RunsS.callN (padd_fn z [wS 125,wS 59] (by show z.1.length+2≤_;omega)) [0,3,5] ?_ sH ?CNa22
 case CNa22=>rfl
 rintro w hw<;>conv=>whnf
 have lw:w.1.length=z.1.length+2:=by rw [hw,acc_len];rfl
 refine RunsS.subR (nx':=5) (l':=[(0,.ptr 0 0)]) (H':=[prB w.2 3,toksB w.1 3]) [(3,6)] ?_ sH sH
 (try refine gS ?_);conv=>whnf
 try refine RunsS.finU ?_
 exact UnwS.ret tab Tryz.func94 rfl (EndS.mk (w) (by rw [hw,hJ,hy,hx0,List.take_of_length_le (by omega),acc_add,acc_add,acc_add];exact acc_eq (by simp [Pr.add]) (by simp [Pr.add])) [(2,3)] sH rfl rfl (okRet rfl rfl))
end Go.Proofs.YtgbeechjghajcaaGreatDoor

namespace Go.SynM
open Go Go.Fw Go.RatM Go.SrcM
def inPr (a:Am):Pr:=⟨inPt a,true⟩
def outPr (a:Am):Pr:=⟨outPt a,!a.back⟩
def runPr (a:Rn):Pr:=⟨runPt a,true⟩
def cndPr (l:List Cd):Pr:=⟨if l=[] then [] else .w wIf::condsPt l,decide (l.length≤6)⟩
theorem all_snoc {α:Type} {f:α→Pr} (l:List α) (x:α):Pr.all f (l++[x])=(Pr.all f l).add (f x):=by
 induction l with
 |nil=>simp [Pr.all,Pr.add,Pr.nil]
 |cons y l ih=>simp only [List.cons_append,Pr.all,ih,Pr.add,List.append_assoc,Bool.and_assoc]
theorem all_len {α:Type} {f:α→Pr} {n:Nat} (h:∀x,(f x).l.length≤n) (l:List α):(Pr.all f l).l.length≤n*l.length:=by
 induction l with
 |nil=>simp [Pr.all,Pr.nil]
 |cons x l ih=>
  have:=h x
  simp only [Pr.all,Pr.add,List.length_append,List.length_cons,Nat.mul_add]
  omega
theorem inPr_len (a:Am):(inPr a).l.length≤8:=by
 show (inPt a).length≤8
 unfold inPt amPt
 cases a.back<;>simp
theorem outPr_len (a:Am):(outPr a).l.length≤7:=Nat.le_of_eq rfl
theorem runPr_len (a:Rn):(runPr a).l.length≤4:=Nat.le_of_eq rfl
theorem all_true {α:Type} {f:α→List Pt} (l:List α):(Pr.all (fun a=>(⟨f a,true⟩:Pr)) l)=⟨(l.map f).flatten,true⟩:=by
 induction l with
 |nil=>rfl
 |cons x l ih=>simp only [Pr.all,Pr.add,ih,List.map_cons,List.flatten_cons,Bool.and_true]
theorem all_out (l:List Am):Pr.all outPr l=⟨(l.map outPt).flatten,l.all fun a=> !a.back⟩:=by
 induction l with
 |nil=>rfl
 |cons x l ih=>simp only [Pr.all,Pr.add,outPr,ih,List.map_cons,List.flatten_cons,List.all_cons]
theorem rec_parts (r:RcV):(Pr.mk [] (decide (r.inn.length≤8∧r.out.length≤8∧r.runs.length≤8))).add ((Pr.mk [.w wMake,.s r.item,.w wAt,.s r.plant,.w wFrom,.n r.fr,.w wTo,.n r.to] true).add ((cndPr r.cs).add ((Pr.mk [wS 123] true).add ((Pr.all inPr r.inn).add ((Pr.all outPr r.out).add
  ((Pr.mk [.w wRework,.n r.rwN,wS 47,.n r.rwD,wS 59] true).add ((Pr.mk [.w wYield,.n r.yN,wS 47,.n r.yD,.w wWithin,.n r.tN,wS 47,.n r.tD,wS 59] true).add ((Pr.mk [.w wLead,.n r.lead,wS 59] true).add ((Pr.all runPr r.runs).add ⟨[wS 125],true⟩)))))))))=recPr r:=by
 have e1:Pr.all inPr r.inn=⟨(r.inn.map inPt).flatten,true⟩:=all_true _
 have e2:Pr.all runPr r.runs=⟨(r.runs.map runPt).flatten,true⟩:=all_true _
 rw [e1,e2,all_out]
 unfold recPr cndPr
 simp only [Pr.add,List.nil_append,List.append_assoc,List.cons_append,Bool.true_and,Bool.and_true]
end Go.SynM
namespace Go.Proofs.YtgbeechjghajcaaGreatDoor
open Go Go.Fw Go.NatM Go.RatM Go.SrcM Go.SynM
set_option maxRecDepth 100000
set_option maxHeartbeats 99999999
theorem precP_fn (r:RcV) (x:Ac) (hl:x.1.length+28+4*r.cs.length+8*r.inn.length+7*r.out.length+4*r.runs.length≤1000000):FnT Tryz.prog (fun F h=>r.ok F h) 96 2 [.ptr 0 0,.agg (toV r.row)] [prB x.2 1,toksB x.1 1] (fun y=>y=acc x (recPr r)) (outY 2):=by
 rw [←rec_parts,←acc_add,←acc_add,←acc_add,←acc_add,←acc_add,←acc_add,←acc_add,←acc_add,←acc_add,←acc_add]
 obtain ⟨b,hb⟩:∃b,b=decide (r.inn.length≤8∧r.out.length≤8∧r.runs.length≤8):=⟨_,rfl⟩
 rw [←hb]
 have lc:=rws_len Cd.row r.cs
 have li:=rws_len Am.row r.inn
 have lo:=rws_len Am.row r.out
 have lr:=rws_len Rn.row r.runs
 refine FnT.of Tryz.func96 (by kernel_rfl) rfl Tryz.ntmps96 rfl fun E0 F h hT w0 cs=>?_
 conv=>whnf
 refine goS_run tab 6 _ _ _ _ ?_;conv=>whnf
 refine RunsS.joinO (fun (y:Ac)=>[(0,.ptr 0 0),(3,.ptr 2 0)]) (fun (y:Ac)=>[prB y.2 3,toksB y.1 3,(2,.cells 61 (toV r.row))]) 4 (fun (y:Ac)=>y=acc x ⟨[],b⟩) ?_ (fun meet=>?_)
 rotate_left
 ·try refine gS ?_
  conv=>whnf
  by_cases h1:r.inn.length≤8
  ·refine And.intro (fun _=>?_) (fun hn=>absurd ((by omega)) hn)
   conv=>whnf
   by_cases h2:r.out.length≤8
   ·refine And.intro (fun _=>?_) (fun hn=>absurd ((by omega)) hn)
    conv=>whnf
    (try refine gS ?_);conv=>whnf
    refine RunsS.callN (pneed_fn x (decide ((r.runs.length:Int)≤8))) [0,1] ?_ sH ?CNa1
    case CNa1=>rfl
    rintro y hy<;>conv=>whnf
    have ly:y.1.length=x.1.length:=by rw [hy,acc_len];rfl
    refine RunsS.subR (nx':=4) (l':=[(0,.ptr 0 0),(3,.ptr 2 0)]) (H':=[prB y.2 3,toksB y.1 3,(2,.cells 61 (toV r.row))]) [(3,1)] ?_ sH sH
    (try refine gS ?_);conv=>whnf
    refine RunsS.subR [] (meet (y) (by exact (hy.trans (acc_eq rfl (by rw [hb];exact decide_eq_decide.2 ⟨fun h=>⟨h1,h2,by omega⟩,fun h=>by omega⟩))))) sH sH
   refine And.intro (fun hp=>absurd hp ((by omega))) (fun _=>?_)
   conv=>whnf
   (try refine gS ?_);conv=>whnf
   refine RunsS.callN (pneed_fn x (false)) [0,1] ?_ sH ?CNa3
   case CNa3=>rfl
   rintro y hy<;>conv=>whnf
   have ly:y.1.length=x.1.length:=by rw [hy,acc_len];rfl
   refine RunsS.subR (nx':=4) (l':=[(0,.ptr 0 0),(3,.ptr 2 0)]) (H':=[prB y.2 3,toksB y.1 3,(2,.cells 61 (toV r.row))]) [(3,1)] ?_ sH sH
   (try refine gS ?_);conv=>whnf
   refine RunsS.subR [] (meet (y) (by exact (hy.trans (acc_eq rfl (by rw [hb];exact (decide_eq_false fun h=>h2 h.2.1).symm))))) sH sH
  refine And.intro (fun hp=>absurd hp ((by omega))) (fun _=>?_)
  conv=>whnf
  (try refine gS ?_);conv=>whnf
  refine RunsS.callN (pneed_fn x (false)) [0,1] ?_ sH ?CNa5
  case CNa5=>rfl
  rintro y hy<;>conv=>whnf
  have ly:y.1.length=x.1.length:=by rw [hy,acc_len];rfl
  refine RunsS.subR (nx':=4) (l':=[(0,.ptr 0 0),(3,.ptr 2 0)]) (H':=[prB y.2 3,toksB y.1 3,(2,.cells 61 (toV r.row))]) [(3,1)] ?_ sH sH
  (try refine gS ?_);conv=>whnf
  refine RunsS.subR [] (meet (y) (by exact (hy.trans (acc_eq rfl (by rw [hb];exact (decide_eq_false fun h=>h1 h.1).symm))))) sH sH
 rintro x0 hx0
 have lx0:x0.1.length=x.1.length:=by rw [hx0,acc_len];rfl
 (try refine gS ?_);conv=>whnf
 refine RunsS.callN (padd_fn x0 [.w wMake,.s r.item,.w wAt,.s r.plant,.w wFrom,.n r.fr,.w wTo,.n r.to] (by show x0.1.length+8≤_;omega)) [0,3,4] ?_ sH ?CNa7
 case CNa7=>rfl
 rintro x1 hx1<;>conv=>whnf
 have lx1:x1.1.length=x0.1.length+8:=by rw [hx1,acc_len];rfl
 refine RunsS.subR (nx':=4) (l':=[(0,.ptr 0 0),(3,.ptr 2 0)]) (H':=[prB x1.2 3,toksB x1.1 3,(2,.cells 61 (toV r.row))]) [(3,5)] ?_ sH sH
 refine goS_run tab 2 _ _ _ _ ?_;conv=>whnf
 rw [←hx0,←hx1]
 refine RunsS.join (fun (y:Ac)=>[(0,.ptr 0 0),(3,.ptr 2 0)]) (fun (y:Ac)=>[prB y.2 3,toksB y.1 3,(2,.cells 61 (toV r.row))]) 4 (fun (y:Ac)=>y=acc x1 (cndPr r.cs)) ?_ (fun meet=>?_)
 rotate_left
 ·try refine gS ?_
  conv=>whnf
  refine ⟨fun hc=>?_,fun hc=>?_⟩<;>conv=>whnf
  ·have e:r.cs ≠ []:=fun e=>by rw [e] at hc;exact absurd hc (by decide)
   have ec:cndPr r.cs=⟨.w wIf::condsPt r.cs,decide (1≤r.cs.length∧r.cs.length≤6)⟩:=by
    unfold cndPr
    rw [if_neg e]
    congr 1
    exact decide_eq_decide.2 ⟨fun h=>⟨by omega,h⟩,fun h=>h.2⟩
   (try refine gS ?_);conv=>whnf
   refine RunsS.callN (padd_fn x1 [.w wIf] (by show x1.1.length+1≤_;omega)) [0,3,4] ?_ sH ?CNa8
   case CNa8=>rfl
   rintro y hy<;>conv=>whnf
   have ly:y.1.length=x1.1.length+1:=by rw [hy,acc_len];rfl
   refine RunsS.subR (nx':=4) (l':=[(0,.ptr 0 0),(3,.ptr 2 0)]) (H':=[prB y.2 3,toksB y.1 3,(2,.cells 61 (toV r.row))]) [(3,5)] ?_ sH sH
   (try refine gS ?_);conv=>whnf
   refine RunsS.callT (RoF.tok _ _ _) (hT.c) (pconds_fn _ r.cs y (by omega)) [0,3] sH ?CNa9 ?_
   case CNa9=>rfl
   rintro z hz
   conv=>whnf
   refine RunsS.subR (nx':=5) (l':=[(0,.ptr 0 0),(3,.ptr 2 0)]) (H':=[prB z.2 4,toksB z.1 4,(2,.cells 61 (toV r.row))]) [] ?_ sH sH
   (try refine gS ?_);conv=>whnf
   refine RunsS.subR [(3,4)] (meet (z) (by exact (by rw [hz,hy,acc_add,ec];exact acc_eq rfl rfl))) sH sH
  have e:r.cs=[]:=List.length_eq_zero_iff.1 (by omega)
  (try refine gS ?_);conv=>whnf
  refine RunsS.subR [] (meet (x1) (by exact (by rw [e];exact (acc_nil x1).symm))) sH sH
 rintro x2 hx2
 have lx2:x2.1.length≤x1.1.length+1+4*r.cs.length:=by
  rw [hx2,acc_len]
  have:=condsPt_len r.cs
  unfold cndPr
  split
  ·simp only [List.length_nil];omega
  simp only [List.length_cons];omega
 rw [←hx2]
 (try refine gS ?_);conv=>whnf
 refine RunsS.callN (padd_fn x2 [wS 123] (by show x2.1.length+1≤_;omega)) [0,3,4] ?_ sH ?CNa12
 case CNa12=>rfl
 rintro x3 hx3<;>conv=>whnf
 have lx3:x3.1.length=x2.1.length+1:=by rw [hx3,acc_len];rfl
 refine RunsS.subR (nx':=4) (l':=[(0,.ptr 0 0),(3,.ptr 2 0)]) (H':=[prB x3.2 3,toksB x3.1 3,(2,.cells 61 (toV r.row))]) [(3,5)] ?_ sH sH
 (try refine gS ?_);conv=>whnf
 rw [←hx3]
 refine RunsS.nameAt (fun _ x=>x) 64 (by exact hT.i) ?_
 conv=>whnf
 (try refine gS ?_);conv=>whnf
 refine RunsS.subR [] (RunsS.loop (fun (⟨i,z⟩:Nat×Ac)=>[(0,.ptr 0 0),(3,.ptr 2 0),(64,.buf 4),(65,.v (.int .i64 r.inn.length)),(66,.v (.int .i64 i))]) (fun (⟨i,z⟩:Nat×Ac)=>[prB z.2 3,toksB z.1 3,(2,.cells 61 (toV r.row)),(4,.ro 7 (rws Am.row r.inn))]) 5 (fun (⟨i,z⟩:Nat×Ac)=>i≤r.inn.length∧z=acc x3 (Pr.all inPr (r.inn.take i))) (fun (⟨i,z⟩:Nat×Ac)=>r.inn.length - i) ?round13 ((0,x3)) ?J013) sH sH
 case J013=>exact (⟨Nat.zero_le _,(acc_nil x3).symm⟩)
 rintro ⟨i,z⟩ hJ back
 try dsimp only at hJ back
 conv=>whnf
 try dsimp only
 refine gS ?_;conv=>whnf
 obtain ⟨hi,hJ⟩:=hJ
 have lz:z.1.length≤x3.1.length+8*i:=by
  rw [hJ,acc_len]
  have:=all_len inPr_len (r.inn.take i)
  rw [List.length_take] at this
  omega
 refine ⟨fun hk=>?_,fun hk=>?_⟩<;>conv=>whnf
 ·have hk:i<r.inn.length:=by omega
  have hn:=all_snoc (f:=inPr) (r.inn.take i) r.inn[i]
  rw [←take_snoc hk] at hn
  conv=>whnf
  repeat ((first|(guard_target=_∧_;(first|refine oL ?_|refine oR ?_))|(guard_target=Exists _;refine oM ?_));(try intro _);conv=>whnf)
  refine ⟨_,rws_get hk,?_⟩;conv=>whnf
  try (refine oN ?_;conv=>whnf)
  (try refine gS ?_);conv=>whnf
  refine RunsS.callN (padd_fn z [.w wIn] (by show z.1.length+1≤_;omega)) [0,3,6] ?_ sH ?CNa14
  case CNa14=>rfl
  rintro z1 hz1<;>conv=>whnf
  have lz1:z1.1.length=z.1.length+1:=by rw [hz1,acc_len];rfl
  refine RunsS.subR (nx':=6) (l':=[(0,.ptr 0 0),(3,.ptr 2 0),(64,.buf 4),(65,.v (.int .i64 r.inn.length)),(66,.v (.int .i64 i)),(5,.ptr 5 0)]) (H':=[prB z1.2 3,toksB z1.1 3,(2,.cells 61 (toV r.row)),(5,.cells 55 (toV r.inn[i].row)),(4,.ro 7 (rws Am.row r.inn))]) [(3,7)] ?_ sH sH
  (try refine gS ?_);conv=>whnf
  cases hbk:r.inn[i].back with
  |true=>
   (try refine gS ?_);conv=>whnf
   refine RunsS.callN (padd_fn z1 [.w wBack] (by show z1.1.length+1≤_;omega)) [0,3,6] ?_ sH ?CNa15
   case CNa15=>rfl
   rintro z2 hz2<;>conv=>whnf
   have lz2:z2.1.length=z1.1.length+1:=by rw [hz2,acc_len];rfl
   refine RunsS.subR (nx':=6) (l':=[(0,.ptr 0 0),(3,.ptr 2 0),(64,.buf 4),(65,.v (.int .i64 r.inn.length)),(66,.v (.int .i64 i)),(5,.ptr 5 0)]) (H':=[prB z2.2 3,toksB z2.1 3,(2,.cells 61 (toV r.row)),(5,.cells 55 (toV r.inn[i].row)),(4,.ro 7 (rws Am.row r.inn))]) [(3,7)] ?_ sH sH
   (try refine gS ?_);conv=>whnf
   refine RunsS.callN (pam_fn z2 (r.inn[i]) (by omega)) [0,3] ?_ sH ?CNa16
   case CNa16=>rfl
   rintro z3 hz3<;>conv=>whnf
   have lz3:z3.1.length=z2.1.length+6:=by rw [hz3,acc_len];rfl
   refine RunsS.subR (nx':=6) (l':=[(0,.ptr 0 0),(3,.ptr 2 0),(64,.buf 4),(65,.v (.int .i64 r.inn.length)),(66,.v (.int .i64 i))]) (H':=[prB z3.2 3,toksB z3.1 3,(2,.cells 61 (toV r.row)),(4,.ro 7 (rws Am.row r.inn))]) [(3,6)] ?_ sH sH
   (try refine gS ?_);conv=>whnf
   repeat ((first|(guard_target=_∧_;(first|refine oL ?_|refine oR ?_))|(guard_target=Exists _;refine oM ?_));(try intro _);conv=>whnf)
   refine RunsS.subR [] (back ((i+1,z3)) (by exact (⟨hk,by show z3=_;rw [hz3,hz2,hz1,hJ,hn,acc_add,acc_add,acc_add,←acc_add _ _ (inPr _),←acc_add];exact acc_eq (by simp [Pr.add,inPr,inPt,hbk]) (by simp [Pr.add,inPr])⟩)) (by (try dsimp only);omega)) sH sH
  |false=>
   (try refine gS ?_);conv=>whnf
   refine RunsS.callN (pam_fn z1 (r.inn[i]) (by omega)) [0,3] ?_ sH ?CNa18
   case CNa18=>rfl
   rintro z3 hz3<;>conv=>whnf
   have lz3:z3.1.length=z1.1.length+6:=by rw [hz3,acc_len];rfl
   refine RunsS.subR (nx':=6) (l':=[(0,.ptr 0 0),(3,.ptr 2 0),(64,.buf 4),(65,.v (.int .i64 r.inn.length)),(66,.v (.int .i64 i))]) (H':=[prB z3.2 3,toksB z3.1 3,(2,.cells 61 (toV r.row)),(4,.ro 7 (rws Am.row r.inn))]) [(3,6)] ?_ sH sH
   (try refine gS ?_);conv=>whnf
   repeat ((first|(guard_target=_∧_;(first|refine oL ?_|refine oR ?_))|(guard_target=Exists _;refine oM ?_));(try intro _);conv=>whnf)
   refine RunsS.subR [] (back ((i+1,z3)) (by exact (⟨hk,by show z3=_;rw [hz3,hz1,hJ,hn,acc_add,acc_add];exact acc_eq (by simp [Pr.add,inPr,inPt,hbk]) (by simp [Pr.add,inPr])⟩)) (by (try dsimp only);omega)) sH sH
 have hJ:z=acc x3 (Pr.all inPr r.inn):=by rw [hJ,List.take_of_length_le (by omega)]
 clear back
 obtain ⟨x4,hx4⟩:∃x4,x4=z:=⟨_,rfl⟩
 rw [←hx4] at hJ ⊢
 clear hx4 lz
 have hx4:=hJ
 clear hJ
 have lx4:x4.1.length≤x3.1.length+8*r.inn.length:=by
  rw [hx4,acc_len]
  have:=all_len inPr_len r.inn
  omega
 rw [←hx4]
 refine RunsS.subR (nx':=4) (l':=[(0,.ptr 0 0),(3,.ptr 2 0),(85,.v (r.ho.v r.out.length)),(86,.v (.int .i64 r.out.length)),(87,.v (.int .i64 (0:Nat)))]) (H':=[prB x4.2 3,toksB x4.1 3,(2,.cells 61 (toV r.row))]) [] ?_ sH sH
 refine RunsS.nameAt (fun _ x=>x) 85 (by exact hT.o) ?_
 conv=>whnf
 (try refine gS ?_);conv=>whnf
 refine RunsS.subR [] (RunsS.loop (fun (⟨i,z⟩:Nat×Ac)=>[(0,.ptr 0 0),(3,.ptr 2 0),(85,.buf 4),(86,.v (.int .i64 r.out.length)),(87,.v (.int .i64 i))]) (fun (⟨i,z⟩:Nat×Ac)=>[prB z.2 3,toksB z.1 3,(2,.cells 61 (toV r.row)),(4,.ro 7 (rws Am.row r.out))]) 5 (fun (⟨i,z⟩:Nat×Ac)=>i≤r.out.length∧z=acc x4 (Pr.all outPr (r.out.take i))) (fun (⟨i,z⟩:Nat×Ac)=>r.out.length - i) ?round20 ((0,x4)) ?J020) sH sH
 case J020=>exact (⟨Nat.zero_le _,(acc_nil x4).symm⟩)
 rintro ⟨i,z⟩ hJ back
 try dsimp only at hJ back
 conv=>whnf
 try dsimp only
 refine gS ?_;conv=>whnf
 obtain ⟨hi,hJ⟩:=hJ
 have lz:z.1.length≤x4.1.length+7*i:=by
  rw [hJ,acc_len]
  have:=all_len outPr_len (r.out.take i)
  rw [List.length_take] at this
  omega
 refine ⟨fun hk=>?_,fun hk=>?_⟩<;>conv=>whnf
 ·have hk:i<r.out.length:=by omega
  have hn:=all_snoc (f:=outPr) (r.out.take i) r.out[i]
  rw [←take_snoc hk] at hn
  conv=>whnf
  repeat ((first|(guard_target=_∧_;(first|refine oL ?_|refine oR ?_))|(guard_target=Exists _;refine oM ?_));(try intro _);conv=>whnf)
  refine ⟨_,rws_get hk,?_⟩;conv=>whnf
  try (refine oN ?_;conv=>whnf)
  refine RunsS.callN (pneed_fn z (!r.out[i].back)) [0,3] ?_ sH ?CNa21
  case CNa21=>rfl
  rintro z1 hz1<;>conv=>whnf
  have lz1:z1.1.length=z.1.length:=by rw [hz1,acc_len];rfl
  refine RunsS.subR (nx':=6) (l':=[(0,.ptr 0 0),(3,.ptr 2 0),(85,.buf 4),(86,.v (.int .i64 r.out.length)),(87,.v (.int .i64 i)),(7,.ptr 5 0)]) (H':=[prB z1.2 3,toksB z1.1 3,(2,.cells 61 (toV r.row)),(5,.cells 55 (toV r.out[i].row)),(4,.ro 7 (rws Am.row r.out))]) [] ?_ sH sH
  (try refine gS ?_);conv=>whnf
  refine RunsS.callN (padd_fn z1 [.w wOut] (by show z1.1.length+1≤_;omega)) [0,3,6] ?_ sH ?CNa22
  case CNa22=>rfl
  rintro z2 hz2<;>conv=>whnf
  have lz2:z2.1.length=z1.1.length+1:=by rw [hz2,acc_len];rfl
  refine RunsS.subR (nx':=6) (l':=[(0,.ptr 0 0),(3,.ptr 2 0),(85,.buf 4),(86,.v (.int .i64 r.out.length)),(87,.v (.int .i64 i)),(7,.ptr 5 0)]) (H':=[prB z2.2 3,toksB z2.1 3,(2,.cells 61 (toV r.row)),(5,.cells 55 (toV r.out[i].row)),(4,.ro 7 (rws Am.row r.out))]) [(3,7)] ?_ sH sH
  (try refine gS ?_);conv=>whnf
  refine RunsS.callN (pam_fn z2 (r.out[i]) (by omega)) [0,3] ?_ sH ?CNa23
  case CNa23=>rfl
  rintro z3 hz3<;>conv=>whnf
  have lz3:z3.1.length=z2.1.length+6:=by rw [hz3,acc_len];rfl
  refine RunsS.subR (nx':=6) (l':=[(0,.ptr 0 0),(3,.ptr 2 0),(85,.buf 4),(86,.v (.int .i64 r.out.length)),(87,.v (.int .i64 i))]) (H':=[prB z3.2 3,toksB z3.1 3,(2,.cells 61 (toV r.row)),(4,.ro 7 (rws Am.row r.out))]) [(3,6)] ?_ sH sH
  (try refine gS ?_);conv=>whnf
  repeat ((first|(guard_target=_∧_;(first|refine oL ?_|refine oR ?_))|(guard_target=Exists _;refine oM ?_));(try intro _);conv=>whnf)
  refine RunsS.subR [] (back ((i+1,z3)) (by exact (⟨hk,by show z3=_;rw [hz3,hz2,hz1,hJ,hn,acc_add,acc_add,acc_add];exact acc_eq (by simp [Pr.add,outPr,outPt]) (by simp [Pr.add,outPr])⟩)) (by (try dsimp only);omega)) sH sH
 have hJ:z=acc x4 (Pr.all outPr r.out):=by rw [hJ,List.take_of_length_le (by omega)]
 clear back
 obtain ⟨x5,hx5⟩:∃x5,x5=z:=⟨_,rfl⟩
 rw [←hx5] at hJ ⊢
 clear hx5 lz
 have hx5:=hJ
 clear hJ
 have lx5:x5.1.length≤x4.1.length+7*r.out.length:=by
  rw [hx5,acc_len]
  have:=all_len outPr_len r.out
  omega
 rw [←hx5]
 refine RunsS.callN (padd_fn x5 [.w wRework,.n r.rwN,wS 47,.n r.rwD,wS 59] (by show x5.1.length+5≤_;omega)) [0,3,5] ?_ sH ?CNa25
 case CNa25=>rfl
 rintro x6 hx6<;>conv=>whnf
 have lx6:x6.1.length=x5.1.length+5:=by rw [hx6,acc_len];rfl
 refine RunsS.subR (nx':=4) (l':=[(0,.ptr 0 0),(3,.ptr 2 0)]) (H':=[prB x6.2 3,toksB x6.1 3,(2,.cells 61 (toV r.row))]) [(3,6)] ?_ sH sH
 (try refine gS ?_);conv=>whnf
 rw [←hx6]
 refine RunsS.callN (padd_fn x6 [.w wYield,.n r.yN,wS 47,.n r.yD,.w wWithin,.n r.tN,wS 47,.n r.tD,wS 59] (by show x6.1.length+9≤_;omega)) [0,3,4] ?_ sH ?CNa26
 case CNa26=>rfl
 rintro x7 hx7<;>conv=>whnf
 have lx7:x7.1.length=x6.1.length+9:=by rw [hx7,acc_len];rfl
 refine RunsS.subR (nx':=4) (l':=[(0,.ptr 0 0),(3,.ptr 2 0)]) (H':=[prB x7.2 3,toksB x7.1 3,(2,.cells 61 (toV r.row))]) [(3,5)] ?_ sH sH
 (try refine gS ?_);conv=>whnf
 rw [←hx7]
 refine RunsS.callN (padd_fn x7 [.w wLead,.n r.lead,wS 59] (by show x7.1.length+3≤_;omega)) [0,3,4] ?_ sH ?CNa27
 case CNa27=>rfl
 rintro x8 hx8<;>conv=>whnf
 have lx8:x8.1.length=x7.1.length+3:=by rw [hx8,acc_len];rfl
 refine RunsS.subR (nx':=4) (l':=[(0,.ptr 0 0),(3,.ptr 2 0)]) (H':=[prB x8.2 3,toksB x8.1 3,(2,.cells 61 (toV r.row))]) [(3,5)] ?_ sH sH
 (try refine gS ?_);conv=>whnf
 rw [←hx8]
 refine RunsS.nameAt (fun _ x=>x) 145 (by exact hT.rn) ?_
 conv=>whnf
 (try refine gS ?_);conv=>whnf
 refine RunsS.subR [] (RunsS.loop (fun (⟨i,z⟩:Nat×Ac)=>[(0,.ptr 0 0),(3,.ptr 2 0),(145,.buf 4),(146,.v (.int .i64 r.runs.length)),(147,.v (.int .i64 i))]) (fun (⟨i,z⟩:Nat×Ac)=>[prB z.2 3,toksB z.1 3,(2,.cells 61 (toV r.row)),(4,.ro 3 (rws Rn.row r.runs))]) 5 (fun (⟨i,z⟩:Nat×Ac)=>i≤r.runs.length∧z=acc x8 (Pr.all runPr (r.runs.take i))) (fun (⟨i,z⟩:Nat×Ac)=>r.runs.length - i) ?round28 ((0,x8)) ?J028) sH sH
 case J028=>exact (⟨Nat.zero_le _,(acc_nil x8).symm⟩)
 rintro ⟨i,z⟩ hJ back
 try dsimp only at hJ back
 conv=>whnf
 try dsimp only
 refine gS ?_;conv=>whnf
 obtain ⟨hi,hJ⟩:=hJ
 have lz:z.1.length≤x8.1.length+4*i:=by
  rw [hJ,acc_len]
  have:=all_len runPr_len (r.runs.take i)
  rw [List.length_take] at this
  omega
 refine ⟨fun hk=>?_,fun hk=>?_⟩<;>conv=>whnf
 ·have hk:i<r.runs.length:=by omega
  have hn:=all_snoc (f:=runPr) (r.runs.take i) r.runs[i]
  rw [←take_snoc hk] at hn
  conv=>whnf
  repeat ((first|(guard_target=_∧_;(first|refine oL ?_|refine oR ?_))|(guard_target=Exists _;refine oM ?_));(try intro _);conv=>whnf)
  refine ⟨_,rws_get hk,?_⟩;conv=>whnf
  try (refine oN ?_;conv=>whnf)
  (try refine gS ?_);conv=>whnf
  refine RunsS.callN (padd_fn z [.w wRun,.s r.runs[i].mach,.n r.runs[i].slots,wS 59] (by show z.1.length+4≤_;omega)) [0,3,6] ?_ sH ?CNa29
  case CNa29=>rfl
  rintro z1 hz1<;>conv=>whnf
  have lz1:z1.1.length=z.1.length+4:=by rw [hz1,acc_len];rfl
  refine RunsS.subR (nx':=6) (l':=[(0,.ptr 0 0),(3,.ptr 2 0),(145,.buf 4),(146,.v (.int .i64 r.runs.length)),(147,.v (.int .i64 i))]) (H':=[prB z1.2 3,toksB z1.1 3,(2,.cells 61 (toV r.row)),(4,.ro 3 (rws Rn.row r.runs))]) [(3,7)] ?_ sH sH
  (try refine gS ?_);conv=>whnf
  repeat ((first|(guard_target=_∧_;(first|refine oL ?_|refine oR ?_))|(guard_target=Exists _;refine oM ?_));(try intro _);conv=>whnf)
  refine RunsS.subR [] (back ((i+1,z1)) (by exact (⟨hk,by show z1=_;rw [hz1,hJ,hn,acc_add];exact acc_eq rfl rfl⟩)) (by (try dsimp only);omega)) sH sH
 have hJ:z=acc x8 (Pr.all runPr r.runs):=by rw [hJ,List.take_of_length_le (by omega)]
 clear back
 (try refine gS ?_);conv=>whnf
 refine RunsS.callN (padd_fn z [wS 125] (by show z.1.length+1≤_;omega)) [0,3,5] ?_ sH ?CNa31
 case CNa31=>rfl
 rintro w hw<;>conv=>whnf
 have lw:w.1.length=z.1.length+1:=by rw [hw,acc_len];rfl
 refine RunsS.subR (nx':=5) (l':=[(0,.ptr 0 0)]) (H':=[prB w.2 3,toksB w.1 3]) [(3,6)] ?_ sH sH
 (try refine gS ?_);conv=>whnf
 try refine RunsS.finU ?_
 exact UnwS.ret tab Tryz.func96 rfl (EndS.mk (w) (by rw [hw,hJ]) [(2,3)] sH rfl rfl (okRet rfl rfl))
end Go.Proofs.YtgbeechjghajcaaGreatDoor

namespace Go.SynM
open Go Go.Fw Go.RatM Go.SrcM
def lenO (o:OpV):Nat:=5+2*o.ch.length
def lenF (f:FbV):Nat:=2+4*f.cs.length
def lenR (r:RcV):Nat:=28+4*r.cs.length+8*r.inn.length+7*r.out.length+4*r.runs.length
def ttl (s:SrcV):Nat:=(s.units.map fun _=>8).sum+((s.items.map fun _=>12).sum+((s.plants.map fun _=>3).sum+((s.machines.map fun _=>7).sum+((s.options.map lenO).sum+((s.forbids.map lenF).sum+((s.recipes.map lenR).sum+(s.swaps.map fun _=>5).sum))))))
theorem all_lenF {α:Type} {f:α→Pr} {n:α→Nat} (h:∀x,(f x).l.length≤n x) (l:List α):(Pr.all f l).l.length≤(l.map n).sum:=by
 induction l with
 |nil=>simp [Pr.all,Pr.nil]
 |cons x l ih=>
  have:=h x
  simp only [Pr.all,Pr.add,List.length_append,List.map_cons,List.sum_cons]
  omega
theorem unitPr_len (u:Un):(unitPr u).l.length≤8:=by
 unfold unitPr
 split<;>simp
theorem itemPr_len (u:It):(itemPr u).l.length≤12:=by
 unfold itemPr
 split<;>simp
theorem plantPr_len (u:ByteArray):(plantPr u).l.length≤3:=Nat.le_of_eq rfl
theorem machPr_len (u:Mc):(machPr u).l.length≤7:=Nat.le_of_eq rfl
theorem swapPr_len (u:Sw):(swapPr u).l.length≤5:=Nat.le_of_eq rfl
theorem optnPr_len (o:OpV):(optnPr o).l.length≤lenO o:=by
 have:=chsPt_len o.ch
 simp only [optnPr,lenO,List.length_append,List.length_cons,List.length_nil]
 omega
theorem forbPr_len (o:FbV):(forbPr o).l.length≤lenF o:=by
 have:=condsPt_len o.cs
 simp only [forbPr,lenF,List.length_append,List.length_cons,List.length_nil]
 omega
theorem recPr_len (r:RcV):(recPr r).l.length≤lenR r:=by
 rw [←rec_parts]
 have h1:=condsPt_len r.cs
 have h2:=all_len inPr_len r.inn
 have h3:=all_len outPr_len r.out
 have h4:=all_len runPr_len r.runs
 have h5:(cndPr r.cs).l.length≤1+4*r.cs.length:=by
  unfold cndPr
  split
  ·simp
  simp only [List.length_cons];omega
 simp only [Pr.add,lenR,List.length_append,List.length_cons,List.length_nil]
 omega
end Go.SynM
namespace Go.Proofs.YtgbeechjghajcaaGreatDoor
open Go Go.Fw Go.NatM Go.RatM Go.SrcM Go.SynM
set_option maxRecDepth 100000
set_option maxHeartbeats 99999999
theorem OpV.tok (o:OpV):TOk (fun F h=>o.ok F h):=RoF.tok _ _ _
theorem FbV.tok (o:FbV):TOk (fun F h=>o.ok F h):=RoF.tok _ _ _
section
variable {vU vI vP vM vO vF vR vS:Value}
theorem psrc_fn (s:SrcV) (x:Ac) (hl:x.1.length+ttl s≤1000000):FnT Tryz.prog (TopT vU vI vP vM vO vF vR vS s) 31 2 [.ptr 0 0,srcA vU vI vP vM vO vF vR vS] [prB x.2 1,toksB x.1 1] (fun y=>y=acc x (srcPr s)) (outY 2):=by
 unfold srcPr
 rw [←acc_add,←acc_add,←acc_add,←acc_add,←acc_add,←acc_add,←acc_add]
 obtain ⟨sU,eU⟩:∃n,n=(s.units.map fun _=>8).sum:=⟨_,rfl⟩
 obtain ⟨sI,eI⟩:∃n,n=(s.items.map fun _=>12).sum:=⟨_,rfl⟩
 obtain ⟨sP,eP⟩:∃n,n=(s.plants.map fun _=>3).sum:=⟨_,rfl⟩
 obtain ⟨sM,eM⟩:∃n,n=(s.machines.map fun _=>7).sum:=⟨_,rfl⟩
 obtain ⟨sO,eO⟩:∃n,n=(s.options.map lenO).sum:=⟨_,rfl⟩
 obtain ⟨sF,eF⟩:∃n,n=(s.forbids.map lenF).sum:=⟨_,rfl⟩
 obtain ⟨sR,eR⟩:∃n,n=(s.recipes.map lenR).sum:=⟨_,rfl⟩
 obtain ⟨sS,eS⟩:∃n,n=(s.swaps.map fun _=>5).sum:=⟨_,rfl⟩
 unfold ttl at hl
 rw [←eU,←eI,←eP,←eM,←eO,←eF,←eR,←eS] at hl
 have lU:=rowsU_len s.units
 have lI:=rws_len It.row s.items
 have lP:=rwsB_len s.plants
 have lM:=rws_len Mc.row s.machines
 have lO:=rws_len OpV.row s.options
 have lF:=rws_len FbV.row s.forbids
 have lR:=rws_len RcV.row s.recipes
 have lS:=rws_len Sw.row s.swaps
 refine FnT.of Tryz.func31 (by kernel_rfl) rfl Tryz.ntmps31 rfl fun E0 F h hT w0 cs=>?_
 obtain ⟨aU,cU,aI,cI,aP,cP,aM,cM,aO,cO,aF,cF,aR,cR,aS,cS,rfl,rfl,rfl,rfl,rfl,rfl,rfl,rfl⟩:=topShapes hT
 conv=>whnf
 (try refine gS ?_);conv=>whnf
 refine RunsS.subR (nx':=4) (l':=[(0,.ptr 0 0),(3,.ptr 2 0),(21,.v (.slice aU s.units.length cU)),(22,.v (.int .i64 s.units.length)),(23,.v (.int .i64 (0:Nat)))]) (H':=[prB x.2 3,toksB x.1 3,(2,.cells 32 [.v (.slice aU s.units.length cU),.v (.slice aI s.items.length cI),.v (.slice aP s.plants.length cP),.v (.slice aM s.machines.length cM),.v (.slice aO s.options.length cO),.v (.slice aF s.forbids.length cF),.v (.slice aR s.recipes.length cR),.v (.slice aS s.swaps.length cS)])]) [(3,1)] ?_ sH sH
 have mU:=hT.U.len
 refine RunsS.nameAt (fun _ x=>x) 21 (by exact hT.U) ?_
 conv=>whnf
 (try refine gS ?_);conv=>whnf
 refine RunsS.subR [] (RunsS.loop (fun (⟨i,z⟩:Nat×Ac)=>[(0,.ptr 0 0),(3,.ptr 2 0),(21,.buf 4),(22,.v (.int .i64 s.units.length)),(23,.v (.int .i64 i))]) (fun (⟨i,z⟩:Nat×Ac)=>[prB z.2 3,toksB z.1 3,(2,.cells 32 [.v (.slice aU s.units.length cU),.v (.slice aI s.items.length cI),.v (.slice aP s.plants.length cP),.v (.slice aM s.machines.length cM),.v (.slice aO s.options.length cO),.v (.slice aF s.forbids.length cF),.v (.slice aR s.recipes.length cR),.v (.slice aS s.swaps.length cS)]),(4,.ro 8 (rowsU s.units))]) 5 (fun (⟨i,z⟩:Nat×Ac)=>i≤s.units.length∧z=acc x (Pr.all unitPr (s.units.take i))) (fun (⟨i,z⟩:Nat×Ac)=>s.units.length - i) ?round1 ((0,x)) ?J01) sH sH
 case J01=>exact (⟨Nat.zero_le _,(acc_nil x).symm⟩)
 rintro ⟨i,z⟩ hJ back
 try dsimp only at hJ back
 conv=>whnf
 try dsimp only
 refine gS ?_;conv=>whnf
 obtain ⟨hi,hJ⟩:=hJ
 have lz:z.1.length≤x.1.length+sumK (fun _=>8) s.units i:=by
  rw [hJ,acc_len]
  have:=all_lenF (n:=(fun _=>8)) unitPr_len (s.units.take i)
  unfold sumK
  omega
 refine ⟨fun hk=>?_,fun hk=>?_⟩<;>conv=>whnf
 ·have hk:i<s.units.length:=by omega
  have hn:=all_snoc (f:=unitPr) (s.units.take i) s.units[i]
  rw [←take_snoc hk] at hn
  have hs:=sumK_succ (f:=(fun _=>8)) hk
  have hs2:=sumK_le (f:=(fun _=>8)) (l:=s.units) (i+1)
  rw [←eU] at hs2
  conv=>whnf
  repeat ((first|(guard_target=_∧_;(first|refine oL ?_|refine oR ?_))|(guard_target=Exists _;refine oM ?_));(try intro _);conv=>whnf)
  refine ⟨_,rowsU_get hk,?_⟩;conv=>whnf
  try (refine oN ?_;conv=>whnf)
  refine RunsS.callN (punitP_fn z s.units[i] (by omega)) [0,3] ?_ sH ?CNa2
  case CNa2=>rfl
  rintro w hw<;>conv=>whnf
  refine RunsS.subR (nx':=6) (l':=[(0,.ptr 0 0),(3,.ptr 2 0),(21,.buf 4),(22,.v (.int .i64 s.units.length)),(23,.v (.int .i64 i))]) (H':=[prB w.2 3,toksB w.1 3,(2,.cells 32 [.v (.slice aU s.units.length cU),.v (.slice aI s.items.length cI),.v (.slice aP s.plants.length cP),.v (.slice aM s.machines.length cM),.v (.slice aO s.options.length cO),.v (.slice aF s.forbids.length cF),.v (.slice aR s.recipes.length cR),.v (.slice aS s.swaps.length cS)]),(4,.ro 8 (rowsU s.units))]) [(3,6)] ?_ sH sH
  (try refine gS ?_);conv=>whnf
  repeat ((first|(guard_target=_∧_;(first|refine oL ?_|refine oR ?_))|(guard_target=Exists _;refine oM ?_));(try intro _);conv=>whnf)
  refine RunsS.subR [] (back ((i+1,w)) (by exact (⟨hk,by show w=_;rw [hw,hJ,hn,←acc_add]⟩)) (by (try dsimp only);omega)) sH sH
 have hJ:z=acc x (Pr.all unitPr s.units):=by rw [hJ,List.take_of_length_le (by omega)]
 clear back lz
 obtain ⟨x1,hx1⟩:∃y,y=z:=⟨_,rfl⟩
 rw [←hx1] at hJ ⊢
 clear hx1
 have hx1:=hJ
 clear hJ
 have lx1:x1.1.length≤x.1.length+sU:=by
  rw [hx1,acc_len,eU]
  exact Nat.add_le_add_left (all_lenF unitPr_len _) _
 rw [←hx1]
 refine RunsS.subR (nx':=4) (l':=[(0,.ptr 0 0),(3,.ptr 2 0),(32,.v (.slice aI s.items.length cI)),(33,.v (.int .i64 s.items.length)),(34,.v (.int .i64 (0:Nat)))]) (H':=[prB x1.2 3,toksB x1.1 3,(2,.cells 32 [.v (.slice aU s.units.length cU),.v (.slice aI s.items.length cI),.v (.slice aP s.plants.length cP),.v (.slice aM s.machines.length cM),.v (.slice aO s.options.length cO),.v (.slice aF s.forbids.length cF),.v (.slice aR s.recipes.length cR),.v (.slice aS s.swaps.length cS)])]) [] ?_ sH sH
 have mI:=hT.I.len
 refine RunsS.nameAt (fun _ x=>x) 32 (by exact hT.I) ?_
 conv=>whnf
 (try refine gS ?_);conv=>whnf
 refine RunsS.subR [] (RunsS.loop (fun (⟨i,z⟩:Nat×Ac)=>[(0,.ptr 0 0),(3,.ptr 2 0),(32,.buf 4),(33,.v (.int .i64 s.items.length)),(34,.v (.int .i64 i))]) (fun (⟨i,z⟩:Nat×Ac)=>[prB z.2 3,toksB z.1 3,(2,.cells 32 [.v (.slice aU s.units.length cU),.v (.slice aI s.items.length cI),.v (.slice aP s.plants.length cP),.v (.slice aM s.machines.length cM),.v (.slice aO s.options.length cO),.v (.slice aF s.forbids.length cF),.v (.slice aR s.recipes.length cR),.v (.slice aS s.swaps.length cS)]),(4,.ro 6 (rws It.row s.items))]) 5 (fun (⟨i,z⟩:Nat×Ac)=>i≤s.items.length∧z=acc x1 (Pr.all itemPr (s.items.take i))) (fun (⟨i,z⟩:Nat×Ac)=>s.items.length - i) ?round4 ((0,x1)) ?J04) sH sH
 case J04=>exact (⟨Nat.zero_le _,(acc_nil x1).symm⟩)
 rintro ⟨i,z⟩ hJ back
 try dsimp only at hJ back
 conv=>whnf
 try dsimp only
 refine gS ?_;conv=>whnf
 obtain ⟨hi,hJ⟩:=hJ
 have lz:z.1.length≤x1.1.length+sumK (fun _=>12) s.items i:=by
  rw [hJ,acc_len]
  have:=all_lenF (n:=(fun _=>12)) itemPr_len (s.items.take i)
  unfold sumK
  omega
 refine ⟨fun hk=>?_,fun hk=>?_⟩<;>conv=>whnf
 ·have hk:i<s.items.length:=by omega
  have hn:=all_snoc (f:=itemPr) (s.items.take i) s.items[i]
  rw [←take_snoc hk] at hn
  have hs:=sumK_succ (f:=(fun _=>12)) hk
  have hs2:=sumK_le (f:=(fun _=>12)) (l:=s.items) (i+1)
  rw [←eI] at hs2
  conv=>whnf
  repeat ((first|(guard_target=_∧_;(first|refine oL ?_|refine oR ?_))|(guard_target=Exists _;refine oM ?_));(try intro _);conv=>whnf)
  refine ⟨_,rws_get hk,?_⟩;conv=>whnf
  try (refine oN ?_;conv=>whnf)
  refine RunsS.callN (pitemP_fn z s.items[i] (by omega)) [0,3] ?_ sH ?CNa5
  case CNa5=>rfl
  rintro w hw<;>conv=>whnf
  refine RunsS.subR (nx':=6) (l':=[(0,.ptr 0 0),(3,.ptr 2 0),(32,.buf 4),(33,.v (.int .i64 s.items.length)),(34,.v (.int .i64 i))]) (H':=[prB w.2 3,toksB w.1 3,(2,.cells 32 [.v (.slice aU s.units.length cU),.v (.slice aI s.items.length cI),.v (.slice aP s.plants.length cP),.v (.slice aM s.machines.length cM),.v (.slice aO s.options.length cO),.v (.slice aF s.forbids.length cF),.v (.slice aR s.recipes.length cR),.v (.slice aS s.swaps.length cS)]),(4,.ro 6 (rws It.row s.items))]) [(3,6)] ?_ sH sH
  (try refine gS ?_);conv=>whnf
  repeat ((first|(guard_target=_∧_;(first|refine oL ?_|refine oR ?_))|(guard_target=Exists _;refine oM ?_));(try intro _);conv=>whnf)
  refine RunsS.subR [] (back ((i+1,w)) (by exact (⟨hk,by show w=_;rw [hw,hJ,hn,←acc_add]⟩)) (by (try dsimp only);omega)) sH sH
 have hJ:z=acc x1 (Pr.all itemPr s.items):=by rw [hJ,List.take_of_length_le (by omega)]
 clear back lz
 obtain ⟨x2,hx2⟩:∃y,y=z:=⟨_,rfl⟩
 rw [←hx2] at hJ ⊢
 clear hx2
 have hx2:=hJ
 clear hJ
 have lx2:x2.1.length≤x1.1.length+sI:=by
  rw [hx2,acc_len,eI]
  exact Nat.add_le_add_left (all_lenF itemPr_len _) _
 rw [←hx2]
 refine RunsS.subR (nx':=4) (l':=[(0,.ptr 0 0),(3,.ptr 2 0),(43,.v (.slice aP s.plants.length cP)),(44,.v (.int .i64 s.plants.length)),(45,.v (.int .i64 (0:Nat)))]) (H':=[prB x2.2 3,toksB x2.1 3,(2,.cells 32 [.v (.slice aU s.units.length cU),.v (.slice aI s.items.length cI),.v (.slice aP s.plants.length cP),.v (.slice aM s.machines.length cM),.v (.slice aO s.options.length cO),.v (.slice aF s.forbids.length cF),.v (.slice aR s.recipes.length cR),.v (.slice aS s.swaps.length cS)])]) [] ?_ sH sH
 have mP:=hT.P.len
 refine RunsS.nameAt (fun _ x=>x) 43 (by exact hT.P) ?_
 conv=>whnf
 (try refine gS ?_);conv=>whnf
 refine RunsS.subR [] (RunsS.loop (fun (⟨i,z⟩:Nat×Ac)=>[(0,.ptr 0 0),(3,.ptr 2 0),(43,.buf 4),(44,.v (.int .i64 s.plants.length)),(45,.v (.int .i64 i))]) (fun (⟨i,z⟩:Nat×Ac)=>[prB z.2 3,toksB z.1 3,(2,.cells 32 [.v (.slice aU s.units.length cU),.v (.slice aI s.items.length cI),.v (.slice aP s.plants.length cP),.v (.slice aM s.machines.length cM),.v (.slice aO s.options.length cO),.v (.slice aF s.forbids.length cF),.v (.slice aR s.recipes.length cR),.v (.slice aS s.swaps.length cS)]),(4,.ro 1 (rwsB s.plants))]) 5 (fun (⟨i,z⟩:Nat×Ac)=>i≤s.plants.length∧z=acc x2 (Pr.all plantPr (s.plants.take i))) (fun (⟨i,z⟩:Nat×Ac)=>s.plants.length - i) ?round7 ((0,x2)) ?J07) sH sH
 case J07=>exact (⟨Nat.zero_le _,(acc_nil x2).symm⟩)
 rintro ⟨i,z⟩ hJ back
 try dsimp only at hJ back
 conv=>whnf
 try dsimp only
 refine gS ?_;conv=>whnf
 obtain ⟨hi,hJ⟩:=hJ
 have lz:z.1.length≤x2.1.length+sumK (fun _=>3) s.plants i:=by
  rw [hJ,acc_len]
  have:=all_lenF (n:=(fun _=>3)) plantPr_len (s.plants.take i)
  unfold sumK
  omega
 refine ⟨fun hk=>?_,fun hk=>?_⟩<;>conv=>whnf
 ·have hk:i<s.plants.length:=by omega
  have hn:=all_snoc (f:=plantPr) (s.plants.take i) s.plants[i]
  rw [←take_snoc hk] at hn
  have hs:=sumK_succ (f:=(fun _=>3)) hk
  have hs2:=sumK_le (f:=(fun _=>3)) (l:=s.plants) (i+1)
  rw [←eP] at hs2
  conv=>whnf
  repeat ((first|(guard_target=_∧_;(first|refine oL ?_|refine oR ?_))|(guard_target=Exists _;refine oM ?_));(try intro _);conv=>whnf)
  refine ⟨_,rws_get hk,?_⟩;conv=>whnf
  (try refine gS ?_);conv=>whnf
  refine RunsS.callN (padd_fn z [.w wPlant,.s s.plants[i],wS 59] (by show z.1.length+3≤_;omega)) [0,3,5] ?_ sH ?CNa8
  case CNa8=>rfl
  rintro w hw<;>conv=>whnf
  have lw:w.1.length=z.1.length+3:=by rw [hw,acc_len];rfl
  refine RunsS.subR (nx':=6) (l':=[(0,.ptr 0 0),(3,.ptr 2 0),(43,.buf 4),(44,.v (.int .i64 s.plants.length)),(45,.v (.int .i64 i))]) (H':=[prB w.2 3,toksB w.1 3,(2,.cells 32 [.v (.slice aU s.units.length cU),.v (.slice aI s.items.length cI),.v (.slice aP s.plants.length cP),.v (.slice aM s.machines.length cM),.v (.slice aO s.options.length cO),.v (.slice aF s.forbids.length cF),.v (.slice aR s.recipes.length cR),.v (.slice aS s.swaps.length cS)]),(4,.ro 1 (rwsB s.plants))]) [(3,6)] ?_ sH sH
  (try refine gS ?_);conv=>whnf
  repeat ((first|(guard_target=_∧_;(first|refine oL ?_|refine oR ?_))|(guard_target=Exists _;refine oM ?_));(try intro _);conv=>whnf)
  refine RunsS.subR [] (back ((i+1,w)) (by exact (⟨hk,by show w=_;rw [hw,hJ,hn,←acc_add];rfl⟩)) (by (try dsimp only);omega)) sH sH
 have hJ:z=acc x2 (Pr.all plantPr s.plants):=by rw [hJ,List.take_of_length_le (by omega)]
 clear back lz
 obtain ⟨x3,hx3⟩:∃y,y=z:=⟨_,rfl⟩
 rw [←hx3] at hJ ⊢
 clear hx3
 have hx3:=hJ
 clear hJ
 have lx3:x3.1.length≤x2.1.length+sP:=by
  rw [hx3,acc_len,eP]
  exact Nat.add_le_add_left (all_lenF plantPr_len _) _
 rw [←hx3]
 refine RunsS.subR (nx':=4) (l':=[(0,.ptr 0 0),(3,.ptr 2 0),(58,.v (.slice aM s.machines.length cM)),(59,.v (.int .i64 s.machines.length)),(60,.v (.int .i64 (0:Nat)))]) (H':=[prB x3.2 3,toksB x3.1 3,(2,.cells 32 [.v (.slice aU s.units.length cU),.v (.slice aI s.items.length cI),.v (.slice aP s.plants.length cP),.v (.slice aM s.machines.length cM),.v (.slice aO s.options.length cO),.v (.slice aF s.forbids.length cF),.v (.slice aR s.recipes.length cR),.v (.slice aS s.swaps.length cS)])]) [] ?_ sH sH
 have mM:=hT.M.len
 refine RunsS.nameAt (fun _ x=>x) 58 (by exact hT.M) ?_
 conv=>whnf
 (try refine gS ?_);conv=>whnf
 refine RunsS.subR [] (RunsS.loop (fun (⟨i,z⟩:Nat×Ac)=>[(0,.ptr 0 0),(3,.ptr 2 0),(58,.buf 4),(59,.v (.int .i64 s.machines.length)),(60,.v (.int .i64 i))]) (fun (⟨i,z⟩:Nat×Ac)=>[prB z.2 3,toksB z.1 3,(2,.cells 32 [.v (.slice aU s.units.length cU),.v (.slice aI s.items.length cI),.v (.slice aP s.plants.length cP),.v (.slice aM s.machines.length cM),.v (.slice aO s.options.length cO),.v (.slice aF s.forbids.length cF),.v (.slice aR s.recipes.length cR),.v (.slice aS s.swaps.length cS)]),(4,.ro 4 (rws Mc.row s.machines))]) 5 (fun (⟨i,z⟩:Nat×Ac)=>i≤s.machines.length∧z=acc x3 (Pr.all machPr (s.machines.take i))) (fun (⟨i,z⟩:Nat×Ac)=>s.machines.length - i) ?round10 ((0,x3)) ?J010) sH sH
 case J010=>exact (⟨Nat.zero_le _,(acc_nil x3).symm⟩)
 rintro ⟨i,z⟩ hJ back
 try dsimp only at hJ back
 conv=>whnf
 try dsimp only
 refine gS ?_;conv=>whnf
 obtain ⟨hi,hJ⟩:=hJ
 have lz:z.1.length≤x3.1.length+sumK (fun _=>7) s.machines i:=by
  rw [hJ,acc_len]
  have:=all_lenF (n:=(fun _=>7)) machPr_len (s.machines.take i)
  unfold sumK
  omega
 refine ⟨fun hk=>?_,fun hk=>?_⟩<;>conv=>whnf
 ·have hk:i<s.machines.length:=by omega
  have hn:=all_snoc (f:=machPr) (s.machines.take i) s.machines[i]
  rw [←take_snoc hk] at hn
  have hs:=sumK_succ (f:=(fun _=>7)) hk
  have hs2:=sumK_le (f:=(fun _=>7)) (l:=s.machines) (i+1)
  rw [←eM] at hs2
  conv=>whnf
  repeat ((first|(guard_target=_∧_;(first|refine oL ?_|refine oR ?_))|(guard_target=Exists _;refine oM ?_));(try intro _);conv=>whnf)
  refine ⟨_,rws_get hk,?_⟩;conv=>whnf
  try (refine oN ?_;conv=>whnf)
  (try refine gS ?_);conv=>whnf
  refine RunsS.callN (padd_fn z [.w wMachine,.s s.machines[i].name,.w wAt,.s s.machines[i].plant,.w wClean,.n s.machines[i].clean,wS 59] (by show z.1.length+7≤_;omega)) [0,3,6] ?_ sH ?CNa11
  case CNa11=>rfl
  rintro w hw<;>conv=>whnf
  have lw:w.1.length=z.1.length+7:=by rw [hw,acc_len];rfl
  refine RunsS.subR (nx':=6) (l':=[(0,.ptr 0 0),(3,.ptr 2 0),(58,.buf 4),(59,.v (.int .i64 s.machines.length)),(60,.v (.int .i64 i))]) (H':=[prB w.2 3,toksB w.1 3,(2,.cells 32 [.v (.slice aU s.units.length cU),.v (.slice aI s.items.length cI),.v (.slice aP s.plants.length cP),.v (.slice aM s.machines.length cM),.v (.slice aO s.options.length cO),.v (.slice aF s.forbids.length cF),.v (.slice aR s.recipes.length cR),.v (.slice aS s.swaps.length cS)]),(4,.ro 4 (rws Mc.row s.machines))]) [(3,7)] ?_ sH sH
  (try refine gS ?_);conv=>whnf
  repeat ((first|(guard_target=_∧_;(first|refine oL ?_|refine oR ?_))|(guard_target=Exists _;refine oM ?_));(try intro _);conv=>whnf)
  refine RunsS.subR [] (back ((i+1,w)) (by exact (⟨hk,by show w=_;rw [hw,hJ,hn,←acc_add];rfl⟩)) (by (try dsimp only);omega)) sH sH
 have hJ:z=acc x3 (Pr.all machPr s.machines):=by rw [hJ,List.take_of_length_le (by omega)]
 clear back lz
 obtain ⟨x4,hx4⟩:∃y,y=z:=⟨_,rfl⟩
 rw [←hx4] at hJ ⊢
 clear hx4
 have hx4:=hJ
 clear hJ
 have lx4:x4.1.length≤x3.1.length+sM:=by
  rw [hx4,acc_len,eM]
  exact Nat.add_le_add_left (all_lenF machPr_len _) _
 rw [←hx4]
 refine RunsS.subR (nx':=4) (l':=[(0,.ptr 0 0),(3,.ptr 2 0),(82,.v (.slice aO s.options.length cO)),(83,.v (.int .i64 s.options.length)),(84,.v (.int .i64 (0:Nat)))]) (H':=[prB x4.2 3,toksB x4.1 3,(2,.cells 32 [.v (.slice aU s.units.length cU),.v (.slice aI s.items.length cI),.v (.slice aP s.plants.length cP),.v (.slice aM s.machines.length cM),.v (.slice aO s.options.length cO),.v (.slice aF s.forbids.length cF),.v (.slice aR s.recipes.length cR),.v (.slice aS s.swaps.length cS)])]) [] ?_ sH sH
 have mO:=hT.O.len
 refine RunsS.nameAt (fun _ x=>x) 82 (by exact hT.O) ?_
 conv=>whnf
 (try refine gS ?_);conv=>whnf
 refine RunsS.subR [] (RunsS.loop (fun (⟨i,z⟩:Nat×Ac)=>[(0,.ptr 0 0),(3,.ptr 2 0),(82,.buf 4),(83,.v (.int .i64 s.options.length)),(84,.v (.int .i64 i))]) (fun (⟨i,z⟩:Nat×Ac)=>[prB z.2 3,toksB z.1 3,(2,.cells 32 [.v (.slice aU s.units.length cU),.v (.slice aI s.items.length cI),.v (.slice aP s.plants.length cP),.v (.slice aM s.machines.length cM),.v (.slice aO s.options.length cO),.v (.slice aF s.forbids.length cF),.v (.slice aR s.recipes.length cR),.v (.slice aS s.swaps.length cS)]),(4,.ro 2 (rws OpV.row s.options))]) 5 (fun (⟨i,z⟩:Nat×Ac)=>i≤s.options.length∧z=acc x4 (Pr.all optnPr (s.options.take i))) (fun (⟨i,z⟩:Nat×Ac)=>s.options.length - i) ?round13 ((0,x4)) ?J013) sH sH
 case J013=>exact (⟨Nat.zero_le _,(acc_nil x4).symm⟩)
 rintro ⟨i,z⟩ hJ back
 try dsimp only at hJ back
 conv=>whnf
 try dsimp only
 refine gS ?_;conv=>whnf
 obtain ⟨hi,hJ⟩:=hJ
 have lz:z.1.length≤x4.1.length+sumK lenO s.options i:=by
  rw [hJ,acc_len]
  have:=all_lenF (n:=lenO) optnPr_len (s.options.take i)
  unfold sumK
  omega
 refine ⟨fun hk=>?_,fun hk=>?_⟩<;>conv=>whnf
 ·have hk:i<s.options.length:=by omega
  have hn:=all_snoc (f:=optnPr) (s.options.take i) s.options[i]
  rw [←take_snoc hk] at hn
  have hs:=sumK_succ (f:=lenO) hk
  have hs2:=sumK_le (f:=lenO) (l:=s.options) (i+1)
  rw [←eO] at hs2
  conv=>whnf
  repeat ((first|(guard_target=_∧_;(first|refine oL ?_|refine oR ?_))|(guard_target=Exists _;refine oM ?_));(try intro _);conv=>whnf)
  refine ⟨_,rws_get hk,?_⟩;conv=>whnf
  try (refine oN ?_;conv=>whnf)
  refine RunsS.callT (OpV.tok _) (hT.below.o _ (List.getElem_mem hk)) (poptP_fn s.options[i] z (by unfold lenO at *;omega)) [0,3] sH ?CNa14 ?_
  case CNa14=>rfl
  rintro w hw
  conv=>whnf
  refine RunsS.subR (nx':=7) (l':=[(0,.ptr 0 0),(3,.ptr 2 0),(82,.buf 4),(83,.v (.int .i64 s.options.length)),(84,.v (.int .i64 i))]) (H':=[prB w.2 3,toksB w.1 3,(2,.cells 32 [.v (.slice aU s.units.length cU),.v (.slice aI s.items.length cI),.v (.slice aP s.plants.length cP),.v (.slice aM s.machines.length cM),.v (.slice aO s.options.length cO),.v (.slice aF s.forbids.length cF),.v (.slice aR s.recipes.length cR),.v (.slice aS s.swaps.length cS)]),(4,.ro 2 (rws OpV.row s.options))]) [(3,6)] ?_ sH sH
  (try refine gS ?_);conv=>whnf
  repeat ((first|(guard_target=_∧_;(first|refine oL ?_|refine oR ?_))|(guard_target=Exists _;refine oM ?_));(try intro _);conv=>whnf)
  refine RunsS.subR [] (back ((i+1,w)) (by exact (⟨hk,by show w=_;rw [hw,hJ,hn,←acc_add]⟩)) (by (try dsimp only);omega)) sH sH
 have hJ:z=acc x4 (Pr.all optnPr s.options):=by rw [hJ,List.take_of_length_le (by omega)]
 clear back lz
 obtain ⟨x5,hx5⟩:∃y,y=z:=⟨_,rfl⟩
 rw [←hx5] at hJ ⊢
 clear hx5
 have hx5:=hJ
 clear hJ
 have lx5:x5.1.length≤x4.1.length+sO:=by
  rw [hx5,acc_len,eO]
  exact Nat.add_le_add_left (all_lenF optnPr_len _) _
 rw [←hx5]
 refine RunsS.subR (nx':=4) (l':=[(0,.ptr 0 0),(3,.ptr 2 0),(93,.v (.slice aF s.forbids.length cF)),(94,.v (.int .i64 s.forbids.length)),(95,.v (.int .i64 (0:Nat)))]) (H':=[prB x5.2 3,toksB x5.1 3,(2,.cells 32 [.v (.slice aU s.units.length cU),.v (.slice aI s.items.length cI),.v (.slice aP s.plants.length cP),.v (.slice aM s.machines.length cM),.v (.slice aO s.options.length cO),.v (.slice aF s.forbids.length cF),.v (.slice aR s.recipes.length cR),.v (.slice aS s.swaps.length cS)])]) [] ?_ sH sH
 have mF:=hT.F.len
 refine RunsS.nameAt (fun _ x=>x) 93 (by exact hT.F) ?_
 conv=>whnf
 (try refine gS ?_);conv=>whnf
 refine RunsS.subR [] (RunsS.loop (fun (⟨i,z⟩:Nat×Ac)=>[(0,.ptr 0 0),(3,.ptr 2 0),(93,.buf 4),(94,.v (.int .i64 s.forbids.length)),(95,.v (.int .i64 i))]) (fun (⟨i,z⟩:Nat×Ac)=>[prB z.2 3,toksB z.1 3,(2,.cells 32 [.v (.slice aU s.units.length cU),.v (.slice aI s.items.length cI),.v (.slice aP s.plants.length cP),.v (.slice aM s.machines.length cM),.v (.slice aO s.options.length cO),.v (.slice aF s.forbids.length cF),.v (.slice aR s.recipes.length cR),.v (.slice aS s.swaps.length cS)]),(4,.ro 1 (rws FbV.row s.forbids))]) 5 (fun (⟨i,z⟩:Nat×Ac)=>i≤s.forbids.length∧z=acc x5 (Pr.all forbPr (s.forbids.take i))) (fun (⟨i,z⟩:Nat×Ac)=>s.forbids.length - i) ?round16 ((0,x5)) ?J016) sH sH
 case J016=>exact (⟨Nat.zero_le _,(acc_nil x5).symm⟩)
 rintro ⟨i,z⟩ hJ back
 try dsimp only at hJ back
 conv=>whnf
 try dsimp only
 refine gS ?_;conv=>whnf
 obtain ⟨hi,hJ⟩:=hJ
 have lz:z.1.length≤x5.1.length+sumK lenF s.forbids i:=by
  rw [hJ,acc_len]
  have:=all_lenF (n:=lenF) forbPr_len (s.forbids.take i)
  unfold sumK
  omega
 refine ⟨fun hk=>?_,fun hk=>?_⟩<;>conv=>whnf
 ·have hk:i<s.forbids.length:=by omega
  have hn:=all_snoc (f:=forbPr) (s.forbids.take i) s.forbids[i]
  rw [←take_snoc hk] at hn
  have hs:=sumK_succ (f:=lenF) hk
  have hs2:=sumK_le (f:=lenF) (l:=s.forbids) (i+1)
  rw [←eF] at hs2
  conv=>whnf
  repeat ((first|(guard_target=_∧_;(first|refine oL ?_|refine oR ?_))|(guard_target=Exists _;refine oM ?_));(try intro _);conv=>whnf)
  refine ⟨_,rws_get hk,?_⟩;conv=>whnf
  unfold lenF at *
  (try refine gS ?_);conv=>whnf
  refine RunsS.callN (padd_fn z [.w wForbid] (by show z.1.length+1≤_;omega)) [0,3,5] ?_ sH ?CNa17
  case CNa17=>rfl
  rintro z1 hz1<;>conv=>whnf
  have lz1:z1.1.length=z.1.length+1:=by rw [hz1,acc_len];rfl
  refine RunsS.subR (nx':=6) (l':=[(0,.ptr 0 0),(3,.ptr 2 0),(93,.buf 4),(94,.v (.int .i64 s.forbids.length)),(95,.v (.int .i64 i)),(15,.v (s.forbids[i].hd.v s.forbids[i].cs.length))]) (H':=[prB z1.2 3,toksB z1.1 3,(2,.cells 32 [.v (.slice aU s.units.length cU),.v (.slice aI s.items.length cI),.v (.slice aP s.plants.length cP),.v (.slice aM s.machines.length cM),.v (.slice aO s.options.length cO),.v (.slice aF s.forbids.length cF),.v (.slice aR s.recipes.length cR),.v (.slice aS s.swaps.length cS)]),(4,.ro 1 (rws FbV.row s.forbids))]) [(3,6)] ?_ sH sH
  (try refine gS ?_);conv=>whnf
  refine RunsS.callT (FbV.tok _) (hT.below.f _ (List.getElem_mem hk)) (pconds_fn _ s.forbids[i].cs z1 (by omega)) [0,3] sH ?CNa18 ?_
  case CNa18=>rfl
  rintro z2 hz2
  conv=>whnf
  have lz2:z2.1.length≤z1.1.length+4*s.forbids[i].cs.length:=by
   rw [hz2,acc_len]
   have:=condsPt_len s.forbids[i].cs
   show _+(condsPt _).length≤_
   omega
  refine RunsS.subR (nx':=7) (l':=[(0,.ptr 0 0),(3,.ptr 2 0),(93,.buf 4),(94,.v (.int .i64 s.forbids.length)),(95,.v (.int .i64 i))]) (H':=[prB z2.2 3,toksB z2.1 3,(2,.cells 32 [.v (.slice aU s.units.length cU),.v (.slice aI s.items.length cI),.v (.slice aP s.plants.length cP),.v (.slice aM s.machines.length cM),.v (.slice aO s.options.length cO),.v (.slice aF s.forbids.length cF),.v (.slice aR s.recipes.length cR),.v (.slice aS s.swaps.length cS)]),(4,.ro 1 (rws FbV.row s.forbids))]) [(3,6)] ?_ sH sH
  (try refine gS ?_);conv=>whnf
  refine RunsS.callN (padd_fn z2 [wS 59] (by show z2.1.length+1≤_;omega)) [0,3,7] ?_ sH ?CNa19
  case CNa19=>rfl
  rintro w hw<;>conv=>whnf
  have lw:w.1.length=z2.1.length+1:=by rw [hw,acc_len];rfl
  refine RunsS.subR (nx':=6) (l':=[(0,.ptr 0 0),(3,.ptr 2 0),(93,.buf 4),(94,.v (.int .i64 s.forbids.length)),(95,.v (.int .i64 i))]) (H':=[prB w.2 3,toksB w.1 3,(2,.cells 32 [.v (.slice aU s.units.length cU),.v (.slice aI s.items.length cI),.v (.slice aP s.plants.length cP),.v (.slice aM s.machines.length cM),.v (.slice aO s.options.length cO),.v (.slice aF s.forbids.length cF),.v (.slice aR s.recipes.length cR),.v (.slice aS s.swaps.length cS)]),(4,.ro 1 (rws FbV.row s.forbids))]) [(3,8)] ?_ sH sH
  (try refine gS ?_);conv=>whnf
  repeat ((first|(guard_target=_∧_;(first|refine oL ?_|refine oR ?_))|(guard_target=Exists _;refine oM ?_));(try intro _);conv=>whnf)
  refine RunsS.subR [] (back ((i+1,w)) (by exact (⟨hk,by show w=_;rw [hw,hz2,hz1,hJ,hn,acc_add,acc_add,←acc_add _ _ (forbPr _)];exact acc_eq (by simp [Pr.add,forbPr]) (by simp [Pr.add,forbPr])⟩)) (by (try dsimp only);omega)) sH sH
 have hJ:z=acc x5 (Pr.all forbPr s.forbids):=by rw [hJ,List.take_of_length_le (by omega)]
 clear back lz
 obtain ⟨x6,hx6⟩:∃y,y=z:=⟨_,rfl⟩
 rw [←hx6] at hJ ⊢
 clear hx6
 have hx6:=hJ
 clear hJ
 have lx6:x6.1.length≤x5.1.length+sF:=by
  rw [hx6,acc_len,eF]
  exact Nat.add_le_add_left (all_lenF forbPr_len _) _
 rw [←hx6]
 refine RunsS.subR (nx':=4) (l':=[(0,.ptr 0 0),(3,.ptr 2 0),(112,.v (.slice aR s.recipes.length cR)),(113,.v (.int .i64 s.recipes.length)),(114,.v (.int .i64 (0:Nat)))]) (H':=[prB x6.2 3,toksB x6.1 3,(2,.cells 32 [.v (.slice aU s.units.length cU),.v (.slice aI s.items.length cI),.v (.slice aP s.plants.length cP),.v (.slice aM s.machines.length cM),.v (.slice aO s.options.length cO),.v (.slice aF s.forbids.length cF),.v (.slice aR s.recipes.length cR),.v (.slice aS s.swaps.length cS)])]) [] ?_ sH sH
 have mR:=hT.R.len
 refine RunsS.nameAt (fun _ x=>x) 112 (by exact hT.R) ?_
 conv=>whnf
 (try refine gS ?_);conv=>whnf
 refine RunsS.subR [] (RunsS.loop (fun (⟨i,z⟩:Nat×Ac)=>[(0,.ptr 0 0),(3,.ptr 2 0),(112,.buf 4),(113,.v (.int .i64 s.recipes.length)),(114,.v (.int .i64 i))]) (fun (⟨i,z⟩:Nat×Ac)=>[prB z.2 3,toksB z.1 3,(2,.cells 32 [.v (.slice aU s.units.length cU),.v (.slice aI s.items.length cI),.v (.slice aP s.plants.length cP),.v (.slice aM s.machines.length cM),.v (.slice aO s.options.length cO),.v (.slice aF s.forbids.length cF),.v (.slice aR s.recipes.length cR),.v (.slice aS s.swaps.length cS)]),(4,.ro 17 (rws RcV.row s.recipes))]) 5 (fun (⟨i,z⟩:Nat×Ac)=>i≤s.recipes.length∧z=acc x6 (Pr.all recPr (s.recipes.take i))) (fun (⟨i,z⟩:Nat×Ac)=>s.recipes.length - i) ?round21 ((0,x6)) ?J021) sH sH
 case J021=>exact (⟨Nat.zero_le _,(acc_nil x6).symm⟩)
 rintro ⟨i,z⟩ hJ back
 try dsimp only at hJ back
 conv=>whnf
 try dsimp only
 refine gS ?_;conv=>whnf
 obtain ⟨hi,hJ⟩:=hJ
 have lz:z.1.length≤x6.1.length+sumK lenR s.recipes i:=by
  rw [hJ,acc_len]
  have:=all_lenF (n:=lenR) recPr_len (s.recipes.take i)
  unfold sumK
  omega
 refine ⟨fun hk=>?_,fun hk=>?_⟩<;>conv=>whnf
 ·have hk:i<s.recipes.length:=by omega
  have hn:=all_snoc (f:=recPr) (s.recipes.take i) s.recipes[i]
  rw [←take_snoc hk] at hn
  have hs:=sumK_succ (f:=lenR) hk
  have hs2:=sumK_le (f:=lenR) (l:=s.recipes) (i+1)
  rw [←eR] at hs2
  conv=>whnf
  repeat ((first|(guard_target=_∧_;(first|refine oL ?_|refine oR ?_))|(guard_target=Exists _;refine oM ?_));(try intro _);conv=>whnf)
  refine ⟨_,rws_get hk,?_⟩;conv=>whnf
  try (refine oN ?_;conv=>whnf)
  refine RunsS.callT (RcV.ok.tok _) (hT.below.r _ (List.getElem_mem hk)) (precP_fn s.recipes[i] z (by unfold lenR at *;omega)) [0,3] sH ?CNa22 ?_
  case CNa22=>rfl
  rintro w hw
  conv=>whnf
  refine RunsS.subR (nx':=7) (l':=[(0,.ptr 0 0),(3,.ptr 2 0),(112,.buf 4),(113,.v (.int .i64 s.recipes.length)),(114,.v (.int .i64 i))]) (H':=[prB w.2 3,toksB w.1 3,(2,.cells 32 [.v (.slice aU s.units.length cU),.v (.slice aI s.items.length cI),.v (.slice aP s.plants.length cP),.v (.slice aM s.machines.length cM),.v (.slice aO s.options.length cO),.v (.slice aF s.forbids.length cF),.v (.slice aR s.recipes.length cR),.v (.slice aS s.swaps.length cS)]),(4,.ro 17 (rws RcV.row s.recipes))]) [(3,6)] ?_ sH sH
  (try refine gS ?_);conv=>whnf
  repeat ((first|(guard_target=_∧_;(first|refine oL ?_|refine oR ?_))|(guard_target=Exists _;refine oM ?_));(try intro _);conv=>whnf)
  refine RunsS.subR [] (back ((i+1,w)) (by exact (⟨hk,by show w=_;rw [hw,hJ,hn,←acc_add]⟩)) (by (try dsimp only);omega)) sH sH
 have hJ:z=acc x6 (Pr.all recPr s.recipes):=by rw [hJ,List.take_of_length_le (by omega)]
 clear back lz
 obtain ⟨x7,hx7⟩:∃y,y=z:=⟨_,rfl⟩
 rw [←hx7] at hJ ⊢
 clear hx7
 have hx7:=hJ
 clear hJ
 have lx7:x7.1.length≤x6.1.length+sR:=by
  rw [hx7,acc_len,eR]
  exact Nat.add_le_add_left (all_lenF recPr_len _) _
 rw [←hx7]
 refine RunsS.subR (nx':=4) (l':=[(0,.ptr 0 0),(3,.ptr 2 0),(123,.v (.slice aS s.swaps.length cS)),(124,.v (.int .i64 s.swaps.length)),(125,.v (.int .i64 (0:Nat)))]) (H':=[prB x7.2 3,toksB x7.1 3,(2,.cells 32 [.v (.slice aU s.units.length cU),.v (.slice aI s.items.length cI),.v (.slice aP s.plants.length cP),.v (.slice aM s.machines.length cM),.v (.slice aO s.options.length cO),.v (.slice aF s.forbids.length cF),.v (.slice aR s.recipes.length cR),.v (.slice aS s.swaps.length cS)])]) [] ?_ sH sH
 have mS:=hT.S.len
 refine RunsS.nameAt (fun _ x=>x) 123 (by exact hT.S) ?_
 conv=>whnf
 (try refine gS ?_);conv=>whnf
 refine RunsS.subR [] (RunsS.loop (fun (⟨i,z⟩:Nat×Ac)=>[(0,.ptr 0 0),(3,.ptr 2 0),(123,.buf 4),(124,.v (.int .i64 s.swaps.length)),(125,.v (.int .i64 i))]) (fun (⟨i,z⟩:Nat×Ac)=>[prB z.2 3,toksB z.1 3,(2,.cells 32 [.v (.slice aU s.units.length cU),.v (.slice aI s.items.length cI),.v (.slice aP s.plants.length cP),.v (.slice aM s.machines.length cM),.v (.slice aO s.options.length cO),.v (.slice aF s.forbids.length cF),.v (.slice aR s.recipes.length cR),.v (.slice aS s.swaps.length cS)]),(4,.ro 4 (rws Sw.row s.swaps))]) 5 (fun (⟨i,z⟩:Nat×Ac)=>i≤s.swaps.length∧z=acc x7 (Pr.all swapPr (s.swaps.take i))) (fun (⟨i,z⟩:Nat×Ac)=>s.swaps.length - i) ?round24 ((0,x7)) ?J024) sH sH
 case J024=>exact (⟨Nat.zero_le _,(acc_nil x7).symm⟩)
 rintro ⟨i,z⟩ hJ back
 try dsimp only at hJ back
 conv=>whnf
 try dsimp only
 refine gS ?_;conv=>whnf
 obtain ⟨hi,hJ⟩:=hJ
 have lz:z.1.length≤x7.1.length+sumK (fun _=>5) s.swaps i:=by
  rw [hJ,acc_len]
  have:=all_lenF (n:=(fun _=>5)) swapPr_len (s.swaps.take i)
  unfold sumK
  omega
 refine ⟨fun hk=>?_,fun hk=>?_⟩<;>conv=>whnf
 ·have hk:i<s.swaps.length:=by omega
  have hn:=all_snoc (f:=swapPr) (s.swaps.take i) s.swaps[i]
  rw [←take_snoc hk] at hn
  have hs:=sumK_succ (f:=(fun _=>5)) hk
  have hs2:=sumK_le (f:=(fun _=>5)) (l:=s.swaps) (i+1)
  rw [←eS] at hs2
  conv=>whnf
  repeat ((first|(guard_target=_∧_;(first|refine oL ?_|refine oR ?_))|(guard_target=Exists _;refine oM ?_));(try intro _);conv=>whnf)
  refine ⟨_,rws_get hk,?_⟩;conv=>whnf
  try (refine oN ?_;conv=>whnf)
  (try refine gS ?_);conv=>whnf
  refine RunsS.callN (padd_fn z [.w wSwap,.s s.swaps[i].a,.w wFor,.s s.swaps[i].b,wS 59] (by show z.1.length+5≤_;omega)) [0,3,6] ?_ sH ?CNa25
  case CNa25=>rfl
  rintro w hw<;>conv=>whnf
  have lw:w.1.length=z.1.length+5:=by rw [hw,acc_len];rfl
  refine RunsS.subR (nx':=6) (l':=[(0,.ptr 0 0),(3,.ptr 2 0),(123,.buf 4),(124,.v (.int .i64 s.swaps.length)),(125,.v (.int .i64 i))]) (H':=[prB w.2 3,toksB w.1 3,(2,.cells 32 [.v (.slice aU s.units.length cU),.v (.slice aI s.items.length cI),.v (.slice aP s.plants.length cP),.v (.slice aM s.machines.length cM),.v (.slice aO s.options.length cO),.v (.slice aF s.forbids.length cF),.v (.slice aR s.recipes.length cR),.v (.slice aS s.swaps.length cS)]),(4,.ro 4 (rws Sw.row s.swaps))]) [(3,7)] ?_ sH sH
  (try refine gS ?_);conv=>whnf
  repeat ((first|(guard_target=_∧_;(first|refine oL ?_|refine oR ?_))|(guard_target=Exists _;refine oM ?_));(try intro _);conv=>whnf)
  refine RunsS.subR [] (back ((i+1,w)) (by exact (⟨hk,by show w=_;rw [hw,hJ,hn,←acc_add];rfl⟩)) (by (try dsimp only);omega)) sH sH
 have hJ:z=acc x7 (Pr.all swapPr s.swaps):=by rw [hJ,List.take_of_length_le (by omega)]
 clear back lz
 obtain ⟨x8,hx8⟩:∃y,y=z:=⟨_,rfl⟩
 rw [←hx8] at hJ ⊢
 clear hx8
 have hx8:=hJ
 clear hJ
 have lx8:x8.1.length≤x7.1.length+sS:=by
  rw [hx8,acc_len,eS]
  exact Nat.add_le_add_left (all_lenF swapPr_len _) _
 (try refine gS ?_);conv=>whnf
 try refine RunsS.finU ?_
 exact UnwS.ret tab Tryz.func31 rfl (EndS.mk (x8) (hx8) [(2,3)] sH rfl rfl (okRet rfl rfl))
end
end Go.Proofs.YtgbeechjghajcaaGreatDoor

namespace Go.Proofs.YtgbeechjghajcaaGreatDoor
open Go Go.Fw Go.NatM Go.RatM Go.SrcM Go.SynM
set_option maxRecDepth 100000
set_option maxHeartbeats 99999999
def PowT (G:Nat→Prop) (h:Array Obj):Prop:=PowH h∧G 1
theorem PowT.up {G G':Nat→Prop} {h h':Array Obj} (H:PowT G h) (U:Up G h G' h'):PowT G' h':=⟨by
 have e:=U.same _ H.2
 have:=H.1
 unfold PowH at this ⊢
 rw [e];exact this,U.sub _ H.2⟩
theorem PowT.kp {F:Nat→Prop} {h h':Array Obj} (H:PowT F h) (K:Kp F h h'):PowH h':=by
 have e:=K.same _ H.2
 have:=H.1
 unfold PowH at this ⊢
 rw [e];exact this
theorem fit_iff (s:SrcV):Fit s↔(s.units.length≤32∧s.items.length≤32∧s.plants.length≤8∧s.machines.length≤16∧s.options.length≤6∧s.forbids.length≤16∧s.recipes.length≤64∧s.swaps.length≤32):=
 ⟨fun h=>⟨h.U,h.I,h.P,h.M,h.O,h.F,h.R,h.S⟩,fun ⟨a,b,c,d,e,f,g,i⟩=>⟨a,b,c,d,e,f,g,i⟩⟩
instance (s:SrcV):Decidable (Fit s):=decidable_of_iff _ (fit_iff s).symm
theorem pfew_fn (s:SrcV) (aU aI aP aM aO aF aR aS:Option Addr) (cU cI cP cM cO cF cR cS:Nat):FnS Tryz.prog 30 0 [srcA (.slice aU s.units.length cU) (.slice aI s.items.length cI) (.slice aP s.plants.length cP) (.slice aM s.machines.length cM) (.slice aO s.options.length cO) (.slice aF s.forbids.length cF) (.slice aR s.recipes.length cR) (.slice aS s.swaps.length cS)] []
  (fun _:Unit=>True) (fun _=>.ret (.v (.bool (decide (Fit s)))) 0 []):=by
 obtain ⟨b,hb⟩:∃b,b=decide (Fit s):=⟨_,rfl⟩
 rw [←hb]
 have hb:b=decide (s.units.length≤32∧s.items.length≤32∧s.plants.length≤8∧s.machines.length≤16∧s.options.length≤6∧s.forbids.length≤16∧s.recipes.length≤64∧s.swaps.length≤32):=hb.trans (decide_eq_decide.2 (fit_iff s))
 refine FnS.of Tryz.func30 (by kernel_rfl) rfl Tryz.ntmps30 rfl fun E0 F h w0 cs=>?_
 conv=>whnf
 refine gS ?_;conv=>whnf
 by_cases h0:s.units.length≤32
 rotate_left
 ·refine And.intro (fun hp=>absurd hp ((by omega))) (fun _=>?_)
  conv=>whnf
  (try refine gS ?_);conv=>whnf
  have:b=false:=hb.trans (decide_eq_false fun h=>by omega)
  rw [this]
  try refine RunsS.retU ?_
  exact UnwS.ret tab Tryz.func30 rfl (eN () trivial)
 refine And.intro (fun _=>?_) (fun hn=>absurd ((by omega)) hn)
 conv=>whnf
 by_cases h1:s.items.length≤32
 rotate_left
 ·refine And.intro (fun hp=>absurd hp ((by omega))) (fun _=>?_)
  conv=>whnf
  (try refine gS ?_);conv=>whnf
  have:b=false:=hb.trans (decide_eq_false fun h=>by omega)
  rw [this]
  try refine RunsS.retU ?_
  exact UnwS.ret tab Tryz.func30 rfl (eN () trivial)
 refine And.intro (fun _=>?_) (fun hn=>absurd ((by omega)) hn)
 conv=>whnf
 by_cases h2:s.plants.length≤8
 rotate_left
 ·refine And.intro (fun hp=>absurd hp ((by omega))) (fun _=>?_)
  conv=>whnf
  (try refine gS ?_);conv=>whnf
  have:b=false:=hb.trans (decide_eq_false fun h=>by omega)
  rw [this]
  try refine RunsS.retU ?_
  exact UnwS.ret tab Tryz.func30 rfl (eN () trivial)
 refine And.intro (fun _=>?_) (fun hn=>absurd ((by omega)) hn)
 conv=>whnf
 by_cases h3:s.machines.length≤16
 rotate_left
 ·refine And.intro (fun hp=>absurd hp ((by omega))) (fun _=>?_)
  conv=>whnf
  (try refine gS ?_);conv=>whnf
  have:b=false:=hb.trans (decide_eq_false fun h=>by omega)
  rw [this]
  try refine RunsS.retU ?_
  exact UnwS.ret tab Tryz.func30 rfl (eN () trivial)
 refine And.intro (fun _=>?_) (fun hn=>absurd ((by omega)) hn)
 conv=>whnf
 by_cases h4:s.options.length≤6
 rotate_left
 ·refine And.intro (fun hp=>absurd hp ((by omega))) (fun _=>?_)
  conv=>whnf
  (try refine gS ?_);conv=>whnf
  have:b=false:=hb.trans (decide_eq_false fun h=>by omega)
  rw [this]
  try refine RunsS.retU ?_
  exact UnwS.ret tab Tryz.func30 rfl (eN () trivial)
 refine And.intro (fun _=>?_) (fun hn=>absurd ((by omega)) hn)
 conv=>whnf
 by_cases h5:s.forbids.length≤16
 rotate_left
 ·refine And.intro (fun hp=>absurd hp ((by omega))) (fun _=>?_)
  conv=>whnf
  (try refine gS ?_);conv=>whnf
  have:b=false:=hb.trans (decide_eq_false fun h=>by omega)
  rw [this]
  try refine RunsS.retU ?_
  exact UnwS.ret tab Tryz.func30 rfl (eN () trivial)
 refine And.intro (fun _=>?_) (fun hn=>absurd ((by omega)) hn)
 conv=>whnf
 by_cases h6:s.recipes.length≤64
 rotate_left
 ·refine And.intro (fun hp=>absurd hp ((by omega))) (fun _=>?_)
  conv=>whnf
  (try refine gS ?_);conv=>whnf
  have:b=false:=hb.trans (decide_eq_false fun h=>by omega)
  rw [this]
  try refine RunsS.retU ?_
  exact UnwS.ret tab Tryz.func30 rfl (eN () trivial)
 refine And.intro (fun _=>?_) (fun hn=>absurd ((by omega)) hn)
 conv=>whnf
 (try refine gS ?_);conv=>whnf
 have:b=decide ((s.swaps.length:Int)≤32):=hb.trans (decide_eq_decide.2 ⟨fun h=>by omega,fun h=>by omega⟩)
 rw [this]
 try refine RunsS.retU ?_
 exact UnwS.ret tab Tryz.func30 rfl (eN () trivial)
theorem srcPr_len (s:SrcV):(srcPr s).l.length≤ttl s:=by
 have h1:=all_lenF unitPr_len s.units
 have h2:=all_lenF itemPr_len s.items
 have h3:=all_lenF plantPr_len s.plants
 have h4:=all_lenF machPr_len s.machines
 have h5:=all_lenF optnPr_len s.options
 have h6:=all_lenF forbPr_len s.forbids
 have h7:=all_lenF recPr_len s.recipes
 have h8:=all_lenF swapPr_len s.swaps
 unfold srcPr ttl
 simp only [Pr.add,List.length_append]
 omega
open Classical in
noncomputable def printA (s:SrcV):ByteArray×Int:=if s.good NmP then (joinB (srcT s),0) else (⟨#[]⟩,100)
theorem print_ok {s:SrcV} (h:s.good NmP):printA s=(joinB (srcT s),0):=if_pos h
theorem print_no {s:SrcV} (h:¬s.good NmP):printA s=(⟨#[]⟩,100):=if_neg h
section
variable {vU vI vP vM vO vF vR vS:Value}
abbrev TopW (vU vI vP vM vO vF vR vS:Value) (s:SrcV) (F:Nat→Prop) (h:Array Obj):Prop:=TopF F h vU vI vP vM vO vF vR vS s∧PowT F h
theorem TopW.tok (vU vI vP vM vO vF vR vS:Value) (s:SrcV):TOk (TopW vU vI vP vM vO vF vR vS s):=
 ⟨fun _ _ _ hs H=>⟨H.1.up ⟨hs,fun _ _=>rfl⟩,H.2.up ⟨hs,fun _ _=>rfl⟩⟩,fun _ _ _ H K=>⟨H.1.up ⟨fun _ x=>x,K.same⟩,H.2.up ⟨fun _ x=>x,K.same⟩⟩⟩
theorem print_fn (s:SrcV) (hl:ttl s≤65536):FnT Tryz.prog (TopW vU vI vP vM vO vF vR vS s) 15 0 [srcA vU vI vP vM vO vF vR vS] [] (fun _:Unit=>True) (fun _=>.ret (.tup [.v (.string (printA s).1),.v (.int .i64 (printA s).2)]) 0 []):=by
 obtain ⟨r,hr⟩:∃r,r=printA s:=⟨_,rfl⟩
 rw [←hr]
 refine FnT.of Tryz.func15 (by kernel_rfl) rfl Tryz.ntmps15 rfl fun E0 F h hT w0 cs=>?_
 obtain ⟨aU,cU,aI,cI,aP,cP,aM,cM,aO,cO,aF,cF,aR,cR,aS,cS,rfl,rfl,rfl,rfl,rfl,rfl,rfl,rfl⟩:=topShapes hT.1
 conv=>whnf
 (try refine gS ?_);conv=>whnf
 refine RunsS.callN (pfew_fn s aU aI aP aM aO aF aR aS cU cI cP cM cO cF cR cS) [] ?_ sH ?CNa1
 case CNa1=>rfl
 intro _ _
 conv=>whnf
 (try refine gS ?_);conv=>whnf
 by_cases hF:Fit s
 rotate_left
 ·rw [decide_eq_false hF]
  conv=>whnf
  (try refine gS ?_);conv=>whnf
  have:r=(⟨#[]⟩,100):=hr.trans (print_no fun h=>hF (good_fit h))
  rw [this]
  try refine RunsS.retU ?_
  exact UnwS.ret tab Tryz.func15 rfl (eN () trivial)
 rw [decide_eq_true hF]
 conv=>whnf
 (try refine gS ?_);conv=>whnf
 refine RunsS.subR (nx':=2) (l':=[(8,.agg [.v (.slice aU s.units.length cU),.v (.slice aI s.items.length cI),.v (.slice aP s.plants.length cP),.v (.slice aM s.machines.length cM),.v (.slice aO s.options.length cO),.v (.slice aF s.forbids.length cF),.v (.slice aR s.recipes.length cR),.v (.slice aS s.swaps.length cS)]),(4,.ptr 1 0)]) (H':=[(1,.cells 91 [.v (.slice none 0 0),.v (.bool false)])]) [] ?_ sH sH
 refine RunsS.nilOwn (l':=[(8,.agg [.v (.slice aU s.units.length cU),.v (.slice aI s.items.length cI),.v (.slice aP s.plants.length cP),.v (.slice aM s.machines.length cM),.v (.slice aO s.options.length cO),.v (.slice aF s.forbids.length cF),.v (.slice aR s.recipes.length cR),.v (.slice aS s.swaps.length cS)]),(4,.ptr 1 0)]) (H':=[(1,.cells 91 [.buf 2,.v (.bool false)])]) 47 4 ?_ (by rfl) (by rfl) (by rfl)
 refine RunsS.callT (TopF.tok _ _ _ _ _ _ _ _ _) (hT.1) (psrc_fn s ([],false) (by show 0+ttl s≤_;omega)) [1,2] sH ?CNa2 ?_
 case CNa2=>rfl
 rintro ⟨l,b⟩ hy
 conv=>whnf
 refine RunsS.subR (nx':=4) (l':=[(4,.ptr 1 0)]) (H':=[(1,.cells 91 [.buf 3,.v (.bool b)]),(3,.own 47 4 (l.map Tok.row))]) [] ?_ sH sH
 have hy1:l=srcT s:=by
  have:=congrArg Prod.fst hy
  exact this.trans (src_tok vocN)
 have hy2:b = !(okPs NmP (srcPr s).l&&(srcPr s).ok):=by
  have:=congrArg Prod.snd hy
  exact this
 clear hy
 subst hy1
 have hl1:(srcT s).length≤65536:=by
  rw [←src_tok vocN]
  unfold tokPs
  rw [List.length_map]
  have:=srcPr_len s
  omega
 cases b with
 |true=>
  (try refine gS ?_);conv=>whnf
  have hg:¬s.good NmP:=fun h=>by
   have:=(src_good hF).2 h
   rw [this.1,this.2] at hy2
   cases hy2
  have:r=(⟨#[]⟩,100):=hr.trans (print_no hg)
  rw [this]
  try refine RunsS.retU ?_
  exact UnwS.ret tab Tryz.func15 rfl (eN () trivial)
 |false=>
  (try refine gS ?_);conv=>whnf
  have hg:s.good NmP:=(src_good hF).1 (by
   have:=hy2.symm
   simp only [Bool.not_eq_false',Bool.and_eq_true] at this
   exact this)
  have:r=(joinB (srcT s),0):=hr.trans (print_ok hg)
  rw [this]
  have hx:textV (srcT s)=.tuple #[.string (joinB (srcT s)),.int .i64 0]:=if_pos (src_valid hg)
  refine RunsS.callV (fun Ez Hz Az Sz K=>Text_fn (srcT s) hl1 (Sz.ro (b:=3) rfl) (hT.2.kp K)) ?_
  conv=>whnf
  rw [hx]
  try dsimp only
  (try refine gS ?_);conv=>whnf
  try refine RunsS.retU ?_
  exact UnwS.ret tab Tryz.func15 rfl (eN () trivial)
end
end Go.Proofs.YtgbeechjghajcaaGreatDoor

namespace Go.Proofs.YtgbeechjghajcaaGreatDoor
open Go Go.Fw Go.NatM Go.RatM Go.SrcM
set_option maxRecDepth 100000
set_option maxHeartbeats 99999999
theorem eqU_fn (va vb:Value) (a b:List Un):FnT Tryz.prog (Two va vb 8 (rws Un.row a) (rws Un.row b)) 35 0 [.v va,.v vb] [] (fun _:Unit=>True) (fun _=>.ret (.v (.bool (eqB a b))) 0 []):=by
 have hla:(rws Un.row a).length=a.length:=rws_len _ _
 have hlb:(rws Un.row b).length=b.length:=rws_len _ _
 obtain ⟨r,hr⟩:∃r,r=eqB a b:=⟨_,rfl⟩
 rw [←hr]
 refine FnT.of Tryz.func35 (by kernel_rfl) rfl Tryz.ntmps35 rfl fun E0 F h hT w0 cs=>?_
 have mA:=hT.1.len
 obtain ⟨aa,ca,rfl⟩:=RoF.sli hT.1 hla
 obtain ⟨ab,cb,rfl⟩:=RoF.sli hT.2 hlb
 conv=>whnf
 (try refine gS ?_);conv=>whnf
 refine ⟨fun hs=>?_,fun hs=>?_⟩<;>conv=>whnf
 rotate_left
 ·conv=>whnf
  have:r=false:=by rw [hr];exact eqB_no (fun e=>hs (by rw [e]))
  rw [this]
  try refine RunsS.retU ?_
  exact UnwS.ret tab Tryz.func35 rfl (eN () trivial)
 conv=>whnf
 have hn:a.length=b.length:=by omega
 refine RunsS.nameAt (fun _ x=>x) 0 (by exact hT.1) ?_
 conv=>whnf
 (try refine gS ?_);conv=>whnf
 refine RunsS.nameAt (fun _ x=>x) 1 (by exact hT.2) ?_
 conv=>whnf
 (try refine gS ?_);conv=>whnf
 refine RunsS.subR [] (RunsS.loop (fun (k:Nat)=>[(12,.v (.int .i64 a.length)),(13,.v (.int .i64 k)),(0,.buf 0),(1,.buf 1)]) (fun (k:Nat)=>[(0,.ro 8 (rws Un.row a)),(1,.ro 8 (rws Un.row b))]) 2 (fun (k:Nat)=>k≤a.length ∧ ∀j (_:j<k) (ha:j<a.length) (hb:j<b.length),a[j]=b[j]) (fun (k:Nat)=>a.length - k) ?round1 (0) ?J01) sH sH
 case J01=>exact (⟨Nat.zero_le _,fun j hj=>absurd hj (Nat.not_lt_zero _)⟩)
 rintro k hJ back
 conv=>whnf
 refine gS ?_;conv=>whnf
 refine ⟨fun hk=>?_,fun hk=>?_⟩<;>conv=>whnf
 ·have hk:k<a.length:=by omega
  have hk2:k<b.length:=by omega
  conv=>whnf
  refine RunsS.held tab (.fl 0 (.fl 1 (.fl 2 (.fl 3 (.fl 4 (.fl 5 (.fl 6 (.fl 7 (.fl 8 .done))))))))) (by kernel_rfl) ?_;conv=>whnf
  (try refine gR ?_);conv=>whnf
  repeat ((first|(guard_target=_∧_;(first|refine oL ?_|refine oR ?_|refine oB ?_))|(guard_target=Exists _;refine oM ?_));(try intro _);conv=>whnf)
  conv=>whnf
  refine ⟨_,rws_get hk,?_⟩;conv=>whnf
  try (refine And.intro (by first|omega|exact Nat.le_of_ble_eq_true rfl) ?_;(try intro _);conv=>whnf)
  conv=>whnf
  repeat ((first|(guard_target=_∧_;(first|refine oL ?_|refine oR ?_|refine oB ?_))|(guard_target=Exists _;refine oM ?_));(try intro _);conv=>whnf)
  conv=>whnf
  refine ⟨_,rws_get hk2,?_⟩;conv=>whnf
  try (refine And.intro (by first|omega|exact Nat.le_of_ble_eq_true rfl) ?_;(try intro _);conv=>whnf)
  conv=>whnf
  refine ⟨fun hs=>?_,fun hs=>?_⟩<;>conv=>whnf
  ·try refine gR ?_
   conv=>whnf
   (try refine gS ?_);conv=>whnf
   repeat ((first|(guard_target=_∧_;(first|refine oL ?_|refine oR ?_))|(guard_target=Exists _;refine oM ?_));(try intro _);conv=>whnf)
   refine RunsS.subR [] (back (k+1) (by exact (⟨hk,more_at hk hk2 hJ.2 (Un.ext8_iff.2 hs)⟩)) (by (try dsimp only);omega)) sH sH
  (try refine gR ?_);conv=>whnf
  (try refine gS ?_);conv=>whnf
  have:r=false:=by rw [hr];exact eqB_no (fun e=>(fun e=>hs (Un.ext8_iff.1 e)) (at_eq e hk hk2))
  rw [this]
  try refine RunsS.retU ?_
  exact UnwS.ret tab Tryz.func35 rfl (eN () trivial)
 conv=>whnf
 have:r=true:=by rw [hr];exact eqB_yes (all_at hn fun j h1 h2=>hJ.2 j (by omega) h1 h2)
 rw [this]
 try refine RunsS.retU ?_
 exact UnwS.ret tab Tryz.func35 rfl (eN () trivial)
theorem eqI_fn (va vb:Value) (a b:List It):FnT Tryz.prog (Two va vb 6 (rws It.row a) (rws It.row b)) 36 0 [.v va,.v vb] [] (fun _:Unit=>True) (fun _=>.ret (.v (.bool (eqB a b))) 0 []):=by
 have hla:(rws It.row a).length=a.length:=rws_len _ _
 have hlb:(rws It.row b).length=b.length:=rws_len _ _
 obtain ⟨r,hr⟩:∃r,r=eqB a b:=⟨_,rfl⟩
 rw [←hr]
 refine FnT.of Tryz.func36 (by kernel_rfl) rfl Tryz.ntmps36 rfl fun E0 F h hT w0 cs=>?_
 have mA:=hT.1.len
 obtain ⟨aa,ca,rfl⟩:=RoF.sli hT.1 hla
 obtain ⟨ab,cb,rfl⟩:=RoF.sli hT.2 hlb
 conv=>whnf
 (try refine gS ?_);conv=>whnf
 refine ⟨fun hs=>?_,fun hs=>?_⟩<;>conv=>whnf
 rotate_left
 ·conv=>whnf
  have:r=false:=by rw [hr];exact eqB_no (fun e=>hs (by rw [e]))
  rw [this]
  try refine RunsS.retU ?_
  exact UnwS.ret tab Tryz.func36 rfl (eN () trivial)
 conv=>whnf
 have hn:a.length=b.length:=by omega
 refine RunsS.nameAt (fun _ x=>x) 0 (by exact hT.1) ?_
 conv=>whnf
 (try refine gS ?_);conv=>whnf
 refine RunsS.nameAt (fun _ x=>x) 1 (by exact hT.2) ?_
 conv=>whnf
 (try refine gS ?_);conv=>whnf
 refine RunsS.subR [] (RunsS.loop (fun (k:Nat)=>[(12,.v (.int .i64 a.length)),(13,.v (.int .i64 k)),(0,.buf 0),(1,.buf 1)]) (fun (k:Nat)=>[(0,.ro 6 (rws It.row a)),(1,.ro 6 (rws It.row b))]) 2 (fun (k:Nat)=>k≤a.length ∧ ∀j (_:j<k) (ha:j<a.length) (hb:j<b.length),a[j]=b[j]) (fun (k:Nat)=>a.length - k) ?round3 (0) ?J03) sH sH
 case J03=>exact (⟨Nat.zero_le _,fun j hj=>absurd hj (Nat.not_lt_zero _)⟩)
 rintro k hJ back
 conv=>whnf
 refine gS ?_;conv=>whnf
 refine ⟨fun hk=>?_,fun hk=>?_⟩<;>conv=>whnf
 ·have hk:k<a.length:=by omega
  have hk2:k<b.length:=by omega
  conv=>whnf
  refine RunsS.held tab (.fl 0 (.fl 1 (.fl 2 (.fl 3 (.fl 4 (.fl 5 (.fl 6 (.fl 7 (.fl 8 .done))))))))) (by kernel_rfl) ?_;conv=>whnf
  (try refine gR ?_);conv=>whnf
  repeat ((first|(guard_target=_∧_;(first|refine oL ?_|refine oR ?_|refine oB ?_))|(guard_target=Exists _;refine oM ?_));(try intro _);conv=>whnf)
  conv=>whnf
  refine ⟨_,rws_get hk,?_⟩;conv=>whnf
  try (refine And.intro (by first|omega|exact Nat.le_of_ble_eq_true rfl) ?_;(try intro _);conv=>whnf)
  conv=>whnf
  repeat ((first|(guard_target=_∧_;(first|refine oL ?_|refine oR ?_|refine oB ?_))|(guard_target=Exists _;refine oM ?_));(try intro _);conv=>whnf)
  conv=>whnf
  refine ⟨_,rws_get hk2,?_⟩;conv=>whnf
  try (refine And.intro (by first|omega|exact Nat.le_of_ble_eq_true rfl) ?_;(try intro _);conv=>whnf)
  conv=>whnf
  refine ⟨fun hs=>?_,fun hs=>?_⟩<;>conv=>whnf
  ·try refine gR ?_
   conv=>whnf
   (try refine gS ?_);conv=>whnf
   repeat ((first|(guard_target=_∧_;(first|refine oL ?_|refine oR ?_))|(guard_target=Exists _;refine oM ?_));(try intro _);conv=>whnf)
   refine RunsS.subR [] (back (k+1) (by exact (⟨hk,more_at hk hk2 hJ.2 (It.ext_iff'.2 hs)⟩)) (by (try dsimp only);omega)) sH sH
  (try refine gR ?_);conv=>whnf
  (try refine gS ?_);conv=>whnf
  have:r=false:=by rw [hr];exact eqB_no (fun e=>(fun e=>hs (It.ext_iff'.1 e)) (at_eq e hk hk2))
  rw [this]
  try refine RunsS.retU ?_
  exact UnwS.ret tab Tryz.func36 rfl (eN () trivial)
 conv=>whnf
 have:r=true:=by rw [hr];exact eqB_yes (all_at hn fun j h1 h2=>hJ.2 j (by omega) h1 h2)
 rw [this]
 try refine RunsS.retU ?_
 exact UnwS.ret tab Tryz.func36 rfl (eN () trivial)
theorem eqB_fn (va vb:Value) (a b:List ByteArray):FnT Tryz.prog (Two va vb 1 (rws (fun s=>[Value.string s]) a) (rws (fun s=>[Value.string s]) b)) 37 0 [.v va,.v vb] [] (fun _:Unit=>True) (fun _=>.ret (.v (.bool (eqB a b))) 0 []):=by
 have hla:(rws (fun s=>[Value.string s]) a).length=a.length:=rws_len _ _
 have hlb:(rws (fun s=>[Value.string s]) b).length=b.length:=rws_len _ _
 obtain ⟨r,hr⟩:∃r,r=eqB a b:=⟨_,rfl⟩
 rw [←hr]
 refine FnT.of Tryz.func37 (by kernel_rfl) rfl Tryz.ntmps37 rfl fun E0 F h hT w0 cs=>?_
 have mA:=hT.1.len
 obtain ⟨aa,ca,rfl⟩:=RoF.sli hT.1 hla
 obtain ⟨ab,cb,rfl⟩:=RoF.sli hT.2 hlb
 conv=>whnf
 (try refine gS ?_);conv=>whnf
 refine ⟨fun hs=>?_,fun hs=>?_⟩<;>conv=>whnf
 rotate_left
 ·conv=>whnf
  have:r=false:=by rw [hr];exact eqB_no (fun e=>hs (by rw [e]))
  rw [this]
  try refine RunsS.retU ?_
  exact UnwS.ret tab Tryz.func37 rfl (eN () trivial)
 conv=>whnf
 have hn:a.length=b.length:=by omega
 refine RunsS.nameAt (fun _ x=>x) 0 (by exact hT.1) ?_
 conv=>whnf
 (try refine gS ?_);conv=>whnf
 refine RunsS.nameAt (fun _ x=>x) 1 (by exact hT.2) ?_
 conv=>whnf
 (try refine gS ?_);conv=>whnf
 refine RunsS.subR [] (RunsS.loop (fun (k:Nat)=>[(12,.v (.int .i64 a.length)),(13,.v (.int .i64 k)),(0,.buf 0),(1,.buf 1)]) (fun (k:Nat)=>[(0,.ro 1 (rws (fun s=>[Value.string s]) a)),(1,.ro 1 (rws (fun s=>[Value.string s]) b))]) 2 (fun (k:Nat)=>k≤a.length ∧ ∀j (_:j<k) (ha:j<a.length) (hb:j<b.length),a[j]=b[j]) (fun (k:Nat)=>a.length - k) ?round5 (0) ?J05) sH sH
 case J05=>exact (⟨Nat.zero_le _,fun j hj=>absurd hj (Nat.not_lt_zero _)⟩)
 rintro k hJ back
 conv=>whnf
 refine gS ?_;conv=>whnf
 refine ⟨fun hk=>?_,fun hk=>?_⟩<;>conv=>whnf
 ·have hk:k<a.length:=by omega
  have hk2:k<b.length:=by omega
  conv=>whnf
  refine RunsS.held tab (.fl 0 (.fl 1 (.fl 2 (.fl 3 (.fl 4 (.fl 5 (.fl 6 (.fl 7 (.fl 8 .done))))))))) (by kernel_rfl) ?_;conv=>whnf
  (try refine gR ?_);conv=>whnf
  repeat ((first|(guard_target=_∧_;(first|refine oL ?_|refine oR ?_|refine oB ?_))|(guard_target=Exists _;refine oM ?_));(try intro _);conv=>whnf)
  conv=>whnf
  refine ⟨_,rws_get hk,?_⟩;conv=>whnf
  try (refine And.intro (by first|omega|exact Nat.le_of_ble_eq_true rfl) ?_;(try intro _);conv=>whnf)
  conv=>whnf
  refine ⟨_,rws_get hk2,?_⟩;conv=>whnf
  conv=>whnf
  refine ⟨fun hs=>?_,fun hs=>?_⟩<;>conv=>whnf
  ·try refine gR ?_
   conv=>whnf
   (try refine gS ?_);conv=>whnf
   repeat ((first|(guard_target=_∧_;(first|refine oL ?_|refine oR ?_))|(guard_target=Exists _;refine oM ?_));(try intro _);conv=>whnf)
   refine RunsS.subR [] (back (k+1) (by exact (⟨hk,more_at hk hk2 hJ.2 hs⟩)) (by (try dsimp only);omega)) sH sH
  (try refine gR ?_);conv=>whnf
  (try refine gS ?_);conv=>whnf
  have:r=false:=by rw [hr];exact eqB_no (fun e=>(fun e=>hs e) (at_eq e hk hk2))
  rw [this]
  try refine RunsS.retU ?_
  exact UnwS.ret tab Tryz.func37 rfl (eN () trivial)
 conv=>whnf
 have:r=true:=by rw [hr];exact eqB_yes (all_at hn fun j h1 h2=>hJ.2 j (by omega) h1 h2)
 rw [this]
 try refine RunsS.retU ?_
 exact UnwS.ret tab Tryz.func37 rfl (eN () trivial)
theorem eqM_fn (va vb:Value) (a b:List Mc):FnT Tryz.prog (Two va vb 4 (rws Mc.row a) (rws Mc.row b)) 38 0 [.v va,.v vb] [] (fun _:Unit=>True) (fun _=>.ret (.v (.bool (eqB a b))) 0 []):=by
 have hla:(rws Mc.row a).length=a.length:=rws_len _ _
 have hlb:(rws Mc.row b).length=b.length:=rws_len _ _
 obtain ⟨r,hr⟩:∃r,r=eqB a b:=⟨_,rfl⟩
 rw [←hr]
 refine FnT.of Tryz.func38 (by kernel_rfl) rfl Tryz.ntmps38 rfl fun E0 F h hT w0 cs=>?_
 have mA:=hT.1.len
 obtain ⟨aa,ca,rfl⟩:=RoF.sli hT.1 hla
 obtain ⟨ab,cb,rfl⟩:=RoF.sli hT.2 hlb
 conv=>whnf
 (try refine gS ?_);conv=>whnf
 refine ⟨fun hs=>?_,fun hs=>?_⟩<;>conv=>whnf
 rotate_left
 ·conv=>whnf
  have:r=false:=by rw [hr];exact eqB_no (fun e=>hs (by rw [e]))
  rw [this]
  try refine RunsS.retU ?_
  exact UnwS.ret tab Tryz.func38 rfl (eN () trivial)
 conv=>whnf
 have hn:a.length=b.length:=by omega
 refine RunsS.nameAt (fun _ x=>x) 0 (by exact hT.1) ?_
 conv=>whnf
 (try refine gS ?_);conv=>whnf
 refine RunsS.nameAt (fun _ x=>x) 1 (by exact hT.2) ?_
 conv=>whnf
 (try refine gS ?_);conv=>whnf
 refine RunsS.subR [] (RunsS.loop (fun (k:Nat)=>[(12,.v (.int .i64 a.length)),(13,.v (.int .i64 k)),(0,.buf 0),(1,.buf 1)]) (fun (k:Nat)=>[(0,.ro 4 (rws Mc.row a)),(1,.ro 4 (rws Mc.row b))]) 2 (fun (k:Nat)=>k≤a.length ∧ ∀j (_:j<k) (ha:j<a.length) (hb:j<b.length),a[j]=b[j]) (fun (k:Nat)=>a.length - k) ?round7 (0) ?J07) sH sH
 case J07=>exact (⟨Nat.zero_le _,fun j hj=>absurd hj (Nat.not_lt_zero _)⟩)
 rintro k hJ back
 conv=>whnf
 refine gS ?_;conv=>whnf
 refine ⟨fun hk=>?_,fun hk=>?_⟩<;>conv=>whnf
 ·have hk:k<a.length:=by omega
  have hk2:k<b.length:=by omega
  conv=>whnf
  refine RunsS.held tab (.fl 0 (.fl 1 (.fl 2 (.fl 3 (.fl 4 (.fl 5 (.fl 6 (.fl 7 (.fl 8 .done))))))))) (by kernel_rfl) ?_;conv=>whnf
  (try refine gR ?_);conv=>whnf
  repeat ((first|(guard_target=_∧_;(first|refine oL ?_|refine oR ?_|refine oB ?_))|(guard_target=Exists _;refine oM ?_));(try intro _);conv=>whnf)
  conv=>whnf
  refine ⟨_,rws_get hk,?_⟩;conv=>whnf
  try (refine And.intro (by first|omega|exact Nat.le_of_ble_eq_true rfl) ?_;(try intro _);conv=>whnf)
  conv=>whnf
  repeat ((first|(guard_target=_∧_;(first|refine oL ?_|refine oR ?_|refine oB ?_))|(guard_target=Exists _;refine oM ?_));(try intro _);conv=>whnf)
  conv=>whnf
  refine ⟨_,rws_get hk2,?_⟩;conv=>whnf
  try (refine And.intro (by first|omega|exact Nat.le_of_ble_eq_true rfl) ?_;(try intro _);conv=>whnf)
  conv=>whnf
  refine ⟨fun hs=>?_,fun hs=>?_⟩<;>conv=>whnf
  ·try refine gR ?_
   conv=>whnf
   (try refine gS ?_);conv=>whnf
   repeat ((first|(guard_target=_∧_;(first|refine oL ?_|refine oR ?_))|(guard_target=Exists _;refine oM ?_));(try intro _);conv=>whnf)
   refine RunsS.subR [] (back (k+1) (by exact (⟨hk,more_at hk hk2 hJ.2 (Mc.ext_iff'.2 hs)⟩)) (by (try dsimp only);omega)) sH sH
  (try refine gR ?_);conv=>whnf
  (try refine gS ?_);conv=>whnf
  have:r=false:=by rw [hr];exact eqB_no (fun e=>(fun e=>hs (Mc.ext_iff'.1 e)) (at_eq e hk hk2))
  rw [this]
  try refine RunsS.retU ?_
  exact UnwS.ret tab Tryz.func38 rfl (eN () trivial)
 conv=>whnf
 have:r=true:=by rw [hr];exact eqB_yes (all_at hn fun j h1 h2=>hJ.2 j (by omega) h1 h2)
 rw [this]
 try refine RunsS.retU ?_
 exact UnwS.ret tab Tryz.func38 rfl (eN () trivial)
theorem eqC_fn (va vb:Value) (a b:List Cd):FnT Tryz.prog (Two va vb 4 (rws Cd.row a) (rws Cd.row b)) 42 0 [.v va,.v vb] [] (fun _:Unit=>True) (fun _=>.ret (.v (.bool (eqB a b))) 0 []):=by
 have hla:(rws Cd.row a).length=a.length:=rws_len _ _
 have hlb:(rws Cd.row b).length=b.length:=rws_len _ _
 obtain ⟨r,hr⟩:∃r,r=eqB a b:=⟨_,rfl⟩
 rw [←hr]
 refine FnT.of Tryz.func42 (by kernel_rfl) rfl Tryz.ntmps42 rfl fun E0 F h hT w0 cs=>?_
 have mA:=hT.1.len
 obtain ⟨aa,ca,rfl⟩:=RoF.sli hT.1 hla
 obtain ⟨ab,cb,rfl⟩:=RoF.sli hT.2 hlb
 conv=>whnf
 (try refine gS ?_);conv=>whnf
 refine ⟨fun hs=>?_,fun hs=>?_⟩<;>conv=>whnf
 rotate_left
 ·conv=>whnf
  have:r=false:=by rw [hr];exact eqB_no (fun e=>hs (by rw [e]))
  rw [this]
  try refine RunsS.retU ?_
  exact UnwS.ret tab Tryz.func42 rfl (eN () trivial)
 conv=>whnf
 have hn:a.length=b.length:=by omega
 refine RunsS.nameAt (fun _ x=>x) 0 (by exact hT.1) ?_
 conv=>whnf
 (try refine gS ?_);conv=>whnf
 refine RunsS.nameAt (fun _ x=>x) 1 (by exact hT.2) ?_
 conv=>whnf
 (try refine gS ?_);conv=>whnf
 refine RunsS.subR [] (RunsS.loop (fun (k:Nat)=>[(12,.v (.int .i64 a.length)),(13,.v (.int .i64 k)),(0,.buf 0),(1,.buf 1)]) (fun (k:Nat)=>[(0,.ro 4 (rws Cd.row a)),(1,.ro 4 (rws Cd.row b))]) 2 (fun (k:Nat)=>k≤a.length ∧ ∀j (_:j<k) (ha:j<a.length) (hb:j<b.length),a[j]=b[j]) (fun (k:Nat)=>a.length - k) ?round9 (0) ?J09) sH sH
 case J09=>exact (⟨Nat.zero_le _,fun j hj=>absurd hj (Nat.not_lt_zero _)⟩)
 rintro k hJ back
 conv=>whnf
 refine gS ?_;conv=>whnf
 refine ⟨fun hk=>?_,fun hk=>?_⟩<;>conv=>whnf
 ·have hk:k<a.length:=by omega
  have hk2:k<b.length:=by omega
  conv=>whnf
  refine RunsS.held tab (.fl 0 (.fl 1 (.fl 2 (.fl 3 (.fl 4 (.fl 5 (.fl 6 (.fl 7 (.fl 8 .done))))))))) (by kernel_rfl) ?_;conv=>whnf
  (try refine gR ?_);conv=>whnf
  repeat ((first|(guard_target=_∧_;(first|refine oL ?_|refine oR ?_|refine oB ?_))|(guard_target=Exists _;refine oM ?_));(try intro _);conv=>whnf)
  conv=>whnf
  refine ⟨_,rws_get hk,?_⟩;conv=>whnf
  try (refine And.intro (by first|omega|exact Nat.le_of_ble_eq_true rfl) ?_;(try intro _);conv=>whnf)
  conv=>whnf
  repeat ((first|(guard_target=_∧_;(first|refine oL ?_|refine oR ?_|refine oB ?_))|(guard_target=Exists _;refine oM ?_));(try intro _);conv=>whnf)
  conv=>whnf
  refine ⟨_,rws_get hk2,?_⟩;conv=>whnf
  try (refine And.intro (by first|omega|exact Nat.le_of_ble_eq_true rfl) ?_;(try intro _);conv=>whnf)
  conv=>whnf
  refine ⟨fun hs=>?_,fun hs=>?_⟩<;>conv=>whnf
  ·try refine gR ?_
   conv=>whnf
   (try refine gS ?_);conv=>whnf
   repeat ((first|(guard_target=_∧_;(first|refine oL ?_|refine oR ?_))|(guard_target=Exists _;refine oM ?_));(try intro _);conv=>whnf)
   refine RunsS.subR [] (back (k+1) (by exact (⟨hk,more_at hk hk2 hJ.2 (Cd.ext_iff'.2 hs)⟩)) (by (try dsimp only);omega)) sH sH
  (try refine gR ?_);conv=>whnf
  (try refine gS ?_);conv=>whnf
  have:r=false:=by rw [hr];exact eqB_no (fun e=>(fun e=>hs (Cd.ext_iff'.1 e)) (at_eq e hk hk2))
  rw [this]
  try refine RunsS.retU ?_
  exact UnwS.ret tab Tryz.func42 rfl (eN () trivial)
 conv=>whnf
 have:r=true:=by rw [hr];exact eqB_yes (all_at hn fun j h1 h2=>hJ.2 j (by omega) h1 h2)
 rw [this]
 try refine RunsS.retU ?_
 exact UnwS.ret tab Tryz.func42 rfl (eN () trivial)
theorem eqA_fn (va vb:Value) (a b:List Am):FnT Tryz.prog (Two va vb 7 (rws Am.row a) (rws Am.row b)) 108 0 [.v va,.v vb] [] (fun _:Unit=>True) (fun _=>.ret (.v (.bool (eqB a b))) 0 []):=by
 have hla:(rws Am.row a).length=a.length:=rws_len _ _
 have hlb:(rws Am.row b).length=b.length:=rws_len _ _
 obtain ⟨r,hr⟩:∃r,r=eqB a b:=⟨_,rfl⟩
 rw [←hr]
 refine FnT.of Tryz.func108 (by kernel_rfl) rfl Tryz.ntmps108 rfl fun E0 F h hT w0 cs=>?_
 have mA:=hT.1.len
 obtain ⟨aa,ca,rfl⟩:=RoF.sli hT.1 hla
 obtain ⟨ab,cb,rfl⟩:=RoF.sli hT.2 hlb
 conv=>whnf
 (try refine gS ?_);conv=>whnf
 refine ⟨fun hs=>?_,fun hs=>?_⟩<;>conv=>whnf
 rotate_left
 ·conv=>whnf
  have:r=false:=by rw [hr];exact eqB_no (fun e=>hs (by rw [e]))
  rw [this]
  try refine RunsS.retU ?_
  exact UnwS.ret tab Tryz.func108 rfl (eN () trivial)
 conv=>whnf
 have hn:a.length=b.length:=by omega
 refine RunsS.nameAt (fun _ x=>x) 0 (by exact hT.1) ?_
 conv=>whnf
 (try refine gS ?_);conv=>whnf
 refine RunsS.nameAt (fun _ x=>x) 1 (by exact hT.2) ?_
 conv=>whnf
 (try refine gS ?_);conv=>whnf
 refine RunsS.subR [] (RunsS.loop (fun (k:Nat)=>[(12,.v (.int .i64 a.length)),(13,.v (.int .i64 k)),(0,.buf 0),(1,.buf 1)]) (fun (k:Nat)=>[(0,.ro 7 (rws Am.row a)),(1,.ro 7 (rws Am.row b))]) 2 (fun (k:Nat)=>k≤a.length ∧ ∀j (_:j<k) (ha:j<a.length) (hb:j<b.length),a[j]=b[j]) (fun (k:Nat)=>a.length - k) ?round11 (0) ?J011) sH sH
 case J011=>exact (⟨Nat.zero_le _,fun j hj=>absurd hj (Nat.not_lt_zero _)⟩)
 rintro k hJ back
 conv=>whnf
 refine gS ?_;conv=>whnf
 refine ⟨fun hk=>?_,fun hk=>?_⟩<;>conv=>whnf
 ·have hk:k<a.length:=by omega
  have hk2:k<b.length:=by omega
  conv=>whnf
  refine RunsS.held tab (.fl 0 (.fl 1 (.fl 2 (.fl 3 (.fl 4 (.fl 5 (.fl 6 (.fl 7 (.fl 8 .done))))))))) (by kernel_rfl) ?_;conv=>whnf
  (try refine gR ?_);conv=>whnf
  repeat ((first|(guard_target=_∧_;(first|refine oL ?_|refine oR ?_|refine oB ?_))|(guard_target=Exists _;refine oM ?_));(try intro _);conv=>whnf)
  conv=>whnf
  refine ⟨_,rws_get hk,?_⟩;conv=>whnf
  try (refine And.intro (by first|omega|exact Nat.le_of_ble_eq_true rfl) ?_;(try intro _);conv=>whnf)
  conv=>whnf
  repeat ((first|(guard_target=_∧_;(first|refine oL ?_|refine oR ?_|refine oB ?_))|(guard_target=Exists _;refine oM ?_));(try intro _);conv=>whnf)
  conv=>whnf
  refine ⟨_,rws_get hk2,?_⟩;conv=>whnf
  try (refine And.intro (by first|omega|exact Nat.le_of_ble_eq_true rfl) ?_;(try intro _);conv=>whnf)
  conv=>whnf
  refine ⟨fun hs=>?_,fun hs=>?_⟩<;>conv=>whnf
  ·try refine gR ?_
   conv=>whnf
   (try refine gS ?_);conv=>whnf
   repeat ((first|(guard_target=_∧_;(first|refine oL ?_|refine oR ?_))|(guard_target=Exists _;refine oM ?_));(try intro _);conv=>whnf)
   refine RunsS.subR [] (back (k+1) (by exact (⟨hk,more_at hk hk2 hJ.2 (Am.ext_iff'.2 hs)⟩)) (by (try dsimp only);omega)) sH sH
  (try refine gR ?_);conv=>whnf
  (try refine gS ?_);conv=>whnf
  have:r=false:=by rw [hr];exact eqB_no (fun e=>(fun e=>hs (Am.ext_iff'.1 e)) (at_eq e hk hk2))
  rw [this]
  try refine RunsS.retU ?_
  exact UnwS.ret tab Tryz.func108 rfl (eN () trivial)
 conv=>whnf
 have:r=true:=by rw [hr];exact eqB_yes (all_at hn fun j h1 h2=>hJ.2 j (by omega) h1 h2)
 rw [this]
 try refine RunsS.retU ?_
 exact UnwS.ret tab Tryz.func108 rfl (eN () trivial)
theorem eqR_fn (va vb:Value) (a b:List Rn):FnT Tryz.prog (Two va vb 3 (rws Rn.row a) (rws Rn.row b)) 109 0 [.v va,.v vb] [] (fun _:Unit=>True) (fun _=>.ret (.v (.bool (eqB a b))) 0 []):=by
 have hla:(rws Rn.row a).length=a.length:=rws_len _ _
 have hlb:(rws Rn.row b).length=b.length:=rws_len _ _
 obtain ⟨r,hr⟩:∃r,r=eqB a b:=⟨_,rfl⟩
 rw [←hr]
 refine FnT.of Tryz.func109 (by kernel_rfl) rfl Tryz.ntmps109 rfl fun E0 F h hT w0 cs=>?_
 have mA:=hT.1.len
 obtain ⟨aa,ca,rfl⟩:=RoF.sli hT.1 hla
 obtain ⟨ab,cb,rfl⟩:=RoF.sli hT.2 hlb
 conv=>whnf
 (try refine gS ?_);conv=>whnf
 refine ⟨fun hs=>?_,fun hs=>?_⟩<;>conv=>whnf
 rotate_left
 ·conv=>whnf
  have:r=false:=by rw [hr];exact eqB_no (fun e=>hs (by rw [e]))
  rw [this]
  try refine RunsS.retU ?_
  exact UnwS.ret tab Tryz.func109 rfl (eN () trivial)
 conv=>whnf
 have hn:a.length=b.length:=by omega
 refine RunsS.nameAt (fun _ x=>x) 0 (by exact hT.1) ?_
 conv=>whnf
 (try refine gS ?_);conv=>whnf
 refine RunsS.nameAt (fun _ x=>x) 1 (by exact hT.2) ?_
 conv=>whnf
 (try refine gS ?_);conv=>whnf
 refine RunsS.subR [] (RunsS.loop (fun (k:Nat)=>[(12,.v (.int .i64 a.length)),(13,.v (.int .i64 k)),(0,.buf 0),(1,.buf 1)]) (fun (k:Nat)=>[(0,.ro 3 (rws Rn.row a)),(1,.ro 3 (rws Rn.row b))]) 2 (fun (k:Nat)=>k≤a.length ∧ ∀j (_:j<k) (ha:j<a.length) (hb:j<b.length),a[j]=b[j]) (fun (k:Nat)=>a.length - k) ?round13 (0) ?J013) sH sH
 case J013=>exact (⟨Nat.zero_le _,fun j hj=>absurd hj (Nat.not_lt_zero _)⟩)
 rintro k hJ back
 conv=>whnf
 refine gS ?_;conv=>whnf
 refine ⟨fun hk=>?_,fun hk=>?_⟩<;>conv=>whnf
 ·have hk:k<a.length:=by omega
  have hk2:k<b.length:=by omega
  conv=>whnf
  refine RunsS.held tab (.fl 0 (.fl 1 (.fl 2 (.fl 3 (.fl 4 (.fl 5 (.fl 6 (.fl 7 (.fl 8 .done))))))))) (by kernel_rfl) ?_;conv=>whnf
  (try refine gR ?_);conv=>whnf
  repeat ((first|(guard_target=_∧_;(first|refine oL ?_|refine oR ?_|refine oB ?_))|(guard_target=Exists _;refine oM ?_));(try intro _);conv=>whnf)
  conv=>whnf
  refine ⟨_,rws_get hk,?_⟩;conv=>whnf
  try (refine And.intro (by first|omega|exact Nat.le_of_ble_eq_true rfl) ?_;(try intro _);conv=>whnf)
  conv=>whnf
  repeat ((first|(guard_target=_∧_;(first|refine oL ?_|refine oR ?_|refine oB ?_))|(guard_target=Exists _;refine oM ?_));(try intro _);conv=>whnf)
  conv=>whnf
  refine ⟨_,rws_get hk2,?_⟩;conv=>whnf
  try (refine And.intro (by first|omega|exact Nat.le_of_ble_eq_true rfl) ?_;(try intro _);conv=>whnf)
  conv=>whnf
  refine ⟨fun hs=>?_,fun hs=>?_⟩<;>conv=>whnf
  ·try refine gR ?_
   conv=>whnf
   (try refine gS ?_);conv=>whnf
   repeat ((first|(guard_target=_∧_;(first|refine oL ?_|refine oR ?_))|(guard_target=Exists _;refine oM ?_));(try intro _);conv=>whnf)
   refine RunsS.subR [] (back (k+1) (by exact (⟨hk,more_at hk hk2 hJ.2 (Rn.ext_iff'.2 hs)⟩)) (by (try dsimp only);omega)) sH sH
  (try refine gR ?_);conv=>whnf
  (try refine gS ?_);conv=>whnf
  have:r=false:=by rw [hr];exact eqB_no (fun e=>(fun e=>hs (Rn.ext_iff'.1 e)) (at_eq e hk hk2))
  rw [this]
  try refine RunsS.retU ?_
  exact UnwS.ret tab Tryz.func109 rfl (eN () trivial)
 conv=>whnf
 have:r=true:=by rw [hr];exact eqB_yes (all_at hn fun j h1 h2=>hJ.2 j (by omega) h1 h2)
 rw [this]
 try refine RunsS.retU ?_
 exact UnwS.ret tab Tryz.func109 rfl (eN () trivial)
theorem eqS_fn (va vb:Value) (a b:List Sw):FnT Tryz.prog (Two va vb 4 (rws Sw.row a) (rws Sw.row b)) 45 0 [.v va,.v vb] [] (fun _:Unit=>True) (fun _=>.ret (.v (.bool (eqB a b))) 0 []):=by
 have hla:(rws Sw.row a).length=a.length:=rws_len _ _
 have hlb:(rws Sw.row b).length=b.length:=rws_len _ _
 obtain ⟨r,hr⟩:∃r,r=eqB a b:=⟨_,rfl⟩
 rw [←hr]
 refine FnT.of Tryz.func45 (by kernel_rfl) rfl Tryz.ntmps45 rfl fun E0 F h hT w0 cs=>?_
 have mA:=hT.1.len
 obtain ⟨aa,ca,rfl⟩:=RoF.sli hT.1 hla
 obtain ⟨ab,cb,rfl⟩:=RoF.sli hT.2 hlb
 conv=>whnf
 (try refine gS ?_);conv=>whnf
 refine ⟨fun hs=>?_,fun hs=>?_⟩<;>conv=>whnf
 rotate_left
 ·conv=>whnf
  have:r=false:=by rw [hr];exact eqB_no (fun e=>hs (by rw [e]))
  rw [this]
  try refine RunsS.retU ?_
  exact UnwS.ret tab Tryz.func45 rfl (eN () trivial)
 conv=>whnf
 have hn:a.length=b.length:=by omega
 refine RunsS.nameAt (fun _ x=>x) 0 (by exact hT.1) ?_
 conv=>whnf
 (try refine gS ?_);conv=>whnf
 refine RunsS.nameAt (fun _ x=>x) 1 (by exact hT.2) ?_
 conv=>whnf
 (try refine gS ?_);conv=>whnf
 refine RunsS.subR [] (RunsS.loop (fun (k:Nat)=>[(12,.v (.int .i64 a.length)),(13,.v (.int .i64 k)),(0,.buf 0),(1,.buf 1)]) (fun (k:Nat)=>[(0,.ro 4 (rws Sw.row a)),(1,.ro 4 (rws Sw.row b))]) 2 (fun (k:Nat)=>k≤a.length ∧ ∀j (_:j<k) (ha:j<a.length) (hb:j<b.length),a[j]=b[j]) (fun (k:Nat)=>a.length - k) ?round15 (0) ?J015) sH sH
 case J015=>exact (⟨Nat.zero_le _,fun j hj=>absurd hj (Nat.not_lt_zero _)⟩)
 rintro k hJ back
 conv=>whnf
 refine gS ?_;conv=>whnf
 refine ⟨fun hk=>?_,fun hk=>?_⟩<;>conv=>whnf
 ·have hk:k<a.length:=by omega
  have hk2:k<b.length:=by omega
  conv=>whnf
  refine RunsS.held tab (.fl 0 (.fl 1 (.fl 2 (.fl 3 (.fl 4 (.fl 5 (.fl 6 (.fl 7 (.fl 8 .done))))))))) (by kernel_rfl) ?_;conv=>whnf
  (try refine gR ?_);conv=>whnf
  repeat ((first|(guard_target=_∧_;(first|refine oL ?_|refine oR ?_|refine oB ?_))|(guard_target=Exists _;refine oM ?_));(try intro _);conv=>whnf)
  conv=>whnf
  refine ⟨_,rws_get hk,?_⟩;conv=>whnf
  try (refine And.intro (by first|omega|exact Nat.le_of_ble_eq_true rfl) ?_;(try intro _);conv=>whnf)
  conv=>whnf
  repeat ((first|(guard_target=_∧_;(first|refine oL ?_|refine oR ?_|refine oB ?_))|(guard_target=Exists _;refine oM ?_));(try intro _);conv=>whnf)
  conv=>whnf
  refine ⟨_,rws_get hk2,?_⟩;conv=>whnf
  try (refine And.intro (by first|omega|exact Nat.le_of_ble_eq_true rfl) ?_;(try intro _);conv=>whnf)
  conv=>whnf
  refine ⟨fun hs=>?_,fun hs=>?_⟩<;>conv=>whnf
  ·try refine gR ?_
   conv=>whnf
   (try refine gS ?_);conv=>whnf
   repeat ((first|(guard_target=_∧_;(first|refine oL ?_|refine oR ?_))|(guard_target=Exists _;refine oM ?_));(try intro _);conv=>whnf)
   refine RunsS.subR [] (back (k+1) (by exact (⟨hk,more_at hk hk2 hJ.2 (Sw.ext_iff'.2 hs)⟩)) (by (try dsimp only);omega)) sH sH
  (try refine gR ?_);conv=>whnf
  (try refine gS ?_);conv=>whnf
  have:r=false:=by rw [hr];exact eqB_no (fun e=>(fun e=>hs (Sw.ext_iff'.1 e)) (at_eq e hk hk2))
  rw [this]
  try refine RunsS.retU ?_
  exact UnwS.ret tab Tryz.func45 rfl (eN () trivial)
 conv=>whnf
 have:r=true:=by rw [hr];exact eqB_yes (all_at hn fun j h1 h2=>hJ.2 j (by omega) h1 h2)
 rw [this]
 try refine RunsS.retU ?_
 exact UnwS.ret tab Tryz.func45 rfl (eN () trivial)

abbrev TwoO (a b:OpV) (F:Nat→Prop) (h:Array Obj):Prop:=a.ok F h∧b.ok F h
theorem TwoO.tok (a b:OpV):TOk (TwoO a b):=Two.tok _ _ _ _ _
theorem sameO_fn (a b:OpV):FnT Tryz.prog (TwoO a b) 40 0 [.agg (toV a.row),.agg (toV b.row)] [] (fun _:Unit=>True) (fun _=>.ret (.v (.bool (eqB a.bare b.bare))) 0 []):=by
 obtain ⟨r,hr⟩:∃r,r=eqB a.bare b.bare:=⟨_,rfl⟩
 rw [←hr]
 refine FnT.of Tryz.func40 (by kernel_rfl) rfl Tryz.ntmps40 rfl fun E0 F h hT w0 cs=>?_
 conv=>whnf
 (try refine gS ?_);conv=>whnf
 refine ⟨fun hs=>?_,fun hs=>?_⟩<;>conv=>whnf
 ·try refine gS ?_
  conv=>whnf
  refine RunsS.callT (Two.tok _ _ _ _ _) (hT) (eqB_fn _ _ a.ch b.ch) [] sH ?CNa1 ?_
  case CNa1=>rfl
  intro _ _
  conv=>whnf
  (try refine gS ?_);conv=>whnf
  have:r=eqB a.ch b.ch:=by
   rw [hr]
   by_cases h:a.ch=b.ch
   ·rw [eqB_yes h,eqB_yes (OpV.bare_iff.2 ⟨hs,h⟩)]
   rw [eqB_no h,eqB_no fun e=>h (OpV.bare_iff.1 e).2]
  rw [this]
  try refine RunsS.retU ?_
  exact UnwS.ret tab Tryz.func40 rfl (eN () trivial)
 (try refine gS ?_);conv=>whnf
 have:r=false:=by rw [hr];exact eqB_no fun e=>hs (OpV.bare_iff.1 e).1
 rw [this]
 try refine RunsS.retU ?_
 exact UnwS.ret tab Tryz.func40 rfl (eN () trivial)
def rcNums (r:RcV):List Int:=[r.fr,r.to,r.rwN,r.rwD,r.yN,r.yD,r.tN,r.tD,r.lead,r.inum,r.pnum]
theorem rcNums_fn (r:RcV):FnS Tryz.prog 107 0 [.agg (toV r.row)] [] (fun _:Unit=>True) (fun _=>.ret (.agg (toV ((rcNums r).map fun z=>Value.int .i64 z))) 0 []):=by
 refine FnS.of Tryz.func107 (by kernel_rfl) rfl Tryz.ntmps107 rfl fun E0 F h w0 cs=>?_
 conv=>whnf
 refine gS ?_;conv=>whnf
 try refine RunsS.retU ?_
 exact UnwS.ret tab Tryz.func107 rfl (eN () trivial)
theorem arT:Tryz.prog.underlying 169=some (.array 11 3):=by kernel_rfl
theorem inT:Tryz.prog.underlying 3=some (.int .i64):=by kernel_rfl
theorem arI:Tryz.prog.info? 3=some (Tryz.prog.info? 3).get! :=by kernel_rfl
theorem inC:Tryz.prog.cellsOf 3=1:=by kernel_rfl
theorem arG:Tryz.prog.eqGuardType Tryz.prog.depth 169=false:=by kernel_rfl
theorem nums_iff {a b:RcV}:rcNums a=rcNums b↔a.fr=b.fr∧a.to=b.to∧a.rwN=b.rwN∧a.rwD=b.rwD∧a.yN=b.yN∧a.yD=b.yD∧a.tN=b.tN∧a.tD=b.tD∧a.lead=b.lead∧a.inum=b.inum∧a.pnum=b.pnum:=by simp [rcNums]
theorem nums_of {a b:RcV} (e:a.bare=b.bare):rcNums a=rcNums b:=by
 obtain ⟨_,_,h3,h4,_,_,_,h8,h9,h10,h11,h12,h13,h14,_,h16,h17⟩:=RcV.bare_iff.1 e
 exact nums_iff.2 ⟨h3,h4,h8,h9,h10,h11,h12,h13,h14,h16,h17⟩
theorem sameR_fn (a b:RcV):FnT Tryz.prog (TwoR a b) 44 0 [.agg (toV a.row),.agg (toV b.row)] [] (fun _:Unit=>True) (fun _=>.ret (.v (.bool (eqB a.bare b.bare))) 0 []):=by
 obtain ⟨r,hr⟩:∃r,r=eqB a.bare b.bare:=⟨_,rfl⟩
 rw [←hr]
 refine FnT.of Tryz.func44 (by kernel_rfl) rfl Tryz.ntmps44 rfl fun E0 F h hT w0 cs=>?_
 conv=>whnf
 (try refine gS ?_);conv=>whnf
 refine RunsS.held tab (.fl 0 (.fl 1 (.fl 2 (.fl 3 (.fl 4 (.fl 5 (.fl 6 (.fl 7 (.fl 8 (.fl 9 (.fl 10 (.fl 11 (.fl 12 (.fl 13 (.fl 14 (.fl 16 (.fl 17 (.e1 15 [17] (.e1 18 [] (.fl 19 (.fl 20 (.fl 21 (.fl 22 (.fl 23 (.fl 24 (.fl 25 (.e1 26 [] (.fl 27 (.fl 28 (.fl 29 (.fl 30 (.fl 31 (.fl 32 (.e1 33 [] (.fl 34 (.fl 35 (.fl 36 (.fl 37 (.fl 38 (.fl 39 (.e1 40 [] (.fl 41 (.fl 42 (.fl 43 (.fl 44 (.fl 45 (.fl 46 (.e1 47 [] (.fl 48 (.fl 49 .done)))))))))))))))))))))))))))))))))))))))))))))))))) (by kernel_rfl) ?_;conv=>whnf
 (try refine gR ?_);conv=>whnf
 conv=>whnf
 refine ⟨fun h1=>?_,fun h1=>?_⟩<;>conv=>whnf
 ·try refine gR ?_
  conv=>whnf
  refine ⟨fun h2=>?_,fun h2=>?_⟩<;>conv=>whnf
  ·try refine gR ?_
   conv=>whnf
   refine EffR.callN (rcNums_fn a) [] ?_ sH ?CNa2
   case CNa2=>rfl
   intro _ _
   conv=>whnf
   try refine oB ?_
   (try refine gR ?_);conv=>whnf
   conv=>whnf
   refine EffR.callN (rcNums_fn b) [] ?_ sH ?CNa3
   case CNa3=>rfl
   rintro ⟨⟩ _<;>conv=>whnf
   conv=>whnf
   try refine oB ?_
   refine RunsR.eqArr (us:=rcNums a) (ws:=rcNums b) arT inT arI inC arG rfl rfl ?_
   by_cases h3:rcNums a=rcNums b
   ·rw [decide_eq_true h3]
    conv=>whnf
    (try refine gR ?_);conv=>whnf
    conv=>whnf
    have C4:=eqC_fn (a.hc.v a.cs.length) (b.hc.v b.cs.length) a.cs b.cs
    by_cases h4:a.cs=b.cs
    rotate_left
    ·rw [eqB_no h4] at C4
     refine EffR.callT (Two.tok _ _ _ _ _) (⟨hT.1.c,hT.2.c⟩) (C4) [] ?_ sH ?CNa4
     case CNa4=>rfl
     intro _ _
     conv=>whnf
     try refine oB ?_
     (try refine gR ?_);conv=>whnf
     repeat ((first|(guard_target=_∧_;(first|refine oL ?_|refine oR ?_|refine oB ?_))|(guard_target=Exists _;refine oM ?_));(try intro _);conv=>whnf)
     (try refine gS ?_);conv=>whnf
     have:r=false:=by rw [hr];exact eqB_no fun e=>h4 (RcV.bare_iff.1 e).2.2.2.2.1
     rw [this]
     try refine RunsS.retU ?_
     exact UnwS.ret tab Tryz.func44 rfl (eN () trivial)
    rw [eqB_yes h4] at C4
    refine EffR.callT (Two.tok _ _ _ _ _) (⟨hT.1.c,hT.2.c⟩) (C4) [] ?_ sH ?CNa5
    case CNa5=>rfl
    intro _ _
    conv=>whnf
    try refine oB ?_
    (try refine gR ?_);conv=>whnf
    conv=>whnf
    have C5:=eqA_fn (a.hi.v a.inn.length) (b.hi.v b.inn.length) a.inn b.inn
    by_cases h5:a.inn=b.inn
    rotate_left
    ·rw [eqB_no h5] at C5
     refine EffR.callT (Two.tok _ _ _ _ _) (⟨hT.1.i,hT.2.i⟩) (C5) [] ?_ sH ?CNa6
     case CNa6=>rfl
     intro _ _
     conv=>whnf
     try refine oB ?_
     (try refine gR ?_);conv=>whnf
     repeat ((first|(guard_target=_∧_;(first|refine oL ?_|refine oR ?_|refine oB ?_))|(guard_target=Exists _;refine oM ?_));(try intro _);conv=>whnf)
     (try refine gS ?_);conv=>whnf
     have:r=false:=by rw [hr];exact eqB_no fun e=>h5 (RcV.bare_iff.1 e).2.2.2.2.2.1
     rw [this]
     try refine RunsS.retU ?_
     exact UnwS.ret tab Tryz.func44 rfl (eN () trivial)
    rw [eqB_yes h5] at C5
    refine EffR.callT (Two.tok _ _ _ _ _) (⟨hT.1.i,hT.2.i⟩) (C5) [] ?_ sH ?CNa7
    case CNa7=>rfl
    intro _ _
    conv=>whnf
    try refine oB ?_
    (try refine gR ?_);conv=>whnf
    conv=>whnf
    have C6:=eqA_fn (a.ho.v a.out.length) (b.ho.v b.out.length) a.out b.out
    by_cases h6:a.out=b.out
    rotate_left
    ·rw [eqB_no h6] at C6
     refine EffR.callT (Two.tok _ _ _ _ _) (⟨hT.1.o,hT.2.o⟩) (C6) [] ?_ sH ?CNa8
     case CNa8=>rfl
     intro _ _
     conv=>whnf
     try refine oB ?_
     (try refine gR ?_);conv=>whnf
     repeat ((first|(guard_target=_∧_;(first|refine oL ?_|refine oR ?_|refine oB ?_))|(guard_target=Exists _;refine oM ?_));(try intro _);conv=>whnf)
     (try refine gS ?_);conv=>whnf
     have:r=false:=by rw [hr];exact eqB_no fun e=>h6 (RcV.bare_iff.1 e).2.2.2.2.2.2.1
     rw [this]
     try refine RunsS.retU ?_
     exact UnwS.ret tab Tryz.func44 rfl (eN () trivial)
    rw [eqB_yes h6] at C6
    refine EffR.callT (Two.tok _ _ _ _ _) (⟨hT.1.o,hT.2.o⟩) (C6) [] ?_ sH ?CNa9
    case CNa9=>rfl
    intro _ _
    conv=>whnf
    try refine oB ?_
    (try refine gR ?_);conv=>whnf
    conv=>whnf
    have C7:=eqR_fn (a.hr.v a.runs.length) (b.hr.v b.runs.length) a.runs b.runs
    by_cases h7:a.runs=b.runs
    rotate_left
    ·rw [eqB_no h7] at C7
     refine EffR.callT (Two.tok _ _ _ _ _) (⟨hT.1.rn,hT.2.rn⟩) (C7) [] ?_ sH ?CNa10
     case CNa10=>rfl
     intro _ _
     conv=>whnf
     try refine oB ?_
     (try refine gR ?_);conv=>whnf
     (try refine gS ?_);conv=>whnf
     have:r=false:=by rw [hr];exact eqB_no fun e=>h7 (RcV.bare_iff.1 e).2.2.2.2.2.2.2.2.2.2.2.2.2.2.1
     rw [this]
     try refine RunsS.retU ?_
     exact UnwS.ret tab Tryz.func44 rfl (eN () trivial)
    rw [eqB_yes h7] at C7
    refine EffR.callT (Two.tok _ _ _ _ _) (⟨hT.1.rn,hT.2.rn⟩) (C7) [] ?_ sH ?CNa11
    case CNa11=>rfl
    intro _ _
    conv=>whnf
    try refine oB ?_
    (try refine gR ?_);conv=>whnf
    (try refine gS ?_);conv=>whnf
    have:r=true:=by
     obtain ⟨n1,n2,n3,n4,n5,n6,n7,n8,n9,n10,n11⟩:=nums_iff.1 h3
     rw [hr]
     exact eqB_yes (RcV.bare_iff.2 ⟨h1,h2,n1,n2,h4,h5,h6,n3,n4,n5,n6,n7,n8,n9,h7,n10,n11⟩)
    rw [this]
    try refine RunsS.retU ?_
    exact UnwS.ret tab Tryz.func44 rfl (eN () trivial)
   rw [decide_eq_false h3]
   conv=>whnf
   (try refine gR ?_);conv=>whnf
   repeat ((first|(guard_target=_∧_;(first|refine oL ?_|refine oR ?_|refine oB ?_))|(guard_target=Exists _;refine oM ?_));(try intro _);conv=>whnf)
   (try refine gS ?_);conv=>whnf
   have:r=false:=by rw [hr];exact eqB_no fun e=>h3 (nums_of e)
   rw [this]
   try refine RunsS.retU ?_
   exact UnwS.ret tab Tryz.func44 rfl (eN () trivial)
  (try refine gR ?_);conv=>whnf
  repeat ((first|(guard_target=_∧_;(first|refine oL ?_|refine oR ?_|refine oB ?_))|(guard_target=Exists _;refine oM ?_));(try intro _);conv=>whnf)
  (try refine gS ?_);conv=>whnf
  have:r=false:=by rw [hr];exact eqB_no fun e=>h2 (RcV.bare_iff.1 e).2.1
  rw [this]
  try refine RunsS.retU ?_
  exact UnwS.ret tab Tryz.func44 rfl (eN () trivial)
 (try refine gR ?_);conv=>whnf
 repeat ((first|(guard_target=_∧_;(first|refine oL ?_|refine oR ?_|refine oB ?_))|(guard_target=Exists _;refine oM ?_));(try intro _);conv=>whnf)
 (try refine gS ?_);conv=>whnf
 have:r=false:=by rw [hr];exact eqB_no fun e=>h1 (RcV.bare_iff.1 e).1
 rw [this]
 try refine RunsS.retU ?_
 exact UnwS.ret tab Tryz.func44 rfl (eN () trivial)

structure TwoL {α:Type} (row:α→List Value) (ok:α→(Nat→Prop)→Array Obj→Prop) (sz:Nat) (va vb:Value) (a b:List α) (F:Nat→Prop) (h:Array Obj):Prop where
 ra:RoF F h va sz (rws row a)
 rb:RoF F h vb sz (rws row b)
 oa:∀o∈a,ok o F h
 ob:∀o∈b,ok o F h
theorem TwoL.tok {α:Type} {row:α→List Value} {ok:α→(Nat→Prop)→Array Obj→Prop} (t:∀o,TOk (ok o)) {sz:Nat} {va vb:Value} {a b:List α}:TOk (TwoL row ok sz va vb a b):=
 ⟨fun F F' h hs H=>⟨RoF.up ⟨hs,fun _ _=>rfl⟩ H.ra,RoF.up ⟨hs,fun _ _=>rfl⟩ H.rb,fun o ho=>(t o).1 F F' h hs (H.oa o ho),fun o ho=>(t o).1 F F' h hs (H.ob o ho)⟩,
  fun F h h' H K=>⟨RoF.up ⟨fun _ x=>x,K.same⟩ H.ra,RoF.up ⟨fun _ x=>x,K.same⟩ H.rb,fun o ho=>(t o).2 F h h' (H.oa o ho) K,fun o ho=>(t o).2 F h h' (H.ob o ho) K⟩⟩
abbrev okO (o:OpV) (F:Nat→Prop) (h:Array Obj):Prop:=o.ok F h
abbrev okF (o:FbV) (F:Nat→Prop) (h:Array Obj):Prop:=o.ok F h
abbrev okR (o:RcV) (F:Nat→Prop) (h:Array Obj):Prop:=o.ok F h
theorem OpV.tok' (o:OpV):TOk (okO o):=RoF.tok _ _ _
theorem FbV.tok' (o:FbV):TOk (okF o):=RoF.tok _ _ _
theorem RcV.tok' (o:RcV):TOk (okR o):=RcV.ok.tok o
theorem eqfO_fn (va vb:Value) (a b:List OpV):FnT Tryz.prog (TwoL OpV.row okO 2 va vb a b) 39 0 [.v va,.v vb,.v (.func (.func 40) #[] #[])] [] (fun _:Unit=>True) (fun _=>.ret (.v (.bool (eqB (a.map OpV.bare) (b.map OpV.bare)))) 0 []):=by
 have hla:(rws OpV.row a).length=a.length:=rws_len _ _
 have hlb:(rws OpV.row b).length=b.length:=rws_len _ _
 obtain ⟨r,hr⟩:∃r,r=eqB (a.map OpV.bare) (b.map OpV.bare):=⟨_,rfl⟩
 rw [←hr]
 refine FnT.of Tryz.func39 (by kernel_rfl) rfl Tryz.ntmps39 rfl fun E0 F h hT w0 cs=>?_
 have mA:=hT.ra.len
 obtain ⟨aa,ca,rfl⟩:=RoF.sli hT.ra hla
 obtain ⟨ab,cb,rfl⟩:=RoF.sli hT.rb hlb
 conv=>whnf
 (try refine gS ?_);conv=>whnf
 refine ⟨fun hs=>?_,fun hs=>?_⟩<;>conv=>whnf
 rotate_left
 ·conv=>whnf
  have:r=false:=by rw [hr];exact eqB_no (fun e=>hs (by rw [map_len e]))
  rw [this]
  try refine RunsS.retU ?_
  exact UnwS.ret tab Tryz.func39 rfl (eN () trivial)
 conv=>whnf
 have hn:a.length=b.length:=by omega
 refine RunsS.nameAt (fun _ x=>x) 15 (by exact hT.ra) ?_
 conv=>whnf
 (try refine gS ?_);conv=>whnf
 refine RunsS.nameAt (fun _ x=>x) 1 (by exact hT.rb) ?_
 conv=>whnf
 (try refine gS ?_);conv=>whnf
 refine RunsS.subR [] (RunsS.loop (fun (k:Nat)=>[(16,.v (.int .i64 a.length)),(17,.v (.int .i64 k)),(15,.buf 0),(1,.buf 1),(2,.v (.func (.func 40) #[] #[]))]) (fun (k:Nat)=>[(0,.ro 2 (rws OpV.row a)),(1,.ro 2 (rws OpV.row b))]) 2 (fun (k:Nat)=>k≤a.length ∧ ∀j (_:j<k) (ha:j<a.length) (hb:j<b.length),a[j].bare=b[j].bare) (fun (k:Nat)=>a.length - k) ?round1 (0) ?J01) sH sH
 case J01=>exact (⟨Nat.zero_le _,fun j hj=>absurd hj (Nat.not_lt_zero _)⟩)
 rintro k hJ back
 conv=>whnf
 refine gS ?_;conv=>whnf
 refine ⟨fun hk=>?_,fun hk=>?_⟩<;>conv=>whnf
 ·have hk:k<a.length:=by omega
  have hk2:k<b.length:=by omega
  conv=>whnf
  repeat ((first|(guard_target=_∧_;(first|refine oL ?_|refine oR ?_))|(guard_target=Exists _;refine oM ?_));(try intro _);conv=>whnf)
  refine ⟨_,rws_get hk,?_⟩;conv=>whnf
  try (refine oN ?_;conv=>whnf)
  repeat ((first|(guard_target=_∧_;(first|refine oL ?_|refine oR ?_))|(guard_target=Exists _;refine oM ?_));(try intro _);conv=>whnf)
  refine ⟨_,rws_get hk2,?_⟩;conv=>whnf
  try (refine oN ?_;conv=>whnf)
  have C:=sameO_fn a[k] b[k]
  by_cases hs:a[k].bare=b[k].bare
  ·rw [eqB_yes hs] at C
   refine RunsS.callT (TwoO.tok _ _) (⟨hT.oa _ (List.getElem_mem hk),hT.ob _ (List.getElem_mem hk2)⟩) (C) [] sH ?CNa2 ?_
   case CNa2=>rfl
   intro _ _
   conv=>whnf
   (try refine gS ?_);conv=>whnf
   repeat ((first|(guard_target=_∧_;(first|refine oL ?_|refine oR ?_))|(guard_target=Exists _;refine oM ?_));(try intro _);conv=>whnf)
   refine RunsS.subR [] (back (k+1) (by exact (⟨hk,more_by hk hk2 hJ.2 (hs)⟩)) (by (try dsimp only);omega)) sH sH
  rw [eqB_no hs] at C
  refine RunsS.callT (TwoO.tok _ _) (⟨hT.oa _ (List.getElem_mem hk),hT.ob _ (List.getElem_mem hk2)⟩) (C) [] sH ?CNa4 ?_
  case CNa4=>rfl
  intro _ _
  conv=>whnf
  (try refine gS ?_);conv=>whnf
  have:r=false:=by rw [hr];exact eqB_no (fun e=>(fun e=>hs e) (map_at e hk hk2))
  rw [this]
  try refine RunsS.retU ?_
  exact UnwS.ret tab Tryz.func39 rfl (eN () trivial)
 conv=>whnf
 have:r=true:=by rw [hr];exact eqB_yes (map_all hn fun j h1 h2=>hJ.2 j (by omega) h1 h2)
 rw [this]
 try refine RunsS.retU ?_
 exact UnwS.ret tab Tryz.func39 rfl (eN () trivial)
theorem eqfF_fn (va vb:Value) (a b:List FbV):FnT Tryz.prog (TwoL FbV.row okF 1 va vb a b) 41 0 [.v va,.v vb,.v (.func (.func 42) #[] #[])] [] (fun _:Unit=>True) (fun _=>.ret (.v (.bool (eqB (a.map FbV.bare) (b.map FbV.bare)))) 0 []):=by
 have hla:(rws FbV.row a).length=a.length:=rws_len _ _
 have hlb:(rws FbV.row b).length=b.length:=rws_len _ _
 obtain ⟨r,hr⟩:∃r,r=eqB (a.map FbV.bare) (b.map FbV.bare):=⟨_,rfl⟩
 rw [←hr]
 refine FnT.of Tryz.func41 (by kernel_rfl) rfl Tryz.ntmps41 rfl fun E0 F h hT w0 cs=>?_
 have mA:=hT.ra.len
 obtain ⟨aa,ca,rfl⟩:=RoF.sli hT.ra hla
 obtain ⟨ab,cb,rfl⟩:=RoF.sli hT.rb hlb
 conv=>whnf
 (try refine gS ?_);conv=>whnf
 refine ⟨fun hs=>?_,fun hs=>?_⟩<;>conv=>whnf
 rotate_left
 ·conv=>whnf
  have:r=false:=by rw [hr];exact eqB_no (fun e=>hs (by rw [map_len e]))
  rw [this]
  try refine RunsS.retU ?_
  exact UnwS.ret tab Tryz.func41 rfl (eN () trivial)
 conv=>whnf
 have hn:a.length=b.length:=by omega
 refine RunsS.nameAt (fun _ x=>x) 15 (by exact hT.ra) ?_
 conv=>whnf
 (try refine gS ?_);conv=>whnf
 refine RunsS.nameAt (fun _ x=>x) 1 (by exact hT.rb) ?_
 conv=>whnf
 (try refine gS ?_);conv=>whnf
 refine RunsS.subR [] (RunsS.loop (fun (k:Nat)=>[(16,.v (.int .i64 a.length)),(17,.v (.int .i64 k)),(15,.buf 0),(1,.buf 1),(2,.v (.func (.func 42) #[] #[]))]) (fun (k:Nat)=>[(0,.ro 1 (rws FbV.row a)),(1,.ro 1 (rws FbV.row b))]) 2 (fun (k:Nat)=>k≤a.length ∧ ∀j (_:j<k) (ha:j<a.length) (hb:j<b.length),a[j].bare=b[j].bare) (fun (k:Nat)=>a.length - k) ?round5 (0) ?J05) sH sH
 case J05=>exact (⟨Nat.zero_le _,fun j hj=>absurd hj (Nat.not_lt_zero _)⟩)
 rintro k hJ back
 conv=>whnf
 refine gS ?_;conv=>whnf
 refine ⟨fun hk=>?_,fun hk=>?_⟩<;>conv=>whnf
 ·have hk:k<a.length:=by omega
  have hk2:k<b.length:=by omega
  conv=>whnf
  repeat ((first|(guard_target=_∧_;(first|refine oL ?_|refine oR ?_))|(guard_target=Exists _;refine oM ?_));(try intro _);conv=>whnf)
  refine ⟨_,rws_get hk,?_⟩;conv=>whnf
  try (refine oN ?_;conv=>whnf)
  refine ⟨_,rws_get hk2,?_⟩;conv=>whnf
  have C:=eqC_fn (a[k].hd.v a[k].cs.length) (b[k].hd.v b[k].cs.length) a[k].cs b[k].cs
  by_cases hs:a[k].cs=b[k].cs
  ·rw [eqB_yes hs] at C
   refine RunsS.callT (Two.tok _ _ _ _ _) (⟨hT.oa _ (List.getElem_mem hk),hT.ob _ (List.getElem_mem hk2)⟩) (C) [] sH ?CNa6 ?_
   case CNa6=>rfl
   intro _ _
   conv=>whnf
   (try refine gS ?_);conv=>whnf
   repeat ((first|(guard_target=_∧_;(first|refine oL ?_|refine oR ?_))|(guard_target=Exists _;refine oM ?_));(try intro _);conv=>whnf)
   refine RunsS.subR [] (back (k+1) (by exact (⟨hk,more_by hk hk2 hJ.2 (FbV.bare_iff.2 hs)⟩)) (by (try dsimp only);omega)) sH sH
  rw [eqB_no hs] at C
  refine RunsS.callT (Two.tok _ _ _ _ _) (⟨hT.oa _ (List.getElem_mem hk),hT.ob _ (List.getElem_mem hk2)⟩) (C) [] sH ?CNa8 ?_
  case CNa8=>rfl
  intro _ _
  conv=>whnf
  (try refine gS ?_);conv=>whnf
  have:r=false:=by rw [hr];exact eqB_no (fun e=>(fun e=>hs (FbV.bare_iff.1 e)) (map_at e hk hk2))
  rw [this]
  try refine RunsS.retU ?_
  exact UnwS.ret tab Tryz.func41 rfl (eN () trivial)
 conv=>whnf
 have:r=true:=by rw [hr];exact eqB_yes (map_all hn fun j h1 h2=>hJ.2 j (by omega) h1 h2)
 rw [this]
 try refine RunsS.retU ?_
 exact UnwS.ret tab Tryz.func41 rfl (eN () trivial)
theorem eqfR_fn (va vb:Value) (a b:List RcV):FnT Tryz.prog (TwoL RcV.row okR 17 va vb a b) 43 0 [.v va,.v vb,.v (.func (.func 44) #[] #[])] [] (fun _:Unit=>True) (fun _=>.ret (.v (.bool (eqB (a.map RcV.bare) (b.map RcV.bare)))) 0 []):=by
 have hla:(rws RcV.row a).length=a.length:=rws_len _ _
 have hlb:(rws RcV.row b).length=b.length:=rws_len _ _
 obtain ⟨r,hr⟩:∃r,r=eqB (a.map RcV.bare) (b.map RcV.bare):=⟨_,rfl⟩
 rw [←hr]
 refine FnT.of Tryz.func43 (by kernel_rfl) rfl Tryz.ntmps43 rfl fun E0 F h hT w0 cs=>?_
 have mA:=hT.ra.len
 obtain ⟨aa,ca,rfl⟩:=RoF.sli hT.ra hla
 obtain ⟨ab,cb,rfl⟩:=RoF.sli hT.rb hlb
 conv=>whnf
 (try refine gS ?_);conv=>whnf
 refine ⟨fun hs=>?_,fun hs=>?_⟩<;>conv=>whnf
 rotate_left
 ·conv=>whnf
  have:r=false:=by rw [hr];exact eqB_no (fun e=>hs (by rw [map_len e]))
  rw [this]
  try refine RunsS.retU ?_
  exact UnwS.ret tab Tryz.func43 rfl (eN () trivial)
 conv=>whnf
 have hn:a.length=b.length:=by omega
 refine RunsS.nameAt (fun _ x=>x) 15 (by exact hT.ra) ?_
 conv=>whnf
 (try refine gS ?_);conv=>whnf
 refine RunsS.nameAt (fun _ x=>x) 1 (by exact hT.rb) ?_
 conv=>whnf
 (try refine gS ?_);conv=>whnf
 refine RunsS.subR [] (RunsS.loop (fun (k:Nat)=>[(16,.v (.int .i64 a.length)),(17,.v (.int .i64 k)),(15,.buf 0),(1,.buf 1),(2,.v (.func (.func 44) #[] #[]))]) (fun (k:Nat)=>[(0,.ro 17 (rws RcV.row a)),(1,.ro 17 (rws RcV.row b))]) 2 (fun (k:Nat)=>k≤a.length ∧ ∀j (_:j<k) (ha:j<a.length) (hb:j<b.length),a[j].bare=b[j].bare) (fun (k:Nat)=>a.length - k) ?round9 (0) ?J09) sH sH
 case J09=>exact (⟨Nat.zero_le _,fun j hj=>absurd hj (Nat.not_lt_zero _)⟩)
 rintro k hJ back
 conv=>whnf
 refine gS ?_;conv=>whnf
 refine ⟨fun hk=>?_,fun hk=>?_⟩<;>conv=>whnf
 ·have hk:k<a.length:=by omega
  have hk2:k<b.length:=by omega
  conv=>whnf
  repeat ((first|(guard_target=_∧_;(first|refine oL ?_|refine oR ?_))|(guard_target=Exists _;refine oM ?_));(try intro _);conv=>whnf)
  refine ⟨_,rws_get hk,?_⟩;conv=>whnf
  try (refine oN ?_;conv=>whnf)
  repeat ((first|(guard_target=_∧_;(first|refine oL ?_|refine oR ?_))|(guard_target=Exists _;refine oM ?_));(try intro _);conv=>whnf)
  refine ⟨_,rws_get hk2,?_⟩;conv=>whnf
  try (refine oN ?_;conv=>whnf)
  have C:=sameR_fn a[k] b[k]
  by_cases hs:a[k].bare=b[k].bare
  ·rw [eqB_yes hs] at C
   refine RunsS.callT (TwoR.tok _ _) (⟨hT.oa _ (List.getElem_mem hk),hT.ob _ (List.getElem_mem hk2)⟩) (C) [] sH ?CNa10 ?_
   case CNa10=>rfl
   intro _ _
   conv=>whnf
   (try refine gS ?_);conv=>whnf
   repeat ((first|(guard_target=_∧_;(first|refine oL ?_|refine oR ?_))|(guard_target=Exists _;refine oM ?_));(try intro _);conv=>whnf)
   refine RunsS.subR [] (back (k+1) (by exact (⟨hk,more_by hk hk2 hJ.2 (hs)⟩)) (by (try dsimp only);omega)) sH sH
  rw [eqB_no hs] at C
  refine RunsS.callT (TwoR.tok _ _) (⟨hT.oa _ (List.getElem_mem hk),hT.ob _ (List.getElem_mem hk2)⟩) (C) [] sH ?CNa12 ?_
  case CNa12=>rfl
  intro _ _
  conv=>whnf
  (try refine gS ?_);conv=>whnf
  have:r=false:=by rw [hr];exact eqB_no (fun e=>(fun e=>hs e) (map_at e hk hk2))
  rw [this]
  try refine RunsS.retU ?_
  exact UnwS.ret tab Tryz.func43 rfl (eN () trivial)
 conv=>whnf
 have:r=true:=by rw [hr];exact eqB_yes (map_all hn fun j h1 h2=>hJ.2 j (by omega) h1 h2)
 rw [this]
 try refine RunsS.retU ?_
 exact UnwS.ret tab Tryz.func43 rfl (eN () trivial)
end Go.Proofs.YtgbeechjghajcaaGreatDoor

namespace Go.Proofs.YtgbeechjghajcaaGreatDoor
open Go Go.Fw Go.NatM Go.RatM Go.SrcM
set_option maxRecDepth 100000
set_option maxHeartbeats 99999999
section
variable {vU vI vP vM vO vF vR vS wU wI wP wM wO wF wR wS:Value}
theorem same_fn (a b:SrcV):FnT Tryz.prog (Two2T vU vI vP vM vO vF vR vS wU wI wP wM wO wF wR wS a b) 17 0 [srcA vU vI vP vM vO vF vR vS,srcA wU wI wP wM wO wF wR wS] [] (fun _:Unit=>True) (fun _=>.ret (.v (.bool (eqB a.bare b.bare))) 0 []):=by
 obtain ⟨r,hr⟩:∃r,r=eqB a.bare b.bare:=⟨_,rfl⟩
 rw [←hr]
 have no:∀ {p:Prop},(a.bare=b.bare→p) → ¬p→r=false:=fun h hp=>hr.trans (eqB_no fun e=>hp (h e))
 refine FnT.of Tryz.func17 (by kernel_rfl) rfl Tryz.ntmps17 rfl fun E0 F h hT w0 cs=>?_
 conv=>whnf
 (try refine gS ?_);conv=>whnf
 have C0:=eqU_fn vU wU a.units b.units
 by_cases h0:a.units=b.units
 rotate_left
 ·rw [eqB_no h0] at C0
  refine RunsS.callT (Two.tok _ _ _ _ _) (⟨(show RoF F h vU 8 (rws Un.row a.units) from hT.1.U),(show RoF F h wU 8 (rws Un.row b.units) from hT.2.U)⟩) (C0) [] sH ?CNa1 ?_
  case CNa1=>rfl
  intro _ _
  conv=>whnf
  (try refine gS ?_);conv=>whnf
  rw [no (fun e=>(SrcV.of_bare e).1) h0]
  try refine RunsS.retU ?_
  exact UnwS.ret tab Tryz.func17 rfl (eN () trivial)
 rw [eqB_yes h0] at C0
 refine RunsS.callT (Two.tok _ _ _ _ _) (⟨(show RoF F h vU 8 (rws Un.row a.units) from hT.1.U),(show RoF F h wU 8 (rws Un.row b.units) from hT.2.U)⟩) (C0) [] sH ?CNa2 ?_
 case CNa2=>rfl
 intro _ _
 conv=>whnf
 (try refine gS ?_);conv=>whnf
 have C1:=eqI_fn vI wI a.items b.items
 by_cases h1:a.items=b.items
 rotate_left
 ·rw [eqB_no h1] at C1
  refine RunsS.callT (Two.tok _ _ _ _ _) (⟨hT.1.I,hT.2.I⟩) (C1) [] sH ?CNa3 ?_
  case CNa3=>rfl
  intro _ _
  conv=>whnf
  (try refine gS ?_);conv=>whnf
  rw [no (fun e=>(SrcV.of_bare e).2.1) h1]
  try refine RunsS.retU ?_
  exact UnwS.ret tab Tryz.func17 rfl (eN () trivial)
 rw [eqB_yes h1] at C1
 refine RunsS.callT (Two.tok _ _ _ _ _) (⟨hT.1.I,hT.2.I⟩) (C1) [] sH ?CNa4 ?_
 case CNa4=>rfl
 intro _ _
 conv=>whnf
 (try refine gS ?_);conv=>whnf
 have C2:=eqB_fn vP wP a.plants b.plants
 by_cases h2:a.plants=b.plants
 rotate_left
 ·rw [eqB_no h2] at C2
  refine RunsS.callT (Two.tok _ _ _ _ _) (⟨hT.1.P,hT.2.P⟩) (C2) [] sH ?CNa5 ?_
  case CNa5=>rfl
  intro _ _
  conv=>whnf
  (try refine gS ?_);conv=>whnf
  rw [no (fun e=>(SrcV.of_bare e).2.2.1) h2]
  try refine RunsS.retU ?_
  exact UnwS.ret tab Tryz.func17 rfl (eN () trivial)
 rw [eqB_yes h2] at C2
 refine RunsS.callT (Two.tok _ _ _ _ _) (⟨hT.1.P,hT.2.P⟩) (C2) [] sH ?CNa6 ?_
 case CNa6=>rfl
 intro _ _
 conv=>whnf
 (try refine gS ?_);conv=>whnf
 have C3:=eqM_fn vM wM a.machines b.machines
 by_cases h3:a.machines=b.machines
 rotate_left
 ·rw [eqB_no h3] at C3
  refine RunsS.callT (Two.tok _ _ _ _ _) (⟨hT.1.M,hT.2.M⟩) (C3) [] sH ?CNa7 ?_
  case CNa7=>rfl
  intro _ _
  conv=>whnf
  (try refine gS ?_);conv=>whnf
  rw [no (fun e=>(SrcV.of_bare e).2.2.2.1) h3]
  try refine RunsS.retU ?_
  exact UnwS.ret tab Tryz.func17 rfl (eN () trivial)
 rw [eqB_yes h3] at C3
 refine RunsS.callT (Two.tok _ _ _ _ _) (⟨hT.1.M,hT.2.M⟩) (C3) [] sH ?CNa8 ?_
 case CNa8=>rfl
 intro _ _
 conv=>whnf
 (try refine gS ?_);conv=>whnf
 have C4:=eqfO_fn vO wO a.options b.options
 by_cases h4:a.options.map OpV.bare=b.options.map OpV.bare
 rotate_left
 ·rw [eqB_no h4] at C4
  refine RunsS.callT (TwoL.tok OpV.tok') (⟨hT.1.O,hT.2.O,hT.1.below.o,hT.2.below.o⟩) (C4) [] sH ?CNa9 ?_
  case CNa9=>rfl
  intro _ _
  conv=>whnf
  (try refine gS ?_);conv=>whnf
  rw [no (fun e=>(SrcV.of_bare e).2.2.2.2.1) h4]
  try refine RunsS.retU ?_
  exact UnwS.ret tab Tryz.func17 rfl (eN () trivial)
 rw [eqB_yes h4] at C4
 refine RunsS.callT (TwoL.tok OpV.tok') (⟨hT.1.O,hT.2.O,hT.1.below.o,hT.2.below.o⟩) (C4) [] sH ?CNa10 ?_
 case CNa10=>rfl
 intro _ _
 conv=>whnf
 (try refine gS ?_);conv=>whnf
 have C5:=eqfF_fn vF wF a.forbids b.forbids
 by_cases h5:a.forbids.map FbV.bare=b.forbids.map FbV.bare
 rotate_left
 ·rw [eqB_no h5] at C5
  refine RunsS.callT (TwoL.tok FbV.tok') (⟨hT.1.F,hT.2.F,hT.1.below.f,hT.2.below.f⟩) (C5) [] sH ?CNa11 ?_
  case CNa11=>rfl
  intro _ _
  conv=>whnf
  (try refine gS ?_);conv=>whnf
  rw [no (fun e=>(SrcV.of_bare e).2.2.2.2.2.1) h5]
  try refine RunsS.retU ?_
  exact UnwS.ret tab Tryz.func17 rfl (eN () trivial)
 rw [eqB_yes h5] at C5
 refine RunsS.callT (TwoL.tok FbV.tok') (⟨hT.1.F,hT.2.F,hT.1.below.f,hT.2.below.f⟩) (C5) [] sH ?CNa12 ?_
 case CNa12=>rfl
 intro _ _
 conv=>whnf
 (try refine gS ?_);conv=>whnf
 have C6:=eqfR_fn vR wR a.recipes b.recipes
 by_cases h6:a.recipes.map RcV.bare=b.recipes.map RcV.bare
 rotate_left
 ·rw [eqB_no h6] at C6
  refine RunsS.callT (TwoL.tok RcV.tok') (⟨hT.1.R,hT.2.R,hT.1.below.r,hT.2.below.r⟩) (C6) [] sH ?CNa13 ?_
  case CNa13=>rfl
  intro _ _
  conv=>whnf
  (try refine gS ?_);conv=>whnf
  rw [no (fun e=>(SrcV.of_bare e).2.2.2.2.2.2.1) h6]
  try refine RunsS.retU ?_
  exact UnwS.ret tab Tryz.func17 rfl (eN () trivial)
 rw [eqB_yes h6] at C6
 refine RunsS.callT (TwoL.tok RcV.tok') (⟨hT.1.R,hT.2.R,hT.1.below.r,hT.2.below.r⟩) (C6) [] sH ?CNa14 ?_
 case CNa14=>rfl
 intro _ _
 conv=>whnf
 (try refine gS ?_);conv=>whnf
 have C7:=eqS_fn vS wS a.swaps b.swaps
 by_cases h7:a.swaps=b.swaps
 rotate_left
 ·rw [eqB_no h7] at C7
  refine RunsS.callT (Two.tok _ _ _ _ _) (⟨hT.1.S,hT.2.S⟩) (C7) [] sH ?CNa15 ?_
  case CNa15=>rfl
  intro _ _
  conv=>whnf
  (try refine gS ?_);conv=>whnf
  rw [no (fun e=>(SrcV.of_bare e).2.2.2.2.2.2.2) h7]
  try refine RunsS.retU ?_
  exact UnwS.ret tab Tryz.func17 rfl (eN () trivial)
 rw [eqB_yes h7] at C7
 refine RunsS.callT (Two.tok _ _ _ _ _) (⟨hT.1.S,hT.2.S⟩) (C7) [] sH ?CNa16 ?_
 case CNa16=>rfl
 intro _ _
 conv=>whnf
 (try refine gS ?_);conv=>whnf
 have:r=true:=hr.trans (eqB_yes (SrcV.bare_mk h0 h1 h2 h3 h4 h5 h6 h7))
 rw [this]
 try refine RunsS.retU ?_
 exact UnwS.ret tab Tryz.func17 rfl (eN () trivial)
end
end Go.Proofs.YtgbeechjghajcaaGreatDoor

namespace Go.Proofs.YtgbeechjghajcaaGreatDoor
open Go Go.Fw Go.NatM Go.RatM Go.SrcM Go.SynM
set_option maxRecDepth 100000
set_option maxHeartbeats 99999999
abbrev intA (z:Int):SV:=.v (.int .i64 z)
abbrev strA (z:ByteArray):SV:=.v (.string z)
section
variable (L:List Tok) (en:Int) (hL:L.length≤65536) (s:St)
theorem lrow {n:Nat} (h:n<L.length):(L.map Tok.row)[((n:Int)).toNat]? = some L[n].row:=by
 rw [Int.toNat_natCast,List.getElem?_map,List.getElem?_eq_getElem h];rfl
end
end Go.Proofs.YtgbeechjghajcaaGreatDoor

namespace Go.Proofs.YtgbeechjghajcaaGreatDoor
open Go Go.Fw Go.NatM Go.RatM Go.SrcM Go.SynM
set_option maxRecDepth 100000
set_option maxHeartbeats 99999999
end Go.Proofs.YtgbeechjghajcaaGreatDoor

namespace Go.SynM
open Go Go.Fw Go.RatM Go.SrcM
open Go.Proofs.YtgbeechjghajcaaGreatDoor (Tok)
end Go.SynM
namespace Go.Proofs.YtgbeechjghajcaaGreatDoor
open Go Go.Fw Go.NatM Go.RatM Go.SrcM Go.SynM
set_option maxRecDepth 100000
set_option maxHeartbeats 99999999
end Go.Proofs.YtgbeechjghajcaaGreatDoor

namespace Go.Proofs.YtgbeechjghajcaaGreatDoor
open Go Go.Fw Go.NatM Go.RatM Go.SrcM Go.SynM
set_option maxRecDepth 100000
set_option maxHeartbeats 99999999
end Go.Proofs.YtgbeechjghajcaaGreatDoor

namespace Go.SrcM
open Go Go.Fw Go.RatM
end Go.SrcM
namespace Go.Proofs.YtgbeechjghajcaaGreatDoor
open Go Go.Fw Go.NatM Go.RatM Go.SrcM Go.SynM
set_option maxRecDepth 100000
set_option maxHeartbeats 99999999
end Go.Proofs.YtgbeechjghajcaaGreatDoor

namespace Go.SynM
open Go Go.Fw Go.RatM Go.SrcM
open Go.Proofs.YtgbeechjghajcaaGreatDoor (Tok)
end Go.SynM
namespace Go.Proofs.YtgbeechjghajcaaGreatDoor
open Go Go.Fw Go.NatM Go.RatM Go.SrcM Go.SynM
set_option maxRecDepth 100000
set_option maxHeartbeats 99999999
end Go.Proofs.YtgbeechjghajcaaGreatDoor
