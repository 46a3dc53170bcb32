/- Texts of this seat, joined: divide. Trailing zeros; the binary way to the greatest common divisor; plain. TrailingZeros64, zeros. divisor. Div, Gcd. T -/
import Derived.Test.YthjedpdedjhndaaGreatDoorJoinC
import Derived.Lib.TrailingZeros
set_option linter.unusedVariables false
set_option linter.unusedSimpArgs false
namespace Go.Proofs.YthjedpdedjhndaaGreatDoor
open Go Go.Fw Go.NatM
set_option maxRecDepth 100000
set_option maxHeartbeats 99999999
abbrev nilS:Value:=.slice none 0 0
theorem Wr.nil (h:Array Obj):Wr h nilS 0 0:=⟨none,0,rfl,Nat.le_refl _,by decide,fun h=>absurd h (Nat.lt_irrefl _)⟩
theorem kJ (x y:Nat):lC (x:Int) (y:Int)<0↔x<y:=by
 unfold lC
 constructor
 ·intro h;split at h
  ·omega
  split at h<;>omega
 intro h;rw [if_pos (by omega)];decide
theorem aVO {h:Array Obj} {g m V:Nat} {cur:Array Value} (hat:At h g cur 173) (hc:∀j,j<m→cur[j]? = some (.int .u64 (wdc V j:Nat))):
  ∀(j:Nat) (u:Value),((List.range m).map fun j=>Value.int .u64 (wdc V j:Nat))[j]? = some u→bL h g (0+j)=some u:=fun j u hu=>by
 rw [List.getElem?_map] at hu
 have hj:j<m:=by
  rcases Nat.lt_or_ge j m with h|h
  ·exact h
  rw [List.getElem?_eq_none (by simp;omega)] at hu;cases hu
 rw [List.getElem?_range hj] at hu
 obtain rfl:=Option.some.inj hu
 rw [hat.cell,Nat.zero_add]
 exact hc j hj
theorem aWQ (m V:Nat):∀u∈(List.range m).map (fun j=>Value.int .u64 (wdc V j:Nat)),u.oneCell'=true:=fun u hu=>by
 obtain ⟨j,_,rfl⟩:=List.mem_map.1 hu
 rfl
def DivR (h h':Array Obj) (r:Value) (V1 V2:Nat):Prop:=
 ∃vq vr mq mr,r=.tuple #[vq,vr]∧Wr h' vq mq (V1/V2)∧Wr h' vr mr (V1%V2)∧mq≤nw V1∧mr≤nw V1+nw V2+1∧aH h.size h h'
theorem aVJ {h:Array Obj} {a:Option Addr} {m cap V g:Nat} (hw:Wr h (.slice a m cap) m V) (hm:0<m) (hg:h.size≤g):(Value.slice a m cap).ownBlock≠some g:=by
 intro e
 obtain ⟨b,off,rfl,hr⟩:=hw.rd rfl hm
 have:=tY (hr 0 hm)
 have e:b=g:=by simpa [Value.ownBlock] using e
 omega
structure aMV (h:Array Obj) (v2:Value) (g1 g3:Nat) (V1 V2 i:Nat) (h':Array Obj):Prop where
 keeps:aH h.size h h'
 bb:At h' h.size #[v2] 174
 qq:At h' (h.size+1) #[.slice (some ⟨g1,0,none⟩) (nw V1) (nw V1)] 174
 rr:At h' (h.size+1+1) #[.slice (some ⟨g3,0,none⟩) (nw V2+1) (nw V2+1)] 174
 q:∃cur,At h' g1 cur 173∧cur.size=nw V1∧V1/2^i/V2*2^i<B^nw V1 ∧ ∀j,j<nw V1→cur[j]? = some (.int .u64 (wdc (V1/2^i/V2*2^i) j:Nat))
 r:∃cur,At h' g3 cur 173∧cur.size=nw V2+1 ∧ ∀j,j<nw V2+1→cur[j]? = some (.int .u64 (wdc (V1/2^i%V2) j:Nat))
theorem aMV.put {h:Array Obj} {v2:Value} {g1 g3 V1 V2 i:Nat} {h' h'':Array Obj} (H:aMV h v2 g1 g3 V1 V2 i h') {b:Nat} (P:nK h' h'' b) (hb:h.size+2<b) (h1:g1≠b) (h3:g3≠b):aMV h v2 g1 g3 V1 V2 i h'':=by
 obtain ⟨k,b1,b2,b3,⟨c1,q1,q2⟩,⟨c2,r1,r2⟩⟩:=H
 exact ⟨k.trans (P.keeps.mono (by omega)),P.at b1 (by omega),P.at b2 (by omega),P.at b3 (by omega),⟨c1,P.at q1 h1,q2⟩,⟨c2,P.at r1 h3,r2⟩⟩
theorem aMV.kept {h:Array Obj} {v2:Value} {g1 g3 V1 V2 i:Nat} {h' h'':Array Obj} (H:aMV h v2 g1 g3 V1 V2 i h') {b:Nat} (P:aH b h' h'') (hb:h.size+2<b) (h1:g1<b) (h3:g3<b):aMV h v2 g1 g3 V1 V2 i h'':=by
 obtain ⟨k,b1,b2,b3,⟨c1,q1,q2⟩,⟨c2,r1,r2⟩⟩:=H
 exact ⟨k.trans (P.mono (by omega)),P.at b1 (by omega),P.at b2 (by omega),P.at b3 (by omega),⟨c1,P.at q1 h1,q2⟩,⟨c2,P.at r1 h3,r2⟩⟩
theorem aWV {h:Array Obj} {v1 v2:Value} {V1 V2:Nat} (hw1:Wr h v1 (nw V1) V1) (hw2:Wr h v2 (nw V2) V2) (h0:V2≠0) (hm1:nw V1≤65536) (hm2:nw V2≤65536):
  FnV Tryz.prog 118 #[v1,v2] h fun r h'=>DivR h h' r V1 V2:=by
 obtain ⟨a1,cap1,rfl⟩:∃a cap,v1=.slice a (nw V1) cap:=let ⟨a,cap,e,_⟩:=hw1;⟨a,cap,e⟩
 obtain ⟨a2,cap2,rfl⟩:∃a cap,v2=.slice a (nw V2) cap:=let ⟨a,cap,e,_⟩:=hw2;⟨a,cap,e⟩
 refine Fn.of (args:=[.slice a1 (nw V1) cap1,.slice a2 (nw V2) cap2]) Tryz.func118 (by kernel_rfl) rfl Tryz.ntmps118 rfl fun w0 cs=>?_
 refine gO ?_;conv=>whnf
 refine aD.eff (bAT (cs:=#[.slice a2 (nw V2) cap2]) rfl) ?_
 rintro _ ha ⟨rfl,Na⟩
 (try refine gO ?_);conv=>whnf
 refine aD.eff (aGX (cs:=#[nilS]) tab) ?_
 rintro _ hb ⟨rfl,Nb⟩
 (try refine gO ?_);conv=>whnf
 refine aD.eff (aGX (cs:=#[nilS]) tab) ?_
 rintro _ h1 ⟨rfl,Nc⟩
 have k1:aH h.size h h1:=(Na.keeps.trans (Nb.keeps.mono (by rw [Na.size];omega))).trans (Nc.keeps.mono (by rw [Nb.size,Na.size];omega))
 have B1:=Nc.at (Nb.at Na.blk)
 have Q1:=Nc.at Nb.blk
 have R1:=Nc.blk
 have s1:h1.size=h.size+3:=by rw [Nc.size,Nb.size,Na.size]
 rw [Na.size] at Q1
 rw [Nb.size,Na.size] at R1
 rw [Nb.size,Na.size]
 clear Na Nb Nc
 have hw1':=hw1.keeps k1
 have hw2':=hw2.keeps k1
 (try refine gO ?_);conv=>whnf
 refine ⟨_,B1.one,?_⟩;conv=>whnf
 refine aD.callV (mG hw1' hw2' (by omega)) ?_
 rintro _ h1 ⟨rfl,rfl⟩
 (try refine gO ?_);conv=>whnf
 refine ⟨fun hlt=>?_,fun hlt=>?_⟩<;>conv=>whnf
 ·refine aD.eff (jG tab Q1) ?_
  rintro _ h2 P2
  (try refine gO ?_);conv=>whnf
  refine aD.eff (jG tab (P2.at R1 (by omega))) ?_
  rintro _ h3 P3
  (try refine gO ?_);conv=>whnf
  have hV:=(kJ V1 V2).1 hlt
  have hk:aH h.size h h3:=(k1.trans (P2.keeps.mono (by omega))).trans (P3.keeps.mono (by omega))
  refine aD.retC tab Tryz.func118 rfl (vs:=[nilS,.slice a1 (nw V1) cap1]) ⟨⟨_,_,rfl,rfl,(P3.at P2.blk (by omega)).one⟩,⟨_,_,rfl,rfl,P3.blk.one⟩,trivial⟩ ⟨_,rfl,?_⟩
  refine ⟨_,_,0,nw V1,rfl,by rw [Nat.div_eq_of_lt hV];exact Wr.nil _,by rw [Nat.mod_eq_of_lt hV];exact hw1.keeps hk,by omega,by omega,hk⟩
 have hge:V2≤V1:=by
  rcases Nat.lt_or_ge V1 V2 with h|h
  ·exact absurd ((kJ V1 V2).2 h) hlt
  exact h
 refine aD.eff (wY tab (nw V1) (nw V1) (hn:=⟨by omega,by omega,by omega,by dsimp only;omega,by omega⟩)) ?_
 rintro _ h2 ⟨rfl,N2⟩
 have B2:=N2.at B1
 have Q2:=N2.at Q1
 have R2:=N2.at R1
 (try refine gO ?_);conv=>whnf
 refine aD.eff (jG tab Q2) ?_
 rintro _ h3 P3
 (try refine gO ?_);conv=>whnf
 refine ⟨_,(P3.at B2 (by omega)).one,?_⟩;conv=>whnf
 refine ⟨fun hone=>?_,fun hone=>?_⟩<;>conv=>whnf
 ·have hone:nw V2=1:=by omega
  have hV2B:V2<B:=by have:=mV V2;rw [hone,Nat.pow_one] at this;exact this
  have hV2w:wdc V2 0=V2:=by unfold wdc;rw [Nat.pow_zero,Nat.div_one];exact Nat.mod_eq_of_lt hV2B
  have hm1p:0<nw V1:=sO (by omega)
  repeat (refine oL ?_;conv=>whnf)
  have s2:=N2.size
  have s3:=P3.size
  have k3:aH h.size h h3:=(k1.trans (N2.keeps.mono (by omega))).trans (P3.keeps.mono (by omega))
  refine aD.loop (X:=Nat) (fun k=>[(0,.slice a1 (nw V1) cap1),(3,.pointer (some ⟨h.size,0,none⟩)),(4,.pointer (some ⟨h.size+1,0,none⟩)),(5,.pointer (some ⟨h.size+1+1,0,none⟩)),(6,.int .u64 (V1/B^k%V2:Nat)),(7,.int .i64 ((k:Nat) - 1))])
   (fun k h'=>k≤nw V1∧aH h.size h h'∧At h' h.size #[.slice a2 (nw V2) cap2] 174∧At h' (h.size+1) #[.slice (some ⟨h1.size,0,none⟩) (nw V1) (nw V1)] 174∧At h' (h.size+1+1) #[nilS] 174 ∧
    ∃cur,At h' h1.size cur 173∧cur.size=nw V1∧V1/B^k/V2*B^k<B^nw V1 ∧ ∀j,j<nw V1→cur[j]? = some (.int .u64 (wdc (V1/B^k/V2*B^k) j:Nat)))
   (fun k=>k) (nw V1)
   ⟨Nat.le_refl _,k3,P3.at B2 (by omega),P3.blk,P3.at R2 (by omega),_,P3.at N2.blk (by omega),by simp,?_,fun j hj=>?_⟩ ⟨rfl,rfl,rfl,rfl,?_,rfl,trivial⟩ ?_
  ·rw [Nat.div_eq_of_lt (mV V1),Nat.zero_div,Nat.zero_mul];exact eD _
  ·rw [Nat.div_eq_of_lt (mV V1),Nat.zero_div,Nat.zero_mul,aAG,Array.getElem?_replicate,if_pos hj];rfl
  ·rw [Nat.div_eq_of_lt (mV V1),Nat.zero_mod];rfl
  rintro k h4 ⟨hk,k4,B4,Q4,R4,cur,C4,hsz,hS,hc⟩ ih
  (try refine gO ?_);conv=>whnf
  refine ⟨fun hpos=>?_,fun hpos=>?_⟩<;>conv=>whnf
  ·obtain ⟨i,rfl⟩:∃i,k=i+1:=⟨k - 1,by omega⟩
   rw [show ((i+1:Nat):Int) - 1=(i:Nat) by omega]
   have hwi:=hw1.keeps k4
   obtain ⟨b1,off1,rfl,hrd1⟩:=hwi.rd rfl hm1p
   obtain ⟨b2,off2,rfl,hrd2⟩:=(hw2.keeps k4).rd rfl (by omega)
   refine aD.held tab [(0,[]),(1,[]),(2,[]),(3,[]),(4,[]),(5,[]),(6,[]),(7,[]),(8,[]),(9,[]),(10,[0]),(11,[]),(12,[]),(13,[]),(14,[]),(15,[]),(16,[])] (by kernel_rfl) ?_;conv=>whnf
   refine ⟨_,Q4.one,?_⟩;conv=>whnf
   repeat (refine oL ?_;conv=>whnf)
   refine ⟨_,hrd1 i (by omega),?_⟩;conv=>whnf
   refine ⟨_,B4.one,?_⟩;conv=>whnf
   repeat (refine oL ?_;conv=>whnf)
   refine ⟨_,hrd2 0 (by omega),?_⟩;conv=>whnf
   refine ⟨rfl,_,Eff.call (bAV (V1/B^(i+1)%V2) (wdc V1 i) (wdc V2 0) (iB _ _) (iB _ _) (by rw [hV2w];exact Nat.mod_lt _ (by omega))),?_⟩
   rintro _ h4 ⟨⟨q,r,rfl,hq,hr⟩,rfl⟩
   refine And.intro (by conv=>whnf
                        repeat (refine And.intro (fun e=>e) ?_;conv=>whnf)
                        exact trivial) ?_
   conv=>whnf
   repeat (refine oL ?_;conv=>whnf)
   refine ⟨rfl,_,lZ tab C4 (hlt:=by omega),?_⟩
   rintro _ h5 P5
   refine And.intro (by conv=>whnf
                        repeat (refine And.intro (fun e=>e) ?_;conv=>whnf)
                        exact trivial) ?_
   conv=>whnf
   (try refine gO ?_);conv=>whnf
   repeat (refine oL ?_;conv=>whnf)
   rw [hV2w] at hq hr
   obtain ⟨e1,e2⟩:=aXW (V1:=V1) (V2:=V2) (i:=i) (by omega)
   rw [←hq] at e1
   rw [←hr] at e2
   have hqB:q<B:=by rw [hq];exact aHH (Nat.mod_lt _ (by omega)) (iB _ _)
   have eS:V1/B^i/V2*B^i=aAV (V1/B^(i+1)/V2*B^(i+1)) i q:=by rw [aXP,e1]
   have z1:=k4.size
   refine ih i _ _ ⟨by omega,k4.trans (P5.keeps.mono (by omega)),P5.at B4 (by omega),P5.at Q4 (by omega),P5.at R4 (by omega),_,P5.blk,by simpa using hsz,by rw [eS];exact aAP hqB (by omega) hS,fun j hj=>?_⟩ (by omega)
    ⟨rfl,rfl,rfl,rfl,by rw [e2];rfl,rfl,trivial⟩
   rw [eS,rY hqB,show 0+((i:Int)).toNat=i by omega]
   by_cases e:j=i
   ·subst e
    rw [Array.getElem?_setIfInBounds_self_of_lt (by omega),if_pos rfl]
   rw [Array.getElem?_setIfInBounds_ne (by omega),if_neg e]
   exact hc j hj
  have hk0:k=0:=by omega
  subst hk0
  rw [Nat.pow_zero,Nat.div_one,Nat.mul_one] at hS hc
  rw [Nat.pow_zero,Nat.div_one]
  refine ⟨_,Q4.one,?_⟩;conv=>whnf
  (try refine gO ?_);conv=>whnf
  refine aD.eff (sD tab [.int .u64 (V1%V2:Nat)] (h1:=by simp [Value.cells])) ?_
  rintro _ h5 ⟨rfl,N5⟩
  (try refine gO ?_);conv=>whnf
  refine aD.eff (jG tab (N5.at Q4)) ?_
  rintro _ h6 P6
  (try refine gO ?_);conv=>whnf
  refine aD.eff (jG tab (P6.at (N5.at R4) (by omega))) ?_
  rintro _ h7 P7
  (try refine gO ?_);conv=>whnf
  have z1:=k4.size
  have z5:=N5.size
  have z6:=P6.size
  have k7:aH h.size h h7:=((k4.trans (N5.keeps.mono (by omega))).trans (P6.keeps.mono (by omega))).trans (P7.keeps.mono (by omega))
  refine aD.retC tab Tryz.func118 rfl (vs:=[.slice (some ⟨h1.size,0,none⟩) (nw V1) (nw V1),.slice (some ⟨h4.size,0,none⟩) 1 1]) ⟨⟨_,_,rfl,rfl,(P7.at P6.blk (by omega)).one⟩,⟨_,_,rfl,rfl,P7.blk.one⟩,trivial⟩ ⟨_,rfl,?_⟩
  have hlt4:=C4.lt
  refine ⟨_,_,nw V1,1,rfl,Wr.of_at (P7.at (P6.at (N5.at C4) (by omega)) (by omega)) (Nat.le_refl _) hS hc,Wr.of_at (P7.at (P6.at N5.blk (by omega)) (by omega)) (Nat.le_refl _) ?_ (fun j hj=>?_),by omega,by omega,k7⟩
  ·rw [Nat.pow_one];exact Nat.lt_of_lt_of_le (Nat.mod_lt _ (by omega)) (by omega)
  have:j=0:=by omega
  subst this
  rw [show wdc (V1%V2) 0=V1%V2 by unfold wdc;rw [Nat.pow_zero,Nat.div_one];exact Nat.mod_eq_of_lt (Nat.lt_of_lt_of_le (Nat.mod_lt _ (by omega)) (by omega))]
  rfl
 have hp2:0<nw V2:=sO h0
 have hn2:2≤nw V2:=by omega
 have hm1p:0<nw V1:=sO (by omega)
 have hmono:=aJM hge
 have s2:=N2.size
 have s3:=P3.size
 have k3:aH h.size h h3:=(k1.trans (N2.keeps.mono (by omega))).trans (P3.keeps.mono (by omega))
 have B3:=P3.at B2 (show h.size≠h.size+1 by omega)
 have R3:=P3.at R2 (show h.size+1+1≠h.size+1 by omega)
 have Q3:=P3.blk
 have C3:=P3.at N2.blk (show h1.size≠h.size+1 by omega)
 clear N2 P3 B2 Q2 R2
 have hbl1:bl V1≤4194304:=by
  have:=aAB (show V1≠0 by omega)
  have:=wC (iB V1 (nw V1 - 1))
  omega
 refine aD.held tab [(0,[]),(2,[]),(1,[2]),(3,[]),(4,[]),(5,[]),(6,[])] (by kernel_rfl) ?_;conv=>whnf
 refine ⟨_,B3.one,?_⟩;conv=>whnf
 refine ⟨rfl,_,Eff.call (aUO (hw1.keeps k3) (by omega)),?_⟩
 rintro _ h3 ⟨rfl,rfl⟩
 refine And.intro (by conv=>whnf
                      repeat (refine And.intro (fun e=>e) ?_;conv=>whnf)
                      exact trivial) ?_
 conv=>whnf
 refine ⟨rfl,_,Eff.call (aUO (hw2.keeps k3) (by omega)),?_⟩
 rintro _ h3 ⟨rfl,rfl⟩
 refine And.intro (by conv=>whnf
                      repeat (refine And.intro (fun e=>e) ?_;conv=>whnf)
                      exact trivial) ?_
 conv=>whnf
 repeat (refine oL ?_;conv=>whnf)
 obtain ⟨many,hmany⟩:∃many,many=bl V1 - bl V2+1:=⟨_,rfl⟩
 have hbl2:=aQP h0
 rw [show (bl V1:Int) - (bl V2:Int)+1=(many:Nat) by omega]
 have hXlt:V1/2^many<V2:=by
  have h1:=aPN V1
  have h2:=aNL h0
  refine Nat.lt_of_lt_of_le (Nat.div_lt_of_lt_mul ?_) h2
  rw [←Nat.pow_add,show many+(bl V2 - 1)=bl V1 by omega]
  exact h1
 have hnX:=fR (Nat.le_of_lt hXlt)
 (try refine gO ?_);conv=>whnf
 refine ⟨_,B3.one,?_⟩;conv=>whnf
 repeat (refine oL ?_;conv=>whnf)
 refine aD.eff (wY tab (nw V2+1) (nw V2+1) (hn:=⟨by omega,by omega,by omega,by dsimp only;omega,by omega⟩)) ?_
 rintro _ h4 ⟨rfl,N4⟩
 (try refine gO ?_);conv=>whnf
 refine aD.eff (jG tab (N4.at R3)) ?_
 rintro _ h5 P5
 have s4:=N4.size
 have s5:=P5.size
 have k5:aH h.size h h5:=(k3.trans (N4.keeps.mono (by omega))).trans (P5.keeps.mono (by omega))
 have B5:=P5.at (N4.at B3) (show h.size≠h.size+1+1 by omega)
 have Q5:=P5.at (N4.at Q3) (show h.size+1≠h.size+1+1 by omega)
 have C5:=P5.at (N4.at C3) (show h1.size≠h.size+1+1 by omega)
 have R5:=P5.blk
 have D5:=P5.at N4.blk (show h3.size≠h.size+1+1 by omega)
 clear N4 P5 B3 Q3 R3 C3
 (try refine gO ?_);conv=>whnf
 refine aD.held tab [(0,[]),(1,[]),(3,[]),(2,[0]),(4,[0]),(5,[])] (by kernel_rfl) ?_;conv=>whnf
 refine ⟨_,R5.one,?_⟩;conv=>whnf
 refine ⟨rfl,_,Eff.call (uM (hw1.keeps k5) hm1p (by omega)),?_⟩
 rintro vc h6 ⟨O6,k6⟩
 refine And.intro (by conv=>whnf
                      repeat (first|(refine And.intro (fun e=>(aH.cell (k6) (by omega)).trans e) ?_;conv=>whnf)|(refine And.intro (fun e=>aH.cells (k6) (by omega) e) ?_;conv=>whnf))
                      exact trivial) ?_
 conv=>whnf
 obtain ⟨g6,cap6,cur6,rfl,hg6,C6,hsz6,hm6,hV6,hc6⟩:=O6
 refine ⟨rfl,_,Eff.call (aOW C6 hsz6 hm6 hV6 hc6 (by omega) many (by omega)),?_⟩
 rintro _ h7 ⟨rfl,cur7,hh7,hsz7,hc7⟩
 refine And.intro (by conv=>whnf
                      repeat (first|(refine And.intro (fun e=>(aH.cell ((hh7▸(aH.refl g6 h6).setB (Nat.le_refl _) _ _:aH g6 h6 h7)) (by omega)).trans e) ?_;conv=>whnf)|(refine And.intro (fun e=>aH.cells ((hh7▸(aH.refl g6 h6).setB (Nat.le_refl _) _ _:aH g6 h6 h7)) (by omega) e) ?_;conv=>whnf))
                      exact trivial) ?_
 conv=>whnf
 have k7:aH g6 h6 h7:=hh7▸(aH.refl g6 h6).setB (Nat.le_refl _) _ _
 have C7:At h7 g6 cur7 173:=by rw [hh7];exact fQ C6.lt _ _
 have D7:=k7.at (k6.at D5 D5.lt) (show h3.size<g6 by omega)
 have hw7:=Wr.of_at C7 (m:=nw (V1/2^many)) (cap:=cap6) (V:=V1/2^many) (by have:=fR (Nat.div_le_self V1 (2^many));omega) (mV _) (fun j hj=>hc7 j (by have:=fR (Nat.div_le_self V1 (2^many));omega))
 refine ⟨rfl,_,aWK tab D7 (cs:=(List.range (nw (V1/2^many))).map fun j=>Value.int .u64 (wdc (V1/2^many) j:Nat)) (hn:=by rw [List.length_map,List.length_range];exact (Nat.min_eq_left (by omega)).symm) (hsrc:=aVO C7 (fun j hj=>hc7 j (by have:=fR (Nat.div_le_self V1 (2^many));omega))) (hfit:=by simp;omega) (h1:=aWQ _ _),?_⟩
 rintro _ h8 ⟨rfl,P8⟩
 refine And.intro (by conv=>whnf
                      repeat (refine And.intro (fun e=>e) ?_;conv=>whnf)
                      exact trivial) ?_
 conv=>whnf
 have z6:=k6.size
 have z7:=k7.size
 have z8:=P8.size
 have k8:aH h.size h h8:=((k5.trans (k6.mono (by omega))).trans (k7.mono (by omega))).trans (P8.keeps.mono (by omega))
 have up:∀ {b cs e},At h5 b cs e→b≠h3.size→At h8 b cs e:=fun H hne=>P8.at (k7.at (k6.at H H.lt) (by have:=H.lt;omega)) hne
 have B8:=up B5 (by omega)
 have Q8:=up Q5 (by omega)
 have R8:=up R5 (by omega)
 have C8:=up C5 (by omega)
 have D8:=P8.blk
 obtain ⟨cur8,hcur8⟩:∃cur8,cur8=(List.take 0 (Array.replicate (nw V2+1) (Value.int .u64 0)).toList++(List.range (nw (V1/2^many))).map (fun j=>Value.int .u64 (wdc (V1/2^many) j:Nat))++List.drop (0+((List.range (nw (V1/2^many))).map (fun j=>Value.int .u64 (wdc (V1/2^many) j:Nat))).length) (Array.replicate (nw V2+1) (Value.int .u64 0)).toList).toArray:=⟨_,rfl⟩
 have hD8:At h8 h3.size cur8 173:=by rw [hcur8];exact D8
 have hsz8:cur8.size=nw V2+1:=by rw [hcur8];simp;omega
 have hc8:∀j,j<nw V2+1→cur8[j]? = some (.int .u64 (wdc (V1/2^many) j:Nat)):=fun j hj=>by
  rw [hcur8]
  simp only [List.take_zero,List.nil_append,Nat.zero_add,List.length_map,List.length_range,List.getElem?_toArray,Array.toList_replicate,List.drop_replicate]
  rcases Nat.lt_or_ge j (nw (V1/2^many)) with h|h
  ·rw [List.getElem?_append_left (by simpa using h),List.getElem?_map,List.getElem?_range h];rfl
  rw [List.getElem?_append_right (by simpa using h),List.length_map,List.length_range,List.getElem?_replicate,if_pos (by omega),aEM (mV _) h];rfl
 clear hcur8 D8 P8 up B5 Q5 R5 C5 D5 D7 C7 hw7
 (try refine gO ?_);conv=>whnf
 have I8:aMV h (.slice a2 (nw V2) cap2) h1.size h3.size V1 V2 many h8:=by
  refine ⟨k8,B8,Q8,R8,⟨_,C8,by simp,?_,fun j hj=>?_⟩,⟨cur8,hD8,hsz8,by rw [Nat.mod_eq_of_lt hXlt];exact hc8⟩⟩
  ·rw [Nat.div_eq_of_lt hXlt,Nat.zero_mul];exact eD _
  rw [Nat.div_eq_of_lt hXlt,Nat.zero_mul,aAG,Array.getElem?_replicate,if_pos hj];rfl
 clear k8 B8 Q8 R8 C8 hD8 hsz8 hc8
 refine aD.callV (low_fn (.slice a1 (nw V1) cap1) many rfl) ?_
 rintro _ h9 ⟨rfl,hh9⟩
 have z9:h9.size=h8.size+2:=by rw [hh9];simp
 have k9:aH h8.size h8 h9:=by rw [hh9];exact ((aH.refl _ _).push (Nat.le_refl _) _).push (by simp) _
 have m9:bL h9 h8.size 0=some (.slice a1 (nw V1) cap1):=by rw [hh9];exact ((gH _ _ _).push _).one
 have n9:bL h9 (h8.size+1) 0=some (.int .i64 many):=by
  rw [hh9]
  have:=(gH (h8.push (.cells #[.slice a1 (nw V1) cap1] 174 (0,0))) #[.int .i64 many] 3).one
  simpa using this
 have I9:=I8.kept k9 (by omega) (by omega) (by omega)
 clear hh9
 (try refine gO ?_);conv=>whnf
 refine aD.sub (l':=[(3,.pointer (some ⟨h.size,0,none⟩)),(4,.pointer (some ⟨h.size+1,0,none⟩)),(5,.pointer (some ⟨h.size+1+1,0,none⟩)),(66,.func (.func 283) #[] #[.pointer (some ⟨h8.size+1,0,none⟩),.pointer (some ⟨h8.size,0,none⟩)])]) ⟨rfl,rfl,rfl,rfl,trivial⟩ ?_
 refine aD.rangeFuncL fun r h10 hrec N10=>?_
 have z10:=N10.size
 have I10:=I9.kept N10.keeps (by omega) (by omega) (by omega)
 refine (low1_fn (J:=fun i h'=>aMV h (.slice a2 (nw V2) cap2) h1.size h3.size V1 V2 i h'∧mB h' (h9.size+1) r .ready none∧h'[h9.size]? = some (.deferred (some []))∧bL h' h8.size 0=some (.slice a1 (nw V1) cap1)∧bL h' (h8.size+1) 0=some (.int .i64 many))
  (m:=nw V1) (V:=V1) ⟨I10,N10.loop,N10.dfr,(N10.keeps.cell (by omega)).trans m9,(N10.keeps.cell (by omega)).trans n9⟩ (fun i h' H=>⟨H.2.2.2.2,H.2.2.2.1,hw1.keeps H.1.keeps⟩) ?_ (by omega) ?_).mono ?_
 ·have:=aAB (show V1≠0 by omega)
  have:=wC (iB V1 (nw V1 - 1))
  omega
 ·rintro i h11 hi ⟨I,LA,df,c1,c2⟩
  clear I8 I9 I10 m9 n9 N10 k6 k7 hh7 C6 hsz6 hm6 hV6 hc6 hsz7 hc7
  obtain ⟨bit,hbit⟩:∃bit,bit=V1/2^i%2:=⟨_,rfl⟩
  rw [←hbit]
  have hb1:bit≤1:=by omega
  refine lD.ofL hrec LA (vs:=[.int .i64 (i:Nat),.int .u64 (bit:Nat)]) ?_
  intro w1 fr1 cs1
  (try refine gO ?_);conv=>whnf
  refine aD.beginRoundL LA fun h12 P12 LB=>?_
  have J12:=I.put P12 (by omega) (by omega) (by omega)
  have df12:h12[h9.size]? = some (.deferred (some [])):=by rw [P12.other _ (by omega)];exact df
  have d1:=(P12.cell (b:=h8.size) (o:=0) (by omega)).trans c1
  have d2:=(P12.cell (b:=h8.size+1) (o:=0) (by omega)).trans c2
  clear I LA df c1 c2
  obtain ⟨kk,Bx,Qx,Rx,hqx,curR,Rc,Rsz,Rw⟩:=J12
  (try refine gO ?_);conv=>whnf
  refine ⟨_,Rx.one,?_⟩;conv=>whnf
  (try refine gO ?_);conv=>whnf
  obtain ⟨R,hR⟩:∃R,R=V1/2^(i+1)%V2:=⟨_,rfl⟩
  rw [←hR] at Rw
  have hRlt:R<V2:=by rw [hR];exact Nat.mod_lt _ (by omega)
  have hV2B:V2<B^nw V2:=mV V2
  have hWB:2*R+bit<B^(nw V2+1):=by
   have:=Nat.mul_le_mul_left (B^nw V2) (show 2≤B by decide)
   rw [Nat.pow_succ]
   omega
  have zk:=kk.size
  have LBlt:=LB.lt
  refine aD.loop (X:=Nat) (fun j=>[(3,.pointer (some ⟨h.size,0,none⟩)),(4,.pointer (some ⟨h.size+1,0,none⟩)),(5,.pointer (some ⟨h.size+1+1,0,none⟩)),(9,.int .i64 (i:Nat)),(10,.int .u64 (cdb R bit j:Nat)),(70,.int .i64 ((nw V2+1:Nat):Int)),(71,.int .i64 (j:Nat))])
   (fun j h'=>j≤nw V2+1∧nK h12 h' h3.size ∧ ∃cur,At h' h3.size cur 173∧cur.size=nw V2+1 ∧ ∀t,t<nw V2+1→cur[t]? = some (.int .u64 (if t<j then wdc (2*R+bit) t else wdc R t:Nat)))
   (fun j=>nw V2+1 - j) 0
   ⟨Nat.zero_le _,⟨rfl,fun _ _=>rfl⟩,curR,Rc,Rsz,fun t ht=>by rw [if_neg (Nat.not_lt_zero _)];exact Rw t ht⟩ ⟨rfl,rfl,rfl,rfl,by rw [bCQ];rfl,rfl,rfl,trivial⟩ ?_
  rintro j h13 ⟨hj,P13,cur13,C13,S13,W13⟩ ih
  have Bx:=P13.at Bx (show h.size≠h3.size by omega)
  have Qx:=P13.at Qx (show h.size+1≠h3.size by omega)
  have Rx:=P13.at Rx (show h.size+1+1≠h3.size by omega)
  (try refine gO ?_);conv=>whnf
  refine ⟨fun hjl=>?_,fun hjl=>?_⟩<;>conv=>whnf
  ·have hw13:bL h13 h3.size (0+j)=some (.int .u64 (wdc R j:Nat)):=by rw [C13.cell,Nat.zero_add,W13 j (by omega),if_neg (Nat.lt_irrefl j)]
   obtain ⟨e1,e2⟩:=aYO (R:=R) (j:=j) hb1
   have hcd:=bBJ (R:=R) (j:=j) hb1
   have hwl:=qA R j
   refine aD.held tab [(0,[]),(1,[]),(2,[]),(3,[]),(4,[]),(5,[]),(6,[]),(7,[]),(8,[]),(9,[]),(10,[]),(11,[]),(12,[]),(13,[]),(14,[]),(15,[]),(16,[])] (by kernel_rfl) ?_;conv=>whnf
   refine ⟨_,Rx.one,?_⟩;conv=>whnf
   refine ⟨_,Rx.one,?_⟩;conv=>whnf
   repeat (refine oL ?_;conv=>whnf)
   refine ⟨_,hw13,?_⟩;conv=>whnf
   obtain ⟨x,hx⟩:∃x,x=wdc R j:=⟨_,rfl⟩
   obtain ⟨cb,hcb⟩:∃cb,cb=cdb R bit j:=⟨_,rfl⟩
   rw [←hx] at hwl
   rw [←hcb] at hcd
   repeat (refine oL ?_;conv=>whnf)
   refine ⟨_,Rx.one,?_⟩;conv=>whnf
   repeat (refine oL ?_;conv=>whnf)
   refine ⟨_,hw13,?_⟩;conv=>whnf
   repeat (refine oL ?_;conv=>whnf)
   refine ⟨rfl,_,lZ tab C13 (hlt:=by omega),?_⟩
   rintro _ h14 P14
   refine And.intro (by conv=>whnf
                        repeat (refine And.intro (fun e=>e) ?_;conv=>whnf)
                        exact trivial) ?_
   conv=>whnf
   (try refine gO ?_);conv=>whnf
   repeat (refine oL ?_;conv=>whnf)
   rw [show 0+((j:Int)).toNat=j by omega] at P14
   refine ih (j+1) _ _ ⟨by omega,⟨P14.size.trans P13.size,fun k hk=>(P14.other k hk).trans (P13.other k hk)⟩,_,P14.blk,by simpa using S13,fun t ht=>?_⟩ (by omega) ⟨rfl,rfl,rfl,rfl,?_,rfl,rfl,trivial⟩
   ·by_cases e:t=j
    ·subst e
     rw [Array.getElem?_setIfInBounds_self_of_lt (by omega),if_pos (Nat.lt_succ_self t),e1,←hx,←hcb]
     have e5:((x:Int)*2%18446744073709551616).toNat=x*2%B:=by rw [mA];omega
     rw [←e5];rfl
    rw [Array.getElem?_setIfInBounds_ne (by omega),W13 t ht]
    by_cases e3:t<j
    ·rw [if_pos e3,if_pos (by omega)]
    rw [if_neg e3,if_neg (by omega)]
   rw [e2,←hx]
   show some (Value.int .u64 _)=some (Value.int .u64 _)
   congr 2
  have hjm:j=nw V2+1:=by omega
  subst hjm
  obtain ⟨W,hW⟩:∃W,W=2*R+bit:=⟨_,rfl⟩
  rw [←hW] at hWB
  have W13:∀t,t<nw V2+1→cur13[t]? = some (.int .u64 (wdc W t:Nat)):=fun t ht=>by rw [W13 t ht,if_pos ht,hW]
  have hk13:aH h.size h h13:=kk.trans (P13.keeps.mono (by omega))
  have hw13:=Wr.of_at C13 (m:=nw V2+1) (cap:=nw V2+1) (V:=W) (Nat.le_refl _) hWB W13
  have hnW:=aSQ hWB
  have hw13':=Wr.of_at C13 (m:=nw W) (cap:=nw V2+1) (V:=W) hnW (mV W) (fun t ht=>W13 t (by omega))
  obtain ⟨cq,Cq,Sq,Lq,Wq⟩:=hqx
  have Cq:=P13.at Cq (show h1.size≠h3.size by omega)
  have df13:h13[h9.size]? = some (.deferred (some [])):=by rw [P13.other _ (by omega)];exact df12
  have d1:=(P13.cell (b:=h8.size) (o:=0) (by omega)).trans d1
  have d2:=(P13.cell (b:=h8.size+1) (o:=0) (by omega)).trans d2
  have LB13:=LB.same (P13.other _ (show h9.size+1≠h3.size by omega))
  obtain ⟨b1,b2⟩:=bBI (V1:=V1) (V2:=V2) (i:=i) (by omega) bit hbit
  rw [←hR,←hW] at b1 b2
  clear ih P12 LB df12
  refine aD.held tab [(0,[]),(2,[]),(1,[2]),(3,[]),(4,[])] (by kernel_rfl) ?_;conv=>whnf
  refine ⟨_,Rx.one,?_⟩;conv=>whnf
  refine ⟨_,Bx.one,?_⟩;conv=>whnf
  refine ⟨rfl,_,Eff.call (aSX hw13 (by omega)),?_⟩
  rintro _ h13 ⟨rfl,rfl⟩
  refine And.intro (by conv=>whnf
                       repeat (refine And.intro (fun e=>e) ?_;conv=>whnf)
                       exact trivial) ?_
  conv=>whnf
  refine ⟨rfl,_,Eff.call (mG hw13' (hw2.keeps hk13) (by omega)),?_⟩
  rintro _ h13 ⟨rfl,rfl⟩
  refine And.intro (by conv=>whnf
                       repeat (refine And.intro (fun e=>e) ?_;conv=>whnf)
                       exact trivial) ?_
  conv=>whnf
  refine ⟨fun hcmp=>?_,fun hcmp=>?_⟩<;>conv=>whnf
  ·have hVW:V2≤W:=by
    rcases Nat.lt_or_ge W V2 with h|h
    ·have:=(kJ W V2).2 h;omega
    exact h
   obtain ⟨f1,f2⟩:=b1 hVW
   (try refine gO ?_);conv=>whnf
   refine ⟨_,Rx.one,?_⟩;conv=>whnf
   refine ⟨_,Bx.one,?_⟩;conv=>whnf
   have hsz13:h13.size=h12.size:=P13.size
   refine aD.callV (aBB C13 S13 (Nat.le_refl _) hWB W13 (hw2.keeps hk13) (aVJ hw2 hp2 (by omega)) hVW (by omega)) ?_
   rintro _ h14 ⟨rfl,cur14,hh14,S14,W14⟩
   have P14:Put h13 h14 h3.size cur14 173:=by rw [hh14];exact Put.of C13.lt _ _
   clear hh14
   have z13:=P13.size
   have z14:=P14.size
   have hi64:i/64<nw V1:=by
    have:=aAB (show V1≠0 by omega)
    have:=wC (iB V1 (nw V1 - 1))
    omega
   obtain ⟨A,hA⟩:∃A,A=V1/2^(i+1)/V2:=⟨_,rfl⟩
   rw [←hA] at Lq Wq f1
   obtain ⟨g1,g2,g3⟩:=set_bit A i
   have Cq14:=P14.at Cq (show h1.size≠h3.size by omega)
   have hq14:bL h14 h1.size (0+i/64)=some (.int .u64 (wdc (A*2^(i+1)) (i/64):Nat)):=by rw [Cq14.cell,Nat.zero_add];exact Wq _ hi64
   (try refine gO ?_);conv=>whnf
   refine aD.held tab [(0,[]),(1,[]),(2,[]),(3,[]),(4,[]),(5,[]),(6,[]),(7,[]),(8,[]),(9,[]),(10,[])] (by kernel_rfl) ?_;conv=>whnf
   refine ⟨_,(P14.at Qx (by omega)).one,?_⟩;conv=>whnf
   repeat (refine oL ?_;conv=>whnf)
   rw [show ((i:Nat):Int)/64=(i/64:Nat) by omega]
   refine ⟨_,hq14,?_⟩;conv=>whnf
   repeat (refine oL ?_;conv=>whnf)
   rw [show ((i:Nat):Int)%64=(i%64:Nat) by omega]
   have hp2:2^(i%64)<18446744073709551616:=Nat.pow_lt_pow_right (by decide) (show i%64<64 by omega)
   have hwq:=qA (A*2^(i+1)) (i/64)
   rw [show (1:Int)*2^(((i%64:Nat):Int)).toNat%18446744073709551616=((2^(i%64):Nat):Int) by
    rw [Int.toNat_natCast]
    have e9:((2:Int)^(i%64))=((2^(i%64):Nat):Int):=by simp
    rw [e9]
    obtain ⟨p,hp⟩:∃p,p=2^(i%64):=⟨_,rfl⟩
    rw [←hp] at hp2 ⊢
    omega]
   obtain ⟨p,hp⟩:∃p,p=2^(i%64):=⟨_,rfl⟩
   rw [←hp] at hp2 g1 g2 g3 ⊢
   repeat (refine oL ?_;conv=>whnf)
   refine ⟨rfl,_,lZ tab Cq14 (hlt:=by omega),?_⟩
   rintro _ h15 P15
   refine And.intro (by conv=>whnf
                        repeat (refine And.intro (fun e=>e) ?_;conv=>whnf)
                        exact trivial) ?_
   conv=>whnf
   (try refine gO ?_);conv=>whnf
   rw [show 0+(((i/64:Nat):Int)).toNat=i/64 by omega] at P15
   have LB15:=LB13.same ((P15.other _ (show h9.size+1≠h1.size by omega)).trans (P14.other _ (show h9.size+1≠h3.size by omega)))
   have z15:=P15.size
   refine aD.endRoundL LB15 fun h16 P16 LC=>?_
   have kk16:aH h.size h h16:=((hk13.trans (P14.keeps.mono (by omega))).trans (P15.keeps.mono (by omega))).trans (P16.keeps.mono (by omega))
   refine ⟨rfl,⟨kk16,P16.at (P15.at (P14.at Bx (by omega)) (by omega)) (by omega),P16.at (P15.at (P14.at Qx (by omega)) (by omega)) (by omega),P16.at (P15.at (P14.at Rx (by omega)) (by omega)) (by omega),
    ⟨_,P16.at P15.blk (by omega),by simpa using Sq,?_,fun t ht=>?_⟩,⟨cur14,P16.at (P15.at P14.blk (by omega)) (by omega),S14,by rw [f2];exact W14⟩⟩,LC,?_,
    (P16.cell (by omega)).trans ((P15.cell (by omega)).trans ((P14.cell (by omega)).trans d1)),(P16.cell (by omega)).trans ((P15.cell (by omega)).trans ((P14.cell (by omega)).trans d2))⟩
   ·rw [f1,←g3];exact aAP g2 hi64 Lq
   ·rw [f1,←g3,rY g2]
    by_cases e:t=i/64
    ·subst e
     rw [Array.getElem?_setIfInBounds_self_of_lt (by omega),if_pos rfl,←g1]
     rfl
    rw [Array.getElem?_setIfInBounds_ne (by omega),if_neg e]
    exact Wq t ht
   rw [P16.other _ (by omega),P15.other _ (by omega),P14.other _ (by omega)];exact df13
  have hWV:W<V2:=(kJ W V2).1 (by omega)
  obtain ⟨f1,f2⟩:=b2 hWV
  (try refine gO ?_);conv=>whnf
  refine aD.endRoundL LB13 fun h15 P15 LC=>?_
  have z13:=P13.size
  refine ⟨rfl,⟨hk13.trans (P15.keeps.mono (by omega)),P15.at Bx (by omega),P15.at Qx (by omega),P15.at Rx (by omega),⟨cq,P15.at Cq (by omega),Sq,?_⟩,⟨cur13,P15.at C13 (by omega),S13,?_⟩⟩,LC,?_,(P15.cell (by omega)).trans d1,(P15.cell (by omega)).trans d2⟩
  ·rw [f1,show 2*(V1/2^(i+1)/V2)*2^i=V1/2^(i+1)/V2*2^(i+1) by rw [Nat.pow_succ,Nat.mul_comm 2,Nat.mul_assoc,Nat.mul_comm 2]]
   exact ⟨Lq,Wq⟩
  ·rw [f2];exact W13
  rw [P15.other _ (by omega)];exact df13
 rintro _ h11 ⟨rfl,I,LA,df,_⟩
 refine ⟨.ready,none,LA,(by decide),fun h12 P12=>?_⟩
 have z11:=I.keeps.size
 have z12:=P12.size
 have LAlt:=LA.lt
 obtain ⟨kk,Bx,Qx,Rx,⟨cq,C1,C2,C3,C4⟩,⟨cr,E1,E2,E3⟩⟩:=I.put P12 (by omega) (by omega) (by omega)
 have df':h12[h9.size]? = some (.deferred (some [])):=by rw [P12.other _ (by omega)];exact df
 rw [Nat.pow_zero,Nat.div_one,Nat.mul_one] at C3 C4
 rw [Nat.pow_zero,Nat.div_one] at E3
 (try refine gO ?_);conv=>whnf
 refine aD.held tab [(0,[]),(1,[]),(2,[1]),(3,[])] (by kernel_rfl) ?_;conv=>whnf
 refine ⟨_,Qx.one,?_⟩;conv=>whnf
 refine ⟨_,Rx.one,?_⟩;conv=>whnf
 refine ⟨rfl,_,jG tab Qx,?_⟩
 rintro _ h13 P13
 refine And.intro (by conv=>whnf
                      repeat (refine And.intro (fun e=>(P13.cell (by omega)).trans e) ?_;conv=>whnf)
                      exact trivial) ?_
 conv=>whnf
 refine ⟨rfl,_,jG tab (P13.at Rx (by omega)),?_⟩
 rintro _ h14 P14
 refine And.intro (by conv=>whnf
                      repeat (refine And.intro (fun e=>e) ?_;conv=>whnf)
                      exact trivial) ?_
 conv=>whnf
 (try refine gO ?_);conv=>whnf
 have z13:=P13.size
 have z14:=P14.size
 have df14:h14[h9.size]? = some (.deferred (some [])):=by rw [P14.other _ (by omega),P13.other _ (by omega)];exact df'
 have P15:=nK.of h14 h9.size (.deferred none)
 have k15:aH h.size h _:=((kk.trans (P13.keeps.mono (by omega))).trans (P14.keeps.mono (by omega))).trans (P15.keeps.mono (by omega))
 refine aD.retC tab Tryz.func118 ⟨_,rfl,df14,rfl⟩ (vs:=[.slice (some ⟨h1.size,0,none⟩) (nw V1) (nw V1),.slice (some ⟨h3.size,0,none⟩) (nw V2+1) (nw V2+1)])
  ⟨⟨_,_,rfl,rfl,(P15.at (P14.at P13.blk (by omega)) (by omega)).one⟩,⟨_,_,rfl,rfl,(P15.at P14.blk (by omega)).one⟩,trivial⟩ ⟨_,rfl,?_⟩
 refine ⟨_,_,nw V1,nw V2+1,rfl,Wr.of_at (P15.at (P14.at (P13.at C1 (by omega)) (by omega)) (by omega)) (Nat.le_refl _) C3 C4,Wr.of_at (P15.at (P14.at (P13.at E1 (by omega)) (by omega)) (by omega)) (Nat.le_refl _) ?_ E3,by omega,by omega,k15⟩
 exact Nat.lt_trans (Nat.mod_lt _ (by omega)) (Nat.lt_of_lt_of_le (mV V2) (Nat.pow_le_pow_right rN (by omega)))
end Go.Proofs.YthjedpdedjhndaaGreatDoor

namespace Go.NatM
open Go Go.Fw
def Tz (V k:Nat):Prop:=∃m,V=2^k*(2*m+1)
theorem Tz.div {V k:Nat} (h:Tz V k):∃m,V/2^k=2*m+1∧V=2^k*(V/2^k):=by
 obtain ⟨m,rfl⟩:=h
 rw [Nat.mul_div_cancel_left _ (Nat.two_pow_pos k)]
 exact ⟨m,rfl,rfl⟩
theorem Tz.lt_bl {V k:Nat} (h:Tz V k):k<bl V:=by
 obtain ⟨m,hm,e⟩:=h.div
 have h0:V≠0:=by
  intro h0
  rw [h0,Nat.zero_div] at hm
  omega
 have hlt:=aPN V
 rcases Nat.lt_or_ge k (bl V) with h1|h1
 ·exact h1
 have:=Nat.pow_le_pow_right (show 0<2 by decide) h1
 have h3:=Nat.mul_le_mul_left (2^k) (show 1≤V/2^k by omega)
 omega
theorem uI {k X m:Nat} (hX:X=2*m+1):Nat.Coprime (2^k) X:=by
 refine Nat.Coprime.pow_left k ?_
 have h1:=Nat.gcd_dvd_left 2 X
 have h2:=Nat.gcd_dvd_right 2 X
 have h3:=Nat.dvd_sub h2 (Nat.dvd_trans h1 ⟨m,rfl⟩)
 rw [hX,Nat.add_sub_cancel_left] at h3
 rw [←hX] at h3
 exact Nat.dvd_one.1 h3
theorem yU {A C k m:Nat} (hC:C=2*m+1) (hle:C≤A) (hk:Tz (A - C) k):Nat.gcd ((A - C)/2^k) C=Nat.gcd A C:=by
 obtain ⟨_,_,e⟩:=hk.div
 have h1:Nat.gcd (A - C) C=Nat.gcd A C:=Nat.gcd_sub_self_left hle
 rw [←h1]
 conv=>rhs;rw [e]
 rw [Nat.Coprime.gcd_mul_left_cancel _ (uI hC)]
theorem aHR {V1 V2 k1 k2:Nat} (h1:Tz V1 k1) (h2:Tz V2 k2):Nat.gcd V1 V2=Nat.gcd (V1/2^k1) (V2/2^k2)*2^min k1 k2:=by
 obtain ⟨m1,o1,e1⟩:=h1.div
 obtain ⟨m2,o2,e2⟩:=h2.div
 obtain ⟨X,hX⟩:∃X,X=V1/2^k1:=⟨_,rfl⟩
 obtain ⟨Y,hY⟩:∃Y,Y=V2/2^k2:=⟨_,rfl⟩
 rw [←hX] at o1 e1 ⊢
 rw [←hY] at o2 e2 ⊢
 rw [e1,e2]
 rcases Nat.le_total k1 k2 with h|h
 ·rw [Nat.min_eq_left h,show 2^k2*Y=2^k1*(2^(k2 - k1)*Y) by rw [←Nat.mul_assoc,←Nat.pow_add];congr 2;omega,Nat.gcd_mul_left,Nat.Coprime.gcd_mul_left_cancel_right _ (uI o1),Nat.mul_comm]
 rw [Nat.min_eq_right h,show 2^k1*X=2^k2*(2^(k1 - k2)*X) by rw [←Nat.mul_assoc,←Nat.pow_add];congr 2;omega,Nat.gcd_mul_left,Nat.Coprime.gcd_mul_left_cancel _ (uI o2),Nat.mul_comm]
theorem aKD {V k:Nat} (h:Tz V k) (hev:V%2=0):0<k:=by
 rcases Nat.eq_zero_or_pos k with e|e
 ·subst e
  obtain ⟨m,hm⟩:=h
  rw [Nat.pow_zero,Nat.one_mul] at hm
  omega
 exact e
theorem tz_word {V n t:Nat} (h0:V%B^n=0) (ht:Tz (wdc V n) t) (h64:t<64):Tz V (64*n+t):=by
 obtain ⟨m,hm⟩:=ht
 have h1:=kB V n
 have h2:=Nat.div_add_mod V (B^n)
 rw [h0,Nat.add_zero] at h2
 have hB:B=2^t*(2*2^(63 - t)):=by rw [←Nat.pow_succ',←Nat.pow_add,show t+(63 - t+1)=64 by omega];rfl
 refine ⟨m+2^(63 - t)*(V/B^(n+1)),?_⟩
 rw [Nat.pow_add,←xJ,Nat.mul_assoc]
 rw [←h2]
 conv=>lhs;rw [h1,hm]
 obtain ⟨Y,hY⟩:∃Y,Y=V/B^(n+1):=⟨_,rfl⟩
 rw [h2,←hY]
 have e:B*Y=2^t*(2*(2^(63 - t)*Y)):=by rw [hB,Nat.mul_assoc,Nat.mul_assoc]
 rw [e,←Nat.mul_add]
 congr 2
 omega
theorem ctz_tz {x:Nat} (h0:x≠0) (hx:x<B):Tz x (Go.Lib.ctz 64 x)∧Go.Lib.ctz 64 x<64:=by
 obtain ⟨m,h1,h2⟩:=Go.Lib.ctzFrom_spec 64 x (by omega) hx
 have e:Go.Lib.ctz 64 x=Go.Lib.ctzFrom 64 x:=by simp [Go.Lib.ctz,h0]
 rw [e]
 exact ⟨⟨m,h1⟩,h2⟩
end Go.NatM

namespace Go.Proofs.YthjedpdedjhndaaGreatDoor
open Go Go.Fw Go.NatM
set_option maxRecDepth 100000
set_option maxHeartbeats 99999999
def gN (h:Array Obj):Prop:=∀j,j<64→bL h 2 j=some (.int .u8 (Go.Lib.deBruijn64tab.getD j 0:Nat))
theorem gN.keeps {h h':Array Obj} (H:gN h) (k:aH h.size h h'):gN h':=fun j hj=>(k.cell (tY (H 0 (by decide)))).trans (H j hj)
theorem tz64_fn (x:Nat) (h0:x≠0) (hx:x<B) {h:Array Obj} (hT:gN h):
  FnV Tryz.prog 279 #[.int .u64 x] h fun v h'=>v=.int .i64 (Go.Lib.ctz 64 x:Nat)∧h'=h:=by
 obtain ⟨e1,e2⟩:=Go.Lib.lowest_bit 64 x h0 hx
 obtain ⟨t,ht⟩:∃t,t=Go.Lib.ctz 64 x:=⟨_,rfl⟩
 rw [←ht] at e1 e2 ⊢
 obtain ⟨d1,d2⟩:=Go.Lib.deBruijn64_at t e2
 rw [mA] at hx
 refine Fn.of (args:=[.int .u64 x]) Tryz.func279 (by kernel_rfl) rfl Tryz.ntmps279 rfl fun w0 cs=>?_
 refine gO ?_;conv=>whnf
 refine ⟨fun h1=>?_,fun h1=>?_⟩<;>conv=>whnf
 ·omega
 repeat (refine oL ?_;conv=>whnf)
 have e3:(((fun a b=>a&&&b) (x:Int).toNat (((0:Int) - x)%18446744073709551616).toNat:Nat):Int)=(2^t:Nat):=by
  rw [Int.toNat_natCast,show (((0:Int) - x)%18446744073709551616).toNat=2^64 - x by rw [show (2:Nat)^64=18446744073709551616 from rfl];omega]
  exact congrArg _ e1
 rw [e3]
 obtain ⟨p,hp⟩:∃p,p=2^t:=⟨_,rfl⟩
 rw [←hp] at d1 d2 ⊢
 rw [show (p:Int)*285870213051353865%18446744073709551616/288230376151711744=(p*285870213051353865%18446744073709551616/288230376151711744:Nat) by simp]
 obtain ⟨i,hi⟩:∃i,i=p*285870213051353865%18446744073709551616/288230376151711744:=⟨_,rfl⟩
 rw [←hi] at d1 d2 ⊢
 have hc:=hT i d1
 rw [d2] at hc
 rw [show 0+((i:Nat):Int).toNat=i by omega]
 refine ⟨_,hc,?_⟩;conv=>whnf
 repeat (refine oL ?_;conv=>whnf)
 refine aD.ret Tryz.func279 rfl rfl ⟨_,rfl,?_⟩
 exact ⟨rfl,rfl⟩
theorem vA {h:Array Obj} {a:Option Addr} {m cap V:Nat} (hw:Wr h (.slice a m cap) m V) (h0:V≠0) (hm:m≤1048576) (hT:gN h):
  FnV Tryz.prog 224 #[.slice a m cap] h fun r h'=>(∃k:Nat,r=.int .i64 k∧Tz V k)∧h'=h:=by
 have hV:V<B^m:=by obtain ⟨_,_,_,_,hV,_⟩:=hw;exact hV
 have hmp:0<m:=by
  rcases Nat.eq_zero_or_pos m with e|e
  ·subst e;simp at hV;omega
  exact e
 obtain ⟨b,off,rfl,hrd⟩:=hw.rd rfl hmp
 refine Fn.of (args:=[.slice (some ⟨b,off,none⟩) m cap]) Tryz.func224 (by kernel_rfl) rfl Tryz.ntmps224 rfl fun w0 cs=>?_
 refine gO ?_;conv=>whnf
 refine aD.loopJ (X:=Nat) (Y:=Nat) (fun n=>[(0,.slice (some ⟨b,off,none⟩) m cap),(3,.int .i64 (n:Nat))]) (fun n h'=>h'=h∧n<m∧V%B^n=0) (fun n=>m - n) 0
  (fun n=>[(0,.slice (some ⟨b,off,none⟩) m cap),(3,.int .i64 (n:Nat))]) (fun n h'=>h'=h∧n<m∧V%B^n=0∧wdc V n≠0)
  ⟨rfl,hmp,by rw [Nat.pow_zero,Nat.mod_one]⟩ ⟨rfl,rfl,trivial⟩ ?_ ?_
 ·rintro n h ⟨rfl,hn,hz⟩ ih hx
  (try refine gO ?_);conv=>whnf
  repeat (refine oL ?_;conv=>whnf)
  refine ⟨_,hrd n hn,?_⟩;conv=>whnf
  refine ⟨fun h1=>?_,fun h1=>?_⟩<;>conv=>whnf
  ·repeat (refine oL ?_;conv=>whnf)
   have hw0:wdc V n=0:=by omega
   have hz':V%B^(n+1)=0:=by rw [iD,hz,hw0];rfl
   refine ih (n+1) _ _ ⟨rfl,?_,hz'⟩ (by omega) ⟨rfl,rfl,trivial⟩
   rcases Nat.lt_or_ge (n+1) m with h|h
   ·exact h
   have:n+1=m:=by omega
   rw [this,Nat.mod_eq_of_lt hV] at hz'
   exact absurd hz' h0
  exact hx n _ _ ⟨rfl,hn,hz,by omega⟩ ⟨rfl,rfl,trivial⟩
 rintro n h ⟨rfl,hn,hz,hne⟩
 (try refine gO ?_);conv=>whnf
 repeat (refine oL ?_;conv=>whnf)
 refine ⟨_,hrd n hn,?_⟩;conv=>whnf
 refine aD.callV (tz64_fn (wdc V n) hne (iB _ _) hT) ?_
 rintro _ h ⟨rfl,rfl⟩
 obtain ⟨t1,t2⟩:=ctz_tz hne (iB V n)
 (try refine gO ?_);conv=>whnf
 repeat (refine oL ?_;conv=>whnf)
 refine aD.ret Tryz.func224 rfl rfl ⟨_,rfl,?_⟩
 exact ⟨⟨64*n+Go.Lib.ctz 64 (wdc V n),rfl,tz_word hz t1 t2⟩,rfl⟩

theorem lB.put {base:Nat} {h h':Array Obj} {v:Value} {m V g:Nat} (hw:lB base h v m V) (P:nK h h' g) (hne:v.ownBlock≠some g):lB base h' v m V:=by
 obtain ⟨g',cap,cur,rfl,hb,hat,r⟩:=hw
 have hne:g'≠g:=fun e=>hne (by rw [e];rfl)
 exact ⟨g',cap,cur,rfl,hb,P.at hat hne,r⟩
theorem lB.blk {base:Nat} {h:Array Obj} {v:Value} {m V:Nat} (hw:lB base h v m V):∃g,v.ownBlock=some g∧base≤g∧g<h.size:=by
 obtain ⟨g,cap,cur,rfl,hb,hat,_⟩:=hw
 exact ⟨g,rfl,hb,hat.lt⟩
theorem nK.setB {h:Array Obj} {g:Nat} (cs:Array Value) (e:TypeId):nK h (Fw.setB h g cs e) g:=nK.of ..
theorem kU {base:Nat} {h:Array Obj} {v:Value} {m V:Nat} (hw:lB base h v m V) (hm:m≤1048576) (k:Nat) (hk:k≤67108864):
  FnV Tryz.prog 226 #[v,.int .i64 k] h fun r h'=>lB base h' r (nw (V/2^k)) (V/2^k)∧r.ownBlock=v.ownBlock ∧ ∃g,v.ownBlock=some g∧nK h h' g:=by
 obtain ⟨g,cap,cur,rfl,hb,hat,hsz,hmc,hV,hc⟩:=hw
 refine (aOW hat hsz hmc hV hc hm k hk).mono ?_
 rintro _ _ ⟨rfl,cur',rfl,hsz',hc'⟩
 have hn:nw (V/2^k)≤m:=aSQ (Nat.lt_of_le_of_lt (Nat.div_le_self _ _) hV)
 exact ⟨⟨g,cap,cur',rfl,hb,fQ hat.lt _ _,hsz',by omega,mV _,fun j hj=>hc' j (by omega)⟩,rfl,g,rfl,nK.setB ..⟩
theorem tB {base base2:Nat} {h:Array Obj} {v v2:Value} {m m2 V1 V2:Nat} (hw:lB base h v m V1) (hw2:lB base2 h v2 m2 V2) (hne:v.ownBlock≠v2.ownBlock) (hle:V2≤V1) (hm:m≤1048576):
  FnV Tryz.prog 227 #[v,v2] h fun r h'=>r=.tuple #[]∧lB base h' v m (V1 - V2) ∧ ∃g,v.ownBlock=some g∧nK h h' g:=by
 obtain ⟨g,cap,cur,rfl,hb,hat,hsz,hmc,hV,hc⟩:=hw
 refine (aBB hat hsz hmc hV hc hw2.wr (fun e=>hne e.symm) hle hm).mono ?_
 rintro _ _ ⟨rfl,cur',rfl,hsz',hc'⟩
 exact ⟨rfl,⟨g,cap,cur',rfl,hb,fQ hat.lt _ _,hsz',hmc,Nat.lt_of_le_of_lt (Nat.sub_le _ _) hV,hc'⟩,g,rfl,nK.setB ..⟩
theorem kZ {base:Nat} {h:Array Obj} {v:Value} {m V:Nat} (hw:lB base h v m V) (h0:V≠0) (hm:m≤1048576) (hT:gN h):
  FnV Tryz.prog 224 #[v] h fun r h'=>(∃k:Nat,r=.int .i64 k∧Tz V k)∧h'=h:=by
 have hw':=hw.wr
 obtain ⟨g,cap,cur,rfl,_⟩:=hw
 exact vA hw' h0 hm hT
structure GcdI (h:Array Obj) (G A C:Nat) (va vb:Value) (h':Array Obj):Prop where
 keeps:aH h.size h h'
 a:lB h.size h' va (nw A) A
 c:lB h.size h' vb (nw C) C
 ne:va.ownBlock≠vb.ownBlock
 oa:A%2=1
 oc:C%2=1
 na:nw A≤65536
 nc:nw C≤65536
 gcd:Nat.gcd A C=G
theorem wJ {V k k':Nat} (h:Tz V k) (h':Tz V k'):k=k':=by
 have key:∀ {k k':Nat},Tz V k→Tz V k' → ¬k<k':=by
  rintro k k' ⟨m,rfl⟩ ⟨m',e⟩ hlt
  rw [show 2^k'=2^k*(2*2^(k' - k - 1)) by rw [←Nat.pow_succ',←Nat.pow_add];congr 1;omega,Nat.mul_assoc] at e
  have e:=Nat.eq_of_mul_eq_mul_left (Nat.two_pow_pos k) e
  rw [Nat.mul_assoc] at e
  omega
 have h1:=key h h'
 have h2:=key h' h
 omega
theorem bl_nw (V:Nat):bl V≤64*nw V:=by
 by_cases h:V=0
 ·subst h;decide
 have:=aAB h
 have:=wC (iB V (nw V - 1))
 have:=sO h
 omega
theorem aCP {V k:Nat} (h:Tz V k) (hn:nw V≤65536):k≤4194304:=by
 have:=h.lt_bl
 have:=bl_nw V
 omega
theorem uA {m X:Nat} (h:X=2*m+1):X%2=1:=by omega
theorem aLA {X:Nat} (h:X%2=1):X=2*(X/2)+1:=by omega
theorem aCX {V:Nat}:nw V=0↔V=0:=by
 constructor
 ·intro h
  rcases Nat.eq_zero_or_pos V with e|e
  ·exact e
  have:=sO (show V≠0 by omega);omega
 rintro rfl;rfl
theorem aOM {V:Nat} (h:nw V=1):V<B∧wdc V 0=V:=by
 have h1:=mV V
 rw [h,Nat.pow_one] at h1
 refine ⟨h1,?_⟩
 unfold wdc;rw [Nat.pow_zero,Nat.div_one];exact Nat.mod_eq_of_lt h1
theorem aPD (t j:Nat):wdc (2^t) j=if j=t/64 then 2^(t%64) else 0:=by
 have h64:t%64<64:=Nat.mod_lt _ (by decide)
 have hp:2^(t%64)<B:=Nat.pow_lt_pow_right (by decide) h64
 rw [qZ t]
 split
 ·rename_i e
  unfold wdc
  rw [e,Nat.mul_div_cancel_left _ (eD _)]
  exact Nat.mod_eq_of_lt hp
 rename_i e
 rcases Nat.lt_or_ge j (t/64) with h|h
 ·rw [Nat.mul_comm];exact aOK h
 refine aEM (m:=t/64+1) ?_ (by omega)
 rw [Nat.pow_succ]
 exact Nat.mul_lt_mul_of_pos_left hp (eD _)
theorem aTI {x y:Nat} (h:lC (x:Int) (y:Int)=0):x=y:=by
 unfold lC at h
 split at h
 ·omega
 split at h<;>omega
theorem aSD {h:Array Obj} {v1 v2:Value} {V1 V2:Nat} (hw1:Wr h v1 (nw V1) V1) (hw2:Wr h v2 (nw V2) V2) (hm1:nw V1≤65536) (hm2:nw V2≤65536) (hT:gN h):
  FnV Tryz.prog 117 #[v1,v2] h fun r h'=>(∃m,Wr h' r m (Nat.gcd V1 V2)∧m≤1048576)∧aH h.size h h':=by
 obtain ⟨a1,cap1,rfl⟩:∃a cap,v1=.slice a (nw V1) cap:=let ⟨a,cap,e,_⟩:=hw1;⟨a,cap,e⟩
 obtain ⟨a2,cap2,rfl⟩:∃a cap,v2=.slice a (nw V2) cap:=let ⟨a,cap,e,_⟩:=hw2;⟨a,cap,e⟩
 refine Fn.of (args:=[.slice a1 (nw V1) cap1,.slice a2 (nw V2) cap2]) Tryz.func117 (by kernel_rfl) rfl Tryz.ntmps117 rfl fun w0 cs=>?_
 refine gO ?_;conv=>whnf
 refine ⟨fun h1=>?_,fun h1=>?_⟩<;>conv=>whnf
 ·refine aD.ret Tryz.func117 rfl rfl ⟨_,rfl,?_⟩
  have:V1=0:=aCX.1 (by omega)
  subst this
  rw [Nat.gcd_zero_left]
  exact ⟨⟨_,hw2,by omega⟩,aH.refl _ _⟩
 have z1:V1≠0:=fun e=>h1 (by rw [e];rfl)
 refine ⟨fun h2=>?_,fun h2=>?_⟩<;>conv=>whnf
 ·refine aD.ret Tryz.func117 rfl rfl ⟨_,rfl,?_⟩
  have:V2=0:=aCX.1 (by omega)
  subst this
  rw [Nat.gcd_zero_right]
  exact ⟨⟨_,hw1,by omega⟩,aH.refl _ _⟩
 have z2:V2≠0:=fun e=>h2 (by rw [e];rfl)
 have p1:=sO z1
 have p2:=sO z2
 have big:¬(nw V1=1∧nw V2=1)→True:=fun _=>trivial
 refine ⟨fun h3=>?_,fun h3=>?_⟩<;>conv=>whnf
 ·refine ⟨fun h4=>?_,fun h4=>?_⟩<;>conv=>whnf
  ·obtain ⟨q1,w1⟩:=aOM (V:=V1) (by omega)
   obtain ⟨q2,w2⟩:=aOM (V:=V2) (by omega)
   obtain ⟨b1,off1,rfl,hrd1⟩:=hw1.rd rfl p1
   obtain ⟨b2,off2,rfl,hrd2⟩:=hw2.rd rfl p2
   refine aD.held tab [(0,[]),(1,[]),(2,[]),(3,[]),(4,[]),(5,[]),(6,[]),(7,[])] (by kernel_rfl) ?_;conv=>whnf
   repeat (refine oL ?_;conv=>whnf)
   refine ⟨_,hrd1 0 p1,?_⟩;conv=>whnf
   repeat (refine oL ?_;conv=>whnf)
   refine ⟨_,hrd2 0 p2,?_⟩;conv=>whnf
   rw [w1,w2]
   (try refine gO ?_);conv=>whnf
   refine aD.loop (X:=Nat×Nat) (fun q=>[(5,.int .u64 (q.1:Nat)),(6,.int .u64 (q.2:Nat))]) (fun q h'=>h'=h∧q.1<B∧q.2<B∧Nat.gcd q.1 q.2=Nat.gcd V1 V2) (fun q=>q.2) (V1,V2)
    ⟨rfl,q1,q2,rfl⟩ ⟨rfl,rfl,trivial⟩ ?_
   rintro ⟨x,y⟩ h ⟨rfl,hx,hy,hg⟩ ih
   dsimp only at hx hy hg ⊢
   (try refine gO ?_);conv=>whnf
   refine ⟨fun h5=>?_,fun h5=>?_⟩<;>conv=>whnf
   ·refine aD.eff (sD tab [.int .u64 (x:Nat)] (h1:=by simp [Value.cells])) ?_
    rintro _ h2 ⟨rfl,N2⟩
    (try refine gO ?_);conv=>whnf
    refine aD.ret Tryz.func117 rfl rfl ⟨_,rfl,?_⟩
    have hy0:y=0:=by omega
    subst hy0
    rw [Nat.gcd_zero_right] at hg
    rw [←hg]
    refine ⟨⟨1,Wr.of_at N2.blk (Nat.le_refl _) (by rw [Nat.pow_one];exact hx) (fun j hj=>?_),by omega⟩,N2.keeps⟩
    have:j=0:=by omega
    subst this
    rw [show wdc x 0=x by unfold wdc;rw [Nat.pow_zero,Nat.div_one];exact Nat.mod_eq_of_lt hx]
    rfl
   (try refine gO ?_);conv=>whnf
   refine aD.held tab [(0,[]),(1,[]),(2,[]),(3,[]),(4,[]),(5,[])] (by kernel_rfl) ?_;conv=>whnf
   rw [mA] at hx hy
   repeat (refine oL ?_;conv=>whnf)
   (try refine gO ?_);conv=>whnf
   exact ih (y,x%y) _ _ ⟨rfl,by rw [mA];exact hy,by rw [mA];exact Nat.lt_of_lt_of_le (Nat.mod_lt _ (by omega)) (by omega),by rw [←hg,Nat.gcd_comm,←Nat.gcd_rec,Nat.gcd_comm]⟩ (Nat.mod_lt _ (by omega)) ⟨rfl,rfl,trivial⟩
  (try refine gO ?_);conv=>whnf
  refine aD.callV (vA hw1 z1 (by omega) hT) ?_
  rintro _ h ⟨⟨k1,rfl,t1⟩,rfl⟩
  (try refine gO ?_);conv=>whnf
  refine aD.callV (vA hw2 z2 (by omega) hT) ?_
  rintro _ h ⟨⟨k2,rfl,t2⟩,rfl⟩
  have lk1:=aCP t1 hm1
  have lk2:=aCP t2 hm2
  obtain ⟨tw,htw⟩:∃tw,tw=min k1 k2:=⟨_,rfl⟩
  (try refine gO ?_);conv=>whnf
  rw [show min (k1:Int) (k2:Int)=(tw:Nat) by omega]
  refine aD.callV (uM hw1 p1 (by omega)) ?_
  rintro va ha ⟨Oa,ka⟩
  (try refine gO ?_);conv=>whnf
  refine aD.callV (uM (hw2.keeps ka) p2 (by omega)) ?_
  rintro vb hb ⟨Ob,kb⟩
  have sa:=ka.size
  have sb:=kb.size
  obtain ⟨ga,ea,ba,la⟩:=Oa.blk
  obtain ⟨gb,eb,bb,lb⟩:=Ob.blk
  have Oa:=Oa.keeps kb (Nat.le_refl _)
  have hkb:aH h.size h hb:=ka.trans (kb.mono sa)
  have Tb:=hT.keeps hkb
  have Ob:=Ob.mono sa
  (try refine gO ?_);conv=>whnf
  refine aD.callV (kZ Oa z1 (by omega) Tb) ?_
  rintro _ hb ⟨⟨k1',rfl,t1'⟩,rfl⟩
  obtain rfl:=wJ t1 t1'
  (try refine gO ?_);conv=>whnf
  refine aD.callV (kU Oa (by omega) k1 (by omega)) ?_
  rintro va1 hc ⟨Oa1,oa1,g1,eg1,P1⟩
  rw [ea] at eg1
  cases eg1
  have Ob1:=Ob.put P1 (by rw [eb];intro e;cases e;omega)
  have hkc:aH h.size h hc:=hkb.trans (P1.keeps.mono ba)
  have Tc:=hT.keeps hkc
  (try refine gO ?_);conv=>whnf
  refine aD.callV (kZ Ob1 z2 (by omega) Tc) ?_
  rintro _ hc ⟨⟨k2',rfl,t2'⟩,rfl⟩
  obtain rfl:=wJ t2 t2'
  (try refine gO ?_);conv=>whnf
  refine aD.callV (kU Ob1 (by omega) k2 (by omega)) ?_
  rintro vb1 hd ⟨Ob2,ob2,g2,eg2,P2⟩
  rw [eb] at eg2
  cases eg2
  have Oa2:=Oa1.put P2 (by rw [oa1,ea];intro e;cases e;omega)
  have hkd:aH h.size h hd:=hkc.trans (P2.keeps.mono (by omega))
  obtain ⟨m1,od1,_⟩:=t1.div
  obtain ⟨m2,od2,_⟩:=t2.div
  have hgs:=aHR t1 t2
  rw [←htw] at hgs
  have n1:=fR (Nat.div_le_self V1 (2^k1))
  have n2:=fR (Nat.div_le_self V2 (2^k2))
  (try refine gO ?_);conv=>whnf
  refine aD.loop (X:=Nat×Nat×Value×Value) (fun q=>[(0,q.2.2.1),(1,q.2.2.2),(7,.int .i64 (tw:Nat))]) (fun q h'=>GcdI h (Nat.gcd (V1/2^k1) (V2/2^k2)) q.1 q.2.1 q.2.2.1 q.2.2.2 h') (fun q=>q.1+q.2.1) (V1/2^k1,V2/2^k2,va1,vb1)
   ⟨hkd,Oa2,Ob2,by rw [oa1,ob2,ea,eb];intro e;cases e;omega,uA od1,uA od2,by dsimp only;omega,by dsimp only;omega,rfl⟩ ⟨rfl,rfl,rfl,trivial⟩ ?_
  rintro ⟨A,C,wa,wc⟩ he ⟨ke,Ea,Ec,ene,eoa,eoc,ena,enc,eg⟩ ih
  dsimp only at Ea Ec ene eoa eoc ena enc eg ih ⊢
  (try refine gO ?_);conv=>whnf
  refine aD.callV (mG Ea.wr Ec.wr (by omega)) ?_
  rintro _ he ⟨rfl,rfl⟩
  (try refine gO ?_);conv=>whnf
  refine ⟨fun hc0=>?_,fun hc0=>?_⟩<;>conv=>whnf
  ·try refine gO ?_
   conv=>whnf
   repeat (refine oL ?_;conv=>whnf)
   refine aD.eff (wY tab (tw/64+1) (tw/64+1) (hn:=⟨by omega,by omega,by omega,by dsimp only;omega,by omega⟩)) ?_
   rintro _ hf ⟨rfl,Nf⟩
   (try refine gO ?_);conv=>whnf
   repeat (refine oL ?_;conv=>whnf)
   refine aD.eff (lZ tab Nf.blk (hlt:=by simp;omega)) ?_
   rintro _ hg2 Pg
   (try refine gO ?_);conv=>whnf
   have hAC:=aTI hc0
   subst hAC
   rw [Nat.gcd_self] at eg
   have zf:=Nf.size
   have zg:=Pg.size
   have zke:=ke.size
   have Ea0:=Ea
   have Ea:=Ea.keeps Nf.keeps (Nat.le_refl _)
   obtain ⟨gx,egx,bgx,lgx⟩:=Ea.blk
   have kf:aH h.size h hg2:=(ke.trans (Nf.keeps.mono zke)).trans (Pg.keeps.mono zke)
   have Eg:lB h.size hg2 wa (nw A) A:=by
    obtain ⟨g',cap,cur,rfl,hb',hat,r⟩:=Ea
    refine ⟨g',cap,cur,rfl,hb',Pg.at hat ?_,r⟩
    intro e
    subst e
    have:=Nf.blk
    obtain ⟨g2',cap2',cur2',e2,_,hat2,_⟩:=Ea0
    cases e2
    have:=hat2.lt
    omega
   have hpow:(2:Nat)^tw<B^(tw/64+1):=by
    rw [qZ tw,Nat.pow_succ]
    exact Nat.mul_lt_mul_of_pos_left (Nat.pow_lt_pow_right (by decide) (show tw%64<64 by omega)) (eD _)
   have hwp:=Wr.of_at Pg.blk (m:=tw/64+1) (cap:=tw/64+1) (V:=2^tw) (Nat.le_refl _) hpow (fun j hj=>by
    rw [aPD]
    by_cases e:j=tw/64
    ·rw [if_pos e,show 0+((tw:Int)/64).toNat=j by omega,Array.getElem?_setIfInBounds_self_of_lt (by simp;omega)]
     have h64:tw%64<64:=Nat.mod_lt _ (by decide)
     have hp:2^(tw%64)<B:=Nat.pow_lt_pow_right (by decide) h64
     obtain ⟨p,hp'⟩:∃p,p=2^(tw%64):=⟨_,rfl⟩
     rw [show ((tw:Int)%64).toNat=tw%64 by omega]
     have e9:((2:Int)^(tw%64))=((2^(tw%64):Nat):Int):=by simp
     rw [e9,←hp']
     rw [←hp',mA] at hp
     rw [show (1:Int)*p%18446744073709551616=p by omega]
    rw [if_neg e,Array.getElem?_setIfInBounds_ne (by omega),Array.getElem?_replicate,if_pos hj]
    rfl)
   refine aD.callV (aFH Eg.wr hwp (by omega) (by omega)) ?_
   rintro vr hh ⟨Or,kr⟩
   (try refine gO ?_);conv=>whnf
   refine aD.ret Tryz.func117 rfl rfl ⟨_,rfl,?_⟩
   refine ⟨⟨nw A+(tw/64+1),?_,by omega⟩,kf.trans (kr.mono (by omega))⟩
   rw [hgs,←eg]
   exact Or.wr
  refine ⟨fun hcl=>?_,fun hcl=>?_⟩<;>conv=>whnf
  ·have hlt:A<C:=by
    rcases Nat.lt_or_ge A C with h|h
    ·exact h
    exfalso
    rcases Nat.lt_or_ge C A with h'|h'
    ·first|exact hcl ((kJ _ _).2 h')|(have:=(kJ _ _).1 hcl;omega)
    have e:C=A:=by omega
    apply hc0
    subst e
    unfold lC
    rw [if_neg (Int.lt_irrefl _),if_neg (Int.lt_irrefl _)]
   (try refine gO ?_);conv=>whnf
   refine aD.callV (tB Ec Ea (Ne.symm ene) (by omega) (by omega)) ?_
   rintro _ hf ⟨rfl,Ra,gr,egr,Pr⟩
   have R2:=Ea.put Pr (by rw [←egr];exact Ne.symm (Ne.symm ene))
   obtain ⟨g1',eg1',bg1',_⟩:=Ec.blk
   have hgr:h.size≤gr:=by rw [egr] at eg1';cases eg1';exact bg1'
   have kf:aH h.size h hf:=ke.trans (Pr.keeps.mono hgr)
   (try refine gO ?_);conv=>whnf
   refine aD.callV (kZ Ra (by omega) (by omega) (hT.keeps kf)) ?_
   rintro _ hf ⟨⟨kz,rfl,tz⟩,rfl⟩
   have hev:(C - A)%2=0:=by omega
   have kzp:=aKD tz hev
   have nsub:=fR (Nat.sub_le C A)
   (try refine gO ?_);conv=>whnf
   refine aD.callV (kU Ra (by omega) kz (Nat.le_trans (aCP tz (by omega)) (by decide))) ?_
   rintro wa' hg ⟨Sa,osa,gs,egs,Ps⟩
   have S2:=R2.put Ps (by rw [←egs];exact Ne.symm (Ne.symm ene))
   have hgs':h.size≤gs:=by rw [egs] at eg1';cases eg1';exact bg1'
   have kg:aH h.size h hg:=kf.trans (Ps.keeps.mono hgs')
   obtain ⟨mo,odd',_⟩:=tz.div
   have gst:=yU (aLA eoa) (by omega) tz
   have hdl:=Nat.div_le_self (C - A) (2^kz)
   have ndiv:=fR hdl
   (try refine gO ?_);conv=>whnf
   exact ih ((C - A)/2^kz,A,wa',wa) _ _ ⟨kg,Sa,S2,by rw [osa];exact (Ne.symm ene),uA odd',eoa,by dsimp only;omega,ena,by rw [gst];exact (by rw [Nat.gcd_comm];exact eg)⟩ (by dsimp only;omega) ⟨rfl,rfl,rfl,trivial⟩
  have hlt:C<A:=by
   rcases Nat.lt_or_ge C A with h|h
   ·exact h
   exfalso
   rcases Nat.lt_or_ge A C with h'|h'
   ·first|exact hcl ((kJ _ _).2 h')|(have:=(kJ _ _).1 hcl;omega)
   have e:A=C:=by omega
   apply hc0
   subst e
   unfold lC
   rw [if_neg (Int.lt_irrefl _),if_neg (Int.lt_irrefl _)]
  (try refine gO ?_);conv=>whnf
  refine aD.callV (tB Ea Ec ene (by omega) (by omega)) ?_
  rintro _ hf ⟨rfl,Ra,gr,egr,Pr⟩
  have R2:=Ec.put Pr (by rw [←egr];exact Ne.symm ene)
  obtain ⟨g1',eg1',bg1',_⟩:=Ea.blk
  have hgr:h.size≤gr:=by rw [egr] at eg1';cases eg1';exact bg1'
  have kf:aH h.size h hf:=ke.trans (Pr.keeps.mono hgr)
  (try refine gO ?_);conv=>whnf
  refine aD.callV (kZ Ra (by omega) (by omega) (hT.keeps kf)) ?_
  rintro _ hf ⟨⟨kz,rfl,tz⟩,rfl⟩
  have hev:(A - C)%2=0:=by omega
  have kzp:=aKD tz hev
  have nsub:=fR (Nat.sub_le A C)
  (try refine gO ?_);conv=>whnf
  refine aD.callV (kU Ra (by omega) kz (Nat.le_trans (aCP tz (by omega)) (by decide))) ?_
  rintro wa' hg ⟨Sa,osa,gs,egs,Ps⟩
  have S2:=R2.put Ps (by rw [←egs];exact Ne.symm ene)
  have hgs':h.size≤gs:=by rw [egs] at eg1';cases eg1';exact bg1'
  have kg:aH h.size h hg:=kf.trans (Ps.keeps.mono hgs')
  obtain ⟨mo,odd',_⟩:=tz.div
  have gst:=yU (aLA eoc) (by omega) tz
  have hdl:=Nat.div_le_self (A - C) (2^kz)
  have ndiv:=fR hdl
  (try refine gO ?_);conv=>whnf
  exact ih ((A - C)/2^kz,C,wa',wc) _ _ ⟨kg,Sa,S2,by rw [osa];exact ene,uA odd',eoc,by dsimp only;omega,enc,by rw [gst];exact eg⟩ (by dsimp only;omega) ⟨rfl,rfl,rfl,trivial⟩
 (try refine gO ?_);conv=>whnf
 refine aD.callV (vA hw1 z1 (by omega) hT) ?_
 rintro _ h ⟨⟨k1,rfl,t1⟩,rfl⟩
 (try refine gO ?_);conv=>whnf
 refine aD.callV (vA hw2 z2 (by omega) hT) ?_
 rintro _ h ⟨⟨k2,rfl,t2⟩,rfl⟩
 have lk1:=aCP t1 hm1
 have lk2:=aCP t2 hm2
 obtain ⟨tw,htw⟩:∃tw,tw=min k1 k2:=⟨_,rfl⟩
 (try refine gO ?_);conv=>whnf
 rw [show min (k1:Int) (k2:Int)=(tw:Nat) by omega]
 refine aD.callV (uM hw1 p1 (by omega)) ?_
 rintro va ha ⟨Oa,ka⟩
 (try refine gO ?_);conv=>whnf
 refine aD.callV (uM (hw2.keeps ka) p2 (by omega)) ?_
 rintro vb hb ⟨Ob,kb⟩
 have sa:=ka.size
 have sb:=kb.size
 obtain ⟨ga,ea,ba,la⟩:=Oa.blk
 obtain ⟨gb,eb,bb,lb⟩:=Ob.blk
 have Oa:=Oa.keeps kb (Nat.le_refl _)
 have hkb:aH h.size h hb:=ka.trans (kb.mono sa)
 have Tb:=hT.keeps hkb
 have Ob:=Ob.mono sa
 (try refine gO ?_);conv=>whnf
 refine aD.callV (kZ Oa z1 (by omega) Tb) ?_
 rintro _ hb ⟨⟨k1',rfl,t1'⟩,rfl⟩
 obtain rfl:=wJ t1 t1'
 (try refine gO ?_);conv=>whnf
 refine aD.callV (kU Oa (by omega) k1 (by omega)) ?_
 rintro va1 hc ⟨Oa1,oa1,g1,eg1,P1⟩
 rw [ea] at eg1
 cases eg1
 have Ob1:=Ob.put P1 (by rw [eb];intro e;cases e;omega)
 have hkc:aH h.size h hc:=hkb.trans (P1.keeps.mono ba)
 have Tc:=hT.keeps hkc
 (try refine gO ?_);conv=>whnf
 refine aD.callV (kZ Ob1 z2 (by omega) Tc) ?_
 rintro _ hc ⟨⟨k2',rfl,t2'⟩,rfl⟩
 obtain rfl:=wJ t2 t2'
 (try refine gO ?_);conv=>whnf
 refine aD.callV (kU Ob1 (by omega) k2 (by omega)) ?_
 rintro vb1 hd ⟨Ob2,ob2,g2,eg2,P2⟩
 rw [eb] at eg2
 cases eg2
 have Oa2:=Oa1.put P2 (by rw [oa1,ea];intro e;cases e;omega)
 have hkd:aH h.size h hd:=hkc.trans (P2.keeps.mono (by omega))
 obtain ⟨m1,od1,_⟩:=t1.div
 obtain ⟨m2,od2,_⟩:=t2.div
 have hgs:=aHR t1 t2
 rw [←htw] at hgs
 have n1:=fR (Nat.div_le_self V1 (2^k1))
 have n2:=fR (Nat.div_le_self V2 (2^k2))
 (try refine gO ?_);conv=>whnf
 refine aD.loop (X:=Nat×Nat×Value×Value) (fun q=>[(0,q.2.2.1),(1,q.2.2.2),(7,.int .i64 (tw:Nat))]) (fun q h'=>GcdI h (Nat.gcd (V1/2^k1) (V2/2^k2)) q.1 q.2.1 q.2.2.1 q.2.2.2 h') (fun q=>q.1+q.2.1) (V1/2^k1,V2/2^k2,va1,vb1)
  ⟨hkd,Oa2,Ob2,by rw [oa1,ob2,ea,eb];intro e;cases e;omega,uA od1,uA od2,by dsimp only;omega,by dsimp only;omega,rfl⟩ ⟨rfl,rfl,rfl,trivial⟩ ?_
 rintro ⟨A,C,wa,wc⟩ he ⟨ke,Ea,Ec,ene,eoa,eoc,ena,enc,eg⟩ ih
 dsimp only at Ea Ec ene eoa eoc ena enc eg ih ⊢
 (try refine gO ?_);conv=>whnf
 refine aD.callV (mG Ea.wr Ec.wr (by omega)) ?_
 rintro _ he ⟨rfl,rfl⟩
 (try refine gO ?_);conv=>whnf
 refine ⟨fun hc0=>?_,fun hc0=>?_⟩<;>conv=>whnf
 ·try refine gO ?_
  conv=>whnf
  repeat (refine oL ?_;conv=>whnf)
  refine aD.eff (wY tab (tw/64+1) (tw/64+1) (hn:=⟨by omega,by omega,by omega,by dsimp only;omega,by omega⟩)) ?_
  rintro _ hf ⟨rfl,Nf⟩
  (try refine gO ?_);conv=>whnf
  repeat (refine oL ?_;conv=>whnf)
  refine aD.eff (lZ tab Nf.blk (hlt:=by simp;omega)) ?_
  rintro _ hg2 Pg
  (try refine gO ?_);conv=>whnf
  have hAC:=aTI hc0
  subst hAC
  rw [Nat.gcd_self] at eg
  have zf:=Nf.size
  have zg:=Pg.size
  have zke:=ke.size
  have Ea0:=Ea
  have Ea:=Ea.keeps Nf.keeps (Nat.le_refl _)
  obtain ⟨gx,egx,bgx,lgx⟩:=Ea.blk
  have kf:aH h.size h hg2:=(ke.trans (Nf.keeps.mono zke)).trans (Pg.keeps.mono zke)
  have Eg:lB h.size hg2 wa (nw A) A:=by
   obtain ⟨g',cap,cur,rfl,hb',hat,r⟩:=Ea
   refine ⟨g',cap,cur,rfl,hb',Pg.at hat ?_,r⟩
   intro e
   subst e
   have:=Nf.blk
   obtain ⟨g2',cap2',cur2',e2,_,hat2,_⟩:=Ea0
   cases e2
   have:=hat2.lt
   omega
  have hpow:(2:Nat)^tw<B^(tw/64+1):=by
   rw [qZ tw,Nat.pow_succ]
   exact Nat.mul_lt_mul_of_pos_left (Nat.pow_lt_pow_right (by decide) (show tw%64<64 by omega)) (eD _)
  have hwp:=Wr.of_at Pg.blk (m:=tw/64+1) (cap:=tw/64+1) (V:=2^tw) (Nat.le_refl _) hpow (fun j hj=>by
   rw [aPD]
   by_cases e:j=tw/64
   ·rw [if_pos e,show 0+((tw:Int)/64).toNat=j by omega,Array.getElem?_setIfInBounds_self_of_lt (by simp;omega)]
    have h64:tw%64<64:=Nat.mod_lt _ (by decide)
    have hp:2^(tw%64)<B:=Nat.pow_lt_pow_right (by decide) h64
    obtain ⟨p,hp'⟩:∃p,p=2^(tw%64):=⟨_,rfl⟩
    rw [show ((tw:Int)%64).toNat=tw%64 by omega]
    have e9:((2:Int)^(tw%64))=((2^(tw%64):Nat):Int):=by simp
    rw [e9,←hp']
    rw [←hp',mA] at hp
    rw [show (1:Int)*p%18446744073709551616=p by omega]
   rw [if_neg e,Array.getElem?_setIfInBounds_ne (by omega),Array.getElem?_replicate,if_pos hj]
   rfl)
  refine aD.callV (aFH Eg.wr hwp (by omega) (by omega)) ?_
  rintro vr hh ⟨Or,kr⟩
  (try refine gO ?_);conv=>whnf
  refine aD.ret Tryz.func117 rfl rfl ⟨_,rfl,?_⟩
  refine ⟨⟨nw A+(tw/64+1),?_,by omega⟩,kf.trans (kr.mono (by omega))⟩
  rw [hgs,←eg]
  exact Or.wr
 refine ⟨fun hcl=>?_,fun hcl=>?_⟩<;>conv=>whnf
 ·have hlt:A<C:=by
   rcases Nat.lt_or_ge A C with h|h
   ·exact h
   exfalso
   rcases Nat.lt_or_ge C A with h'|h'
   ·first|exact hcl ((kJ _ _).2 h')|(have:=(kJ _ _).1 hcl;omega)
   have e:C=A:=by omega
   apply hc0
   subst e
   unfold lC
   rw [if_neg (Int.lt_irrefl _),if_neg (Int.lt_irrefl _)]
  (try refine gO ?_);conv=>whnf
  refine aD.callV (tB Ec Ea (Ne.symm ene) (by omega) (by omega)) ?_
  rintro _ hf ⟨rfl,Ra,gr,egr,Pr⟩
  have R2:=Ea.put Pr (by rw [←egr];exact Ne.symm (Ne.symm ene))
  obtain ⟨g1',eg1',bg1',_⟩:=Ec.blk
  have hgr:h.size≤gr:=by rw [egr] at eg1';cases eg1';exact bg1'
  have kf:aH h.size h hf:=ke.trans (Pr.keeps.mono hgr)
  (try refine gO ?_);conv=>whnf
  refine aD.callV (kZ Ra (by omega) (by omega) (hT.keeps kf)) ?_
  rintro _ hf ⟨⟨kz,rfl,tz⟩,rfl⟩
  have hev:(C - A)%2=0:=by omega
  have kzp:=aKD tz hev
  have nsub:=fR (Nat.sub_le C A)
  (try refine gO ?_);conv=>whnf
  refine aD.callV (kU Ra (by omega) kz (Nat.le_trans (aCP tz (by omega)) (by decide))) ?_
  rintro wa' hg ⟨Sa,osa,gs,egs,Ps⟩
  have S2:=R2.put Ps (by rw [←egs];exact Ne.symm (Ne.symm ene))
  have hgs':h.size≤gs:=by rw [egs] at eg1';cases eg1';exact bg1'
  have kg:aH h.size h hg:=kf.trans (Ps.keeps.mono hgs')
  obtain ⟨mo,odd',_⟩:=tz.div
  have gst:=yU (aLA eoa) (by omega) tz
  have hdl:=Nat.div_le_self (C - A) (2^kz)
  have ndiv:=fR hdl
  (try refine gO ?_);conv=>whnf
  exact ih ((C - A)/2^kz,A,wa',wa) _ _ ⟨kg,Sa,S2,by rw [osa];exact (Ne.symm ene),uA odd',eoa,by dsimp only;omega,ena,by rw [gst];exact (by rw [Nat.gcd_comm];exact eg)⟩ (by dsimp only;omega) ⟨rfl,rfl,rfl,trivial⟩
 have hlt:C<A:=by
  rcases Nat.lt_or_ge C A with h|h
  ·exact h
  exfalso
  rcases Nat.lt_or_ge A C with h'|h'
  ·first|exact hcl ((kJ _ _).2 h')|(have:=(kJ _ _).1 hcl;omega)
  have e:A=C:=by omega
  apply hc0
  subst e
  unfold lC
  rw [if_neg (Int.lt_irrefl _),if_neg (Int.lt_irrefl _)]
 (try refine gO ?_);conv=>whnf
 refine aD.callV (tB Ea Ec ene (by omega) (by omega)) ?_
 rintro _ hf ⟨rfl,Ra,gr,egr,Pr⟩
 have R2:=Ec.put Pr (by rw [←egr];exact Ne.symm ene)
 obtain ⟨g1',eg1',bg1',_⟩:=Ea.blk
 have hgr:h.size≤gr:=by rw [egr] at eg1';cases eg1';exact bg1'
 have kf:aH h.size h hf:=ke.trans (Pr.keeps.mono hgr)
 (try refine gO ?_);conv=>whnf
 refine aD.callV (kZ Ra (by omega) (by omega) (hT.keeps kf)) ?_
 rintro _ hf ⟨⟨kz,rfl,tz⟩,rfl⟩
 have hev:(A - C)%2=0:=by omega
 have kzp:=aKD tz hev
 have nsub:=fR (Nat.sub_le A C)
 (try refine gO ?_);conv=>whnf
 refine aD.callV (kU Ra (by omega) kz (Nat.le_trans (aCP tz (by omega)) (by decide))) ?_
 rintro wa' hg ⟨Sa,osa,gs,egs,Ps⟩
 have S2:=R2.put Ps (by rw [←egs];exact Ne.symm ene)
 have hgs':h.size≤gs:=by rw [egs] at eg1';cases eg1';exact bg1'
 have kg:aH h.size h hg:=kf.trans (Ps.keeps.mono hgs')
 obtain ⟨mo,odd',_⟩:=tz.div
 have gst:=yU (aLA eoc) (by omega) tz
 have hdl:=Nat.div_le_self (A - C) (2^kz)
 have ndiv:=fR hdl
 (try refine gO ?_);conv=>whnf
 exact ih ((A - C)/2^kz,C,wa',wc) _ _ ⟨kg,Sa,S2,by rw [osa];exact ene,uA odd',eoc,by dsimp only;omega,enc,by rw [gst];exact eg⟩ (by dsimp only;omega) ⟨rfl,rfl,rfl,trivial⟩

theorem aKB {s:ByteArray}:s=NatM.mt↔s.size=0:=by
 constructor
 ·rintro rfl;rfl
 intro h
 exact aJH (by rw [h];rfl) fun i hi=>by omega
theorem aUW {s:ByteArray} (hc:vX s) (h:s.size≠0):eJ s≠0:=by
 intro e
 have:=sQ hc
 rw [e,aTV] at this
 omega
theorem aAW {s:ByteArray} (hc:vX s) (hs:s.size≤256):nw (eJ s)≤32:=by
 rw [←jQ hc];omega
theorem aUH {h:Array Obj} {b:Nat} {e:TypeId} {ss:List ByteArray} (H:At h b (ss.map Value.string).toArray e):Strs h b 0 ss:=by
 intro j s hs
 rw [H.cell,Nat.zero_add]
 simp [hs]
theorem aYP {h:Array Obj} (s t:ByteArray):FnV Tryz.prog 72 #[.string s,.string t] h fun r h'=>r=.tuple #[.string (divS s t).1,.string (divS s t).2.1,.int .i64 (divS s t).2.2]∧aH h.size h h':=by
 unfold divS
 refine Fn.of (args:=[.string s,.string t]) Tryz.func72 (by kernel_rfl) rfl Tryz.ntmps72 rfl fun w0 cs=>?_
 refine gO ?_;conv=>whnf
 refine aD.eff (sD tab [.string s,.string t] (h1:=by simp [Value.cells])) ?_
 rintro _ h0 ⟨rfl,N0⟩
 (try refine gO ?_);conv=>whnf
 refine aD.callV (pE (aUH (ss:=[s,t]) N0.blk) (by simp)) ?_
 rintro _ h0 ⟨rfl,rfl⟩
 have k0:=N0.keeps
 (try refine gO ?_);conv=>whnf
 refine ⟨fun hc=>?_,fun hc=>?_⟩<;>conv=>whnf
 ·have c1:=eV hc (s:=s) (by simp)
  have c2:=eV hc (s:=t) (by simp)
  rw [if_pos hc]
  refine ⟨fun hz=>?_,fun hz=>?_⟩<;>conv=>whnf
  ·refine aD.ret Tryz.func72 rfl rfl ⟨_,rfl,?_⟩
   rw [if_pos (aKB.1 hz)]
   exact ⟨rfl,k0⟩
  have hz':t.size≠0:=fun e=>hz (aKB.2 e)
  rw [if_neg hz']
  refine aD.callV (iH (s:=s) (by omega)) ?_
  rintro v2 h2 ⟨o2,k2⟩
  (try refine gO ?_);conv=>whnf
  refine aD.callV (iH (s:=t) (by omega)) ?_
  rintro v3 h3 ⟨o3,k3⟩
  (try refine gO ?_);conv=>whnf
  have l2:=jQ c1.1
  have l3:=jQ c2.1
  have q2:=(o2.keeps k3 (Nat.le_refl _)).wr
  have q3:=o3.wr
  rw [l2] at q2
  rw [l3] at q3
  have n1:=aAW c1.1 c1.2
  have n2:=aAW c2.1 c2.2
  have s0:=k0.size
  have s2:=k2.size
  have s3:=k3.size
  have kk:=(k0.trans (k2.mono (by omega))).trans (k3.mono (by omega))
  refine aD.callV (aWV q2 q3 (aUW c2.1 hz') (by omega) (by omega)) ?_
  rintro _ h4 ⟨vq,vr,mq,mr,rfl,w1,w2,b1,b2,k4⟩
  (try refine gO ?_);conv=>whnf
  refine aD.callV (wD w1 (by omega)) ?_
  rintro _ h5 ⟨rfl,k5⟩
  (try refine gO ?_);conv=>whnf
  refine aD.callV (wD (w2.keeps k5) (by omega)) ?_
  rintro _ h6 ⟨rfl,k6⟩
  (try refine gO ?_);conv=>whnf
  refine aD.ret Tryz.func72 rfl rfl ⟨_,rfl,?_⟩
  have s4:=k4.size
  have s5:=k5.size
  exact ⟨rfl,((kk.trans (k4.mono (by omega))).trans (k5.mono (by omega))).trans (k6.mono (by omega))⟩
 refine aD.ret Tryz.func72 rfl rfl ⟨_,rfl,?_⟩
 rw [if_neg hc]
 exact ⟨rfl,k0⟩
theorem aZE {h:Array Obj} (s t:ByteArray) (hT:gN h):FnV Tryz.prog 71 #[.string s,.string t] h fun r h'=>r=sev (gcdS s t)∧aH h.size h h':=by
 unfold gcdS
 refine Fn.of (args:=[.string s,.string t]) Tryz.func71 (by kernel_rfl) rfl Tryz.ntmps71 rfl fun w0 cs=>?_
 refine gO ?_;conv=>whnf
 refine aD.eff (sD tab [.string s,.string t] (h1:=by simp [Value.cells])) ?_
 rintro _ h0 ⟨rfl,N0⟩
 (try refine gO ?_);conv=>whnf
 refine aD.callV (pE (aUH (ss:=[s,t]) N0.blk) (by simp)) ?_
 rintro _ h0 ⟨rfl,rfl⟩
 have k0:=N0.keeps
 (try refine gO ?_);conv=>whnf
 refine ⟨fun hc=>?_,fun hc=>?_⟩<;>conv=>whnf
 ·have c1:=eV hc (s:=s) (by simp)
  have c2:=eV hc (s:=t) (by simp)
  rw [if_pos hc]
  refine aD.callV (iH (s:=s) (by omega)) ?_
  rintro v2 h2 ⟨o2,k2⟩
  (try refine gO ?_);conv=>whnf
  refine aD.callV (iH (s:=t) (by omega)) ?_
  rintro v3 h3 ⟨o3,k3⟩
  (try refine gO ?_);conv=>whnf
  have l2:=jQ c1.1
  have l3:=jQ c2.1
  have q2:=(o2.keeps k3 (Nat.le_refl _)).wr
  have q3:=o3.wr
  rw [l2] at q2
  rw [l3] at q3
  have n1:=aAW c1.1 c1.2
  have n2:=aAW c2.1 c2.2
  have s0:=k0.size
  have s2:=k2.size
  have s3:=k3.size
  have kk:=(k0.trans (k2.mono (by omega))).trans (k3.mono (by omega))
  refine aD.callV (aSD q2 q3 (by omega) (by omega) (hT.keeps kk)) ?_
  rintro vr h4 ⟨⟨mr,w1,b1⟩,k4⟩
  (try refine gO ?_);conv=>whnf
  refine aD.callV (wD w1 b1) ?_
  rintro _ h5 ⟨rfl,k5⟩
  (try refine gO ?_);conv=>whnf
  refine aD.ret Tryz.func71 rfl rfl ⟨_,rfl,?_⟩
  have s4:=k4.size
  exact ⟨rfl,(kk.trans (k4.mono (by omega))).trans (k5.mono (by omega))⟩
 refine aD.ret Tryz.func71 rfl rfl ⟨_,rfl,?_⟩
 rw [if_neg hc]
 exact ⟨rfl,k0⟩
end Go.Proofs.YthjedpdedjhndaaGreatDoor

namespace Go.NatM
open Go Go.Fw
theorem enc_inj {A C:Nat} (h:enc A=enc C):A=C:=by rw [←eA A,h,eA]
theorem bCL {A C:Nat}:enc A=enc C↔A=C:=⟨enc_inj,fun h=>by rw [h]⟩
theorem bAO:enc 0=NatM.mt:=rfl
theorem aKY {A:Nat}:enc A=NatM.mt↔A=0:=by rw [←bAO,bCL]
theorem aYG {l:List ByteArray} (h:∀s∈l,vX s∧s.size≤256):chk l=0:=by
 unfold chk
 rw [if_pos (List.all_eq_true.2 fun s hs=>pJ.2 (h s hs).1),if_pos (List.all_eq_true.2 fun s hs=>Nat.ble_eq_true_of_le (h s hs).2)]
theorem bBY {A:Nat} (hA:nb A≤256):chk [enc A]=0:=aYG fun s hs=>by
 obtain rfl:s=enc A:=by simpa using hs
 exact ⟨aCI A,by rw [iU];exact hA⟩
theorem aCH {A C:Nat} (hA:nb A≤256) (hC:nb C≤256):chk [enc A,enc C]=0:=aYG fun s hs=>by
 simp only [List.mem_cons,List.not_mem_nil,or_false] at hs
 rcases hs with rfl|rfl
 ·exact ⟨aCI A,by rw [iU];exact hA⟩
 exact ⟨aCI C,by rw [iU];exact hC⟩
section
variable {A C:Nat} (hA:nb A≤256) (hC:nb C≤256)
include hA hC
theorem add_e:addS (enc A) (enc C)=oW (A+C):=by unfold addS;rw [if_pos (aCH hA hC),eA,eA]
theorem xK:mulS (enc A) (enc C)=oW (A*C):=by unfold mulS;rw [if_pos (aCH hA hC),eA,eA]
theorem sub_e:subS (enc A) (enc C)=if A<C then (NatM.mt,1) else (enc (A - C),0):=by unfold subS;rw [if_pos (aCH hA hC),eA,eA]
theorem aAQ:cmpS (enc A) (enc C)=(aHG A C,0):=by unfold cmpS;rw [if_pos (aCH hA hC),eA,eA]
theorem gcd_e:gcdS (enc A) (enc C)=(enc (Nat.gcd A C),0):=by unfold gcdS;rw [if_pos (aCH hA hC),eA,eA]
theorem div_e:divS (enc A) (enc C)=if C=0 then (NatM.mt,NatM.mt,71) else (enc (A/C),enc (A%C),0):=by
 unfold divS
 rw [if_pos (aCH hA hC),eA,eA]
 by_cases h:C=0
 ·subst h;rw [if_pos (by rw [iU];rfl),if_pos rfl]
 rw [if_neg h,if_neg]
 rw [iU]
 have:=aRV h
 omega
end
theorem sF {V:Nat} (h:nb V≤256):oW V=(enc V,0):=by unfold oW;rw [if_pos h]
theorem oG {V:Nat} (h:¬nb V≤256):oW V=(NatM.mt,2):=by unfold oW;rw [if_neg h]
theorem bCR (A C:Nat):nb (A*C)≤nb A+nb C:=by
 refine aFJ ?_
 rw [Nat.pow_add]
 exact Nat.mul_lt_mul'' (aGH A) (aGH C)
theorem aNB {A C:Nat}:aHG A C<0↔A<C:=by
 unfold aHG
 by_cases h:A<C
 ·rw [if_pos h];omega
 rw [if_neg h];split<;>omega
end Go.NatM

namespace Go.NatM
open Go Go.Fw
def bts (V:Nat):List Nat:=dn V (nb V) (nb V)
end Go.NatM

namespace Go.Proofs.YthjedpdedjhndaaGreatDoor
open Go Go.Fw Go.NatM
set_option maxRecDepth 100000
set_option maxHeartbeats 99999999
end Go.Proofs.YthjedpdedjhndaaGreatDoor

namespace Go.RatM
open Go Go.Fw Go.NatM
structure Q where
 neg:Bool
 n:Nat
 d:Nat
def sg (neg:Bool) (n:Nat):Int:=if neg=true then -(n:Int) else n
def Q.val (a:Q):Rat:=mkRat (sg a.neg a.n) a.d
def Q.Ok (a:Q):Prop:=a.d≠0∧Nat.gcd a.n a.d=1∧(a.neg=true→a.n≠0)
def low (neg:Bool) (n d:Nat):Q:=⟨neg && !Nat.beq n 0,n/Nat.gcd n d,d/Nat.gcd n d⟩
theorem beq0 {n:Nat} (h:n≠0):Nat.beq n 0=false:=by cases n with
 |zero=>exact absurd rfl h
 |succ n=>rfl
theorem aFP (s:Bool) (n:Nat):(sg s n).natAbs=n:=by unfold sg;split<;>omega
theorem aKH (s:Bool):sg s 0=0:=by unfold sg;split<;>rfl
theorem Q.val_eq {a:Q} (h:a.Ok):a.val=⟨sg a.neg a.n,a.d,h.1,by rw [aFP];exact h.2.1⟩:=(Rat.mk_eq_mkRat _ _ h.1 (by rw [aFP];exact h.2.1)).symm
theorem Q.num {a:Q} (h:a.Ok):a.val.num=sg a.neg a.n:=by rw [Q.val_eq h]
theorem Q.den {a:Q} (h:a.Ok):a.val.den=a.d:=by rw [Q.val_eq h]
theorem Q.inj {a b:Q} (ha:a.Ok) (hb:b.Ok) (h:a.val=b.val):a=b:=by
 have h1:sg a.neg a.n=sg b.neg b.n:=by rw [←Q.num ha,←Q.num hb,h]
 have h2:a.d=b.d:=by rw [←Q.den ha,←Q.den hb,h]
 have h3:a.n=b.n:=by rw [←aFP a.neg a.n,←aFP b.neg b.n,h1]
 obtain ⟨s,n,d⟩:=a
 obtain ⟨s',n',d'⟩:=b
 obtain ⟨_,_,ha⟩:=ha
 obtain ⟨_,_,hb⟩:=hb
 simp only at h1 h2 h3 ha hb
 subst h2 h3
 have:s=s':=by
  cases s<;>cases s'<;>simp [sg] at h1 ha hb ⊢ <;> omega
 rw [this]
theorem aRW (neg:Bool) (n:Nat) {d:Nat} (hd:d≠0):(low neg n d).Ok:=by
 have hg:0<Nat.gcd n d:=Nat.gcd_pos_of_pos_right _ (Nat.pos_of_ne_zero hd)
 refine ⟨?_,?_,fun h=>?_⟩
 ·show d/Nat.gcd n d≠0
  exact Nat.ne_of_gt (Nat.div_pos (Nat.le_of_dvd (Nat.pos_of_ne_zero hd) (Nat.gcd_dvd_right _ _)) hg)
 ·show Nat.gcd (n/Nat.gcd n d) (d/Nat.gcd n d)=1
  rw [Nat.gcd_div (Nat.gcd_dvd_left _ _) (Nat.gcd_dvd_right _ _),Nat.div_self hg]
 show n/Nat.gcd n d≠0
 have hn:n≠0:=by
  intro e;subst e
  simp [low] at h
 exact Nat.ne_of_gt (Nat.div_pos (Nat.le_of_dvd (Nat.pos_of_ne_zero hn) (Nat.gcd_dvd_left _ _)) hg)
theorem aLB (neg:Bool) (n:Nat) {d:Nat} (hd:d≠0):(low neg n d).val=mkRat (sg neg n) d:=by
 have hg:0<Nat.gcd n d:=Nat.gcd_pos_of_pos_right _ (Nat.pos_of_ne_zero hd)
 have e1:Nat.gcd n d*(n/Nat.gcd n d)=n:=Nat.mul_div_cancel' (Nat.gcd_dvd_left _ _)
 have e2:Nat.gcd n d*(d/Nat.gcd n d)=d:=Nat.mul_div_cancel' (Nat.gcd_dvd_right _ _)
 have hs:sg neg n=(Nat.gcd n d:Int)*sg (neg && !Nat.beq n 0) (n/Nat.gcd n d):=by
  by_cases hn:n=0
  ·subst hn;simp [aKH]
  have hb:Nat.beq n 0=false:=beq0 hn
  rw [hb]
  cases neg<;>simp only [sg,Bool.not_false,Bool.and_true,if_true,if_false,Bool.false_eq_true]
  ·rw [←Int.natCast_mul,e1]
  rw [Int.mul_neg,←Int.natCast_mul,e1]
 show mkRat (sg (neg && !Nat.beq n 0) (n/Nat.gcd n d)) (d/Nat.gcd n d)=mkRat (sg neg n) d
 rw [←Rat.mkRat_mul_left (Nat.ne_of_gt hg),←hs,e2]
abbrev dJ (V:Nat):Prop:=nb V≤256
def aBP (a b:Q):Option Q:=
 if dJ (a.n*b.d)∧dJ (b.n*a.d)∧dJ (a.d*b.d) then
  if a.neg=b.neg then
   if dJ (a.n*b.d+b.n*a.d) then some (low a.neg (a.n*b.d+b.n*a.d) (a.d*b.d)) else none
  else if a.n*b.d<b.n*a.d then some (low b.neg (b.n*a.d - a.n*b.d) (a.d*b.d))
  else some (low a.neg (a.n*b.d - b.n*a.d) (a.d*b.d))
 else none
theorem zQ {a b c:Q} (ha:a.d≠0) (hb:b.d≠0) (h:aBP a b=some c):c.Ok∧c.val=a.val+b.val:=by
 have hd:a.d*b.d≠0:=Nat.mul_ne_zero ha hb
 have key:∀s n,c=low s n (a.d*b.d)→sg s n=sg a.neg a.n*(b.d:Int)+sg b.neg b.n*(a.d:Int)→c.Ok∧c.val=a.val+b.val:=by
  intro s n e hs
  subst e
  refine ⟨aRW _ _ hd,?_⟩
  rw [aLB _ _ hd]
  unfold Q.val
  rw [Rat.mkRat_add_mkRat _ _ ha hb,hs]
 unfold aBP at h
 split at h
 ·split at h
  ·next hs=>
   split at h
   ·refine key _ _ (Option.some.inj h).symm ?_
    rw [←hs]
    cases a.neg<;>simp only [sg,if_true,if_false,Bool.false_eq_true,Int.natCast_add,Int.natCast_mul]<;>grind
   cases h
  next hs=>
  split at h
  ·next hlt=>
   refine key _ _ (Option.some.inj h).symm ?_
   have e:((b.n*a.d - a.n*b.d:Nat):Int)=(b.n:Int)*a.d - (a.n:Int)*b.d:=by
    rw [Int.natCast_sub (Nat.le_of_lt hlt),Int.natCast_mul,Int.natCast_mul]
   cases hA:a.neg<;>cases hB:b.neg<;>simp [hA,hB] at hs<;>simp only [sg,if_true,if_false,Bool.false_eq_true,e]<;>grind
  next hlt=>
  refine key _ _ (Option.some.inj h).symm ?_
  have e:((a.n*b.d - b.n*a.d:Nat):Int)=(a.n:Int)*b.d - (b.n:Int)*a.d:=by
   rw [Int.natCast_sub (by omega),Int.natCast_mul,Int.natCast_mul]
  cases hA:a.neg<;>cases hB:b.neg<;>simp [hA,hB] at hs<;>simp only [sg,if_true,if_false,Bool.false_eq_true,e]<;>grind
 cases h
def Q.le (a:Q) (k:Nat):Prop:=nb a.n≤k∧nb a.d≤k
theorem aCG {neg:Bool} {n d k:Nat} (hn:nb n≤k) (hd:nb d≤k):(low neg n d).le k:=
 ⟨Nat.le_trans (sX (Nat.div_le_self _ _)) hn,Nat.le_trans (sX (Nat.div_le_self _ _)) hd⟩
def kE (a:Q):Q:=⟨!a.neg && !Nat.beq a.n 0,a.n,a.d⟩
theorem aGI (a:Q):(kE a).val = -a.val:=by
 have hs:sg (!a.neg && !Nat.beq a.n 0) a.n = -sg a.neg a.n:=by
  by_cases hn:a.n=0
  ·rw [hn];simp [aKH]
  have hb:Nat.beq a.n 0=false:=beq0 hn
  rw [hb]
  cases a.neg<;>simp [sg]
 show mkRat (sg (!a.neg && !Nat.beq a.n 0) a.n) a.d=_
 rw [hs,←Rat.neg_mkRat];rfl
theorem wV {a:Q} (h:a.Ok):(kE a).Ok:=⟨h.1,h.2.1,fun e=>by
 simp only [kE,Bool.and_eq_true,Bool.not_eq_true'] at e
 intro e2
 have e2:a.n=0:=e2
 rw [e2] at e
 simp at e⟩
theorem aLR {a:Q} {k:Nat} (h:a.le k):(kE a).le k:=h
def aCK (a b:Q):Option Q:=
 if dJ (a.n*b.n)∧dJ (a.d*b.d) then some (low (a.neg != b.neg) (a.n*b.n) (a.d*b.d)) else none
theorem zX {a b c:Q} (ha:a.d≠0) (hb:b.d≠0) (h:aCK a b=some c):c.Ok∧c.val=a.val*b.val:=by
 have hd:a.d*b.d≠0:=Nat.mul_ne_zero ha hb
 unfold aCK at h
 split at h
 ·cases h
  refine ⟨aRW _ _ hd,?_⟩
  rw [aLB _ _ hd]
  unfold Q.val
  rw [Rat.mkRat_mul_mkRat]
  congr 1
  cases a.neg<;>cases b.neg<;>simp [sg,Int.neg_mul,Int.mul_neg]
 cases h
theorem aPE {a b:Q} {i j:Nat} (ha:a.le i) (hb:b.le j) (h:i+j≤256):∃c,aCK a b=some c∧c.le (i+j):=by
 have h1:nb (a.n*b.n)≤i+j:=Nat.le_trans (bCR _ _) (Nat.add_le_add ha.1 hb.1)
 have h3:nb (a.d*b.d)≤i+j:=Nat.le_trans (bCR _ _) (Nat.add_le_add ha.2 hb.2)
 unfold aCK
 rw [if_pos ⟨by omega,by omega⟩]
 exact ⟨_,rfl,aCG h1 h3⟩
def aBY (a:Q):Q:=⟨a.neg,a.d,a.n⟩
theorem bBN {a:Q} (ha:a.d≠0) (hn:a.n≠0):(aBY a).val=a.val⁻¹:=by
 have hv:a.val≠0:=by
  intro e
  unfold Q.val at e
  rw [Rat.mkRat_eq_zero ha] at e
  have:=aFP a.neg a.n
  rw [e] at this
  exact hn this.symm
 have h1:(aBY a).val*a.val=1:=by
  show mkRat (sg a.neg a.d) a.n*mkRat (sg a.neg a.n) a.d=1
  rw [Rat.mkRat_mul_mkRat]
  have hs:sg a.neg a.d*sg a.neg a.n=((a.n*a.d:Nat):Int):=by
   cases a.neg<;>simp [sg,Int.neg_mul,Int.mul_neg,Int.mul_comm]
  rw [hs]
  have:=Rat.mkRat_mul_left (n:=1) (d:=1) (a:=a.n*a.d) (Nat.mul_ne_zero hn ha)
  rw [Int.mul_one,Nat.mul_one] at this
  rw [this];rfl
 grind
theorem aLH {a:Q} {k:Nat} (h:a.le k):(aBY a).le k:=⟨h.2,h.1⟩
def aAU (a b:Q):Int:=
 if a.neg=true ∧ ¬b.neg=true then -1 else if ¬a.neg=true∧b.neg=true then 1
 else if a.neg=true then aHG (b.n*a.d) (a.n*b.d) else aHG (a.n*b.d) (b.n*a.d)
theorem aBN {a b:Q} (ha:a.Ok) (hb:b.Ok):a.val<b.val↔sg a.neg a.n*(b.d:Int)<sg b.neg b.n*(a.d:Int):=by
 rw [Rat.lt_iff,Q.num ha,Q.num hb,Q.den ha,Q.den hb]
theorem aDN {a b:Q} (ha:a.Ok) (hb:b.Ok):(aAU a b = -1↔a.val<b.val)∧(aAU a b=1↔b.val<a.val)∧(aAU a b = -1∨aAU a b=0∨aAU a b=1):=by
 rw [aBN ha hb,aBN hb ha]
 have pa:0<a.d:=Nat.pos_of_ne_zero ha.1
 have pb:0<b.d:=Nat.pos_of_ne_zero hb.1
 have na:=ha.2.2
 have nb:=hb.2.2
 unfold aAU aHG
 cases hA:a.neg<;>cases hB:b.neg<;>simp only [hA,hB,sg,if_true,if_false,Bool.false_eq_true,not_false_eq_true,not_true_eq_false,and_true,and_false,true_and,false_and,forall_const,false_implies] at na nb ⊢
 ·have e1:(a.n:Int)*b.d=((a.n*b.d:Nat):Int):=(Int.natCast_mul _ _).symm
  have e2:(b.n:Int)*a.d=((b.n*a.d:Nat):Int):=(Int.natCast_mul _ _).symm
  rw [e1,e2]
  split
  ·omega
  split<;>omega
 ·have e1:(0:Int)≤(a.n:Int)*b.d:=Int.mul_nonneg (by omega) (by omega)
  have e2:(0:Int)<(b.n:Int)*a.d:=Int.mul_pos (by omega) (by omega)
  rw [Int.neg_mul]
  exact ⟨⟨fun h=>by omega,fun h=>by omega⟩,⟨fun _=>by omega,fun _=>trivial⟩,.inr (.inr trivial)⟩
 ·have e1:(0:Int)<(a.n:Int)*b.d:=Int.mul_pos (by omega) (by omega)
  have e2:(0:Int)≤(b.n:Int)*a.d:=Int.mul_nonneg (by omega) (by omega)
  rw [Int.neg_mul]
  exact ⟨⟨fun _=>by omega,fun _=>trivial⟩,⟨fun h=>by omega,fun h=>by omega⟩,.inl trivial⟩
 have e1:(a.n:Int)*b.d=((a.n*b.d:Nat):Int):=(Int.natCast_mul _ _).symm
 have e2:(b.n:Int)*a.d=((b.n*a.d:Nat):Int):=(Int.natCast_mul _ _).symm
 rw [Int.neg_mul,Int.neg_mul,e1,e2]
 split
 ·omega
 split<;>omega
end Go.RatM

namespace Go.RatM
open Go Go.Fw Go.NatM
structure Rt where
 neg:Bool
 n:ByteArray
 d:ByteArray
def Rt.v (a:Rt):Value:=.agg #[.bool a.neg,.string a.n,.string a.d]
def aN (q:Q):Rt:=⟨q.neg,enc q.n,enc q.d⟩
def sZ (a:Rt):Q:=⟨a.neg,eJ a.n,eJ a.d⟩
def zr:Rt:=⟨false,NatM.mt,NatM.mt⟩
theorem gB (q:Q):sZ (aN q)=q:=by
 obtain ⟨s,n,d⟩:=q
 simp [sZ,aN,eA]
def okR (a:Rt):Prop:=chk [a.n]=0∧chk [a.d]=0∧eJ a.d≠0∧Nat.gcd (eJ a.n) (eJ a.d)=1 ∧ ¬(a.neg=true∧eJ a.n=0)
instance (a:Rt):Decidable (okR a):=by unfold okR;infer_instance
def chkR (a:Rt):Int:=if okR a then 0 else 70
theorem iL {a:Rt}:chkR a=0↔okR a:=by
 unfold chkR
 split
 ·simp [*]
 simp [*]
theorem okR_q {a:Rt} (h:okR a):a=aN (sZ a)∧(sZ a).Ok∧(sZ a).le 256:=by
 obtain ⟨h1,h2,h3,h4,h5⟩:=h
 have c1:=eV h1 (s:=a.n) (by simp)
 have c2:=eV h2 (s:=a.d) (by simp)
 refine ⟨?_,⟨h3,h4,fun e1 e2=>h5 ⟨e1,e2⟩⟩,?_,?_⟩
 ·obtain ⟨s,n,d⟩:=a
  simp only [aN,sZ,zK c1.1,zK c2.1]
 ·show nb (eJ a.n)≤256
  rw [sQ c1.1];exact c1.2
 show nb (eJ a.d)≤256
 rw [sQ c2.1];exact c2.2
theorem sG {q:Q} (h:q.Ok) (hl:q.le 256):okR (aN q):=by
 unfold okR
 simp only [aN,eA]
 exact ⟨bBY hl.1,bBY hl.2,h.1,h.2.1,fun ⟨e1,e2⟩=>h.2.2 e1 e2⟩
theorem uS {a:Rt} (h:okR a):∃q,a=aN q∧q.Ok∧q.le 256:=⟨_,okR_q h⟩
def resR:Option Q→Rt×Int
 |some c=>(aN c,0)
 |none=>(zr,2)
def opR (f:Q→Q→Option Q) (a b:Rt):Rt×Int:=if okR a∧okR b then resR (f (sZ a) (sZ b)) else (zr,70)
def xC (a b:Rt):Rt×Int:=opR aBP a b
def subL (a b:Q):Option Q:=aBP a (kE b)
def subR (a b:Rt):Rt×Int:=opR subL a b
def fI (a b:Rt):Rt×Int:=opR aCK a b
def aLG (a b:Rt):Rt×Int:=if okR a∧okR b then (if eJ b.n=0 then (zr,71) else resR (aCK (sZ a) (aBY (sZ b)))) else (zr,70)
def pK (n d:Int):Q:=low (decide (n<0) != decide (d<0)) n.natAbs d.natAbs
def eU (n d:Int):Rt×Int:=if d=0 then (zr,71) else (aN (pK n d),0)
def lE (a b:Rt):Int×Int:=
 if okR a∧okR b then
  if dJ ((sZ a).n*(sZ b).d)∧dJ ((sZ b).n*(sZ a).d) then (aAU (sZ a) (sZ b),0) else (0,2)
 else (0,70)
def sumF:List Rt→Rt→Rt×Int
 | [],r=>(r,0)
 |a::l,r=>if (xC r a).2=0 then sumF l (xC r a).1 else (zr,(xC r a).2)
def aLK:Rt:=⟨false,NatM.mt,enc 1⟩
def aHO (l:List Rt):Rt×Int:=if ∀a∈l,okR a then sumF l aLK else (zr,70)
section
variable {a b:Q} (ha:a.Ok) (hb:b.Ok) (la:a.le 256) (lb:b.le 256)
include ha hb la lb
theorem aOV (f:Q→Q→Option Q):opR f (aN a) (aN b)=resR (f a b):=by
 unfold opR
 rw [if_pos ⟨sG ha la,sG hb lb⟩,gB,gB]
theorem divR_e (hn:b.n≠0):aLG (aN a) (aN b)=resR (aCK a (aBY b)):=by
 unfold aLG
 rw [if_pos ⟨sG ha la,sG hb lb⟩,gB,gB,if_neg (by simp only [aN,eA];exact hn)]
end
end Go.RatM

namespace Go.RatM
open Go Go.Fw Go.NatM
theorem Q.le.mono {a:Q} {i j:Nat} (h:a.le i) (hij:i≤j):a.le j:=⟨Nat.le_trans h.1 hij,Nat.le_trans h.2 hij⟩
def zq:Q:=⟨false,0,1⟩
def oq:Q:=⟨false,1,1⟩
theorem aTM:zq.Ok:=⟨by decide,by decide,fun h=>by cases h⟩
theorem oq_ok:oq.Ok:=⟨by decide,by decide,fun h=>by cases h⟩
theorem zq_le:zq.le 1:=⟨by decide,by decide⟩
theorem oq_le:oq.le 1:=⟨by decide,by decide⟩
theorem aKA:zq.val=0:=by decide +kernel
theorem bCG:oq.val=1:=by decide +kernel
theorem aOY {a:Q} (h:a.Ok):a.val=0↔a=zq:=⟨fun e=>Q.inj h aTM (by rw [e,aKA]),fun e=>by rw [e,aKA]⟩
theorem n_zero {a:Q} (h:a.Ok):a.n=0↔a=zq:=by
 constructor
 ·intro e
  refine (aOY h).1 ?_
  unfold Q.val
  rw [e,aKH,Rat.mkRat_eq_zero h.1]
 intro e;rw [e];rfl
section
variable {a b:Q} {i j:Nat} (ha:a.Ok) (hb:b.Ok) (la:a.le i) (lb:b.le j)
include ha hb la lb
theorem aAJ (h:i+j≤256):∃c,fI (aN a) (aN b)=(aN c,0)∧c.Ok∧c.le (i+j)∧c.val=a.val*b.val:=by
 obtain ⟨c,e,hl⟩:=aPE la lb h
 have hv:=zX ha.1 hb.1 e
 refine ⟨c,?_,hv.1,hl,hv.2⟩
 unfold fI
 rw [aOV ha hb (la.mono (by omega)) (lb.mono (by omega)),e];rfl
theorem divR_ok (h:i+j≤256) (hz:b≠zq):∃c,aLG (aN a) (aN b)=(aN c,0)∧c.Ok∧c.le (i+j)∧c.val=a.val*b.val⁻¹:=by
 have hn:b.n≠0:=fun e=>hz ((n_zero hb).1 e)
 obtain ⟨c,e,hl⟩:=aPE la (aLH lb) h
 have hv:=zX (b:=aBY b) ha.1 hn e
 refine ⟨c,?_,hv.1,hl,?_⟩
 ·rw [divR_e ha hb (la.mono (by omega)) (lb.mono (by omega)) hn,e];rfl
 rw [hv.2,bBN hb.1 hn]
end
theorem aKN {n d:Int} (hd:d≠0):(pK n d).Ok:=aRW _ _ (by omega)
theorem aOL {n d:Int} (hd:d≠0):(pK n d).val=(n:Rat)*(d:Rat)⁻¹:=by
 unfold pK
 rw [aLB _ _ (by omega)]
 have h1:sg (decide (n<0) != decide (d<0)) n.natAbs=if d<0 then -n else n:=by
  unfold sg
  by_cases hn:n<0<;>by_cases hd:d<0<;>simp [hn,hd]<;>omega
 rw [h1,Rat.mkRat_eq_div,Rat.div_def]
 split
 ·next hneg=>
  have e:((d.natAbs:Nat):Rat) = -(d:Rat):=by
   have:((d.natAbs:Nat):Int) = -d:=by omega
   rw [←Rat.intCast_natCast,this,Rat.intCast_neg]
  rw [e,Rat.intCast_neg]
  have hd':(d:Rat)≠0:=by
   intro e;exact hd (by exact_mod_cast e)
  grind
 next hneg=>
 have e:((d.natAbs:Nat):Rat)=(d:Rat):=by
  have:((d.natAbs:Nat):Int)=d:=by omega
  rw [←Rat.intCast_natCast,this]
 rw [e]
theorem aSZ {n d:Int} {k:Nat} (hn:n.natAbs<256^k) (hd:d.natAbs<256^k):(pK n d).le k:=aCG (aFJ hn) (aFJ hd)
theorem wW {n d:Int} (hd:d≠0):eU n d=(aN (pK n d),0):=by unfold eU;rw [if_neg hd]
end Go.RatM

namespace Go.RatM
open Go Go.Fw Go.NatM
theorem aOP (F:Int):pK F 1=⟨decide (F<0),F.natAbs,1⟩:=by
 unfold pK low
 have:∀k:Nat,Nat.gcd k 1=1:=fun k=>Nat.gcd_one_right k
 simp only [show (1:Int).natAbs=1 from rfl,this,Nat.div_one]
 have e:((decide (F<0) != decide ((1:Int)<0)) && !Nat.beq F.natAbs 0)=decide (F<0):=by
  by_cases h:F<0
  ·have:F.natAbs≠0:=by omega
   simp [h,beq0 this]
  simp [h]
 rw [e]
theorem sg_one (F:Int):sg (decide (F<0)) F.natAbs=F:=by
 unfold sg
 by_cases h:F<0<;>simp [h]<;>omega
theorem aTQ {a:Q} (ha:a.Ok) (F:Int):(aAU (pK F 1) a≤0↔F*a.d≤sg a.neg a.n)∧(aAU a (pK F 1)<0↔sg a.neg a.n<F*a.d):=by
 have hx:(pK F 1).Ok:=aKN (by decide)
 have h1:=aDN hx ha
 have h2:=aDN ha hx
 rw [aBN hx ha,aBN ha hx] at h1
 rw [aBN hx ha,aBN ha hx] at h2
 have e1:sg (pK F 1).neg (pK F 1).n=F:=by rw [aOP];exact sg_one F
 have e2:((pK F 1).d:Int)=1:=by rw [aOP];rfl
 rw [e1,e2,Int.mul_one] at h1 h2
 omega

def lowQ (q:Q):Q:=low q.neg q.n q.d
def yF (a b:Q):Option Q:=
 if dJ (a.n*b.d)∧dJ (b.n*a.d) then
  if dJ (a.d*b.d) then
   if a.neg=b.neg then
    if dJ (a.n*b.d+b.n*a.d) then some ⟨a.neg,a.n*b.d+b.n*a.d,a.d*b.d⟩ else none
   else if a.n*b.d<b.n*a.d then some ⟨b.neg,b.n*a.d - a.n*b.d,a.d*b.d⟩
   else some ⟨a.neg,a.n*b.d - b.n*a.d,a.d*b.d⟩
  else none
 else none
theorem aMK (a b:Q):aBP a b=(yF a b).map lowQ:=by
 unfold aBP yF
 by_cases h1:dJ (a.n*b.d)∧dJ (b.n*a.d)
 ·by_cases h2:dJ (a.d*b.d)
  ·rw [if_pos ⟨h1.1,h1.2,h2⟩,if_pos h1,if_pos h2]
   split
   ·split<;>rfl
   split<;>rfl
  rw [if_neg (fun h=>h2 h.2.2),if_pos h1,if_neg h2];rfl
 rw [if_neg (fun h=>h1 ⟨h.1,h.2.1⟩),if_neg h1];rfl
def xS (a b:Q):Option Q:=if dJ (a.n*b.n) then if dJ (a.d*b.d) then some ⟨a.neg != b.neg,a.n*b.n,a.d*b.d⟩ else none else none
theorem aPA (a b:Q):aCK a b=(xS a b).map lowQ:=by
 unfold aCK xS
 by_cases h1:dJ (a.n*b.n)
 ·by_cases h2:dJ (a.d*b.d)
  ·rw [if_pos ⟨h1,h2⟩,if_pos h1,if_pos h2];rfl
  rw [if_neg (fun h=>h2 h.2),if_pos h1,if_neg h2];rfl
 rw [if_neg (fun h=>h1 h.1),if_neg h1];rfl
theorem aLC {a b c:Q} (h:yF a b=some c):c.d=a.d*b.d∧dJ c.n∧dJ c.d:=by
 unfold yF at h
 split at h
 ·next hf=>
  split at h
  ·next hd=>
   split at h
   ·split at h
    ·next hs=>cases h;exact ⟨rfl,hs,hd⟩
    cases h
   split at h
   ·cases h;exact ⟨rfl,Nat.le_trans (sX (Nat.sub_le _ _)) hf.2,hd⟩
   cases h;exact ⟨rfl,Nat.le_trans (sX (Nat.sub_le _ _)) hf.1,hd⟩
  cases h
 cases h
theorem aJL {a b c:Q} (h:xS a b=some c):c.d=a.d*b.d∧dJ c.n∧dJ c.d:=by
 unfold xS at h
 split at h
 ·next h1=>
  split at h
  ·next h2=>cases h;exact ⟨rfl,h1,h2⟩
  cases h
 cases h
end Go.RatM

namespace Go.Proofs.YthjedpdedjhndaaGreatDoor
open Go Go.Fw Go.NatM Go.RatM
set_option maxRecDepth 100000
set_option maxHeartbeats 99999999
def lim:List PanicEntry:=[{v:=.iface 114 (.agg #[.int .i64 2]),recovered:=false}]
def nv (q:Q):Value:=(aN q).v
theorem rZ {P:Program} {ch:List PanicEntry} {f:FuncId} {args:Array Value} {h:Array Obj} {r r':Option Value} (C:FnO P ch f args h r) (e:r=r'):FnO P ch f args h r':=e▸C
theorem mapS {o:Option Q} {q:Q} (h:o=some q):o.map nv=some (nv q):=by rw [h];rfl
theorem mapN {o:Option Q} (h:o=none):o.map nv=none:=by rw [h];rfl
theorem gT {h:Array Obj} (s:ByteArray):FnO Tryz.prog lim 68 #[.string s,.int .i64 0] h (some (.string s)):=by
 refine Fn.ofS (args:=[.string s,.int .i64 0]) Tryz.func68 (by kernel_rfl) rfl Tryz.ntmps68 rfl fun w0 cs=>?_
 conv=>whnf
 refine aBF ?_
 refine aA.retU (aB.ret tab Tryz.func68 rfl fun Ez Hz Az Sz K=>⟨rfl,K.keeps⟩)
theorem wK {h:Array Obj} (s:ByteArray):FnO Tryz.prog lim 68 #[.string s,.int .i64 2] h none:=by
 refine Fn.ofS (args:=[.string s,.int .i64 2]) Tryz.func68 (by kernel_rfl) rfl Tryz.ntmps68 rfl fun w0 cs=>?_
 conv=>whnf
 refine aBF ?_
 refine aA.panicX (v:=.agg #[.int .i64 2]) ?_ (fun _=>rfl)
 refine aB.pan Tryz.func68 fun Ez Hz Az Sz K=>⟨rfl,K.keeps⟩
theorem aWZ {h:Array Obj}:FnV Tryz.prog 42 #[.iface 114 (.agg #[.int .i64 2])] h fun r h'=>r=.int .i64 2∧aH h.size h h':=by
 refine Fn.ofS (args:=[.iface 114 (.agg #[.int .i64 2])]) Tryz.func42 (by kernel_rfl) rfl Tryz.ntmps42 rfl fun w0 cs=>?_
 conv=>whnf
 refine gS ?_;conv=>whnf
 refine aA.effV (fun E h=>xR Tryz.underlying114 (fun _ e=>by cases e)) ?_
 refine sqs ?_
 refine aA.retU (aB.ret tab Tryz.func42 rfl fun _ _ _ _ K=>⟨_,rfl,rfl,K.keeps⟩)
theorem aGW {h:Array Obj} {A C:Nat} (hA:dJ A) (hC:dJ C):FnV Tryz.prog 50 #[.string (enc A),.string (enc C)] h fun r h'=>r=.int .i64 (aHG A C)∧aH h.size h h':=by
 refine Fn.ofS (args:=[.string (enc A),.string (enc C)]) Tryz.func50 (by kernel_rfl) rfl Tryz.ntmps50 rfl fun w0 cs=>?_
 conv=>whnf
 refine gS ?_;conv=>whnf
 refine aA.callV (fun Ez Hz Az Sz K=>aRR (enc A) (enc C)) ?_
 conv=>whnf
 rw [aAQ hA hC]
 try dsimp only
 refine sqs ?_
 refine aA.callS (fun Ez Hz Az Sz K=>gT NatM.mt) ?_
 conv=>whnf
 refine sqs ?_
 refine aA.retU (aB.ret tab Tryz.func50 rfl fun _ _ _ _ K=>⟨_,rfl,rfl,K.keeps⟩)
theorem ntz {s:ByteArray} {n:Nat} (h:s=NatM.mt↔n=0):(!decide (s=⟨#[]⟩)) = !Nat.beq n 0:=by
 by_cases hz:n=0
 ·rw [decide_eq_true (h.2 hz),hz];rfl
 rw [decide_eq_false (fun e=>hz (h.1 e)),beq0 hz]
theorem aOT {h:Array Obj} (q:Q):FnV Tryz.prog 123 #[nv q] h fun r h'=>r=nv (kE q)∧aH h.size h h':=by
 obtain ⟨s,n,d⟩:=q
 refine Fn.ofS (args:=[.agg #[.bool s,.string (enc n),.string (enc d)]]) Tryz.func123 (by kernel_rfl) rfl Tryz.ntmps123 rfl fun w0 cs=>?_
 conv=>whnf
 refine gS ?_;conv=>whnf
 cases s with
 |false=>
  conv=>whnf
  refine aA.retU (aB.ret tab Tryz.func123 rfl fun Ez Hz Az Sz K=>⟨_,rfl,?_,K.keeps⟩)
  show Value.agg #[.bool (!decide (enc n=⟨#[]⟩)),.string (enc n),.string (enc d)]=nv ⟨!false && !Nat.beq n 0,n,d⟩
  rw [ntz aKY];rfl
 |true=>
  conv=>whnf
  refine aA.retU (aB.ret tab Tryz.func123 rfl fun _ _ _ _ K=>⟨_,rfl,rfl,K.keeps⟩)
theorem aSB {h:Array Obj} (q:Q):FnV Tryz.prog 127 #[nv q] h fun r h'=>r=nv (aBY q)∧aH h.size h h':=by
 refine Fn.ofS (args:=[.agg #[.bool q.neg,.string (enc q.n),.string (enc q.d)]]) Tryz.func127 (by kernel_rfl) rfl Tryz.ntmps127 rfl fun w0 cs=>?_
 conv=>whnf
 refine gS ?_;conv=>whnf
 refine aA.retU (aB.ret tab Tryz.func127 rfl fun _ _ _ _ K=>⟨_,rfl,rfl,K.keeps⟩)
theorem aIY {h:Array Obj} (q:Q) (hd:q.d≠0) (f1:nb q.n≤256) (f2:nb q.d≤256) (hT:gN h):FnV Tryz.prog 44 #[nv q] h fun r h'=>r=nv (lowQ q)∧aH h.size h h':=by
 obtain ⟨s,n,d⟩:=q
 dsimp only at hd f1 f2
 have hg:0<Nat.gcd n d:=Nat.gcd_pos_of_pos_right _ (Nat.pos_of_ne_zero hd)
 have hgf:nb (Nat.gcd n d)≤256:=Nat.le_trans (sX (Nat.gcd_le_right _ (Nat.pos_of_ne_zero hd))) f2
 have hz:enc (n/Nat.gcd n d)=NatM.mt↔n=0:=by
  rw [aKY]
  exact ⟨fun e=>Classical.byContradiction fun hn=>Nat.ne_of_gt (Nat.div_pos (Nat.le_of_dvd (Nat.pos_of_ne_zero hn) (Nat.gcd_dvd_left _ _)) hg) e,fun e=>by rw [e,Nat.zero_div]⟩
 refine Fn.ofS (args:=[.agg #[.bool s,.string (enc n),.string (enc d)]]) Tryz.func44 (by kernel_rfl) rfl Tryz.ntmps44 rfl fun w0 cs=>?_
 conv=>whnf
 refine gS ?_;conv=>whnf
 refine aA.callV (fun Ez Hz Az Sz K=>aZE (enc n) (enc d) (hT.keeps ⟨K.size,K.same⟩)) ?_
 conv=>whnf
 rw [gcd_e f1 f2]
 try dsimp only
 refine sqs ?_
 refine aA.callS (fun Ez Hz Az Sz K=>gT (enc (Nat.gcd n d))) ?_
 conv=>whnf
 refine sqs ?_
 refine aA.callV (fun Ez Hz Az Sz K=>aYP (enc n) (enc (Nat.gcd n d))) ?_
 conv=>whnf
 rw [div_e f1 hgf,if_neg (Nat.ne_of_gt hg)]
 try dsimp only
 refine sqs ?_
 refine aA.callS (fun Ez Hz Az Sz K=>gT NatM.mt) ?_
 conv=>whnf
 refine sqs ?_
 refine aA.callV (fun Ez Hz Az Sz K=>aYP (enc d) (enc (Nat.gcd n d))) ?_
 conv=>whnf
 rw [div_e f2 hgf,if_neg (Nat.ne_of_gt hg)]
 try dsimp only
 refine sqs ?_
 refine aA.callS (fun Ez Hz Az Sz K=>gT NatM.mt) ?_
 conv=>whnf
 refine sqs ?_
 cases s with
 |false=>
  conv=>whnf
  refine aA.retU (aB.ret tab Tryz.func44 rfl fun _ _ _ _ K=>⟨_,rfl,rfl,K.keeps⟩)
 |true=>
  conv=>whnf
  refine aA.retU (aB.ret tab Tryz.func44 rfl fun Ez Hz Az Sz K=>⟨_,rfl,?_,K.keeps⟩)
  show Value.agg #[.bool (!decide (enc (n/Nat.gcd n d)=⟨#[]⟩)),.string (enc (n/Nat.gcd n d)),.string (enc (d/Nat.gcd n d))]=nv ⟨true && !Nat.beq n 0,n/Nat.gcd n d,d/Nat.gcd n d⟩
  rw [ntz hz];rfl
def aSK (a b:Q):Option Value:=if dJ (a.n*b.d)∧dJ (b.n*a.d) then some (.tuple #[.string (enc (a.n*b.d)),.string (enc (b.n*a.d))]) else none
theorem sL {h:Array Obj} (a b:Q) (la:a.le 256) (lb:b.le 256):FnO Tryz.prog lim 49 #[nv a,nv b] h (aSK a b):=by
 obtain ⟨r,hr⟩:∃r,r=aSK a b:=⟨_,rfl⟩
 rw [←hr]
 unfold aSK at hr
 refine Fn.ofS (args:=[.agg #[.bool a.neg,.string (enc a.n),.string (enc a.d)],.agg #[.bool b.neg,.string (enc b.n),.string (enc b.d)]]) Tryz.func49 (by kernel_rfl) rfl Tryz.ntmps49 rfl fun w0 cs=>?_
 conv=>whnf
 refine gS ?_;conv=>whnf
 refine aA.held tab (.fl 0 (.fl 1 (.fl 2 (.fl 3 (.fl 8 (.fl 9 (.fl 10 (.fl 11 (.e1 4 [9,11] (.fl 5 (.fl 6 (.e1 7 [9,11] (.e1 12 [] (.fl 13 (.fl 14 (.e1 15 [] (.fl 16 (.fl 17 .done)))))))))))))))))) (by kernel_rfl) ?_;conv=>whnf
 refine sqr ?_
 by_cases f1:dJ (a.n*b.d)
 ·refine aK.callV (fun Ez Hz Az Sz K=>qE (enc a.n) (enc b.d)) (by (conv=>whnf);(repeat (guard_target=_∧_;refine And.intro (by (conv=>whnf);first|rfl|exact trivial) ?_;conv=>whnf));exact trivial) ?_
  conv=>whnf
  rw [xK la.1 lb.2,sF f1]
  try dsimp only
  refine sqr ?_
  refine aK.callS (fun Ez Hz Az Sz K=>gT (enc (a.n*b.d))) (by (conv=>whnf);(repeat (guard_target=_∧_;refine And.intro (by (conv=>whnf);first|rfl|exact trivial) ?_;conv=>whnf));exact trivial) ?_
  conv=>whnf
  refine sqr ?_
  by_cases f2:dJ (b.n*a.d)
  ·refine aK.callV (fun Ez Hz Az Sz K=>qE (enc b.n) (enc a.d)) (by (conv=>whnf);(repeat (guard_target=_∧_;refine And.intro (by (conv=>whnf);first|rfl|exact trivial) ?_;conv=>whnf));exact trivial) ?_
   conv=>whnf
   rw [xK lb.1 la.2,sF f2]
   try dsimp only
   refine sqr ?_
   refine aK.callS (fun Ez Hz Az Sz K=>gT (enc (b.n*a.d))) (by (conv=>whnf);(repeat (guard_target=_∧_;refine And.intro (by (conv=>whnf);first|rfl|exact trivial) ?_;conv=>whnf));exact trivial) ?_
   conv=>whnf
   refine sqr ?_
   refine sqs ?_
   rw [if_pos ⟨f1,f2⟩] at hr
   subst hr
   refine aA.retU (aB.ret tab Tryz.func49 rfl fun Ez Hz Az Sz K=>⟨rfl,K.keeps⟩)
  refine aK.callV (fun Ez Hz Az Sz K=>qE (enc b.n) (enc a.d)) (by (conv=>whnf);(repeat (guard_target=_∧_;refine And.intro (by (conv=>whnf);first|rfl|exact trivial) ?_;conv=>whnf));exact trivial) ?_
  conv=>whnf
  rw [xK lb.1 la.2,oG f2]
  try dsimp only
  refine sqr ?_
  rw [if_neg (fun h=>f2 h.2)] at hr
  subst hr
  refine aK.callF (fun Ez Hz Az Sz K=>wK NatM.mt) (by (conv=>whnf);(repeat (guard_target=_∧_;refine And.intro (by (conv=>whnf);first|rfl|exact trivial) ?_;conv=>whnf));exact trivial) ?_
  refine aB.pan Tryz.func49 fun Ez Hz Az Sz K=>⟨rfl,K.keeps⟩
 refine aK.callV (fun Ez Hz Az Sz K=>qE (enc a.n) (enc b.d)) (by (conv=>whnf);(repeat (guard_target=_∧_;refine And.intro (by (conv=>whnf);first|rfl|exact trivial) ?_;conv=>whnf));exact trivial) ?_
 conv=>whnf
 rw [xK la.1 lb.2,oG f1]
 try dsimp only
 refine sqr ?_
 rw [if_neg (fun h=>f1 h.1)] at hr
 subst hr
 refine aK.callF (fun Ez Hz Az Sz K=>wK NatM.mt) (by (conv=>whnf);(repeat (guard_target=_∧_;refine And.intro (by (conv=>whnf);first|rfl|exact trivial) ?_;conv=>whnf));exact trivial) ?_
 refine aB.pan Tryz.func49 fun Ez Hz Az Sz K=>⟨rfl,K.keeps⟩
theorem wB {h:Array Obj} (a b:Q) (la:a.le 256) (lb:b.le 256):FnO Tryz.prog lim 125 #[nv a,nv b] h ((xS a b).map nv):=by
 obtain ⟨r,hr⟩:∃r,r=(xS a b).map nv:=⟨_,rfl⟩
 rw [←hr]
 unfold xS at hr
 refine Fn.ofS (args:=[.agg #[.bool a.neg,.string (enc a.n),.string (enc a.d)],.agg #[.bool b.neg,.string (enc b.n),.string (enc b.d)]]) Tryz.func125 (by kernel_rfl) rfl Tryz.ntmps125 rfl fun w0 cs=>?_
 conv=>whnf
 refine gS ?_;conv=>whnf
 refine aA.held tab (.fl 0 (.fl 1 (.fl 2 (.fl 3 (.fl 4 (.fl 5 (.fl 6 (.fl 7 (.fl 8 (.fl 13 (.fl 14 (.fl 15 (.fl 16 (.e1 9 [1,3,14,16] (.fl 10 (.fl 11 (.e1 12 [1,3,14,16] (.e1 17 [1,3] (.fl 18 (.fl 19 (.e1 20 [1,3] (.fl 21 (.e1 22 [] .done))))))))))))))))))))))) (by kernel_rfl) ?_;conv=>whnf
 refine sqr ?_
 by_cases f1:dJ (a.n*b.n)
 ·refine aK.callV (fun Ez Hz Az Sz K=>qE (enc a.n) (enc b.n)) (by (conv=>whnf);(repeat (guard_target=_∧_;refine And.intro (by (conv=>whnf);first|rfl|exact trivial) ?_;conv=>whnf));exact trivial) ?_
  conv=>whnf
  rw [xK la.1 lb.1,sF f1]
  try dsimp only
  refine sqr ?_
  refine aK.callS (fun Ez Hz Az Sz K=>gT (enc (a.n*b.n))) (by (conv=>whnf);(repeat (guard_target=_∧_;refine And.intro (by (conv=>whnf);first|rfl|exact trivial) ?_;conv=>whnf));exact trivial) ?_
  conv=>whnf
  refine sqr ?_
  by_cases f2:dJ (a.d*b.d)
  ·refine aK.callV (fun Ez Hz Az Sz K=>qE (enc a.d) (enc b.d)) (by (conv=>whnf);(repeat (guard_target=_∧_;refine And.intro (by (conv=>whnf);first|rfl|exact trivial) ?_;conv=>whnf));exact trivial) ?_
   conv=>whnf
   rw [xK la.2 lb.2,sF f2]
   try dsimp only
   refine sqr ?_
   refine aK.callS (fun Ez Hz Az Sz K=>gT (enc (a.d*b.d))) (by (conv=>whnf);(repeat (guard_target=_∧_;refine And.intro (by (conv=>whnf);first|rfl|exact trivial) ?_;conv=>whnf));exact trivial) ?_
   conv=>whnf
   refine fA ?_
   refine sqs ?_
   rw [if_pos f1,if_pos f2] at hr
   subst hr
   refine aA.retU (aB.ret tab Tryz.func125 rfl fun Ez Hz Az Sz K=>⟨?_,K.keeps⟩)
   show Ending.returned (.agg #[.bool (!decide (a.neg=b.neg)),.string (enc (a.n*b.n)),.string (enc (a.d*b.d))])=.returned (nv ⟨a.neg != b.neg,a.n*b.n,a.d*b.d⟩)
   cases a.neg<;>cases b.neg<;>rfl
  refine aK.callV (fun Ez Hz Az Sz K=>qE (enc a.d) (enc b.d)) (by (conv=>whnf);(repeat (guard_target=_∧_;refine And.intro (by (conv=>whnf);first|rfl|exact trivial) ?_;conv=>whnf));exact trivial) ?_
  conv=>whnf
  rw [xK la.2 lb.2,oG f2]
  try dsimp only
  refine sqr ?_
  rw [if_pos f1,if_neg f2] at hr
  subst hr
  refine aK.callF (fun Ez Hz Az Sz K=>wK NatM.mt) (by (conv=>whnf);(repeat (guard_target=_∧_;refine And.intro (by (conv=>whnf);first|rfl|exact trivial) ?_;conv=>whnf));exact trivial) ?_
  refine aB.pan Tryz.func125 fun Ez Hz Az Sz K=>⟨rfl,K.keeps⟩
 refine aK.callV (fun Ez Hz Az Sz K=>qE (enc a.n) (enc b.n)) (by (conv=>whnf);(repeat (guard_target=_∧_;refine And.intro (by (conv=>whnf);first|rfl|exact trivial) ?_;conv=>whnf));exact trivial) ?_
 conv=>whnf
 rw [xK la.1 lb.1,oG f1]
 try dsimp only
 refine sqr ?_
 rw [if_neg f1] at hr
 subst hr
 refine aK.callF (fun Ez Hz Az Sz K=>wK NatM.mt) (by (conv=>whnf);(repeat (guard_target=_∧_;refine And.intro (by (conv=>whnf);first|rfl|exact trivial) ?_;conv=>whnf));exact trivial) ?_
 refine aB.pan Tryz.func125 fun Ez Hz Az Sz K=>⟨rfl,K.keeps⟩
theorem aAY {h:Array Obj} (a b:Q) (la:a.le 256) (lb:b.le 256):FnO Tryz.prog lim 121 #[nv a,nv b] h ((yF a b).map nv):=by
 obtain ⟨r,hr⟩:∃r,r=(yF a b).map nv:=⟨_,rfl⟩
 rw [←hr]
 unfold yF at hr
 refine Fn.ofS (args:=[.agg #[.bool a.neg,.string (enc a.n),.string (enc a.d)],.agg #[.bool b.neg,.string (enc b.n),.string (enc b.d)]]) Tryz.func121 (by kernel_rfl) rfl Tryz.ntmps121 rfl fun w0 cs=>?_
 conv=>whnf
 refine gS ?_;conv=>whnf
 by_cases f1:dJ (a.n*b.d)∧dJ (b.n*a.d)
 ·rw [if_pos f1] at hr
  refine aA.callS (fun Ez Hz Az Sz K=>rZ (sL a b la lb) (if_pos f1)) ?_
  conv=>whnf
  refine sqs ?_
  by_cases f2:dJ (a.d*b.d)
  ·refine aA.callV (fun Ez Hz Az Sz K=>qE (enc a.d) (enc b.d)) ?_
   conv=>whnf
   rw [xK la.2 lb.2,sF f2]
   try dsimp only
   refine sqs ?_
   rw [if_pos f2] at hr
   refine aA.callS (fun Ez Hz Az Sz K=>gT (enc (a.d*b.d))) ?_
   conv=>whnf
   refine sqs ?_
   cases hb:(a.neg==b.neg) with
   |true=>
    have hs:a.neg=b.neg:=beq_iff_eq.1 hb
    conv=>whnf
    rw [if_pos hs] at hr
    refine aA.held tab (.fl 0 (.fl 1 (.fl 2 (.fl 3 (.fl 8 (.e1 4 [1] (.fl 5 (.fl 6 (.e1 7 [1] (.fl 9 (.e1 10 [] .done))))))))))) (by kernel_rfl) ?_;conv=>whnf
    refine sqr ?_
    by_cases f3:dJ (a.n*b.d+b.n*a.d)
    ·refine aK.callV (fun Ez Hz Az Sz K=>aRX (enc (a.n*b.d)) (enc (b.n*a.d))) (by (conv=>whnf);(repeat (guard_target=_∧_;refine And.intro (by (conv=>whnf);first|rfl|exact trivial) ?_;conv=>whnf));exact trivial) ?_
     conv=>whnf
     rw [add_e f1.1 f1.2,sF f3]
     try dsimp only
     refine sqr ?_
     rw [if_pos f3] at hr
     subst hr
     refine aK.callS (fun Ez Hz Az Sz K=>gT (enc (a.n*b.d+b.n*a.d))) (by (conv=>whnf);(repeat (guard_target=_∧_;refine And.intro (by (conv=>whnf);first|rfl|exact trivial) ?_;conv=>whnf));exact trivial) ?_
     conv=>whnf
     refine fA ?_
     refine sqs ?_
     refine aA.retU (aB.ret tab Tryz.func121 rfl fun Ez Hz Az Sz K=>⟨rfl,K.keeps⟩)
    refine aK.callV (fun Ez Hz Az Sz K=>aRX (enc (a.n*b.d)) (enc (b.n*a.d))) (by (conv=>whnf);(repeat (guard_target=_∧_;refine And.intro (by (conv=>whnf);first|rfl|exact trivial) ?_;conv=>whnf));exact trivial) ?_
    conv=>whnf
    rw [add_e f1.1 f1.2,oG f3]
    try dsimp only
    refine sqr ?_
    rw [if_neg f3] at hr
    subst hr
    refine aK.callF (fun Ez Hz Az Sz K=>wK NatM.mt) (by (conv=>whnf);(repeat (guard_target=_∧_;refine And.intro (by (conv=>whnf);first|rfl|exact trivial) ?_;conv=>whnf));exact trivial) ?_
    refine aB.pan Tryz.func121 fun Ez Hz Az Sz K=>⟨rfl,K.keeps⟩
   |false=>
    have hs:¬a.neg=b.neg:=fun e=>by rw [e,beq_self_eq_true] at hb;cases hb
    conv=>whnf
    rw [if_neg hs] at hr
    refine aA.callV (fun Ez Hz Az Sz K=>aGW f1.1 f1.2) ?_
    conv=>whnf
    refine sqs ?_
    refine ⟨fun hlt=>?_,fun hlt=>?_⟩<;>conv=>whnf
    ·conv=>whnf
     have hlt:=aNB.1 hlt
     rw [if_pos hlt] at hr
     subst hr
     refine aA.held tab (.fl 0 (.fl 1 (.fl 2 (.fl 3 (.fl 8 (.e1 4 [1] (.fl 5 (.fl 6 (.e1 7 [1] (.fl 9 (.e1 10 [] .done))))))))))) (by kernel_rfl) ?_;conv=>whnf
     refine sqr ?_
     refine aK.callV (fun Ez Hz Az Sz K=>aZS (enc (b.n*a.d)) (enc (a.n*b.d))) (by (conv=>whnf);(repeat (guard_target=_∧_;refine And.intro (by (conv=>whnf);first|rfl|exact trivial) ?_;conv=>whnf));exact trivial) ?_
     conv=>whnf
     rw [sub_e f1.2 f1.1,if_neg (by omega)]
     try dsimp only
     refine sqr ?_
     refine aK.callS (fun Ez Hz Az Sz K=>gT (enc (b.n*a.d - a.n*b.d))) (by (conv=>whnf);(repeat (guard_target=_∧_;refine And.intro (by (conv=>whnf);first|rfl|exact trivial) ?_;conv=>whnf));exact trivial) ?_
     conv=>whnf
     refine fA ?_
     refine sqs ?_
     refine aA.retU (aB.ret tab Tryz.func121 rfl fun Ez Hz Az Sz K=>⟨rfl,K.keeps⟩)
    conv=>whnf
    have hlt:¬a.n*b.d<b.n*a.d:=fun h=>hlt (aNB.2 h)
    rw [if_neg hlt] at hr
    subst hr
    refine aA.held tab (.fl 0 (.fl 1 (.fl 2 (.fl 3 (.fl 8 (.e1 4 [1] (.fl 5 (.fl 6 (.e1 7 [1] (.fl 9 (.e1 10 [] .done))))))))))) (by kernel_rfl) ?_;conv=>whnf
    refine sqr ?_
    refine aK.callV (fun Ez Hz Az Sz K=>aZS (enc (a.n*b.d)) (enc (b.n*a.d))) (by (conv=>whnf);(repeat (guard_target=_∧_;refine And.intro (by (conv=>whnf);first|rfl|exact trivial) ?_;conv=>whnf));exact trivial) ?_
    conv=>whnf
    rw [sub_e f1.1 f1.2,if_neg hlt]
    try dsimp only
    refine sqr ?_
    refine aK.callS (fun Ez Hz Az Sz K=>gT (enc (a.n*b.d - b.n*a.d))) (by (conv=>whnf);(repeat (guard_target=_∧_;refine And.intro (by (conv=>whnf);first|rfl|exact trivial) ?_;conv=>whnf));exact trivial) ?_
    conv=>whnf
    refine fA ?_
    refine sqs ?_
    refine aA.retU (aB.ret tab Tryz.func121 rfl fun Ez Hz Az Sz K=>⟨rfl,K.keeps⟩)
  refine aA.callV (fun Ez Hz Az Sz K=>qE (enc a.d) (enc b.d)) ?_
  conv=>whnf
  rw [xK la.2 lb.2,oG f2]
  try dsimp only
  refine sqs ?_
  rw [if_neg f2] at hr
  subst hr
  refine aA.callF (fun Ez Hz Az Sz K=>wK NatM.mt) ?_
  refine aB.pan Tryz.func121 fun Ez Hz Az Sz K=>⟨rfl,K.keeps⟩
 rw [if_neg f1] at hr
 subst hr
 refine aA.callF (fun Ez Hz Az Sz K=>rZ (sL a b la lb) (if_neg f1)) ?_
 refine aB.pan Tryz.func121 fun Ez Hz Az Sz K=>⟨rfl,K.keeps⟩

theorem op1_fn {h:Array Obj} (a b:Q) (la:a.le 256) (lb:b.le 256):FnO Tryz.prog lim 120 #[nv a,nv b] h ((yF a b).map nv):=by
 refine Fn.ofS (args:=[.agg #[.bool a.neg,.string (enc a.n),.string (enc a.d)],.agg #[.bool b.neg,.string (enc b.n),.string (enc b.d)]]) Tryz.func120 (by kernel_rfl) rfl Tryz.ntmps120 rfl fun w0 cs=>?_
 conv=>whnf
 refine gS ?_;conv=>whnf
 cases hq:yF a b with
 |none=>
  refine aA.callF (fun Ez Hz Az Sz K=>rZ (aAY a b la lb) (mapN hq)) ?_
  refine aB.pan Tryz.func120 fun Ez Hz Az Sz K=>⟨rfl,K.keeps⟩
 |some q=>
  refine aA.callS (fun Ez Hz Az Sz K=>rZ (aAY a b la lb) (mapS hq)) ?_
  conv=>whnf
  refine sqs ?_
  refine aA.retU (aB.ret tab Tryz.func120 rfl fun Ez Hz Az Sz K=>⟨rfl,K.keeps⟩)
theorem op3_fn {h:Array Obj} (a b:Q) (la:a.le 256) (lb:b.le 256):FnO Tryz.prog lim 124 #[nv a,nv b] h ((xS a b).map nv):=by
 refine Fn.ofS (args:=[.agg #[.bool a.neg,.string (enc a.n),.string (enc a.d)],.agg #[.bool b.neg,.string (enc b.n),.string (enc b.d)]]) Tryz.func124 (by kernel_rfl) rfl Tryz.ntmps124 rfl fun w0 cs=>?_
 conv=>whnf
 refine gS ?_;conv=>whnf
 cases hq:xS a b with
 |none=>
  refine aA.callF (fun Ez Hz Az Sz K=>rZ (wB a b la lb) (mapN hq)) ?_
  refine aB.pan Tryz.func124 fun Ez Hz Az Sz K=>⟨rfl,K.keeps⟩
 |some q=>
  refine aA.callS (fun Ez Hz Az Sz K=>rZ (wB a b la lb) (mapS hq)) ?_
  conv=>whnf
  refine sqs ?_
  refine aA.retU (aB.ret tab Tryz.func124 rfl fun Ez Hz Az Sz K=>⟨rfl,K.keeps⟩)
theorem op2_fn {h:Array Obj} (a b:Q) (la:a.le 256) (lb:b.le 256):FnO Tryz.prog lim 122 #[nv a,nv b] h ((yF a (kE b)).map nv):=by
 refine Fn.ofS (args:=[.agg #[.bool a.neg,.string (enc a.n),.string (enc a.d)],.agg #[.bool b.neg,.string (enc b.n),.string (enc b.d)]]) Tryz.func122 (by kernel_rfl) rfl Tryz.ntmps122 rfl fun w0 cs=>?_
 conv=>whnf
 refine gS ?_;conv=>whnf
 refine aA.held tab (.fl 0 (.fl 1 (.e1 2 [0] (.e1 3 [] (.e1 4 [] .done))))) (by kernel_rfl) ?_;conv=>whnf
 refine sqr ?_
 refine aK.callV (fun Ez Hz Az Sz K=>aOT b) (by (conv=>whnf);(repeat (guard_target=_∧_;refine And.intro (by (conv=>whnf);first|rfl|exact trivial) ?_;conv=>whnf));exact trivial) ?_
 conv=>whnf
 refine sqr ?_
 cases hq:yF a (kE b) with
 |none=>
  refine aK.callF (fun Ez Hz Az Sz K=>rZ (aAY a (kE b) la (aLR lb)) (mapN hq)) (by (conv=>whnf);(repeat (guard_target=_∧_;refine And.intro (by (conv=>whnf);first|rfl|exact trivial) ?_;conv=>whnf));exact trivial) ?_
  refine aB.pan Tryz.func122 fun Ez Hz Az Sz K=>⟨rfl,K.keeps⟩
 |some q=>
  refine aK.callS (fun Ez Hz Az Sz K=>rZ (aAY a (kE b) la (aLR lb)) (mapS hq)) (by (conv=>whnf);(repeat (guard_target=_∧_;refine And.intro (by (conv=>whnf);first|rfl|exact trivial) ?_;conv=>whnf));exact trivial) ?_
  conv=>whnf
  refine fA ?_
  refine sqs ?_
  refine aA.retU (aB.ret tab Tryz.func122 rfl fun Ez Hz Az Sz K=>⟨rfl,K.keeps⟩)
theorem op4_fn {h:Array Obj} (a b:Q) (la:a.le 256) (lb:b.le 256):FnO Tryz.prog lim 126 #[nv a,nv b] h ((xS a (aBY b)).map nv):=by
 refine Fn.ofS (args:=[.agg #[.bool a.neg,.string (enc a.n),.string (enc a.d)],.agg #[.bool b.neg,.string (enc b.n),.string (enc b.d)]]) Tryz.func126 (by kernel_rfl) rfl Tryz.ntmps126 rfl fun w0 cs=>?_
 conv=>whnf
 refine gS ?_;conv=>whnf
 refine aA.held tab (.fl 0 (.fl 1 (.e1 2 [0] (.e1 3 [] (.e1 4 [] .done))))) (by kernel_rfl) ?_;conv=>whnf
 refine sqr ?_
 refine aK.callV (fun Ez Hz Az Sz K=>aSB b) (by (conv=>whnf);(repeat (guard_target=_∧_;refine And.intro (by (conv=>whnf);first|rfl|exact trivial) ?_;conv=>whnf));exact trivial) ?_
 conv=>whnf
 refine sqr ?_
 cases hq:xS a (aBY b) with
 |none=>
  refine aK.callF (fun Ez Hz Az Sz K=>rZ (wB a (aBY b) la (aLH lb)) (mapN hq)) (by (conv=>whnf);(repeat (guard_target=_∧_;refine And.intro (by (conv=>whnf);first|rfl|exact trivial) ?_;conv=>whnf));exact trivial) ?_
  refine aB.pan Tryz.func126 fun Ez Hz Az Sz K=>⟨rfl,K.keeps⟩
 |some q=>
  refine aK.callS (fun Ez Hz Az Sz K=>rZ (wB a (aBY b) la (aLH lb)) (mapS hq)) (by (conv=>whnf);(repeat (guard_target=_∧_;refine And.intro (by (conv=>whnf);first|rfl|exact trivial) ?_;conv=>whnf));exact trivial) ?_
  conv=>whnf
  refine fA ?_
  refine sqs ?_
  refine aA.retU (aB.ret tab Tryz.func126 rfl fun Ez Hz Az Sz K=>⟨rfl,K.keeps⟩)
def opsM:List (Value×Value):=[(.int .u8 43,.func (.func 120) #[] #[]),(.int .u8 45,.func (.func 122) #[] #[]),(.int .u8 42,.func (.func 124) #[] #[]),(.int .u8 47,.func (.func 126) #[] #[])]
abbrev opU:=Tryz.underlying125
abbrev u8U:=Tryz.underlying5
theorem opZ (w:World):(zeroValue 124).run Tryz.prog w=.ok .nilFunc w:=by rfl
theorem aJU {es:List (Value×Value)} (ks:List Int) (he:es.map Prod.fst=ks.map (Value.int .u8)) {k:Int} (h:∀x∈ks,x≠k):eW es (.int .u8 k) none:=fun p hp e=>by
 have:p.1∈ks.map (Value.int .u8):=he▸List.mem_map_of_mem hp
 obtain ⟨k',h1,h2⟩:=List.mem_map.1 this
 rw [e] at h2
 cases h2
 exact h _ h1 rfl
theorem aHQ:FnS Tryz.prog 76 0 [] [] (fun _:Unit=>True) (fun _=>.ret (.buf 0) 1 [(0,.map (.int .u8) opsM)]):=by
 refine FnS.of Tryz.func76 (by kernel_rfl) rfl Tryz.ntmps76 rfl fun E0 F h w0 cs=>?_
 conv=>whnf
 refine gS ?_;conv=>whnf
 refine aA.makeMap (.int .u8) ?_
 refine sqs ?_
 refine aA.insert opU u8U (aJU (k:=43) [] rfl (by decide)) rfl ?_
 refine sqs ?_
 refine aA.insert opU u8U (aJU (k:=45) [43] rfl (by decide)) rfl ?_
 refine sqs ?_
 refine aA.insert opU u8U (aJU (k:=42) [43,45] rfl (by decide)) rfl ?_
 refine sqs ?_
 refine aA.insert opU u8U (aJU (k:=47) [43,45,42] rfl (by decide)) rfl ?_
 refine sqs ?_
 try refine aA.retU ?_
 exact aB.ret tab Tryz.func76 rfl (eN () trivial)
/-! deferred functions -/
def limR:List PanicEntry:=[{v:=.iface 114 (.agg #[.int .i64 2]),recovered:=true}]
abbrev zC (b:Nat):Nat×Fw.Blk:=(b,.cells 35 [.v (.bool false),.v (.string ⟨#[]⟩),.v (.string ⟨#[]⟩)])
abbrev eC (b:Nat) (e:Int):Nat×Fw.Blk:=(b,.cells 36 [.v (.int .i64 e)])
abbrev RecN (g k:Nat) (l:List SV):Prop:=mW Tryz.prog g k l [] .returning (fun _:Unit=>True) (fun _=>⟨.returning,k,[]⟩)
abbrev RecP (g k:Nat) (l:List SV) (W W':SH):Prop:=mW Tryz.prog g k l W (.panicking lim) (fun _:Unit=>True) (fun _=>⟨.panicking limR,k,W'⟩)
theorem aBE:RecN 75 2 [.ptr 0 0,.ptr 1 0]∧RecN 41 2 [.ptr 0 0,.ptr 1 0]∧RecN 48 2 [.ptr 0 0,.ptr 1 0]:=by
 refine ⟨mW.of Tryz.func75 (by kernel_rfl) rfl Tryz.ntmps75 rfl fun E0 F h w0 c0 cs=>?_,mW.of Tryz.func41 (by kernel_rfl) rfl Tryz.ntmps41 rfl fun E0 F h w0 c0 cs=>?_,mW.of Tryz.func48 (by kernel_rfl) rfl Tryz.ntmps48 rfl fun E0 F h w0 c0 cs=>?_⟩
 all_goals
  refine sqs ?_
  refine aA.recoverN ?_
  refine sqs ?_
  refine aA.effV (fun E h=>pG Tryz.underlying20) ?_
  refine sqs ?_
  refine aA.finU (aB.retD tab (by first|exact Tryz.func75|exact Tryz.func41|exact Tryz.func48) rfl (zJ.mk () trivial [] trivial rfl rfl rfl))
theorem aZJ:RecP 75 2 [.ptr 0 0,.ptr 1 0] [zC 0,eC 1 0] [zC 0,eC 1 2]∧RecP 41 2 [.ptr 0 0,.ptr 1 0] [zC 0,eC 1 0] [zC 0,eC 1 2]∧RecP 48 2 [.ptr 0 0,.ptr 1 0] [(0,.cells 3 [.v (.int .i64 0)]),eC 1 0] [(0,.cells 3 [.v (.int .i64 0)]),eC 1 2]:=by
 refine ⟨mW.of Tryz.func75 (by kernel_rfl) rfl Tryz.ntmps75 rfl fun E0 F h w0 c0 cs=>?_,mW.of Tryz.func41 (by kernel_rfl) rfl Tryz.ntmps41 rfl fun E0 F h w0 c0 cs=>?_,mW.of Tryz.func48 (by kernel_rfl) rfl Tryz.ntmps48 rfl fun E0 F h w0 c0 cs=>?_⟩
 all_goals
  refine sqs ?_
  refine aA.recoverP ?_
  refine sqs ?_
  refine aA.callV (fun Ez Hz Az Sz K=>aWZ) ?_
  conv=>whnf
  refine sqs ?_
  refine aA.finU (aB.retD tab (by first|exact Tryz.func75|exact Tryz.func41|exact Tryz.func48) rfl (zJ.mk () trivial [] ⟨by rfl,by rfl,trivial⟩ rfl rfl rfl))
/-! Check -/
theorem aUR:enc 1=⟨#[1]⟩:=by decide +kernel
theorem uQ {k:Nat}:(enc k=⟨#[1]⟩)↔k=1:=by rw [←aUR,bCL]
theorem aWT {s:Bool} {n d:ByteArray} (e1:chk [n]=0) (e2:chk [d]=0):(eJ d=0↔d=⟨#[]⟩)∧(eJ n=0↔n=⟨#[]⟩)∧gcdS n d=(enc (Nat.gcd (eJ n) (eJ d)),0):=by
 have c1:=eV e1 (s:=n) (by simp)
 have c2:=eV e2 (s:=d) (by simp)
 have z:∀ {x:ByteArray},vX x→(eJ x=0↔x=⟨#[]⟩):=fun {x} hx=>⟨fun e=>Classical.byContradiction fun hne=>aUW hx (fun e=>hne (aKB.2 e)) e,fun e=>by rw [e];rfl⟩
 refine ⟨z c2.1,z c1.1,?_⟩
 have:=gcd_e (A:=eJ n) (C:=eJ d) (by rw [sQ c1.1];exact c1.2) (by rw [sQ c2.1];exact c2.2)
 rw [zK c1.1,zK c2.1] at this
 exact this
theorem pB {h:Array Obj} (a:Rt) (hT:gN h):FnV Tryz.prog 47 #[a.v] h fun r h'=>r=.int .i64 (chkR a)∧aH h.size h h':=by
 obtain ⟨s,n,d⟩:=a
 obtain ⟨r,hr⟩:∃r,r=chkR ⟨s,n,d⟩:=⟨_,rfl⟩
 rw [←hr]
 unfold chkR at hr
 refine Fn.ofS (args:=[.agg #[.bool s,.string n,.string d]]) Tryz.func47 (by kernel_rfl) rfl Tryz.ntmps47 rfl fun w0 cs=>?_
 conv=>whnf
 refine gS ?_;conv=>whnf
 refine aA.callV (fun Ez Hz Az Sz K=>aMR n) ?_
 conv=>whnf
 refine sqs ?_
 refine ⟨fun e1=>?_,fun e1=>?_⟩<;>conv=>whnf
 rotate_left
 ·conv=>whnf
  rw [if_neg (fun o=>e1 o.1)] at hr
  subst hr
  refine aA.retU (aB.ret tab Tryz.func47 rfl fun _ _ _ _ K=>⟨_,rfl,rfl,K.keeps⟩)
 conv=>whnf
 refine aA.callV (fun Ez Hz Az Sz K=>aMR d) ?_
 conv=>whnf
 refine sqs ?_
 refine ⟨fun e2=>?_,fun e2=>?_⟩<;>conv=>whnf
 rotate_left
 ·conv=>whnf
  rw [if_neg (fun o=>e2 o.2.1)] at hr
  subst hr
  refine aA.retU (aB.ret tab Tryz.func47 rfl fun _ _ _ _ K=>⟨_,rfl,rfl,K.keeps⟩)
 conv=>whnf
 obtain ⟨zd,zn,eg⟩:=aWT (s:=s) e1 e2
 refine ⟨fun e3=>?_,fun e3=>?_⟩<;>conv=>whnf
 ·conv=>whnf
  rw [if_neg (fun o=>o.2.2.1 (zd.2 e3))] at hr
  subst hr
  refine aA.retU (aB.ret tab Tryz.func47 rfl fun _ _ _ _ K=>⟨_,rfl,rfl,K.keeps⟩)
 conv=>whnf
 refine aA.callV (fun Ez Hz Az Sz K=>aZE n d (hT.keeps ⟨K.size,K.same⟩)) ?_
 conv=>whnf
 rw [eg]
 try dsimp only
 refine sqs ?_
 refine ⟨fun e4=>?_,fun e4=>?_⟩<;>conv=>whnf
 rotate_left
 ·conv=>whnf
  rw [if_neg (fun o=>e4 (uQ.2 o.2.2.2.1))] at hr
  subst hr
  refine aA.retU (aB.ret tab Tryz.func47 rfl fun _ _ _ _ K=>⟨_,rfl,rfl,K.keeps⟩)
 cases s with
 |false=>
  conv=>whnf
  rw [if_pos ⟨e1,e2,fun e=>e3 (zd.1 e),uQ.1 e4,fun o=>by cases o.1⟩] at hr
  subst hr
  refine aA.retU (aB.ret tab Tryz.func47 rfl fun _ _ _ _ K=>⟨_,rfl,rfl,K.keeps⟩)
 |true=>
  conv=>whnf
  refine ⟨fun e5=>?_,fun e5=>?_⟩<;>conv=>whnf
  ·conv=>whnf
   rw [if_neg (fun o=>o.2.2.2.2 ⟨rfl,zn.2 e5⟩)] at hr
   subst hr
   refine aA.retU (aB.ret tab Tryz.func47 rfl fun _ _ _ _ K=>⟨_,rfl,rfl,K.keeps⟩)
  conv=>whnf
  rw [if_pos ⟨e1,e2,fun e=>e3 (zd.1 e),uQ.1 e4,fun o=>e5 (zn.1 o.2)⟩] at hr
  subst hr
  refine aA.retU (aB.ret tab Tryz.func47 rfl fun _ _ _ _ K=>⟨_,rfl,rfl,K.keeps⟩)

def aFL (k:Int) (f:Q→Q→Option Q) (a b:Rt):Rt×Int:=
 if okR a∧okR b then (if k=47∧eJ b.n=0 then (zr,71) else resR ((f (sZ a) (sZ b)).map lowQ)) else (zr,70)
def rev (p:Rt×Int):Value:=.tuple #[p.1.v,.int .i64 p.2]
theorem nY {h:Array Obj} {k:Int} {g:FuncId} {f:Q→Q→Option Q} (a b:Rt) (hT:gN h) (hf:eW opsM (.int .u8 k) (some (.func (.func g) #[] #[])))
  (hg:∀(h:Array Obj) (a b:Q),a.le 256→b.le 256→FnO Tryz.prog lim g #[nv a,nv b] h ((f a b).map nv))
  (hd:∀a b c:Q,a.Ok→b.Ok → ¬(k=47∧b.n=0)→f a b=some c→c.d≠0∧dJ c.n∧dJ c.d):
  FnV Tryz.prog 46 #[.int .u8 k,a.v,b.v] h fun r h'=>r=rev (aFL k f a b)∧aH h.size h h':=by
 obtain ⟨r,hr⟩:∃r,r=aFL k f a b:=⟨_,rfl⟩
 rw [←hr]
 unfold aFL at hr
 refine Fn.ofS (args:=[.int .u8 k,.agg #[.bool a.neg,.string a.n,.string a.d],.agg #[.bool b.neg,.string b.n,.string b.d]]) Tryz.func46 (by kernel_rfl) rfl Tryz.ntmps46 rfl fun w0 cs=>?_
 conv=>whnf
 refine gS ?_;conv=>whnf
 refine aA.callV (fun Ez Hz Az Sz K=>pB a (hT.keeps ⟨K.size,K.same⟩)) ?_
 conv=>whnf
 refine sqs ?_
 refine ⟨fun o1=>?_,fun o1=>?_⟩<;>conv=>whnf
 rotate_left
 ·conv=>whnf
  rw [if_neg (fun o=>o1 (iL.2 o.1))] at hr
  subst hr
  refine aA.retU (aB.ret tab Tryz.func46 rfl fun _ _ _ _ K=>⟨_,rfl,rfl,K.keeps⟩)
 conv=>whnf
 refine aA.callV (fun Ez Hz Az Sz K=>pB b (hT.keeps ⟨K.size,K.same⟩)) ?_
 conv=>whnf
 refine sqs ?_
 refine ⟨fun o2=>?_,fun o2=>?_⟩<;>conv=>whnf
 rotate_left
 ·conv=>whnf
  rw [if_neg (fun o=>o2 (iL.2 o.2))] at hr
  subst hr
  refine aA.retU (aB.ret tab Tryz.func46 rfl fun _ _ _ _ K=>⟨_,rfl,rfl,K.keeps⟩)
 have o1:=iL.1 o1
 have o2:=iL.1 o2
 rw [if_pos ⟨o1,o2⟩] at hr
 obtain ⟨p,rfl,pa,la⟩:=uS o1
 obtain ⟨q,rfl,pb,lb⟩:=uS o2
 rw [gB,gB,show eJ (aN q).n=q.n from eA _] at hr
 refine ⟨fun z1=>?_,fun z1=>?_⟩<;>conv=>whnf
 refine ⟨fun z2=>?_,fun z2=>?_⟩<;>conv=>whnf
 ·conv=>whnf
  rw [if_pos ⟨z1,aKY.1 z2⟩] at hr
  subst hr
  refine aA.retU (aB.ret tab Tryz.func46 rfl fun _ _ _ _ K=>⟨_,rfl,rfl,K.keeps⟩)
 all_goals
  have hz:¬(k=47∧q.n=0):=by first|exact fun o=>z2 (aKY.2 o.2)|exact fun o=>z1 o.1
  rw [if_neg hz] at hr
  conv=>whnf
  refine aA.deferU ?_
  refine sqs ?_
  refine aA.held tab (.fl 1 (.fl 3 (.fl 4 (.fl 5 (.fl 6 (.fl 7 (.fl 8 (.fl 9 (.fl 10 (.fl 11 (.fl 12 (.fl 13 (.fl 14 (.fl 15 (.fl 16 (.e1 0 [4,6,8,9,11,13,15,16] (.e1 2 [4,6,8,9,11,13,15,16] (.e1 17 [] (.e1 18 [] (.e1 19 [] (.e1 20 [] .done))))))))))))))))))))) (by kernel_rfl) ?_;conv=>whnf
  refine sqr ?_
  refine aK.callN (aHQ) [] ?_ sH ?_
  rotate_left
  ·rfl
  intro _ _
  conv=>whnf
  try refine oB ?_
  refine sqr ?_
  refine aK.lookup (some (.func (.func g) #[] #[])) opU u8U opZ (hf) (by (conv=>whnf);(repeat (guard_target=_∧_;refine And.intro (by (conv=>whnf);first|rfl|exact trivial) ?_;conv=>whnf));exact trivial) ?_
  conv=>whnf
  refine sqr ?_
  cases hq:f p q with
  |none=>
   rw [hq] at hr
   subst hr
   refine aK.callF (fun Ez Hz Az Sz K=>rZ (hg Hz p q la lb) (mapN hq)) (by (conv=>whnf);(repeat (guard_target=_∧_;refine And.intro (by (conv=>whnf);first|rfl|exact trivial) ?_;conv=>whnf));exact trivial) ?_
   refine aB.deferN aZJ.1 [2,3] ?_ ⟨by rfl,by rfl,trivial⟩ rfl (fun e=>by cases e)
   intro _ _
   conv=>whnf
   exact aB.ret tab Tryz.func46 rfl fun _ _ _ _ K=>⟨_,rfl,rfl,K.keeps⟩
  |some c=>
   obtain ⟨c1,c2,c3⟩:=hd p q c pa pb hz hq
   rw [hq] at hr
   subst hr
   refine aK.callS (fun Ez Hz Az Sz K=>rZ (hg Hz p q la lb) (mapS hq)) (by (conv=>whnf);(repeat (guard_target=_∧_;refine And.intro (by (conv=>whnf);first|rfl|exact trivial) ?_;conv=>whnf));exact trivial) ?_
   conv=>whnf
   refine sqr ?_
   refine aK.callV (fun Ez Hz Az Sz K=>aIY c c1 c2 c3 (hT.keeps ⟨K.size,K.same⟩)) (by (conv=>whnf);(repeat (guard_target=_∧_;refine And.intro (by (conv=>whnf);first|rfl|exact trivial) ?_;conv=>whnf));exact trivial) ?_
   conv=>whnf
   refine fA ?_
   refine sqs ?_
   refine aA.retU ?_
   refine aB.deferN aBE.1 [2,3] ?_ trivial rfl (fun e=>by cases e)
   intro _ _
   conv=>whnf
   exact aB.ret tab Tryz.func46 rfl fun _ _ _ _ K=>⟨_,rfl,rfl,K.keeps⟩
theorem nU {h:Array Obj} (a b:Rt) (hT:gN h):FnV Tryz.prog 20 #[a.v,b.v] h fun r h'=>r=rev (xC a b)∧aH h.size h h':=by
 have heq:aFL 43 (fun a b=>yF a b) a b=xC a b:=by unfold aFL xC opR;simp [←aMK]
 rw [←heq]
 refine Fn.ofS (args:=[.agg #[.bool a.neg,.string a.n,.string a.d],.agg #[.bool b.neg,.string b.n,.string b.d]]) Tryz.func20 (by kernel_rfl) rfl Tryz.ntmps20 rfl fun w0 cs=>?_
 conv=>whnf
 refine gS ?_;conv=>whnf
 refine aA.callV (fun Ez Hz Az Sz K=>nY (k:=43) (g:=120) (f:=fun a b=>yF a b) a b (hT.keeps ⟨K.size,K.same⟩) ⟨⟨_,.head _,rfl⟩,by simp [opsM]⟩ (fun h a b la lb=>op1_fn a b la lb) (fun a b c ha hb hz e=>⟨by rw [(aLC e).1];exact Nat.mul_ne_zero ha.1 hb.1,(aLC e).2⟩)) ?_
 conv=>whnf
 refine sqs ?_
 refine aA.retU (aB.ret tab Tryz.func20 rfl fun _ _ _ _ K=>⟨_,rfl,rfl,K.keeps⟩)
theorem aDV {h:Array Obj} (a b:Rt) (hT:gN h):FnV Tryz.prog 40 #[a.v,b.v] h fun r h'=>r=rev (subR a b)∧aH h.size h h':=by
 have heq:aFL 45 (fun a b=>yF a (kE b)) a b=subR a b:=by unfold aFL subR opR subL;simp [←aMK]
 rw [←heq]
 refine Fn.ofS (args:=[.agg #[.bool a.neg,.string a.n,.string a.d],.agg #[.bool b.neg,.string b.n,.string b.d]]) Tryz.func40 (by kernel_rfl) rfl Tryz.ntmps40 rfl fun w0 cs=>?_
 conv=>whnf
 refine gS ?_;conv=>whnf
 refine aA.callV (fun Ez Hz Az Sz K=>nY (k:=45) (g:=122) (f:=fun a b=>yF a (kE b)) a b (hT.keeps ⟨K.size,K.same⟩) ⟨⟨_,.tail _ (.head _),rfl⟩,by simp [opsM]⟩ (fun h a b la lb=>op2_fn a b la lb) (fun a b c ha hb hz e=>⟨by rw [(aLC e).1];exact Nat.mul_ne_zero ha.1 hb.1,(aLC e).2⟩)) ?_
 conv=>whnf
 refine sqs ?_
 refine aA.retU (aB.ret tab Tryz.func40 rfl fun _ _ _ _ K=>⟨_,rfl,rfl,K.keeps⟩)
theorem nT {h:Array Obj} (a b:Rt) (hT:gN h):FnV Tryz.prog 39 #[a.v,b.v] h fun r h'=>r=rev (fI a b)∧aH h.size h h':=by
 have heq:aFL 42 (fun a b=>xS a b) a b=fI a b:=by unfold aFL fI opR;simp [←aPA]
 rw [←heq]
 refine Fn.ofS (args:=[.agg #[.bool a.neg,.string a.n,.string a.d],.agg #[.bool b.neg,.string b.n,.string b.d]]) Tryz.func39 (by kernel_rfl) rfl Tryz.ntmps39 rfl fun w0 cs=>?_
 conv=>whnf
 refine gS ?_;conv=>whnf
 refine aA.callV (fun Ez Hz Az Sz K=>nY (k:=42) (g:=124) (f:=fun a b=>xS a b) a b (hT.keeps ⟨K.size,K.same⟩) ⟨⟨_,.tail _ (.tail _ (.head _)),rfl⟩,by simp [opsM]⟩ (fun h a b la lb=>op3_fn a b la lb) (fun a b c ha hb hz e=>⟨by rw [(aJL e).1];exact Nat.mul_ne_zero ha.1 hb.1,(aJL e).2⟩)) ?_
 conv=>whnf
 refine sqs ?_
 refine aA.retU (aB.ret tab Tryz.func39 rfl fun _ _ _ _ K=>⟨_,rfl,rfl,K.keeps⟩)
theorem qDiv_fn {h:Array Obj} (a b:Rt) (hT:gN h):FnV Tryz.prog 119 #[a.v,b.v] h fun r h'=>r=rev (aLG a b)∧aH h.size h h':=by
 have heq:aFL 47 (fun a b=>xS a (aBY b)) a b=aLG a b:=by unfold aFL aLG;simp [←aPA]
 rw [←heq]
 refine Fn.ofS (args:=[.agg #[.bool a.neg,.string a.n,.string a.d],.agg #[.bool b.neg,.string b.n,.string b.d]]) Tryz.func119 (by kernel_rfl) rfl Tryz.ntmps119 rfl fun w0 cs=>?_
 conv=>whnf
 refine gS ?_;conv=>whnf
 refine aA.callV (fun Ez Hz Az Sz K=>nY (k:=47) (g:=126) (f:=fun a b=>xS a (aBY b)) a b (hT.keeps ⟨K.size,K.same⟩) ⟨⟨_,.tail _ (.tail _ (.tail _ (.head _))),rfl⟩,by simp [opsM]⟩ (fun h a b la lb=>op4_fn a b la lb) (fun a b c ha hb hz e=>⟨by rw [(aJL e).1];exact Nat.mul_ne_zero ha.1 (fun e=>hz ⟨rfl,e⟩),(aJL e).2⟩)) ?_
 conv=>whnf
 refine sqs ?_
 refine aA.retU (aB.ret tab Tryz.func119 rfl fun _ _ _ _ K=>⟨_,rfl,rfl,K.keeps⟩)

theorem fit8 {V:Nat} (h:V≤9223372036854775808):nb V≤8:=aFJ (by rw [show (256:Nat)^8=18446744073709551616 by decide];omega)
theorem aIV {h:Array Obj} (n:Int) (hn: -9223372036854775808≤n∧n≤9223372036854775807):FnV Tryz.prog 43 #[.int .i64 n] h fun r h'=>r=.string (enc n.natAbs)∧aH h.size h h':=by
 refine Fn.ofS (args:=[.int .i64 n]) Tryz.func43 (by kernel_rfl) rfl Tryz.ntmps43 rfl fun w0 cs=>?_
 conv=>whnf
 refine gS ?_;conv=>whnf
 refine ⟨fun h0=>?_,fun h0=>?_⟩<;>conv=>whnf
 ·conv=>whnf
  refine aA.callV (fun Ez Hz Az Sz K=>Of_fn n hn.2) ?_
  conv=>whnf
  rw [show ofS n=(enc n.natAbs,0) by unfold ofS;rw [if_neg (by omega),show n.toNat=n.natAbs by omega]]
  try dsimp only
  refine sqs ?_
  refine aA.callS (fun Ez Hz Az Sz K=>gT (enc n.natAbs)) ?_
  conv=>whnf
  refine sqs ?_
  refine aA.retU (aB.ret tab Tryz.func43 rfl fun _ _ _ _ K=>⟨_,rfl,rfl,K.keeps⟩)
 refine dB ?_
 refine aA.callV (fun Ez Hz Az Sz K=>Of_fn (0 - (n+1)) (by omega)) ?_
 conv=>whnf
 rw [show ofS (0 - (n+1))=(enc (n.natAbs - 1),0) by unfold ofS;rw [if_neg (by omega),show (0 - (n+1)).toNat=n.natAbs - 1 by omega]]
 try dsimp only
 refine sqs ?_
 refine aA.callS (fun Ez Hz Az Sz K=>gT (enc (n.natAbs - 1))) ?_
 conv=>whnf
 refine sqs ?_
 have f1:=fit8 (V:=n.natAbs - 1) (by omega)
 have f2:=fit8 (V:=1) (by omega)
 have f3:=fit8 (V:=n.natAbs - 1+1) (by omega)
 refine aA.callV (fun Ez Hz Az Sz K=>aRX (enc (n.natAbs - 1)) ⟨#[1]⟩) ?_
 conv=>whnf
 rw [←aUR,add_e (by omega) (by omega),sF (by omega),show n.natAbs - 1+1=n.natAbs by omega]
 try dsimp only
 refine sqs ?_
 refine aA.callS (fun Ez Hz Az Sz K=>gT (enc n.natAbs)) ?_
 conv=>whnf
 refine sqs ?_
 refine aA.retU (aB.ret tab Tryz.func43 rfl fun _ _ _ _ K=>⟨_,rfl,rfl,K.keeps⟩)
theorem iC {h:Array Obj} (n d:Int) (hn: -9223372036854775808≤n∧n≤9223372036854775807) (hd: -9223372036854775808≤d∧d≤9223372036854775807) (hT:gN h):
  FnV Tryz.prog 18 #[.int .i64 n,.int .i64 d] h fun r h'=>r=rev (eU n d)∧aH h.size h h':=by
 refine Fn.ofS (args:=[.int .i64 n,.int .i64 d]) Tryz.func18 (by kernel_rfl) rfl Tryz.ntmps18 rfl fun w0 cs=>?_
 conv=>whnf
 refine gS ?_;conv=>whnf
 refine ⟨fun z=>?_,fun z=>?_⟩<;>conv=>whnf
 ·conv=>whnf
  refine aA.retU (aB.ret tab Tryz.func18 rfl fun Ez Hz Az Sz K=>⟨_,rfl,?_,K.keeps⟩)
  unfold eU;rw [if_pos z];rfl
 conv=>whnf
 refine aA.deferU ?_
 refine sqs ?_
 refine aA.callV (fun Ez Hz Az Sz K=>aIV n hn) ?_
 conv=>whnf
 refine sqs ?_
 refine aA.callV (fun Ez Hz Az Sz K=>aIV d hd) ?_
 conv=>whnf
 refine sqs ?_
 have f1:=fit8 (V:=n.natAbs) (by omega)
 have f2:=fit8 (V:=d.natAbs) (by omega)
 refine aA.callV (fun Ez Hz Az Sz K=>aIY ⟨decide (n<0) != decide (d<0),n.natAbs,d.natAbs⟩ (by show d.natAbs≠0;omega) (by show nb n.natAbs≤256;omega) (by show nb d.natAbs≤256;omega) (hT.keeps ⟨K.size,K.same⟩)) ?_
 conv=>whnf
 refine sqs ?_
 refine aA.retU ?_
 refine aB.deferN aBE.2.1 [0,1] ?_ trivial rfl (fun e=>by cases e)
 intro _ _
 conv=>whnf
 exact aB.ret tab Tryz.func18 rfl fun Ez Hz Az Sz K=>⟨_,rfl,by rw [wW z];rfl,K.keeps⟩

def iev2 (p:Int×Int):Value:=.tuple #[.int .i64 p.1,.int .i64 p.2]
theorem pR {h:Array Obj} (a b:Rt) (hT:gN h):FnV Tryz.prog 23 #[a.v,b.v] h fun r h'=>r=iev2 (lE a b)∧aH h.size h h':=by
 obtain ⟨r,hr⟩:∃r,r=lE a b:=⟨_,rfl⟩
 rw [←hr]
 unfold lE at hr
 refine Fn.ofS (args:=[.agg #[.bool a.neg,.string a.n,.string a.d],.agg #[.bool b.neg,.string b.n,.string b.d]]) Tryz.func23 (by kernel_rfl) rfl Tryz.ntmps23 rfl fun w0 cs=>?_
 conv=>whnf
 refine gS ?_;conv=>whnf
 refine aA.callV (fun Ez Hz Az Sz K=>pB a (hT.keeps ⟨K.size,K.same⟩)) ?_
 conv=>whnf
 refine sqs ?_
 refine ⟨fun o1=>?_,fun o1=>?_⟩<;>conv=>whnf
 rotate_left
 ·conv=>whnf
  rw [if_neg (fun o=>o1 (iL.2 o.1))] at hr
  subst hr
  refine aA.retU (aB.ret tab Tryz.func23 rfl fun _ _ _ _ K=>⟨_,rfl,rfl,K.keeps⟩)
 conv=>whnf
 refine aA.callV (fun Ez Hz Az Sz K=>pB b (hT.keeps ⟨K.size,K.same⟩)) ?_
 conv=>whnf
 refine sqs ?_
 refine ⟨fun o2=>?_,fun o2=>?_⟩<;>conv=>whnf
 rotate_left
 ·conv=>whnf
  rw [if_neg (fun o=>o2 (iL.2 o.2))] at hr
  subst hr
  refine aA.retU (aB.ret tab Tryz.func23 rfl fun _ _ _ _ K=>⟨_,rfl,rfl,K.keeps⟩)
 have o1:=iL.1 o1
 have o2:=iL.1 o2
 rw [if_pos ⟨o1,o2⟩] at hr
 obtain ⟨⟨s,n,d⟩,rfl,pa,la⟩:=uS o1
 obtain ⟨⟨t,m,e⟩,rfl,pb,lb⟩:=uS o2
 rw [gB,gB] at hr
 conv=>whnf
 refine aA.deferU ?_
 refine sqs ?_
 by_cases hf:dJ (n*e)∧dJ (m*d)
 ·rw [if_pos hf] at hr
  refine aA.callS (fun Ez Hz Az Sz K=>rZ (sL ⟨s,n,d⟩ ⟨t,m,e⟩ la lb) (if_pos hf)) ?_
  conv=>whnf
  refine sqs ?_
  cases s<;>cases t
  ·conv=>whnf
   refine aA.callV (fun Ez Hz Az Sz K=>aGW hf.1 hf.2) ?_
   conv=>whnf
   refine sqs ?_
   subst hr
   refine aA.retU ?_
   refine aB.deferN aBE.2.2 [2,3] ?_ trivial rfl (fun e=>by cases e)
   intro _ _
   conv=>whnf
   exact aB.ret tab Tryz.func23 rfl fun _ _ _ _ K=>⟨_,rfl,rfl,K.keeps⟩
  ·conv=>whnf
   subst hr
   refine aA.retU ?_
   refine aB.deferN aBE.2.2 [2,3] ?_ trivial rfl (fun e=>by cases e)
   intro _ _
   conv=>whnf
   exact aB.ret tab Tryz.func23 rfl fun _ _ _ _ K=>⟨_,rfl,rfl,K.keeps⟩
  ·conv=>whnf
   subst hr
   refine aA.retU ?_
   refine aB.deferN aBE.2.2 [2,3] ?_ trivial rfl (fun e=>by cases e)
   intro _ _
   conv=>whnf
   exact aB.ret tab Tryz.func23 rfl fun _ _ _ _ K=>⟨_,rfl,rfl,K.keeps⟩
  conv=>whnf
  refine aA.callV (fun Ez Hz Az Sz K=>aGW hf.2 hf.1) ?_
  conv=>whnf
  refine sqs ?_
  subst hr
  refine aA.retU ?_
  refine aB.deferN aBE.2.2 [2,3] ?_ trivial rfl (fun e=>by cases e)
  intro _ _
  conv=>whnf
  exact aB.ret tab Tryz.func23 rfl fun _ _ _ _ K=>⟨_,rfl,rfl,K.keeps⟩
 rw [if_neg hf] at hr
 subst hr
 refine aA.callF (fun Ez Hz Az Sz K=>rZ (sL ⟨s,n,d⟩ ⟨t,m,e⟩ la lb) (if_neg hf)) ?_
 refine aB.deferN aZJ.2.2 [2,3] ?_ ⟨by rfl,by rfl,trivial⟩ rfl (fun e=>by cases e)
 intro _ _
 conv=>whnf
 exact aB.ret tab Tryz.func23 rfl fun _ _ _ _ K=>⟨_,rfl,rfl,K.keeps⟩


def aQE (a:Rt):List Value:=[.bool a.neg,.string a.n,.string a.d]
def kV (l:List Rt):List (List Value):=l.map aQE
theorem aBO (l:List Rt):(kV l).length=l.length:=by simp [kV]
theorem aCD {l:List Rt} {k:Nat} (hk:k<l.length):(kV l)[((k:Int)).toNat]? = some (aQE l[k]):=by simp [kV,hk]
theorem vD {α:Type} {p:α→Prop} {l:List α} {k:Nat} (hk:k<l.length) (h:∀a∈l.take k,p a) (hp:p l[k]):∀a∈l.take (k+1),p a:=fun a ha=>by
 rw [List.take_add_one,List.getElem?_eq_getElem hk] at ha
 simp only [Option.toList,List.mem_append,List.mem_singleton] at ha
 rcases ha with ha|ha
 ·exact h a ha
 rw [ha];exact hp
theorem aZK {h:Array Obj} (l:List Rt) {v:Value} (hv:Ro h v 3 (kV l)) (hT:gN h):FnV Tryz.prog 58 #[v] h fun r h'=>r=rev (aHO l)∧aH h.size h h':=by
 have hl:=aBO l
 have hm:=hv.len
 obtain ⟨r,hr⟩:∃r,r=aHO l:=⟨_,rfl⟩
 rw [←hr]
 unfold aHO at hr
 refine Fn.ofG (mJ [v]) 1 [.buf 0] [(0,.ro (3) (kV l))] (fun k=>k<_) Tryz.func58 (by kernel_rfl) rfl Tryz.ntmps58 rfl (fun _ hk=>hk) (Sat.ros (vs:=[v]) (l:=[(3,kV l)]) ⟨hv,trivial⟩) fun w0 cs=>?_
 conv=>whnf
 refine gS ?_;conv=>whnf
 refine aA.subR [] (aA.loop (fun (k:Nat)=>[(10,.v (.int .i64 k)),(9,.v (.int .i64 (kV l).length)),(8,.buf 0),(2,.ptr 1 0),(0,.buf 0)]) (fun (k:Nat)=>[(1,.cells 35 [.v (.bool false),.v (.string ⟨#[]⟩),.v (.string ⟨#[]⟩)]),(0,.ro 3 (kV l))]) 2 (fun (k:Nat)=>k≤l.length ∧ ∀a∈l.take k,okR a) (fun (k:Nat)=>l.length - k) ?round1 (0) ?J01) sH sH
 case J01=>exact (⟨by omega,by simp⟩)
 rintro k hJ back
 try dsimp only at hJ back
 conv=>whnf
 try dsimp only
 refine gS ?_;conv=>whnf
 refine ⟨fun hk=>?_,fun hk=>?_⟩<;>conv=>whnf
 ·have hk:k<l.length:=by omega
  refine cG ?_
  refine ⟨_,aCD hk,?_⟩;conv=>whnf
  try (refine oN ?_;conv=>whnf)
  refine aA.callV (fun Ez Hz Az Sz K=>pB l[k] (hT.keeps ⟨K.size,K.same⟩)) ?_
  conv=>whnf
  refine sqs ?_
  refine ⟨fun o1=>?_,fun o1=>?_⟩<;>conv=>whnf
  ·refine cG ?_
   have o1:=iL.1 o1
   refine aA.subR [] (back (k+1) (by exact (⟨by omega,vD hk hJ.2 o1⟩)) (by (try dsimp only);omega)) sH sH
  conv=>whnf
  rw [if_neg (fun o=>o1 (iL.2 (o _ (List.getElem_mem hk))))] at hr
  subst hr
  refine aA.retU (aB.ret tab Tryz.func58 rfl fun _ _ _ _ K=>⟨_,rfl,rfl,K.keeps⟩)
 have hk:k=l.length:=by omega
 have hall:∀a∈l,okR a:=by have:=hJ.2;rw [hk,List.take_length] at this;exact this
 rw [if_pos hall] at hr
 conv=>whnf
 refine aA.subR [] (aA.loop (fun (⟨k,acc⟩:Nat×Rt)=>[(22,.v (.int .i64 k)),(21,.v (.int .i64 (kV l).length)),(20,.buf 0),(2,.ptr 1 0),(0,.buf 0)]) (fun (⟨k,acc⟩:Nat×Rt)=>[(1,.cells 35 [.v (.bool acc.neg),.v (.string acc.n),.v (.string acc.d)]),(0,.ro 3 (kV l))]) 2 (fun (⟨k,acc⟩:Nat×Rt)=>k≤l.length∧r=sumF (l.drop k) acc) (fun (⟨k,acc⟩:Nat×Rt)=>l.length - k) ?round3 ((0,aLK)) ?J03) sH sH
 case J03=>exact (⟨by omega,by rw [hr];rfl⟩)
 rintro ⟨k,acc⟩ hJ back
 try dsimp only at hJ back
 conv=>whnf
 try dsimp only
 refine gS ?_;conv=>whnf
 refine ⟨fun hk=>?_,fun hk=>?_⟩<;>conv=>whnf
 ·have hk:k<l.length:=by omega
  have hd:l.drop k=l[k]::l.drop (k+1):=List.drop_eq_getElem_cons hk
  rw [hd] at hJ
  unfold sumF at hJ
  refine cG ?_
  refine ⟨_,aCD hk,?_⟩;conv=>whnf
  try (refine oN ?_;conv=>whnf)
  refine aA.callV (fun Ez Hz Az Sz K=>nU acc l[k] (hT.keeps ⟨K.size,K.same⟩)) ?_
  conv=>whnf
  refine sqs ?_
  refine ⟨fun o1=>?_,fun o1=>?_⟩<;>conv=>whnf
  ·refine cG ?_
   rw [if_pos o1] at hJ
   refine aA.subR [] (back ((k+1,(xC acc l[k]).1)) (by exact (⟨by omega,hJ.2⟩)) (by (try dsimp only);omega)) sH sH
  conv=>whnf
  rw [if_neg o1] at hJ
  rw [hJ.2]
  refine aA.retU (aB.ret tab Tryz.func58 rfl fun _ _ _ _ K=>⟨_,rfl,rfl,K.keeps⟩)
 have hk:k=l.length:=by omega
 rw [hk,List.drop_length] at hJ
 conv=>whnf
 rw [hJ.2]
 refine aA.retU (aB.ret tab Tryz.func58 rfl fun _ _ _ _ K=>⟨_,rfl,rfl,K.keeps⟩)



deriving instance DecidableEq for Go.RatM.Rt

end Go.Proofs.YthjedpdedjhndaaGreatDoor

namespace Go.RatM
open Go Go.Fw Go.NatM
structure Un where
 name:ByteArray
 of_:ByteArray
 n:Int
 d:Int
 base:Int
 scale:Rt
def Un.row (u:Un):List Value:=[.string u.name,.string u.of_,.int .i64 u.n,.int .i64 u.d,.int .i64 u.base,.bool u.scale.neg,.string u.scale.n,.string u.scale.d]
def Un.v (u:Un):Value:=.agg u.row.toArray
theorem Un.ext8 {u v:Un} (h:u.name=v.name∧u.of_=v.of_∧u.n=v.n∧u.d=v.d∧u.base=v.base∧u.scale.neg=v.scale.neg∧u.scale.n=v.scale.n∧u.scale.d=v.scale.d):u=v:=by
 obtain ⟨a,b,c,d,e,⟨f,g,i⟩⟩:=u
 obtain ⟨a',b',c',d',e',⟨f',g',i'⟩⟩:=v
 obtain ⟨rfl,rfl,rfl,rfl,rfl,rfl,rfl,rfl⟩:=h
 rfl
theorem Un.ext8_iff {u v:Un}:u=v↔(u.name=v.name∧u.of_=v.of_∧u.n=v.n∧u.d=v.d∧u.base=v.base∧u.scale.neg=v.scale.neg∧u.scale.n=v.scale.n∧u.scale.d=v.scale.d):=
 ⟨fun e=>by subst e;simp,Un.ext8⟩
instance:DecidableEq Un:=fun _ _=>decidable_of_iff _ Un.ext8_iff.symm
def aL (l:List Un):List (List Value):=l.map Un.row
theorem aZ (l:List Un):(aL l).length=l.length:=by simp [aL]
theorem dK {l:List Un} {k:Nat} (hk:k<l.length):(aL l)[k]? = some l[k].row:=by simp [aL,hk]
def iW (l:List Un) (nm:ByteArray):Int:=match l.findIdx? (fun u=>decide (u.name=nm)) with
 |some k=>k
 |none=> -1
theorem yA {l:List Un} {nm:ByteArray}:iW l nm = -1 ↔ ∀u∈l,u.name≠nm:=by
 unfold iW
 cases h:l.findIdx? (fun u=>decide (u.name=nm)) with
 |none=>
  rw [List.findIdx?_eq_none_iff] at h
  simpa using h
 |some k=>
  rw [List.findIdx?_eq_some_iff_getElem] at h
  obtain ⟨hk,h1,_⟩:=h
  constructor
  ·intro e;dsimp only at e;omega
  intro e
  exact absurd (by simpa using h1) (e _ (List.getElem_mem hk))
theorem yH {l:List Un} {nm:ByteArray} {k:Nat}:iW l nm=k ↔ ∃hk:k<l.length,l[k].name=nm ∧ ∀j (hj:j<k),l[j].name≠nm:=by
 unfold iW
 cases h:l.findIdx? (fun u=>decide (u.name=nm)) with
 |none=>
  rw [List.findIdx?_eq_none_iff] at h
  constructor
  ·intro e;dsimp only at e;omega
  rintro ⟨hk,h1,_⟩
  have:=h _ (List.getElem_mem hk)
  simp [h1] at this
 |some m=>
  rw [List.findIdx?_eq_some_iff_getElem] at h
  obtain ⟨hm,h1,h2⟩:=h
  simp only [decide_eq_true_eq] at h1
  constructor
  ·intro e
   dsimp only at e
   obtain rfl:m=k:=by omega
   refine ⟨hm,h1,fun j hj=>?_⟩
   have:=h2 j hj
   simpa using this
  rintro ⟨hk,g1,g2⟩
  dsimp only
  rcases Nat.lt_trichotomy m k with h|h|h
  ·exact absurd h1 (g2 m h)
  ·omega
  have:=h2 k h
  simp [g1] at this
def yT:Rt:=aN oq
abbrev btw (n:Int):Prop:=1≤n∧n≤1000000
def Un.re (u:Un) (b:Int) (s:Rt):Un:=⟨u.name,u.of_,u.n,u.d,b,s⟩
def iP (x:List Un) (u:Un):Un ⊕ Int:=
 if u.of_=NatM.mt then (if u.n=0∧u.d=0 then .inl (u.re x.length yT) else .inr 90)
 else if btw u.n∧btw u.d then
  match x[(iW x u.of_).toNat]? with
  |some v=>if iW x u.of_<0 then .inr 110 else .inl (u.re v.base (fI v.scale (eU u.n u.d).1).1)
  |none=>.inr 110
 else .inr 90
def sR:List Un→List Un→List Un ⊕ Int
 | [],x=>.inl x
 |u::l,x=>match iP x u with
  | .inl v=>sR l (x++[v])
  | .inr e=>.inr e
def dA (l:List Un):List Un ⊕ Int:=
 if 32<l.length then .inr 90 else if ¬(l.map Un.name).Nodup then .inr 111 else sR l []
def eT (l:List Un):Int:=match dA l with
 | .inr e=>e
 | .inl x=>if x=l then 0 else 90
def uN (l:List Un) (a b:Int) (r:Rt):Rt×Int:=
 if eT l≠0 then (zr',eT l) else
 match l[a.toNat]?,l[b.toNat]? with
 |some u,some v=>if a<0∨b<0∨u.base≠v.base then (zr',90) else
   if (fI r u.scale).2≠0 then (zr',(fI r u.scale).2) else aLG (fI r u.scale).1 v.scale
 |_,_=>(zr',90)
where zr':Rt:=⟨false,NatM.mt,NatM.mt⟩
def Sc1 (k:Nat) (u:Un):Prop:=∃q:Q,u.scale=aN q∧q.Ok∧q.le k∧0<q.val
theorem Sc1.mono {k m:Nat} {u:Un} (h:Sc1 k u) (hk:k≤m):Sc1 m u:=by
 obtain ⟨q,h1,h2,h3,h4⟩:=h
 exact ⟨q,h1,h2,h3.mono hk,h4⟩
theorem aNS {n d:Int} (hn:btw n) (hd:btw d):(pK n d).Ok∧(pK n d).le 3∧0<(pK n d).val:=by
 refine ⟨aKN (by omega),aSZ (by have:(256:Nat)^3=16777216:=(by decide);omega) (by have:(256:Nat)^3=16777216:=(by decide);omega),?_⟩
 rw [aOL (by omega)]
 have h1:(0:Rat)<(n:Rat):=by
  have:=(Rat.intCast_lt_intCast (a:=0) (b:=n)).2 (by omega)
  simpa using this
 have h2:(0:Rat)<(d:Rat):=by
  have:=(Rat.intCast_lt_intCast (a:=0) (b:=d)).2 (by omega)
  simpa using this
 exact Rat.mul_pos h1 (Rat.inv_pos.2 h2)
theorem aMX {x:List Un} {u v:Un} {k:Nat} (hk:k+3≤256) (hk1:1≤k) (hx:∀w∈x,Sc1 k w) (h:iP x u=.inl v):Sc1 (k+3) v:=by
 unfold iP at h
 split at h
 ·split at h
  ·cases h
   exact ⟨oq,rfl,oq_ok,oq_le.mono (by omega),by rw [bCG];decide⟩
  cases h
 split at h
 ·rename_i hb
  split at h
  ·rename_i w hw
   split at h
   ·cases h
   cases h
   obtain ⟨q,h1,h2,h3,h4⟩:=hx w (List.mem_of_getElem? hw)
   obtain ⟨n1,n2,n3⟩:=aNS hb.1 hb.2
   obtain ⟨c,c1,c2,c3,c4⟩:=aAJ h2 n1 h3 n2 hk
   refine ⟨c,?_,c2,c3,by rw [c4];exact Rat.mul_pos h4 n3⟩
   show (fI w.scale (eU u.n u.d).1).1=_
   rw [h1,wW (by omega),c1]
  cases h
 cases h
theorem aTW:∀ {l x y:List Un} {k:Nat},k+3*l.length≤256→1≤k→(∀w∈x,Sc1 k w)→sR l x=.inl y → ∀w∈y,Sc1 (k+3*l.length) w
 | [],x,y,k,_,_,hx,h=>by cases h;exact hx
 |u::l,x,y,k,hk,h1,hx,h=>by
  simp only [List.length_cons] at hk
  simp only [sR] at h
  split at h
  ·rename_i v hv
   have hs:=aMX (by omega) h1 hx hv
   have:=aTW (k:=k+3) (by omega) (by omega) (fun w hw=>?_) h
   ·simpa [Nat.mul_add,Nat.add_assoc,Nat.add_comm,Nat.add_left_comm] using this
   rcases List.mem_append.1 hw with hw|hw
   ·exact (hx w hw).mono (by omega)
   rw [List.mem_singleton.1 hw];exact hs
  cases h
end Go.RatM

namespace Go.Proofs.YthjedpdedjhndaaGreatDoor
open Go Go.Fw Go.RatM
set_option maxRecDepth 100000
set_option maxHeartbeats 99999999
theorem sA {h:Array Obj} (n:Int):FnV Tryz.prog 134 #[.int .i64 n] h fun r h'=>r=.bool (decide (btw n))∧aH h.size h h':=by
 refine Fn.ofS (args:=[.int .i64 n]) Tryz.func134 (by kernel_rfl) rfl Tryz.ntmps134 rfl fun w0 cs=>?_
 conv=>whnf
 refine gS ?_;conv=>whnf
 repeat' (refine And.intro (fun hs=>?_) (fun hs=>?_)<;>(conv=>whnf))
 all_goals (
  refine aA.retU (aB.ret tab Tryz.func134 rfl fun Ez Hz Az Sz K=>⟨_,rfl,?_,K.keeps⟩)
  first|exact congrArg Value.bool (decide_eq_true (by omega)).symm|exact congrArg Value.bool (decide_eq_false (by omega)).symm|exact congrArg Value.bool (decide_eq_decide.2 (by omega))
 )
def unB (b:Nat) (u:Un):Nat×Fw.Blk:=(b,.cells 100 (toV u.row))
theorem aWD (v u:Un):FnS Tryz.prog 237 1 [.agg (toV v.row),.ptr 0 0] [unB 0 u] (fun _:Unit=>True) (fun _=>.ret (.v (.bool (decide (v.name=u.name)))) 1 [unB 0 u]):=by
 refine FnS.of Tryz.func237 (by kernel_rfl) rfl Tryz.ntmps237 rfl fun E0 F h w0 cs=>?_
 conv=>whnf
 refine gS ?_;conv=>whnf
 try refine aA.retU ?_
 exact aB.ret tab Tryz.func237 rfl (eN () trivial)
abbrev strB (b:Nat) (s:ByteArray):Nat×Fw.Blk:=(b,.cells 9 [.v (.string s)])
theorem aVL (v:Un) (s:ByteArray):FnS Tryz.prog 133 1 [.agg (toV v.row),.ptr 0 0] [strB 0 s] (fun _:Unit=>True) (fun _=>.ret (.v (.bool (decide (v.name=s)))) 1 [strB 0 s]):=by
 refine FnS.of Tryz.func133 (by kernel_rfl) rfl Tryz.ntmps133 rfl fun E0 F h w0 cs=>?_
 conv=>whnf
 refine gS ?_;conv=>whnf
 try refine aA.retU ?_
 exact aB.ret tab Tryz.func133 rfl (eN () trivial)
theorem idxT_fn (l:List Un) (hl:l.length≤9223372036854775807) (u:Un):FnS Tryz.prog 132 2 [.buf 0,.fn (.func 237) [] [.ptr 1 0]] [(0,.ro 8 (aL l)),unB 1 u] (fun _:Unit=>True)
  (fun _=>.ret (.v (.int .i64 (iW l u.name))) 2 [unB 1 u]):=by
 have hlr:=aZ l
 obtain ⟨r,hr⟩:∃r,r=iW l u.name:=⟨_,rfl⟩
 rw [←hr]
 refine FnS.of Tryz.func132 (by kernel_rfl) rfl Tryz.ntmps132 rfl fun E0 F h w0 cs=>?_
 conv=>whnf
 refine gS ?_;conv=>whnf
 refine aA.subR [] (aA.loop (fun (k:Nat)=>[(8,.v (.int .i64 k)),(7,.v (.int .i64 (aL l).length)),(0,.buf 0),(1,.fn (.func 237) [] [.ptr 1 0])]) (fun (k:Nat)=>[(0,.ro 8 (aL l)),unB 1 u]) 2 (fun (k:Nat)=>k≤l.length ∧ ∀j (hj:j<k) (hjl:j<l.length),l[j].name≠u.name) (fun (k:Nat)=>l.length - k) ?round1 (0) ?J01) sH sH
 case J01=>exact (⟨Nat.zero_le _,fun j hj=>absurd hj (Nat.not_lt_zero _)⟩)
 rintro k hJ back
 conv=>whnf
 refine gS ?_;conv=>whnf
 refine ⟨fun hk=>?_,fun hk=>?_⟩<;>conv=>whnf
 ·have hk:k<l.length:=by omega
  refine cG ?_
  refine ⟨_,dK hk,?_⟩;conv=>whnf
  try (refine oN ?_;conv=>whnf)
  have C:=aWD l[k] u
  by_cases hn:l[k].name=u.name
  ·rw [decide_eq_true hn] at C
   refine aA.callN (C) [1] ?_ sH ?CNa2
   case CNa2=>rfl
   intro _ _
   conv=>whnf
   refine sqs ?_
   have:r=k:=by rw [hr];exact yH.2 ⟨hk,hn,fun j hj=>hJ.2 j hj (by omega)⟩
   rw [this]
   try refine aA.retU ?_
   exact aB.ret tab Tryz.func132 rfl (eN () trivial)
  rw [decide_eq_false hn] at C
  refine aA.callN (C) [1] ?_ sH ?CNa3
  case CNa3=>rfl
  intro _ _
  conv=>whnf
  refine dT ?_
  refine aA.subR [] (back (k+1) (by exact (⟨hk,fun j hj hjl=>(Nat.lt_succ_iff_lt_or_eq.1 hj).elim (fun hj=>hJ.2 j hj hjl) (fun e=>by subst e;exact hn)⟩)) (by (try dsimp only);omega)) sH sH
 conv=>whnf
 have:r = -1:=by
  rw [hr,yA]
  intro w hw
  obtain ⟨j,hj,rfl⟩:=List.getElem_of_mem hw
  exact hJ.2 j (by omega) hj
 rw [this]
 try refine aA.retU ?_
 exact aB.ret tab Tryz.func132 rfl (eN () trivial)

theorem bAY (l:List Un) (hl:l.length≤9223372036854775807) (u:Un):FnS Tryz.prog 236 2 [.buf 0,.fn (.func 237) [] [.ptr 1 0]] [(0,.ro 8 (aL l)),unB 1 u] (fun _:Unit=>True)
  (fun _=>.ret (.v (.bool (decide (0≤iW l u.name)))) 2 [unB 1 u]):=by
 have C:=idxT_fn l hl u
 obtain ⟨r,hr⟩:∃r,r=iW l u.name:=⟨_,rfl⟩
 rw [←hr] at C ⊢
 refine FnS.of Tryz.func236 (by kernel_rfl) rfl Tryz.ntmps236 rfl fun E0 F h w0 cs=>?_
 conv=>whnf
 refine gS ?_;conv=>whnf
 refine aA.callN (C) [0,1] ?_ sH ?CNa1
 case CNa1=>rfl
 intro _ _
 conv=>whnf
 refine sqs ?_
 try refine aA.retU ?_
 exact aB.ret tab Tryz.func236 rfl (eN () trivial)
theorem aQA (l:List Un) (k:Nat):aL (l.take k)=(aL l).take k:=by simp [aL,List.map_take]
theorem aXZ {l:List Un} {nm:ByteArray} (h:iW l nm<0):∀u∈l,u.name≠nm:=by
 refine yA.1 ?_
 unfold iW at h ⊢
 split at h
 ·omega
 rfl
theorem zT {l:List Un} {nm:ByteArray} (h:0≤iW l nm):∃k:Nat,iW l nm=k ∧ ∃hk:k<l.length,l[k].name=nm ∧ ∀j (hj:j<k),l[j].name≠nm:=by
 obtain ⟨k,hk⟩:∃k:Nat,iW l nm=k:=⟨(iW l nm).toNat,by omega⟩
 exact ⟨k,hk,yH.1 hk⟩
theorem aQI {l:List Un} {k:Nat} (hk:k<l.length) (h:((l.take k).map Un.name).Nodup) (hn:iW (l.take k) l[k].name<0):((l.take (k+1)).map Un.name).Nodup:=by
 rw [List.take_add_one,List.getElem?_eq_getElem hk,List.map_append]
 refine List.nodup_append.2 ⟨h,by simp,?_⟩
 intro a ha b hb e
 obtain ⟨u,hu,rfl⟩:=List.mem_map.1 ha
 simp only [Option.toList,List.map_cons,List.map_nil,List.mem_singleton] at hb
 exact aXZ hn u hu (e.trans hb)
theorem aWM {l:List Un} {k:Nat} (hk:k<l.length) (hn:0≤iW (l.take k) l[k].name):¬(l.map Un.name).Nodup:=by
 intro h
 obtain ⟨j,_,hj,hnm,_⟩:=zT hn
 rw [List.length_take] at hj
 rw [List.getElem_take] at hnm
 have h1:=(List.pairwise_iff_getElem.1 h) j k (by rw [List.length_map];omega) (by rw [List.length_map];omega) (by omega)
 simp only [List.getElem_map] at h1
 exact h1 hnm
theorem aOR {h:Array Obj} (l:List Un) {v:Value} (hv:Ro h v 8 (aL l)):FnV Tryz.prog 130 #[v] h fun r h'=>r=.bool (decide (¬(l.map Un.name).Nodup))∧aH h.size h h':=by
 have hl:=aZ l
 have hm:=hv.len
 obtain ⟨r,hr⟩:∃r,r=decide (¬(l.map Un.name).Nodup):=⟨_,rfl⟩
 rw [←hr]
 refine Fn.ofG (mJ [v]) 1 [.buf 0] [(0,.ro (8) (aL l))] (fun k=>k<_) Tryz.func130 (by kernel_rfl) rfl Tryz.ntmps130 rfl (fun _ hk=>hk) (Sat.ros (vs:=[v]) (l:=[(8,aL l)]) ⟨hv,trivial⟩) fun w0 cs=>?_
 conv=>whnf
 refine gS ?_;conv=>whnf
 refine aA.subR [] (aA.loop (fun (k:Nat)=>[(7,.v (.int .i64 k)),(6,.v (.int .i64 (aL l).length)),(5,.buf 0),(0,.buf 0)]) (fun (k:Nat)=>[(0,.ro 8 (aL l))]) 1 (fun (k:Nat)=>k≤l.length∧((l.take k).map Un.name).Nodup) (fun (k:Nat)=>l.length - k) ?round2 (0) ?J02) sH sH
 case J02=>exact (⟨Nat.zero_le _,by simp⟩)
 rintro k hJ back
 try dsimp only at hJ back
 conv=>whnf
 try dsimp only
 refine gS ?_;conv=>whnf
 refine ⟨fun hk=>?_,fun hk=>?_⟩<;>conv=>whnf
 ·have hk:k<l.length:=by omega
  refine cG ?_
  refine ⟨_,dK hk,?_⟩;conv=>whnf
  try (refine oN ?_;conv=>whnf)
  refine sqC ?_
  refine sqs ?_
  have C:=bAY (l.take k) (by rw [List.length_take];omega) l[k]
  rw [aQA] at C
  by_cases hn:0≤iW (l.take k) l[k].name
  ·rw [decide_eq_true hn] at C
   refine aA.callN (C) [2,1] ?_ sH ?CNa3
   case CNa3=>rfl
   intro _ _
   conv=>whnf
   refine sqs ?_
   have:r=true:=by rw [hr];exact decide_eq_true (aWM hk hn)
   rw [this]
   refine aA.retU (aB.ret tab Tryz.func130 rfl fun _ _ _ _ K=>⟨_,rfl,rfl,K.keeps⟩)
  rw [decide_eq_false hn] at C
  refine aA.callN (C) [2,1] ?_ sH ?CNa4
  case CNa4=>rfl
  intro _ _
  conv=>whnf
  refine dT ?_
  refine aA.subR [] (back (k+1) (by exact (⟨hk,aQI hk hJ.2 (by omega)⟩)) (by (try dsimp only);omega)) sH sH
 conv=>whnf
 have hk:k=l.length:=by omega
 have hnd:=hJ.2
 rw [hk,List.take_length] at hnd
 have:r=false:=by rw [hr];exact decide_eq_false (fun h=>h hnd)
 rw [this]
 refine aA.retU (aB.ret tab Tryz.func130 rfl fun _ _ _ _ K=>⟨_,rfl,rfl,K.keeps⟩)

abbrev aPI (b:Nat) (l:List Un):Nat×Fw.Blk:=(b,.own 100 8 (aL l))
abbrev aMI (b:Nat) (x:SV):Nat×Fw.Blk:=(b,.cells 22 [x])
theorem idxM_fn (l:List Un) (hl:l.length≤9223372036854775807) (s:ByteArray):FnS Tryz.prog 132 2 [.buf 0,.fn (.func 133) [] [.ptr 1 0]] [aPI 0 l,strB 1 s] (fun _:Unit=>True)
  (fun _=>.ret (.v (.int .i64 (iW l s))) 2 [aPI 0 l,strB 1 s]):=by
 have hlr:=aZ l
 obtain ⟨r,hr⟩:∃r,r=iW l s:=⟨_,rfl⟩
 rw [←hr]
 refine FnS.of Tryz.func132 (by kernel_rfl) rfl Tryz.ntmps132 rfl fun E0 F h w0 cs=>?_
 conv=>whnf
 refine gS ?_;conv=>whnf
 refine aA.subR [] (aA.loop (fun (k:Nat)=>[(8,.v (.int .i64 k)),(7,.v (.int .i64 (aL l).length)),(0,.buf 0),(1,.fn (.func 133) [] [.ptr 1 0])]) (fun (k:Nat)=>[aPI 0 l,strB 1 s]) 2 (fun (k:Nat)=>k≤l.length ∧ ∀j (hj:j<k) (hjl:j<l.length),l[j].name≠s) (fun (k:Nat)=>l.length - k) ?round1 (0) ?J01) sH sH
 case J01=>exact (⟨Nat.zero_le _,fun j hj=>absurd hj (Nat.not_lt_zero _)⟩)
 rintro k hJ back
 conv=>whnf
 refine gS ?_;conv=>whnf
 refine ⟨fun hk=>?_,fun hk=>?_⟩<;>conv=>whnf
 ·have hk:k<l.length:=by omega
  refine cG ?_
  refine ⟨_,dK hk,?_⟩;conv=>whnf
  try (refine oN ?_;conv=>whnf)
  have C:=aVL l[k] s
  by_cases hn:l[k].name=s
  ·rw [decide_eq_true hn] at C
   refine aA.callN (C) [1] ?_ sH ?CNa2
   case CNa2=>rfl
   intro _ _
   conv=>whnf
   refine sqs ?_
   have:r=k:=by rw [hr];exact yH.2 ⟨hk,hn,fun j hj=>hJ.2 j hj (by omega)⟩
   rw [this]
   try refine aA.retU ?_
   exact aB.ret tab Tryz.func132 rfl (eN () trivial)
  rw [decide_eq_false hn] at C
  refine aA.callN (C) [1] ?_ sH ?CNa3
  case CNa3=>rfl
  intro _ _
  conv=>whnf
  refine dT ?_
  refine aA.subR [] (back (k+1) (by exact (⟨hk,fun j hj hjl=>(Nat.lt_succ_iff_lt_or_eq.1 hj).elim (fun hj=>hJ.2 j hj hjl) (fun e=>by subst e;exact hn)⟩)) (by (try dsimp only);omega)) sH sH
 conv=>whnf
 have:r = -1:=by
  rw [hr,yA]
  intro w hw
  obtain ⟨j,hj,rfl⟩:=List.getElem_of_mem hw
  exact hJ.2 j (by omega) hj
 rw [this]
 try refine aA.retU ?_
 exact aB.ret tab Tryz.func132 rfl (eN () trivial)
theorem aND (l:List Un) (hl:l.length≤9223372036854775807) (s:ByteArray):FnS Tryz.prog 131 2 [.v (.string s),.ptr 0 0] [aMI 0 (.buf 1),aPI 1 l] (fun _:Unit=>True)
  (fun _=>.ret (.v (.int .i64 (iW l s))) 2 [aMI 0 (.buf 1),aPI 1 l]):=by
 have C:=idxM_fn l hl s
 refine FnS.of Tryz.func131 (by kernel_rfl) rfl Tryz.ntmps131 rfl fun E0 F h w0 cs=>?_
 conv=>whnf
 refine gS ?_;conv=>whnf
 refine aA.callN (C) [1,2] ?_ sH ?CNa5
 case CNa5=>rfl
 intro _ _
 conv=>whnf
 refine sqs ?_
 try refine aA.retU ?_
 exact aB.ret tab Tryz.func131 rfl (eN () trivial)
end Go.Proofs.YthjedpdedjhndaaGreatDoor

namespace Go.Proofs.YthjedpdedjhndaaGreatDoor
open Go Go.Fw Go.NatM Go.RatM
set_option maxRecDepth 100000
set_option maxHeartbeats 99999999
def rW (F:Nat→Prop) (h:Array Obj):Prop:=gN h∧F 2
theorem dE:TOk rW:=by
 refine ⟨fun F F' h hs hT=>⟨hT.1,hs _ hT.2⟩,fun F h h' hT K=>⟨fun j hj=>?_,hT.2⟩⟩
 rw [←hT.1 j hj]
 unfold bL
 rw [K.same _ hT.2]
theorem gN.t {h:Array Obj} (hT:gN h):rW (fun k=>k<h.size) h:=⟨hT,tY (hT 0 (by decide))⟩
def tS:List Rt→Rt→Rt×Int
 | [],a=>(a,0)
 |b::l,a=>if (fI a b).2=0 then tS l (fI a b).1 else fI a b
theorem aVD {h:Array Obj} (l:List Rt) (a:Rt) {v:Value} (hv:Ro h v 3 (kV l)) (hT:gN h):FnV Tryz.prog 135 #[v,a.v,.func (.func 39) #[] #[]] h fun r h'=>r=rev (tS l a)∧aH h.size h h':=by
 have hl:=aBO l
 have hm:=hv.len
 obtain ⟨r,hr⟩:∃r,r=tS l a:=⟨_,rfl⟩
 rw [←hr]
 refine Fn.ofG (mJ [v]) 1 [.buf 0,.agg [.v (.bool a.neg),.v (.string a.n),.v (.string a.d)],.fn (.func 39) [] []] [(0,.ro (3) (kV l))] (fun k=>k<_) Tryz.func135 (by kernel_rfl) rfl Tryz.ntmps135 rfl (fun _ hk=>hk) (Sat.ros (vs:=[v]) (l:=[(3,kV l)]) ⟨hv,trivial⟩) fun w0 cs=>?_
 conv=>whnf
 refine gS ?_;conv=>whnf
 refine aA.subR [] (aA.loop (fun (⟨k,acc⟩:Nat×Rt)=>[(13,.v (.int .i64 k)),(12,.v (.int .i64 (kV l).length)),(11,.buf 0),(6,.ptr 2 0),(4,.ptr 1 0),(2,.fn (.func 39) [] [])]) (fun (⟨k,acc⟩:Nat×Rt)=>[(2,.cells 35 [.v (.bool false),.v (.string ⟨#[]⟩),.v (.string ⟨#[]⟩)]),(1,.cells 35 [.v (.bool acc.neg),.v (.string acc.n),.v (.string acc.d)]),(0,.ro 3 (kV l))]) 3 (fun (⟨k,acc⟩:Nat×Rt)=>k≤l.length∧r=tS (l.drop k) acc) (fun (⟨k,acc⟩:Nat×Rt)=>l.length - k) ?round1 ((0,a)) ?J01) sH sH
 case J01=>exact (⟨Nat.zero_le _,hr⟩)
 rintro ⟨k,acc⟩ hJ back
 try dsimp only at hJ back
 conv=>whnf
 try dsimp only
 refine gS ?_;conv=>whnf
 refine ⟨fun hk=>?_,fun hk=>?_⟩<;>conv=>whnf
 ·have hk:k<l.length:=by omega
  have hd:l.drop k=l[k]::l.drop (k+1):=List.drop_eq_getElem_cons hk
  have hJ2:=hJ.2
  rw [hd] at hJ2
  unfold tS at hJ2
  refine cG ?_
  refine ⟨_,aCD hk,?_⟩;conv=>whnf
  try (refine oN ?_;conv=>whnf)
  refine aA.callV (fun Ez Hz Az Sz K=>nT acc l[k] (hT.keeps ⟨K.size,K.same⟩)) ?_
  conv=>whnf
  refine sqs ?_
  refine ⟨fun o1=>?_,fun o1=>?_⟩<;>conv=>whnf
  ·refine cG ?_
   rw [if_pos o1] at hJ2
   refine aA.subR [] (back ((k+1,(fI acc l[k]).1)) (by exact (⟨hk,hJ2⟩)) (by (try dsimp only);omega)) sH sH
  conv=>whnf
  rw [if_neg o1] at hJ2
  rw [hJ2]
  refine aA.retU (aB.ret tab Tryz.func135 rfl fun _ _ _ _ K=>⟨_,rfl,rfl,K.keeps⟩)
 have hk:k=l.length:=by omega
 have hJ2:=hJ.2
 rw [hk,List.drop_length] at hJ2
 conv=>whnf
 rw [hJ2]
 refine aA.retU (aB.ret tab Tryz.func135 rfl fun _ _ _ _ K=>⟨_,rfl,rfl,K.keeps⟩)
end Go.Proofs.YthjedpdedjhndaaGreatDoor

namespace Go.RatM
open Go Go.Fw Go.NatM
theorem aKQ {x:List Un} {u v:Un} (h:iP x u=.inl v):v.name=u.name∧v.of_=u.of_∧v.n=u.n∧v.d=u.d:=by
 unfold iP at h
 split at h
 ·split at h
  ·cases h;exact ⟨rfl,rfl,rfl,rfl⟩
  cases h
 split at h
 ·split at h
  ·split at h
   ·cases h
   cases h;exact ⟨rfl,rfl,rfl,rfl⟩
  cases h
 cases h
theorem aGB:∀ {l x y:List Un},sR l x=.inl y ↔ ∃z,y=x++z∧z.length=l.length ∧ ∀i (h:i<l.length) (h':i<z.length),iP (x++z.take i) l[i]=.inl z[i]
 | [],x,y=>by
  constructor
  ·intro h
   cases h
   exact ⟨[],by simp,rfl,fun i h=>absurd h (by simp)⟩
  rintro ⟨z,rfl,hz,_⟩
  have:z=[]:=List.eq_nil_of_length_eq_zero hz
  subst this
  simp [sR]
 |u::l,x,y=>by
  constructor
  ·intro h
   simp only [sR] at h
   split at h
   ·rename_i v hv
    obtain ⟨z,rfl,hz,hs⟩:=aGB.1 h
    refine ⟨v::z,by simp,by simp [hz],?_⟩
    intro i hi hi'
    cases i with
    |zero=>simpa using hv
    |succ i=>
     have:=hs i (by simpa using hi) (by simpa using hi')
     simpa using this
   cases h
  rintro ⟨z,rfl,hz,hs⟩
  cases z with
  |nil=>simp at hz
  |cons v z=>
   have h0:=hs 0 (by simp) (by simp)
   simp only [List.take_zero,List.append_nil,List.getElem_cons_zero] at h0
   simp only [sR,h0]
   refine aGB.2 ⟨z,by simp,by simpa using hz,?_⟩
   intro i hi hi'
   have:=hs (i+1) (by simpa using hi) (by simpa using hi')
   simpa using this
def ResP (l x:List Un):Prop:=x.length=l.length ∧ ∀i (h:i<l.length) (h':i<x.length),iP (x.take i) l[i]=.inl x[i]
theorem aMO {l x:List Un}:sR l []=.inl x↔ResP l x:=by
 rw [aGB]
 constructor
 ·rintro ⟨z,e,h1,h2⟩
  rw [List.nil_append] at e
  subst e
  exact ⟨h1,by simpa using h2⟩
 rintro ⟨h1,h2⟩
 exact ⟨x,rfl,h1,by simpa using h2⟩
theorem zU {l x:List Un}:dA l=.inl x↔l.length≤32∧(l.map Un.name).Nodup∧ResP l x:=by
 unfold dA
 by_cases h1:32<l.length
 ·rw [if_pos h1]
  exact ⟨(fun h=>by cases h),fun h=>absurd h.1 (by omega)⟩
 rw [if_neg h1]
 by_cases h2:(l.map Un.name).Nodup
 ·rw [if_neg (fun h=>h h2),aMO]
  exact ⟨fun h=>⟨by omega,h2,h⟩,fun h=>h.2.2⟩
 rw [if_pos h2]
 exact ⟨(fun h=>by cases h),fun h=>absurd h.2.1 h2⟩
theorem ResP.sc {l x:List Un} (h:ResP l x) {k:Nat} (hk:1+3*l.length≤k) (h2:k≤256):∀u∈x,Sc1 k u:=by
 intro u hu
 exact (aTW (k:=1) (by omega) (by omega) (fun w hw=>by cases hw) (aMO.2 h) u hu).mono hk
end Go.RatM

namespace Go.Proofs.YthjedpdedjhndaaGreatDoor
open Go Go.Fw Go.NatM Go.RatM
set_option maxRecDepth 100000
set_option maxHeartbeats 99999999
def resO:List Un ⊕ Int→eR
 | .inl x=>.ret (.tup [.buf 1,.v (.int .i64 0)]) 2 [aPI 1 x]
 | .inr e=>.ret (.tup [.v (.slice none 0 0),.v (.int .i64 e)]) 1 []
def scOk (x:List Un):Prop:=∀w∈x,Sc1 (1+3*x.length) w
theorem scOk.nil:scOk []:=fun w hw=>by cases hw
theorem scOk.step {x:List Un} {u v:Un} (hx:scOk x) (hl:x.length<32) (h:iP x u=.inl v):scOk (x++[v]):=by
 intro w hw
 have hs:=aMX (k:=1+3*x.length) (by omega) (by omega) hx h
 have hle:(x++[v]).length=x.length+1:=by simp
 rw [hle]
 rcases List.mem_append.1 hw with hw|hw
 ·exact (hx w hw).mono (by omega)
 rw [List.mem_singleton.1 hw];exact hs.mono (by omega)
theorem bCK {q:Q} {k:Nat} (ok:q.Ok) (hk:q.le k) (h:k≤255):fI yT (aN q)=(aN q,0):=by
 obtain ⟨c,c1,c2,c3,c4⟩:=aAJ oq_ok ok oq_le hk (by omega)
 have:c=q:=Q.inj c2 ok (by rw [c4,bCG];grind)
 subst this
 exact c1
theorem bCX {q:Q} {k:Nat} {n d:Int} (ok:q.Ok) (hk:q.le k) (h:k+3≤256) (hn:btw n) (hd:btw d):(fI (aN q) (eU n d).1).2=0:=by
 obtain ⟨n1,n2,n3⟩:=aNS hn hd
 obtain ⟨c,c1,c2,c3,c4⟩:=aAJ ok n1 hk n2 h
 rw [wW (by omega),c1]
theorem aWG {q:Q} {k:Nat} {n d:Int} (ok:q.Ok) (hk:q.le k) (h:k+3≤256) (hn:btw n) (hd:btw d):tS [aN q,(eU n d).1] yT=((fI (aN q) (eU n d).1).1,0):=by
 have h1:=bCX ok hk h hn hd
 unfold tS
 rw [bCK ok hk (by omega),if_pos rfl]
 unfold tS
 rw [if_pos h1]
 rfl
abbrev rtB (b:Nat) (a:Rt):Nat×Fw.Blk:=(b,.cells 35 [.v (.bool a.neg),.v (.string a.n),.v (.string a.d)])
theorem aHX (x:List Un) (v:Un):aL x++[v.row]=aL (x++[v]):=by simp [aL]
theorem aXJ:tS [] yT=(yT,0):=rfl
theorem aYZ:eU 1 1=(yT,0):=(wW (by decide)).trans (by rw [show pK 1 1=oq from rfl];rfl)
theorem xX (l:List Un) (hl:l.length≤9223372036854775807) (hi:∀u∈l,(-9223372036854775808≤u.n∧u.n≤9223372036854775807)∧(-9223372036854775808≤u.d∧u.d≤9223372036854775807)):
  FnT Tryz.prog rW 80 1 [.buf 0] [(0,.ro 8 (aL l))] (fun _:Unit=>True) (fun _=>resO (dA l)):=by
 have hlr:=aZ l
 obtain ⟨r,hr⟩:∃r,r=dA l:=⟨_,rfl⟩
 rw [←hr]
 unfold dA at hr
 refine FnT.of Tryz.func80 (by kernel_rfl) rfl Tryz.ntmps80 rfl fun E0 F h hT w0 cs=>?_
 conv=>whnf
 refine gS ?_;conv=>whnf
 refine ⟨fun h1=>?_,fun h1=>?_⟩<;>conv=>whnf
 ·rw [if_pos (by omega)] at hr
  subst hr
  conv=>whnf
  try refine aA.retU ?_
  exact aB.ret tab Tryz.func80 rfl (eN () trivial)
 rw [if_neg (by omega)] at hr
 have h1:l.length≤32:=by omega
 conv=>whnf
 by_cases hn:(l.map Un.name).Nodup
 ·rw [if_neg (fun h=>h hn)] at hr
  refine aA.callV (fun Ez Hz Az Sz K=>aOR l (Sz.ro (b:=0) rfl)) ?_
  conv=>whnf
  rw [decide_eq_false (fun h=>h hn)]
  try dsimp only
  refine sqs ?_
  refine aA.callV (fun Ez Hz Az Sz K=>iC 1 1 (by omega) (by omega) (dE.at hT K).1) ?_
  conv=>whnf
  rw [aYZ]
  refine sqs ?_
  refine aA.subR (nx':=3) (l':=[(25,.v (.int .i64 0)),(24,.v (.int .i64 (aL l).length)),(23,.buf 0),(6,.fn (.func 131) [] [.ptr 1 0]),(4,.ptr 2 0),(3,.v (.int .i64 0)),(2,.ptr 1 0)]) (H':=[rtB 2 yT,aMI 1 (.v (.slice none 0 0)),(0,.ro 8 (aL l))]) [] ?_ sH sH
  refine aA.nilOwn (l':=[(25,.v (.int .i64 0)),(24,.v (.int .i64 (aL l).length)),(23,.buf 0),(6,.fn (.func 131) [] [.ptr 1 0]),(4,.ptr 2 0),(3,.v (.int .i64 0)),(2,.ptr 1 0)]) (H':=[rtB 2 yT,aMI 1 (.buf 3),(0,.ro 8 (aL l))]) 100 8 ?_ (by rfl) (by rfl) (by rfl)
  refine aA.subR [] (aA.loop (fun (⟨k,x⟩:Nat×List Un)=>[(25,.v (.int .i64 k)),(24,.v (.int .i64 (aL l).length)),(23,.buf 0),(6,.fn (.func 131) [] [.ptr 1 0]),(4,.ptr 2 0),(3,.v (.int .i64 0)),(2,.ptr 1 0)]) (fun (⟨k,x⟩:Nat×List Un)=>[aPI 3 x,rtB 2 yT,aMI 1 (.buf 3),(0,.ro 8 (aL l))]) 4 (fun (⟨k,x⟩:Nat×List Un)=>k≤l.length∧x.length=k∧scOk x∧r=sR (l.drop k) x) (fun (⟨k,x⟩:Nat×List Un)=>l.length - k) ?round1 ((0,[])) ?J01) sH sH
  case J01=>exact (⟨Nat.zero_le _,rfl,scOk.nil,hr⟩)
  rintro ⟨k,x⟩ hJ back
  try dsimp only at hJ back
  conv=>whnf
  try dsimp only
  refine gS ?_;conv=>whnf
  refine ⟨fun hk=>?_,fun hk=>?_⟩<;>conv=>whnf
  ·have hk:k<l.length:=by omega
   have hd:l.drop k=l[k]::l.drop (k+1):=List.drop_eq_getElem_cons hk
   obtain ⟨hJ1,hJ2,hJ3,hJ4⟩:=hJ
   rw [hd] at hJ4
   simp only [sR] at hJ4
   refine cG ?_
   refine ⟨_,dK hk,?_⟩;conv=>whnf
   try (refine oN ?_;conv=>whnf)
   refine ⟨fun e0=>?_,fun e0=>?_⟩<;>conv=>whnf
   ·have st:iP x l[k]=if l[k].n=0∧l[k].d=0 then .inl (l[k].re k yT) else .inr 90:=by
     unfold iP
     rw [if_pos e0,hJ2]
    by_cases hz:l[k].n=0∧l[k].d=0
    ·rw [if_pos hz] at st
     rw [st] at hJ4
     refine cG ?_
     refine aA.callV (fun Ez Hz Az Sz K=>aVD [] yT Ro.nil (dE.at hT K).1) ?_
     conv=>whnf
     rw [aXJ]
     try dsimp only
     refine dT ?_
     refine And.intro (aOS (by rw [aZ];omega)) ?_;conv=>whnf
     refine sqC ?_
     refine aA.rowsEq (6) (aHX x (l[k].re k yT)) ?_;conv=>whnf
     refine aA.subR [(3,6)] (back ((k+1,x++[(l[k].re k yT)])) (by exact (⟨hk,by rw [List.length_append,hJ2];rfl,hJ3.step (by omega) st,hJ4⟩)) (by (try dsimp only);omega)) sH sH
    rw [if_neg hz] at st
    rw [st] at hJ4
    subst hJ4
    by_cases hz1:l[k].n=0
    ·have hz2:l[k].d≠0:=fun e=>hz ⟨hz1,e⟩
     refine cG ?_
     try refine aA.retU ?_
     exact aB.ret tab Tryz.func80 rfl (eN () trivial)
    refine cG ?_
    try refine aA.retU ?_
    exact aB.ret tab Tryz.func80 rfl (eN () trivial)
   conv=>whnf
   have hi':=hi l[k] (List.getElem_mem hk)
   by_cases b1:btw l[k].n
   ·refine aA.callV (fun Ez Hz Az Sz K=>sA l[k].n) ?_
    conv=>whnf
    rw [decide_eq_true b1]
    try dsimp only
    refine sqs ?_
    by_cases b2:btw l[k].d
    ·refine aA.callV (fun Ez Hz Az Sz K=>sA l[k].d) ?_
     conv=>whnf
     rw [decide_eq_true b2]
     try dsimp only
     refine sqs ?_
     by_cases hf:iW x l[k].of_<0
     ·have st:iP x l[k]=.inr 110:=by
       unfold iP
       rw [if_neg e0,if_pos ⟨b1,b2⟩]
       split
       ·rw [if_pos hf]
       rfl
      rw [st] at hJ4
      subst hJ4
      refine aA.callN (aND x (by omega) l[k].of_) [1,3] ?_ sH ?CNa3
      case CNa3=>rfl
      intro _ _
      conv=>whnf
      refine dT ?_
      try refine aA.retU ?_
      exact aB.ret tab Tryz.func80 rfl (eN () trivial)
     obtain ⟨j,hj,hj1,hj2⟩:=zT (l:=x) (nm:=l[k].of_) (by omega)
     have st:iP x l[k]=.inl (l[k].re x[j].base (fI x[j].scale (eU l[k].n l[k].d).1).1):=by
      unfold iP
      rw [if_neg e0,if_pos ⟨b1,b2⟩,hj,Int.toNat_natCast,List.getElem?_eq_getElem hj1]
      exact if_neg (by omega)
     rw [st] at hJ4
     obtain ⟨q,q1,q2,q3,q4⟩:=hJ3 x[j] (List.getElem_mem hj1)
     have fm:tS [x[j].scale,(eU l[k].n l[k].d).1] yT=((fI x[j].scale (eU l[k].n l[k].d).1).1,0):=by rw [q1];exact aWG q2 q3 (by omega) b1 b2
     have nm:eU l[k].n l[k].d=((eU l[k].n l[k].d).1,0):=by rw [wW (by omega)]
     have C:=aND x (by omega) l[k].of_
     rw [hj] at C
     have hxr:=aZ x
     refine aA.callN (C) [1,3] ?_ sH ?CNa4
     case CNa4=>rfl
     intro _ _
     conv=>whnf
     refine dT ?_
     refine aA.callV (fun Ez Hz Az Sz K=>iC l[k].n l[k].d hi'.1 hi'.2 (dE.at hT K).1) ?_
     conv=>whnf
     rw [nm]
     try dsimp only
     refine dT ?_
     refine ⟨_,dK hj1,?_⟩;conv=>whnf
     refine aA.held tab (.fl 0 (.fl 1 (.fl 2 (.fl 3 (.fl 4 (.fl 5 (.e1 6 [] (.fl 7 .done)))))))) (by kernel_rfl) ?_;conv=>whnf
     refine mE ?_
     conv=>whnf
     refine ⟨_,dK hj1,?_⟩;conv=>whnf
     try (refine oN ?_;conv=>whnf)
     refine xE ?_
     refine sqs ?_
     refine aA.callV (fun Ez Hz Az Sz K=>aVD [x[j].scale,(eU l[k].n l[k].d).1] yT (Sz.ro (b:=6) rfl) (dE.at hT K).1) ?_
     conv=>whnf
     rw [fm]
     try dsimp only
     refine dT ?_
     refine And.intro (aOS (by rw [aZ];omega)) ?_;conv=>whnf
     refine sqC ?_
     refine aA.rowsEq (8) (aHX x (l[k].re x[j].base (fI x[j].scale (eU l[k].n l[k].d).1).1)) ?_;conv=>whnf
     refine aA.subR [(3,8)] (back ((k+1,x++[l[k].re x[j].base (fI x[j].scale (eU l[k].n l[k].d).1).1])) (by exact (⟨hk,by rw [List.length_append,hJ2];rfl,hJ3.step (by omega) st,hJ4⟩)) (by (try dsimp only);omega)) sH sH
    have st:iP x l[k]=.inr 90:=by
     unfold iP
     rw [if_neg e0,if_neg fun h=>b2 h.2]
    rw [st] at hJ4
    subst hJ4
    refine aA.callV (fun Ez Hz Az Sz K=>sA l[k].d) ?_
    conv=>whnf
    rw [decide_eq_false b2]
    try dsimp only
    refine sqs ?_
    try refine aA.retU ?_
    exact aB.ret tab Tryz.func80 rfl (eN () trivial)
   have st:iP x l[k]=.inr 90:=by
    unfold iP
    rw [if_neg e0,if_neg fun h=>b1 h.1]
   rw [st] at hJ4
   subst hJ4
   refine aA.callV (fun Ez Hz Az Sz K=>sA l[k].n) ?_
   conv=>whnf
   rw [decide_eq_false b1]
   try dsimp only
   refine sqs ?_
   try refine aA.retU ?_
   exact aB.ret tab Tryz.func80 rfl (eN () trivial)
  have hk:k=l.length:=by omega
  have hJ4:=hJ.2.2.2
  rw [hk,List.drop_length] at hJ4
  have hJ4:r=.inl x:=hJ4
  conv=>whnf
  rw [hJ4]
  try refine aA.retU ?_
  exact aB.ret tab Tryz.func80 rfl (aT.mk (()) (trivial) [(1,3)] sH rfl rfl (bH rfl rfl))
 rw [if_pos hn] at hr
 subst hr
 refine aA.callV (fun Ez Hz Az Sz K=>aOR l (Sz.ro (b:=0) rfl)) ?_
 conv=>whnf
 rw [decide_eq_true hn]
 try dsimp only
 refine sqs ?_
 try refine aA.retU ?_
 exact aB.ret tab Tryz.func80 rfl (eN () trivial)

def UnOk (l:List Un):Prop:=∀u∈l,(-9223372036854775808≤u.n∧u.n≤9223372036854775807)∧(-9223372036854775808≤u.d∧u.d≤9223372036854775807)
theorem resOk {l x:List Un} (hl:l.length≤9223372036854775807) (hi:UnOk l) (hx:dA l=.inl x):
  FnT Tryz.prog rW 80 1 [.buf 0] [(0,.ro 8 (aL l))] (fun _:Unit=>True) (fun _=>.ret (.tup [.buf 1,.v (.int .i64 0)]) 2 [aPI 1 x]):=by
 have:=xX l hl hi
 rw [hx] at this
 exact this
theorem resNo {l:List Un} {e:Int} (hl:l.length≤9223372036854775807) (hi:UnOk l) (hx:dA l=.inr e):
  FnT Tryz.prog rW 80 1 [.buf 0] [(0,.ro 8 (aL l))] (fun _:Unit=>True) (fun _=>.ret (.tup [.v (.slice none 0 0),.v (.int .i64 e)]) 1 []):=by
 have:=xX l hl hi
 rw [hx] at this
 exact this
theorem aLM {a b:List Un} {k:Nat} (ha:k<a.length) (hb:k<b.length) (h:a.take k=b.take k) (he:a[k]=b[k]):a.take (k+1)=b.take (k+1):=by
 rw [List.take_add_one,List.take_add_one,h,List.getElem?_eq_getElem ha,List.getElem?_eq_getElem hb,he]
theorem aNA {h:Array Obj} (a b:List Un) {va vb:Value} (hva:Ro h va 8 (aL a)) (hvb:Ro h vb 8 (aL b)):FnV Tryz.prog 81 #[va,vb] h fun r h'=>r=.bool (decide (a=b))∧aH h.size h h':=by
 have hla:=aZ a
 have hlb:=aZ b
 have hma:=hva.len
 have hmb:=hvb.len
 obtain ⟨r,hr⟩:∃r,r=decide (a=b):=⟨_,rfl⟩
 rw [←hr]
 refine Fn.ofG (mJ [va,vb]) 2 [.buf 0,.buf 1] [(0,.ro (8) (aL a)),(1,.ro (8) (aL b))] (fun k=>k<_) Tryz.func81 (by kernel_rfl) rfl Tryz.ntmps81 rfl (fun _ hk=>hk) (Sat.ros (vs:=[va,vb]) (l:=[(8,aL a),(8,aL b)]) ⟨hva,hvb,trivial⟩) fun w0 cs=>?_
 conv=>whnf
 refine gS ?_;conv=>whnf
 refine ⟨fun h1=>?_,fun h1=>?_⟩<;>conv=>whnf
 ·have h1:a.length=b.length:=by omega
  conv=>whnf
  refine aA.subR [] (aA.loop (fun (k:Nat)=>[(13,.v (.int .i64 k)),(12,.v (.int .i64 (aL a).length)),(11,.buf 0),(0,.buf 0),(1,.buf 1)]) (fun (k:Nat)=>[(0,.ro 8 (aL a)),(1,.ro 8 (aL b))]) 2 (fun (k:Nat)=>k≤a.length∧a.take k=b.take k) (fun (k:Nat)=>a.length - k) ?round1 (0) ?J01) sH sH
  case J01=>exact (⟨Nat.zero_le _,rfl⟩)
  rintro k hJ back
  try dsimp only at hJ back
  conv=>whnf
  try dsimp only
  refine gS ?_;conv=>whnf
  refine ⟨fun hk=>?_,fun hk=>?_⟩<;>conv=>whnf
  ·have hk:k<a.length:=by omega
   have hkb:k<b.length:=by omega
   conv=>whnf
   refine aA.held tab (.fl 0 (.fl 1 (.fl 2 (.fl 3 (.fl 4 (.fl 5 (.fl 6 (.fl 7 (.fl 8 .done))))))))) (by kernel_rfl) ?_;conv=>whnf
   refine mE ?_
   conv=>whnf
   refine ⟨_,dK hk,?_⟩;conv=>whnf
   try (refine oN ?_;conv=>whnf)
   refine xE ?_
   conv=>whnf
   refine ⟨_,dK hkb,?_⟩;conv=>whnf
   try (refine oN ?_;conv=>whnf)
   conv=>whnf
   refine ⟨fun he=>?_,fun he=>?_⟩<;>conv=>whnf
   ·try refine gR ?_
    conv=>whnf
    refine dT ?_
    refine aA.subR [] (back (k+1) (by exact (⟨hk,aLM hk hkb hJ.2 (Un.ext8 he)⟩)) (by (try dsimp only);omega)) sH sH
   refine sqr ?_
   refine sqs ?_
   have:r=false:=by
    rw [hr]
    refine decide_eq_false fun e=>he ?_
    subst e
    exact Un.ext8_iff.1 rfl
   rw [this]
   refine aA.retU (aB.ret tab Tryz.func81 rfl fun _ _ _ _ K=>⟨_,rfl,rfl,K.keeps⟩)
  have hk:k=a.length:=by omega
  have h2:=hJ.2
  rw [hk,List.take_length,h1,List.take_length] at h2
  have:r=true:=by rw [hr];exact decide_eq_true h2
  conv=>whnf
  rw [this]
  refine aA.retU (aB.ret tab Tryz.func81 rfl fun _ _ _ _ K=>⟨_,rfl,rfl,K.keeps⟩)
 have:r=false:=by rw [hr];exact decide_eq_false (fun e=>h1 (by rw [e]))
 rw [this]
 conv=>whnf
 refine aA.retU (aB.ret tab Tryz.func81 rfl fun _ _ _ _ K=>⟨_,rfl,rfl,K.keeps⟩)
theorem aMN:∀ {l x:List Un} {e:Int},sR l x=.inr e→e=90∨e=110
 | [],x,e,h=>by cases h
 |u::l,x,e,h=>by
  simp only [sR] at h
  split at h
  ·exact aMN h
  rename_i e' he
  cases h
  unfold iP at he
  split at he
  ·split at he<;>cases he
   exact .inl rfl
  split at he
  ·split at he
   ·split at he<;>cases he
    exact .inr rfl
   cases he;exact .inr rfl
  cases he;exact .inl rfl
theorem aJV {l:List Un} {e:Int} (h:dA l=.inr e):e=90∨e=110∨e=111:=by
 unfold dA at h
 split at h
 ·cases h;exact .inl rfl
 split at h
 ·cases h;exact .inr (.inr rfl)
 have:=aMN h;omega
theorem vZ {h:Array Obj} (l:List Un) (hi:UnOk l) {v:Value} (hv:Ro h v 8 (aL l)) (hT:gN h):FnV Tryz.prog 51 #[v] h fun r h'=>r=.int .i64 (eT l)∧aH h.size h h':=by
 have hl:=aZ l
 have hm:=hv.len
 refine Fn.ofG (mJ [v]) 1 [.buf 0] [(0,.ro (8) (aL l))] (fun k=>k<_) Tryz.func51 (by kernel_rfl) rfl Tryz.ntmps51 rfl (fun _ hk=>hk) (Sat.ros (vs:=[v]) (l:=[(8,aL l)]) ⟨hv,trivial⟩) fun w0 cs=>?_
 conv=>whnf
 refine gS ?_;conv=>whnf
 cases hx:dA l with
 |inr e=>
  have he:=aJV hx
  have:eT l=e:=by unfold eT;rw [hx]
  rw [this]
  refine aA.callT dE (hT.t) (resNo (by omega) hi hx) [0] sH ?CNa3 ?_
  case CNa3=>rfl
  intro _ _
  conv=>whnf
  refine dT ?_
  refine aA.retU (aB.ret tab Tryz.func51 rfl fun _ _ _ _ K=>⟨_,rfl,rfl,K.keeps⟩)
 |inl x=>
  have hc:eT l=if x=l then 0 else 90:=by unfold eT;rw [hx]
  rw [hc]
  refine aA.callT dE (hT.t) (resOk (by omega) hi hx) [0] sH ?CNa4 ?_
  case CNa4=>rfl
  intro _ _
  conv=>whnf
  refine dT ?_
  by_cases he:x=l
  ·refine aA.callV (fun Ez Hz Az Sz K=>aNA x l (Sz.ro (b:=1) rfl) (Sz.ro (b:=0) rfl)) ?_
   conv=>whnf
   rw [decide_eq_true he]
   try dsimp only
   refine sqs ?_
   rw [if_pos he]
   refine aA.retU (aB.ret tab Tryz.func51 rfl fun _ _ _ _ K=>⟨_,rfl,rfl,K.keeps⟩)
  refine aA.callV (fun Ez Hz Az Sz K=>aNA x l (Sz.ro (b:=1) rfl) (Sz.ro (b:=0) rfl)) ?_
  conv=>whnf
  rw [decide_eq_false he]
  try dsimp only
  refine sqs ?_
  rw [if_neg he]
  refine aA.retU (aB.ret tab Tryz.func51 rfl fun _ _ _ _ K=>⟨_,rfl,rfl,K.keeps⟩)

theorem aXC {l:List Un} {a b:Int} {r:Rt} (h:eT l≠0):uN l a b r=(zr,eT l):=if_pos h
theorem aVH {l:List Un} {a b:Int} {r:Rt} (h:eT l=0) (ho:a<0∨(l.length:Int)≤a∨b<0∨(l.length:Int)≤b):uN l a b r=(zr,90):=by
 unfold uN
 rw [if_neg (fun e=>e h)]
 split
 ·rename_i u v hu hv
  have h1:=(List.getElem?_eq_some_iff.1 hu).1
  have h2:=(List.getElem?_eq_some_iff.1 hv).1
  exact if_pos (by omega)
 rfl
theorem bAK {l:List Un} {i j:Nat} {r:Rt} (h:eT l=0) (hi:i<l.length) (hj:j<l.length):uN l i j r =
  if l[i].base≠l[j].base then (zr,90) else if (fI r l[i].scale).2≠0 then (zr,(fI r l[i].scale).2) else aLG (fI r l[i].scale).1 l[j].scale:=by
 unfold uN
 rw [if_neg (fun e=>e h),Int.toNat_natCast,Int.toNat_natCast,List.getElem?_eq_getElem hi,List.getElem?_eq_getElem hj]
 dsimp only
 by_cases hb:l[i].base≠l[j].base
 ·rw [if_pos (.inr (.inr hb)),if_pos hb]
  rfl
 rw [if_neg (by omega),if_neg hb]
 rfl
theorem aSF {h:Array Obj} (l:List Un) (hi:UnOk l) {v:Value} (hv:Ro h v 8 (aL l)) (a b:Int) (r:Rt) (hT:gN h):FnV Tryz.prog 74 #[v,.int .i64 a,.int .i64 b,r.v] h fun y h'=>y=rev (uN l a b r)∧aH h.size h h':=by
 have hl:=aZ l
 have hm:=hv.len
 obtain ⟨y,hy⟩:∃y,y=uN l a b r:=⟨_,rfl⟩
 rw [←hy]
 refine Fn.ofG (mJ [v]) 1 [.buf 0,.v (.int .i64 a),.v (.int .i64 b),.agg [.v (.bool r.neg),.v (.string r.n),.v (.string r.d)]] [(0,.ro (8) (aL l))] (fun k=>k<_) Tryz.func74 (by kernel_rfl) rfl Tryz.ntmps74 rfl (fun _ hk=>hk) (Sat.ros (vs:=[v]) (l:=[(8,aL l)]) ⟨hv,trivial⟩) fun w0 cs=>?_
 conv=>whnf
 refine gS ?_;conv=>whnf
 by_cases hc:eT l=0
 ·refine aA.callV (fun Ez Hz Az Sz K=>vZ l hi (Sz.ro (b:=0) rfl) (hT.keeps ⟨K.size,K.same⟩)) ?_
  conv=>whnf
  rw [hc]
  try dsimp only
  refine dT ?_
  by_cases ho:a<0∨(l.length:Int)≤a∨b<0∨(l.length:Int)≤b
  ·rw [aVH hc ho] at hy
   subst hy
   refine aA.held tab (.fl 0 (.fl 1 (.fl 2 (.fl 3 (.fl 4 (.fl 5 (.fl 6 (.fl 7 (.fl 8 (.fl 9 (.fl 10 (.fl 11 (.fl 12 (.fl 13 (.fl 14 (.fl 15 (.fl 16 (.fl 17 (.fl 18 (.fl 19 (.fl 20 (.fl 21 (.fl 22 (.fl 23 (.fl 24 (.fl 25 (.fl 26 (.fl 27 (.fl 28 (.fl 29 (.fl 30 .done))))))))))))))))))))))))))))))) (by kernel_rfl) ?_;conv=>whnf
   refine sqr ?_
   by_cases o1:a<0
   ·try refine gR ?_
    refine xE ?_
    refine sqs ?_
    refine aA.retU (aB.ret tab Tryz.func74 rfl fun _ _ _ _ K=>⟨_,rfl,rfl,K.keeps⟩)
   by_cases o2:(l.length:Int)≤a
   ·try refine gR ?_
    refine xE ?_
    refine sqs ?_
    refine aA.retU (aB.ret tab Tryz.func74 rfl fun _ _ _ _ K=>⟨_,rfl,rfl,K.keeps⟩)
   by_cases o3:b<0
   ·try refine gR ?_
    refine xE ?_
    refine sqs ?_
    refine aA.retU (aB.ret tab Tryz.func74 rfl fun _ _ _ _ K=>⟨_,rfl,rfl,K.keeps⟩)
   refine mE ?_
   refine sqs ?_
   refine aA.retU (aB.ret tab Tryz.func74 rfl fun _ _ _ _ K=>⟨_,rfl,rfl,K.keeps⟩)
  obtain ⟨i,rfl⟩:∃i:Nat,a=i:=⟨a.toNat,by omega⟩
  obtain ⟨j,rfl⟩:∃j:Nat,b=j:=⟨b.toNat,by omega⟩
  have i1:i<l.length:=by omega
  have j1:j<l.length:=by omega
  rw [bAK hc i1 j1] at hy
  refine aA.held tab (.fl 0 (.fl 1 (.fl 2 (.fl 3 (.fl 4 (.fl 5 (.fl 6 (.fl 7 (.fl 8 (.fl 9 (.fl 10 (.fl 11 (.fl 12 (.fl 13 (.fl 14 (.fl 15 (.fl 16 (.fl 17 (.fl 18 (.fl 19 (.fl 20 (.fl 21 (.fl 22 (.fl 23 (.fl 24 (.fl 25 (.fl 26 (.fl 27 (.fl 28 (.fl 29 (.fl 30 .done))))))))))))))))))))))))))))))) (by kernel_rfl) ?_;conv=>whnf
  refine mE ?_
  conv=>whnf
  refine ⟨_,dK i1,?_⟩;conv=>whnf
  try (refine oN ?_;conv=>whnf)
  conv=>whnf
  refine ⟨_,dK j1,?_⟩;conv=>whnf
  refine ⟨fun hb=>?_,fun hb=>?_⟩<;>conv=>whnf
  ·try refine gR ?_
   conv=>whnf
   refine sqs ?_
   refine aA.held tab (.fl 0 (.fl 1 (.fl 2 (.fl 3 (.fl 4 (.fl 5 (.e1 6 [] (.fl 7 (.fl 8 (.fl 9 (.e1 10 [] (.fl 11 .done)))))))))))) (by kernel_rfl) ?_;conv=>whnf
   refine mE ?_
   conv=>whnf
   refine ⟨_,dK i1,?_⟩;conv=>whnf
   try (refine oN ?_;conv=>whnf)
   conv=>whnf
   refine aK.callV (fun Ez Hz Az Sz K=>nT r l[i].scale (hT.keeps ⟨K.size,K.same⟩)) (by (conv=>whnf);(repeat (guard_target=_∧_;refine And.intro (by (conv=>whnf);first|rfl|exact trivial) ?_;conv=>whnf));exact trivial) ?_
   conv=>whnf
   refine mE ?_
   refine sqs ?_
   rw [if_neg (fun e=>e hb)] at hy
   refine ⟨fun hm=>?_,fun hm=>?_⟩<;>conv=>whnf
   ·try refine gR ?_
    conv=>whnf
    refine sqs ?_
    rw [if_neg (fun e=>e hm)] at hy
    refine aA.held tab (.fl 0 (.fl 1 (.fl 2 (.fl 3 (.fl 4 (.fl 5 (.e1 6 [] (.fl 7 (.fl 8 (.e1 9 [] (.fl 10 .done))))))))))) (by kernel_rfl) ?_;conv=>whnf
    refine mE ?_
    conv=>whnf
    refine ⟨_,dK j1,?_⟩;conv=>whnf
    try (refine oN ?_;conv=>whnf)
    conv=>whnf
    refine aK.callV (fun Ez Hz Az Sz K=>qDiv_fn (fI r l[i].scale).1 l[j].scale (hT.keeps ⟨K.size,K.same⟩)) (by (conv=>whnf);(repeat (guard_target=_∧_;refine And.intro (by (conv=>whnf);first|rfl|exact trivial) ?_;conv=>whnf));exact trivial) ?_
    conv=>whnf
    refine mE ?_
    refine sqs ?_
    subst hy
    refine aA.retU (aB.ret tab Tryz.func74 rfl fun _ _ _ _ K=>⟨_,rfl,rfl,K.keeps⟩)
   refine sqr ?_
   refine sqs ?_
   rw [if_pos hm] at hy
   subst hy
   refine aA.retU (aB.ret tab Tryz.func74 rfl fun _ _ _ _ K=>⟨_,rfl,rfl,K.keeps⟩)
  refine sqr ?_
  refine sqs ?_
  rw [if_pos hb] at hy
  subst hy
  refine aA.retU (aB.ret tab Tryz.func74 rfl fun _ _ _ _ K=>⟨_,rfl,rfl,K.keeps⟩)
 rw [aXC hc] at hy
 subst hy
 refine aA.callV (fun Ez Hz Az Sz K=>vZ l hi (Sz.ro (b:=0) rfl) (hT.keeps ⟨K.size,K.same⟩)) ?_
 conv=>whnf
 refine dT ?_
 refine aA.retU (aB.ret tab Tryz.func74 rfl fun _ _ _ _ K=>⟨_,rfl,rfl,K.keeps⟩)

abbrev FewS (a:Rt):Prop:=(a.n.size:Int)≤40∧(a.d.size:Int)≤40
def FewU (l:List Un):Prop:=(∀u∈l,FewS u.scale)∧l.length≤8
instance (l:List Un):Decidable (FewU l):=by unfold FewU;infer_instance

instance decRtU:DecidableEq Go.RatM.Rt:=fun a b=>decidable_of_iff (a.neg=b.neg∧a.n=b.n∧a.d=b.d) ⟨fun h=>by cases a;cases b;obtain ⟨rfl,rfl,rfl⟩:=h;rfl,fun h=>by subst h;exact ⟨rfl,rfl,rfl⟩⟩
instance (l:List Un):Decidable (UnOk l):=by unfold UnOk;infer_instance


def FitU (u:Un):Prop:=if u.of_=NatM.mt then u.n=0∧u.d=0 else btw u.n∧btw u.d
instance (u:Un):Decidable (FitU u):=by unfold FitU;infer_instance

end Go.Proofs.YthjedpdedjhndaaGreatDoor

namespace Go.SrcM
open Go Go.Fw Go.RatM
abbrev rws {α:Type} (f:α→List Value) (l:List α):List (List Value):=l.map f
theorem aE {α:Type} (f:α→List Value) (l:List α):(rws f l).length=l.length:=by simp [rws]
theorem bA {α:Type} {f:α→List Value} {l:List α} {k:Nat} (hk:k<l.length):(rws f l)[k]? = some (f l[k]):=by simp [rws,hk]
abbrev bV (l:List ByteArray):List (List Value):=rws (fun s=>[Value.string s]) l
theorem cK (l:List ByteArray):(bV l).length=l.length:=aE _ l
structure It where
 name:ByteArray
 unit:ByteArray
 mn:Int
 md:Int
 shelf:Int
 un:Int
def It.row (i:It):List Value:=[.string i.name,.string i.unit,.int .i64 i.mn,.int .i64 i.md,.int .i64 i.shelf,.int .i64 i.un]
structure Mc where
 name:ByteArray
 plant:ByteArray
 clean:Int
 pn:Int
def Mc.row (i:Mc):List Value:=[.string i.name,.string i.plant,.int .i64 i.clean,.int .i64 i.pn]
structure Cd where
 opt:ByteArray
 ch:ByteArray
 on:Int
 cn:Int
def Cd.row (i:Cd):List Value:=[.string i.opt,.string i.ch,.int .i64 i.on,.int .i64 i.cn]
structure Am where
 n:Int
 d:Int
 unit:ByteArray
 item:ByteArray
 back:Bool
 un:Int
 inn:Int
def Am.row (i:Am):List Value:=[.int .i64 i.n,.int .i64 i.d,.string i.unit,.string i.item,.bool i.back,.int .i64 i.un,.int .i64 i.inn]
structure Rn where
 mach:ByteArray
 slots:Int
 mn:Int
def Rn.row (i:Rn):List Value:=[.string i.mach,.int .i64 i.slots,.int .i64 i.mn]
structure Sw where
 a:ByteArray
 b:ByteArray
 an:Int
 bn:Int
def Sw.row (i:Sw):List Value:=[.string i.a,.string i.b,.int .i64 i.an,.int .i64 i.bn]
structure Hd where
 a:Option Addr
 c:Nat
abbrev Hd.v (h:Hd) (n:Nat):Value:=.slice h.a n h.c
structure OpV where
 name:ByteArray
 hd:Hd
 ch:List ByteArray
def OpV.row (i:OpV):List Value:=[.string i.name,.slice i.hd.a i.ch.length i.hd.c]
structure FbV where
 hd:Hd
 cs:List Cd
def FbV.row (i:FbV):List Value:=[.slice i.hd.a i.cs.length i.hd.c]
structure RcV where
 item:ByteArray
 plant:ByteArray
 fr:Int
 to:Int
 hc:Hd
 cs:List Cd
 hi:Hd
 inn:List Am
 ho:Hd
 out:List Am
 rwN:Int
 rwD:Int
 yN:Int
 yD:Int
 tN:Int
 tD:Int
 lead:Int
 hr:Hd
 runs:List Rn
 inum:Int
 pnum:Int
def RcV.row (r:RcV):List Value:=[.string r.item,.string r.plant,.int .i64 r.fr,.int .i64 r.to,.slice r.hc.a r.cs.length r.hc.c,.slice r.hi.a r.inn.length r.hi.c,.slice r.ho.a r.out.length r.ho.c,.int .i64 r.rwN,.int .i64 r.rwD,.int .i64 r.yN,.int .i64 r.yD,.int .i64 r.tN,.int .i64 r.tD,.int .i64 r.lead,.slice r.hr.a r.runs.length r.hr.c,.int .i64 r.inum,.int .i64 r.pnum]
structure aG where
 units:List Un
 items:List It
 plants:List ByteArray
 machines:List Mc
 options:List OpV
 forbids:List FbV
 recipes:List RcV
 swaps:List Sw
abbrev xY (vU vI vP vM vO vF vR vS:Value):Value:=.agg #[vU,vI,vP,vM,vO,vF,vR,vS]
section
variable (G:Nat→Prop) (h:Array Obj)
def OpV.ok (o:OpV):Prop:=RoF G h (o.hd.v o.ch.length) 1 (bV o.ch)
def FbV.ok (o:FbV):Prop:=RoF G h (o.hd.v o.cs.length) 4 (rws Cd.row o.cs)
structure RcV.ok (r:RcV):Prop where
 c:RoF G h (r.hc.v r.cs.length) 4 (rws Cd.row r.cs)
 i:RoF G h (r.hi.v r.inn.length) 7 (rws Am.row r.inn)
 o:RoF G h (r.ho.v r.out.length) 7 (rws Am.row r.out)
 rn:RoF G h (r.hr.v r.runs.length) 3 (rws Rn.row r.runs)
structure aG.sub (s:aG):Prop where
 o:∀o∈s.options,o.ok G h
 f:∀o∈s.forbids,o.ok G h
 r:∀o∈s.recipes,o.ok G h
end
section
variable {G G':Nat→Prop} {h h':Array Obj}
theorem OpV.ok.up {o:OpV} (H:o.ok G h) (U:Up G h G' h'):o.ok G' h':=RoF.up U H
theorem FbV.ok.up {o:FbV} (H:o.ok G h) (U:Up G h G' h'):o.ok G' h':=RoF.up U H
theorem RcV.ok.up {o:RcV} (H:o.ok G h) (U:Up G h G' h'):o.ok G' h':=⟨RoF.up U H.c,RoF.up U H.i,RoF.up U H.o,RoF.up U H.rn⟩
theorem aG.sub.up {s:aG} (H:s.sub G h) (U:Up G h G' h'):s.sub G' h':=⟨fun o ho=>(H.o o ho).up U,fun o ho=>(H.f o ho).up U,fun o ho=>(H.r o ho).up U⟩
theorem Up.kp {F:Nat→Prop} (K:Kp F h h'):Up F h (fun k=>k<h'.size) h':=⟨fun i hi=>Nat.lt_of_lt_of_le (K.lt i hi) K.size,K.same⟩
theorem Up.below {F:Nat→Prop} (hG:∀i,G i→F i) (K:Kp F h h'):Up G h' (fun k=>k<h'.size) h':=⟨fun i hi=>Nat.lt_of_lt_of_le (K.lt i (hG i hi)) K.size,fun _ _=>rfl⟩
structure Top (h:Array Obj) (vU vI vP vM vO vF vR vS:Value) (s:aG):Prop where
 U:Ro h vU 8 (aL s.units)
 I:Ro h vI 6 (rws It.row s.items)
 P:Ro h vP 1 (bV s.plants)
 M:Ro h vM 4 (rws Mc.row s.machines)
 O:Ro h vO 2 (rws OpV.row s.options)
 F:Ro h vF 1 (rws FbV.row s.forbids)
 R:Ro h vR 17 (rws RcV.row s.recipes)
 S:Ro h vS 4 (rws Sw.row s.swaps)
 below:s.sub (fun k=>k<h.size) h
theorem RcV.ok.tok (r:RcV):TOk (fun F h=>r.ok F h):=⟨fun _ _ _ hs H=>H.up ⟨hs,fun _ _=>rfl⟩,fun _ _ _ H K=>H.up ⟨fun _ x=>x,K.same⟩⟩
theorem RoF.tok (v:Value) (sz:Nat) (rows:List (List Value)):TOk (fun F h=>RoF F h v sz rows):=⟨fun _ _ _ hs H=>RoF.up ⟨hs,fun _ _=>rfl⟩ H,fun _ _ _ H K=>RoF.up ⟨fun _ x=>x,K.same⟩ H⟩
theorem aG.sub.tok (s:aG):TOk (fun F h=>s.sub F h):=⟨fun _ _ _ hs H=>H.up ⟨hs,fun _ _=>rfl⟩,fun _ _ _ H K=>H.up ⟨fun _ x=>x,K.same⟩⟩
end
abbrev i64 (n:Int):Prop:= -9223372036854775808≤n∧n≤9223372036854775807
def Cd.wf (c:Cd):Prop:=i64 c.on∧i64 c.cn
def Am.wf (a:Am):Prop:=i64 a.n∧i64 a.d∧i64 a.un∧i64 a.inn
def Rn.wf (r:Rn):Prop:=i64 r.slots∧i64 r.mn
def Sw.wf (r:Sw):Prop:=i64 r.an∧i64 r.bn
def It.wf (i:It):Prop:=i64 i.mn∧i64 i.md∧i64 i.shelf∧i64 i.un
def Mc.wf (i:Mc):Prop:=i64 i.clean∧i64 i.pn
structure RcV.wf (r:RcV):Prop where
 c:∀c∈r.cs,c.wf
 i:∀c∈r.inn,c.wf
 o:∀c∈r.out,c.wf
 rn:∀c∈r.runs,c.wf
 n:i64 r.fr∧i64 r.to∧i64 r.rwN∧i64 r.rwD∧i64 r.yN∧i64 r.yD∧i64 r.tN∧i64 r.tD∧i64 r.lead∧i64 r.inum∧i64 r.pnum
structure aG.wf (s:aG):Prop where
 U:∀u∈s.units,i64 u.n∧i64 u.d
 I:∀u∈s.items,u.wf
 M:∀u∈s.machines,u.wf
 F:∀u∈s.forbids,∀c∈u.cs,c.wf
 R:∀u∈s.recipes,u.wf
 S:∀u∈s.swaps,u.wf
end Go.SrcM

namespace Go.SrcM
open Go Go.Fw Go.RatM
def tW {α:Type} (o:Option α) (P:α→Prop):Prop:=match o with
 |some a=>P a
 |none=>False
instance osatD {α:Type} (o:Option α) (P:α→Prop) [DecidablePred P]:Decidable (tW o P):=by
 cases o<;>(unfold tW;infer_instance)
theorem aMG {α:Type} {o:Option α} {P:α→Prop}:tW o P ↔ ∃a,o=some a∧P a:=by
 cases o<;>simp [tW]
theorem aLI {α:Type} {l:List α} {i:Nat} {P:α→Prop} (h:i<l.length):tW l[i]? P↔P l[i]:=by
 rw [List.getElem?_eq_getElem h];exact Iff.rfl
abbrev idx (n:Int) (m:Nat):Prop:=0≤n∧n<m
abbrev bt (n a b:Int):Prop:=a≤n∧n≤b
def at? {α:Type} (l:List α) (i:Int):Option α:=if 0≤i then l[i.toNat]? else none
theorem at?_nat {α:Type} (l:List α) (i:Nat):at? l i=l[i]? :=if_pos (Int.natCast_nonneg i)
theorem at?_some {α:Type} {l:List α} {i:Int} {a:α} (h:at? l i=some a):∃k:Nat,i=k ∧ ∃hk:k<l.length,l[k]=a:=by
 unfold at? at h
 split at h
 ·obtain ⟨h1,h2⟩:=List.getElem?_eq_some_iff.1 h
  exact ⟨i.toNat,by omega,h1,h2⟩
 cases h
theorem at?_none {α:Type} {l:List α} {i:Int} (h:¬idx i l.length):at? l i=none:=by
 unfold at?
 split
 ·exact List.getElem?_eq_none (by unfold idx at h;omega)
 rfl
theorem at?_idx {α:Type} {l:List α} {i:Int} (h:idx i l.length):∃k:Nat,i=k ∧ ∃hk:k<l.length,at? l i=some l[k]:=by
 obtain ⟨k,rfl⟩:∃k:Nat,i=k:=⟨i.toNat,by unfold idx at h;omega⟩
 have hk:k<l.length:=by unfold idx at h;omega
 exact ⟨k,rfl,hk,by rw [at?_nat,List.getElem?_eq_getElem hk]⟩
def aG.base (s:aG) (i:Int):Option Int:=match at? s.items i with
 |some x=>match at? s.units x.un with
  |some u=>some u.base
  |none=>none
 |none=>none
def qF (s:aG) (i:It):Prop:=idx i.un s.units.length∧bt i.mn 0 1048576∧bt i.md 1 1048576∧bt i.shelf 0 1023
def yE (s:aG) (m:Mc):Prop:=idx m.pn s.plants.length∧bt m.clean 0 15
def vN (s:aG) (c:Cd):Prop:=tW (at? s.options c.on) fun o=>idx c.cn o.ch.length
def jL (s:aG) (l:List Cd):Prop:=(∀c∈l,vN s c)∧(l.map Cd.on).Nodup
def fX (s:aG) (a:Am):Prop:=bt a.n 1 1048576∧bt a.d 1 1048576∧tW (s.base a.inn) fun b=>tW (at? s.units a.un) fun u=>u.base=b
def lJ (n d:Int):Prop:=bt d 1 1048576∧bt n 0 d
def iT (r:RcV):Prop:=tW r.out[0]? fun a=>a.inn=r.inum
def sE (s:aG) (r:RcV):Prop:=iT r∧(∀a∈r.out,fX s a∧a.back=false)∧(r.out.map Am.inn).Nodup
def xL (s:aG) (r:RcV) (x:Rn):Prop:=(tW (at? s.machines x.mn) fun m=>m.pn=r.pnum)∧bt x.slots 0 15
def aBG (s:aG) (r:RcV):Prop:=(∀x∈r.runs,xL s r x)∧(r.runs.map Rn.mn).Nodup
def uK (r:RcV):Prop:=0≤r.fr∧r.fr<r.to∧r.to≤1024
def mY (s:aG) (r:RcV):Prop:=idx r.inum s.items.length∧idx r.pnum s.plants.length∧uK r∧jL s r.cs∧(∀a∈r.inn,fX s a)∧sE s r ∧
 lJ r.rwN r.rwD∧lJ r.yN r.yD∧lJ r.tN r.tD∧r.rwN<r.rwD∧bt r.lead 0 15∧aBG s r
def pA (s:aG) (x:Sw):Prop:=(tW (s.base x.an) fun b=>tW (s.base x.bn) fun c=>b=c)∧x.an≠x.bn
structure vE (s:aG):Prop where
 I:∀i∈s.items,qF s i
 M:∀m∈s.machines,yE s m
 O:∀o∈s.options,o.ch ≠ []
 F:∀f∈s.forbids,f.cs ≠ []∧jL s f.cs
 R:∀r∈s.recipes,mY s r
 S:∀x∈s.swaps,pA s x
def lW (s:aG):Prop:=(∀o∈s.options,o.ch.length≤4)∧(∀r∈s.recipes,r.inn.length≤8∧r.out.length≤8)∧s.items.length≤32∧s.plants.length≤8∧s.machines.length≤16∧s.options.length≤6∧s.forbids.length≤16∧s.recipes.length≤64∧s.swaps.length≤64
instance (s:aG) (i:It):Decidable (qF s i):=by unfold qF;infer_instance
instance (s:aG) (i:Mc):Decidable (yE s i):=by unfold yE;infer_instance
instance (s:aG) (i:Cd):Decidable (vN s i):=by unfold vN;infer_instance
instance (s:aG) (i:List Cd):Decidable (jL s i):=by unfold jL;infer_instance
instance (s:aG) (a:Am):Decidable (fX s a):=by unfold fX;infer_instance
instance (n d:Int):Decidable (lJ n d):=by unfold lJ;infer_instance
instance (r:RcV):Decidable (iT r):=by unfold iT;infer_instance
instance (r:RcV):Decidable (uK r):=by unfold uK;infer_instance
instance (s:aG) (r:RcV):Decidable (sE s r):=by unfold sE;infer_instance
instance (s:aG) (r:RcV) (x:Rn):Decidable (xL s r x):=by unfold xL;infer_instance
instance (s:aG) (r:RcV):Decidable (aBG s r):=by unfold aBG;infer_instance
instance (s:aG) (r:RcV):Decidable (mY s r):=by unfold mY;infer_instance
instance (s:aG) (x:Sw):Decidable (pA s x):=by unfold pA;infer_instance
instance (o:OpV):Decidable (o.ch ≠ []):=decidable_of_iff (o.ch.isEmpty=false) (by cases o.ch<;>simp)
instance (o:FbV):Decidable (o.cs ≠ []):=decidable_of_iff (o.cs.isEmpty=false) (by cases o.cs<;>simp)
instance (s:aG):Decidable (vE s):=decidable_of_iff ((∀i∈s.items,qF s i)∧(∀m∈s.machines,yE s m)∧(∀o∈s.options,o.ch ≠ [])∧(∀f∈s.forbids,f.cs ≠ []∧jL s f.cs)∧(∀r∈s.recipes,mY s r)∧(∀x∈s.swaps,pA s x))
 ⟨fun ⟨a,b,c,d,e,f⟩=>⟨a,b,c,d,e,f⟩,fun ⟨a,b,c,d,e,f⟩=>⟨a,b,c,d,e,f⟩⟩
instance (s:aG):Decidable (lW s):=by unfold lW;infer_instance
def bE (s:aG):Int:=if eT s.units≠0 then eT s.units else if ¬lW s then 2 else if ¬vE s then 120 else 0
def aDL (s:aG) (a:Am):Rt×Int:=match at? s.items a.inn with
 |some x=>if (eU a.n a.d).2≠0 then (zr,(eU a.n a.d).2) else uN s.units a.un x.un (eU a.n a.d).1
 |none=>(zr,120)
def nR (s:aG) (a:Am):Rt×Int:=if (aDL s a).2≠0 then (zr,(aDL s a).2) else match at? s.items a.inn with
 |some x=>if (eU x.mn x.md).2≠0 then (zr,(eU x.mn x.md).2) else fI (aDL s a).1 (eU x.mn x.md).1
 |none=>(zr,120)
def FewT (s:aG):Prop:=(∀u∈s.units,u.scale.n.size≤60∧u.scale.d.size≤60)∧(∀o∈s.options,o.ch.length≤6)∧(∀o∈s.forbids,o.cs.length≤8) ∧
 (∀r∈s.recipes,r.cs.length≤8∧r.inn.length≤10∧r.out.length≤10∧r.runs.length≤20) ∧
 s.units.length≤40∧s.items.length≤40∧s.plants.length≤10∧s.machines.length≤20∧s.options.length≤8∧s.forbids.length≤20∧s.recipes.length≤70∧s.swaps.length≤70
instance (s:aG):Decidable (FewT s):=by unfold FewT;infer_instance
end Go.SrcM

namespace Go.RatM
open Go Go.Fw Go.NatM
def Un.sv (u:Un):Rat:=(sZ u.scale).val
theorem Sc1.sv {k:Nat} {u:Un} (h:Sc1 k u):∃q:Q,u.scale=aN q∧q.Ok∧q.le k∧q.val=u.sv∧0<u.sv:=by
 obtain ⟨q,h1,h2,h3,h4⟩:=h
 refine ⟨q,h1,h2,h3,?_,?_⟩
 ·unfold Un.sv;rw [h1,gB]
 unfold Un.sv;rw [h1,gB];exact h4
theorem cvU_in {l:List Un} {i j:Nat} {r:Rt} (h:eT l=0) (hi:i<l.length) (hj:j<l.length) (hb:l[i].base=l[j].base):uN l i j r =
  if (fI r l[i].scale).2≠0 then (zr,(fI r l[i].scale).2) else aLG (fI r l[i].scale).1 l[j].scale:=by
 unfold uN
 rw [if_neg (fun e=>e h),Int.toNat_natCast,Int.toNat_natCast,List.getElem?_eq_getElem hi,List.getElem?_eq_getElem hj]
 dsimp only
 rw [if_neg (by omega)]
 rfl
theorem aKW {l:List Un} {m k i j:Nat} {R:Q} (h:eT l=0) (hs:∀u∈l,Sc1 m u) (hk:k+m+m≤256) (hi:i<l.length) (hj:j<l.length) (hb:l[i].base=l[j].base) (oR:R.Ok) (lR:R.le k):
  ∃P:Q,uN l i j (aN R)=(aN P,0)∧P.Ok∧P.le (k+m+m)∧P.val=R.val*l[i].sv*l[j].sv⁻¹:=by
 obtain ⟨a,a1,a2,a3,a4,a5⟩:=(hs _ (List.getElem_mem hi)).sv
 obtain ⟨b,b1,b2,b3,b4,b5⟩:=(hs _ (List.getElem_mem hj)).sv
 obtain ⟨c,c1,c2,c3,c4⟩:=aAJ oR a2 lR a3 (by omega)
 have hz:b≠zq:=fun e=>by
  have:=(aOY b2).2 e
  rw [b4] at this
  rw [this] at b5
  exact absurd b5 (by decide)
 obtain ⟨d,d1,d2,d3,d4⟩:=divR_ok c2 b2 c3 b3 hk hz
 refine ⟨d,?_,d2,d3,?_⟩
 ·rw [cvU_in h hi hj hb,a1,c1,if_neg (by simp),b1,d1]
 rw [d4,c4,a4,b4]
end Go.RatM

namespace Go.SrcM
open Go Go.Fw Go.NatM Go.RatM
theorem fU {s:aG}:bE s=0↔eT s.units=0∧lW s∧vE s:=by
 unfold bE
 by_cases h1:eT s.units=0
 ·rw [if_neg (fun h=>h h1)]
  by_cases h2:lW s
  ·rw [if_neg (fun h=>h h2)]
   by_cases h3:vE s
   ·rw [if_neg (fun h=>h h3)];simp [*]
   rw [if_pos h3];simp [*]
  rw [if_pos h2];simp [*]
 rw [if_pos h1];simp [*]
theorem bCC {x:List Un} {u:Un} {e:Int} (h:iP x u=.inr e):e≠0:=by
 unfold iP at h
 split at h
 ·split at h
  ·cases h
  cases h;decide
 split at h
 ·split at h
  ·split at h
   ·cases h;decide
   cases h
  cases h;decide
 cases h;decide
theorem aUX:∀ {l x:List Un} {e:Int},sR l x=.inr e→e≠0
 | [],_,_,h=>by cases h
 |u::l,x,e,h=>by
  simp only [sR] at h
  split at h
  ·exact aUX h
  rename_i e' he
  cases h
  exact bCC he
theorem aOU {l:List Un} {e:Int} (h:dA l=.inr e):e≠0:=by
 unfold dA at h
 split at h
 ·cases h;decide
 split at h
 ·cases h;decide
 exact aUX h
theorem aVE {l:List Un} (h:eT l=0):dA l=.inl l:=by
 unfold eT at h
 split at h
 ·rename_i e he
  exact absurd h (aOU he)
 rename_i x hx
 split at h
 ·rename_i e;rw [hx,e]
 cases h
theorem aZG {l:List Un} (h:eT l=0):∀u∈l,Sc1 97 u:=by
 obtain ⟨h1,_,h3⟩:=zU.1 (aVE h)
 exact h3.sc (by omega) (by omega)
def facT (s:aG) (un inn:Int):Rat:=match at? s.items inn with
 |some x=>match at? s.units un with
  |some u=>match at? s.units x.un with
   |some v=>u.sv*v.sv⁻¹
   |none=>0
  |none=>0
 |none=>0
def masT (s:aG) (inn:Int):Rat:=match at? s.items inn with
 |some x=>(x.mn:Rat)*(x.md:Rat)⁻¹
 |none=>0
def aSE (s:aG) (un inn:Int):Prop:=tW (s.base inn) fun b=>tW (at? s.units un) fun u=>u.base=b
theorem aES {s:aG} {un inn:Int} (h:aSE s un inn):∃(k i j:Nat) (hk:k<s.items.length) (hi:i<s.units.length) (hj:j<s.units.length),inn=k∧un=i∧s.items[k].un=j∧s.units[i].base=s.units[j].base:=by
 obtain ⟨b,h1,h2⟩:=aMG.1 h
 obtain ⟨u,h3,h4⟩:=aMG.1 h2
 unfold aG.base at h1
 split at h1
 ·rename_i x hx
  split at h1
  ·rename_i v hv
   obtain ⟨k,e1,hk,e2⟩:=at?_some hx
   obtain ⟨j,e3,hj,e4⟩:=at?_some hv
   obtain ⟨i,e5,hi,e6⟩:=at?_some h3
   cases h1
   refine ⟨k,i,j,hk,hi,hj,e1,e5,by rw [e2];exact e3,by rw [e6,e4,h4]⟩
  cases h1
 cases h1
theorem aLO {n d:Int} {k:Nat} (hn:0≤n∧n.natAbs<256^k) (hk:3≤k) (hd:1≤d∧d≤1048576):eU n d=(aN (pK n d),0)∧(pK n d).Ok∧(pK n d).le k∧(pK n d).val=(n:Rat)*(d:Rat)⁻¹:=
 by
 have h1:(256:Nat)^3≤256^k:=Nat.pow_le_pow_right (by decide) hk
 have h2:(256:Nat)^3=16777216:=by decide
 exact ⟨wW (by omega),aKN (by omega),aSZ hn.2 (by omega),aOL (by omega)⟩
theorem amt_ok {s:aG} {a:Am} (hU:eT s.units=0) (hn:0≤a.n∧a.n<4294967296) (hd:1≤a.d∧a.d≤1048576) (hb:aSE s a.un a.inn):
  ∃P:Q,aDL s a=(aN P,0)∧P.Ok∧P.le 198∧P.val=(a.n:Rat)*(a.d:Rat)⁻¹*facT s a.un a.inn∧0<facT s a.un a.inn:=by
 obtain ⟨k,i,j,hk,hi,hj,e1,e2,e3,e4⟩:=aES hb
 have hpw:(256:Nat)^4=4294967296:=by decide
 obtain ⟨n1,n2,n3,n4⟩:=aLO (n:=a.n) (d:=a.d) (k:=4) (by omega) (by omega) hd
 have hsc:=aZG hU
 obtain ⟨P,p1,p2,p3,p4⟩:=aKW hU hsc (k:=4) (by omega) hi hj e4 n2 n3
 obtain ⟨_,_,_,_,_,b5⟩:=(hsc _ (List.getElem_mem hi)).sv
 obtain ⟨_,_,_,_,_,c5⟩:=(hsc _ (List.getElem_mem hj)).sv
 have g1:at? s.items a.inn=some s.items[k]:=by rw [e1,at?_nat,List.getElem?_eq_getElem hk]
 have g2:at? s.units a.un=some s.units[i]:=by rw [e2,at?_nat,List.getElem?_eq_getElem hi]
 have g3:at? s.units s.items[k].un=some s.units[j]:=by rw [e3,at?_nat,List.getElem?_eq_getElem hj]
 have hf:facT s a.un a.inn=s.units[i].sv*s.units[j].sv⁻¹:=by unfold facT;simp only [g1,g2,g3]
 refine ⟨P,?_,p2,p3.mono (by omega),?_,?_⟩
 ·unfold aDL
  simp only [g1,n1,e2,e3]
  rw [if_neg (by omega)]
  exact p1
 ·rw [p4,n4,hf];simp only [Rat.mul_assoc]
 rw [hf];exact Rat.mul_pos b5 (Rat.inv_pos.2 c5)
theorem mass_ok {s:aG} {a:Am} {P:Q} (hI:∀i∈s.items,qF s i) (hb:aSE s a.un a.inn) (hP:aDL s a=(aN P,0)) (oP:P.Ok) (lP:P.le 198):
  ∃M:Q,nR s a=(aN M,0)∧M.Ok∧M.le 201∧M.val=P.val*masT s a.inn∧0≤masT s a.inn:=by
 obtain ⟨k,i,j,hk,hi,hj,e1,e2,e3,e4⟩:=aES hb
 have g1:at? s.items a.inn=some s.items[k]:=by rw [e1,at?_nat,List.getElem?_eq_getElem hk]
 obtain ⟨_,hm,hd,_⟩:=hI _ (List.getElem_mem hk)
 unfold bt at hm hd
 have hpw:(256:Nat)^3=16777216:=by decide
 obtain ⟨n1,n2,n3,n4⟩:=aLO (n:=s.items[k].mn) (d:=s.items[k].md) (k:=3) (by omega) (by omega) hd
 obtain ⟨M,m1,m2,m3,m4⟩:=aAJ oP n2 lP n3 (by omega)
 have hf:masT s a.inn=(s.items[k].mn:Rat)*(s.items[k].md:Rat)⁻¹:=by unfold masT;simp only [g1]
 refine ⟨M,?_,m2,m3,by rw [m4,n4,hf],?_⟩
 ·unfold nR
  simp only [hP,g1,n1]
  rw [if_neg (by omega),if_neg (by omega)]
  exact m1
 rw [hf]
 have h1:(0:Rat)≤(s.items[k].mn:Rat):=by
  have:=(Rat.intCast_le_intCast (a:=0) (b:=s.items[k].mn)).2 (by omega)
  simpa using this
 have h2:(0:Rat)<(s.items[k].md:Rat):=by
  have:=(Rat.intCast_lt_intCast (a:=0) (b:=s.items[k].md)).2 (by omega)
  simpa using this
 exact Rat.mul_nonneg h1 (Rat.le_of_lt (Rat.inv_pos.2 h2))

theorem aVP {s t:aG} (hu:t.units=s.units) (hS:lW t↔lW s) (hT:vE t↔vE s):bE t=bE s:=by
 unfold bE
 rw [hu]
 by_cases h2:lW s
 ·have h2':=hS.2 h2
  by_cases h3:vE s
  ·have h3':=hT.2 h3
   simp only [h2,h2',h3,h3']
  have h3':¬vE t:=fun h=>h3 (hT.1 h)
  simp only [h2,h2',h3,h3']
 have h2':¬lW t:=fun h=>h2 (hS.1 h)
 simp only [h2,h2',not_false_eq_true,if_true]
theorem aVI {s t:aG} (h:bE s=0) (hu:t.units=s.units) (hi:t.items=s.items) (hp:t.plants=s.plants) (hm:t.machines=s.machines) (ho:t.options=s.options)
  (hf:t.forbids.Sublist s.forbids) (hr:t.recipes.Sublist s.recipes) (hs:t.swaps.Sublist s.swaps):bE t=0:=by
 obtain ⟨h1,h2,h3⟩:=fU.1 h
 obtain ⟨u,i,p,m,o,f,r,w⟩:=t
 simp only at hu hi hp hm ho hf hr hs
 subst hu hi hp hm ho
 refine fU.2 ⟨h1,?_,⟨h3.I,h3.M,h3.O,fun x hx=>h3.F x (hf.subset hx),fun x hx=>h3.R x (hr.subset hx),fun x hx=>h3.S x (hs.subset hx)⟩⟩
 obtain ⟨a1,a2,a3,a4,a5,a6,a7,a8,a9⟩:=h2
 have:=hf.length_le
 have:=hr.length_le
 have:=hs.length_le
 exact ⟨a1,fun x hx=>a2 x (hr.subset hx),a3,a4,a5,a6,by dsimp only;omega,by dsimp only;omega,by dsimp only;omega⟩
theorem aED {α:Type} (l:List α) (k:Nat):(l.take k++l.drop (k+1)).Sublist l:=by
 have:(l.take k++l.drop (k+1)).Sublist (l.take k++l.drop k):=List.Sublist.append (List.Sublist.refl _) (by rw [←List.drop_drop];exact List.drop_sublist _ _)
 rwa [List.take_append_drop] at this
end Go.SrcM

namespace Go.Proofs.YthjedpdedjhndaaGreatDoor
open Go Go.Fw Go.NatM Go.RatM Go.SrcM
set_option maxRecDepth 100000
set_option maxHeartbeats 99999999
theorem qO {h:Array Obj} (n m:Int):FnV Tryz.prog 73 #[.int .i64 n,.int .i64 m] h fun r h'=>r=.bool (decide (0≤n∧n<m))∧aH h.size h h':=by
 refine Fn.ofS (args:=[.int .i64 n,.int .i64 m]) Tryz.func73 (by kernel_rfl) rfl Tryz.ntmps73 rfl fun w0 cs=>?_
 conv=>whnf
 refine gS ?_;conv=>whnf
 repeat' (refine And.intro (fun hs=>?_) (fun hs=>?_)<;>(conv=>whnf))
 all_goals (
  refine aA.retU (aB.ret tab Tryz.func73 rfl fun Ez Hz Az Sz K=>⟨_,rfl,?_,K.keeps⟩)
  first|exact congrArg Value.bool (decide_eq_true (by omega)).symm|exact congrArg Value.bool (decide_eq_false (by omega)).symm|exact congrArg Value.bool (decide_eq_decide.2 (by omega))
 )
theorem cX {h:Array Obj} (n a b:Int):FnV Tryz.prog 84 #[.int .i64 n,.int .i64 a,.int .i64 b] h fun r h'=>r=.bool (decide (bt n a b))∧aH h.size h h':=by
 refine Fn.ofS (args:=[.int .i64 n,.int .i64 a,.int .i64 b]) Tryz.func84 (by kernel_rfl) rfl Tryz.ntmps84 rfl fun w0 cs=>?_
 conv=>whnf
 refine gS ?_;conv=>whnf
 repeat' (refine And.intro (fun hs=>?_) (fun hs=>?_)<;>(conv=>whnf))
 all_goals (
  refine aA.retU (aB.ret tab Tryz.func84 rfl fun Ez Hz Az Sz K=>⟨_,rfl,?_,K.keeps⟩)
  first|exact congrArg Value.bool (decide_eq_true (by omega)).symm|exact congrArg Value.bool (decide_eq_false (by omega)).symm|exact congrArg Value.bool (decide_eq_decide.2 (by omega))
 )
abbrev ckC (b:Bool):Nat×Fw.Blk:=(8,.cells 94 [.buf 0,.buf 1,.buf 2,.buf 3,.buf 4,.buf 5,.buf 6,.buf 7,.v (.bool b)])
abbrev roS (s:aG):SH:=[(0,.ro 8 (aL s.units)),(1,.ro 6 (rws It.row s.items)),(2,.ro 1 (bV s.plants)),(3,.ro 4 (rws Mc.row s.machines)),(4,.ro 2 (rws OpV.row s.options)),(5,.ro 1 (rws FbV.row s.forbids)),(6,.ro 17 (rws RcV.row s.recipes)),(7,.ro 4 (rws Sw.row s.swaps))]
abbrev ckH (s:aG) (b:Bool):SH:=ckC b::roS s
theorem aX (b x:Bool):FnS Tryz.prog 83 9 [.ptr 8 0,.v (.bool x)] [ckC b] (fun _:Unit=>True) (fun _=>.ret (.tup []) 9 [ckC (b&&x)]):=by
 cases b with
 |true=>
  refine FnS.of Tryz.func83 (by kernel_rfl) rfl Tryz.ntmps83 rfl fun E0 F h w0 cs=>?_
  conv=>whnf
  refine gS ?_;conv=>whnf
  try refine aA.finU ?_
  exact aB.ret tab Tryz.func83 rfl (eN () trivial)
 |false=>
  refine FnS.of Tryz.func83 (by kernel_rfl) rfl Tryz.ntmps83 rfl fun E0 F h w0 cs=>?_
  conv=>whnf
  refine gS ?_;conv=>whnf
  try refine aA.finU ?_
  exact aB.ret tab Tryz.func83 rfl (eN () trivial)
theorem bAA (s:aG) (b:Bool) (i:It):FnS Tryz.prog 82 9 [.ptr 8 0,.agg (toV i.row)] (ckH s b) (fun _:Unit=>True) (fun _=>.ret (.tup []) 9 (ckH s (b&&decide (qF s i)))):=by
 have lU:=aZ s.units
 have lI:=aE It.row s.items
 have lP:=cK s.plants
 have lM:=aE Mc.row s.machines
 have lO:=aE OpV.row s.options
 have lF:=aE FbV.row s.forbids
 have lR:=aE RcV.row s.recipes
 have lS:=aE Sw.row s.swaps
 refine FnS.of Tryz.func82 (by kernel_rfl) rfl Tryz.ntmps82 rfl fun E0 F h w0 cs=>?_
 conv=>whnf
 refine gS ?_;conv=>whnf
 refine aA.held tab (.fl 0 (.fl 1 (.fl 2 (.fl 3 (.fl 4 (.fl 5 (.fl 6 (.fl 7 (.fl 8 (.e1 9 [] (.e1 10 [] .done))))))))))) (by kernel_rfl) ?_;conv=>whnf
 refine sqr ?_
 refine aK.callV (fun Ez Hz Az Sz K=>qO i.un (aL s.units).length) (by (conv=>whnf);(repeat (guard_target=_∧_;refine And.intro (by (conv=>whnf);first|rfl|exact trivial) ?_;conv=>whnf));exact trivial) ?_
 conv=>whnf
 refine sqr ?_
 refine aK.callN (aX b (decide (0≤i.un∧i.un<(aL s.units).length))) [0,1,2,3,4,5,6,7,8] ?_ sH ?CNa1
 case CNa1=>rfl
 intro _ _
 conv=>whnf
 try refine oB ?_
 refine sqr ?_
 refine sqs ?_
 refine aA.callV (fun Ez Hz Az Sz K=>cX i.mn 0 1048576) ?_
 conv=>whnf
 refine sqs ?_
 refine aA.callN (aX _ (decide (bt i.mn 0 1048576))) [0,1,2,3,4,5,6,7,8] ?_ sH ?CNa2
 case CNa2=>rfl
 intro _ _
 conv=>whnf
 refine sqs ?_
 refine aA.callV (fun Ez Hz Az Sz K=>cX i.md 1 1048576) ?_
 conv=>whnf
 refine sqs ?_
 refine aA.callN (aX _ (decide (bt i.md 1 1048576))) [0,1,2,3,4,5,6,7,8] ?_ sH ?CNa3
 case CNa3=>rfl
 intro _ _
 conv=>whnf
 refine sqs ?_
 refine aA.callV (fun Ez Hz Az Sz K=>cX i.shelf 0 1023) ?_
 conv=>whnf
 refine sqs ?_
 refine aA.callN (aX _ (decide (bt i.shelf 0 1023))) [0,1,2,3,4,5,6,7,8] ?_ sH ?CNa4
 case CNa4=>rfl
 intro _ _
 conv=>whnf
 refine sqs ?_
 have e:(b&&decide (0≤i.un∧i.un<(aL s.units).length)&&decide (bt i.mn 0 1048576)&&decide (bt i.md 1 1048576)&&decide (bt i.shelf 0 1023))=(b&&decide (qF s i)):=by
  rw [Bool.eq_iff_iff];simp only [Bool.and_eq_true,decide_eq_true_eq,lU,qF,and_assoc]
 rw [e]
 try refine aA.finU ?_
 exact aB.ret tab Tryz.func82 rfl (eN () trivial)
theorem oO {h:Array Obj} (n m:Int) (k:0≤n∧n<m):FnV Tryz.prog 73 #[.int .i64 n,.int .i64 m] h fun r h'=>r=.bool true∧aH h.size h h':=by
 have:=qO (h:=h) n m
 rw [decide_eq_true k] at this
 exact this
theorem rT {h:Array Obj} (n m:Int) (k:¬(0≤n∧n<m)):FnV Tryz.prog 73 #[.int .i64 n,.int .i64 m] h fun r h'=>r=.bool false∧aH h.size h h':=by
 have:=qO (h:=h) n m
 rw [decide_eq_false k] at this
 exact this
theorem aCE (s:aG) (b:Bool) (n d:Int):FnS Tryz.prog 140 9 [.ptr 8 0,.v (.int .i64 n),.v (.int .i64 d)] (ckH s b) (fun _:Unit=>True) (fun _=>.ret (.tup []) 9 (ckH s (b&&decide (lJ n d)))):=by
 refine FnS.of Tryz.func140 (by kernel_rfl) rfl Tryz.ntmps140 rfl fun E0 F h w0 cs=>?_
 conv=>whnf
 refine gS ?_;conv=>whnf
 refine aA.callV (fun Ez Hz Az Sz K=>cX d 1 1048576) ?_
 conv=>whnf
 refine sqs ?_
 refine aA.callN (aX b (decide (bt d 1 1048576))) [0,1,2,3,4,5,6,7,8] ?_ sH ?CNa5
 case CNa5=>rfl
 intro _ _
 conv=>whnf
 refine sqs ?_
 refine aA.callV (fun Ez Hz Az Sz K=>cX n 0 d) ?_
 conv=>whnf
 refine sqs ?_
 refine aA.callN (aX _ (decide (bt n 0 d))) [0,1,2,3,4,5,6,7,8] ?_ sH ?CNa6
 case CNa6=>rfl
 intro _ _
 conv=>whnf
 refine sqs ?_
 have e:(b&&decide (bt d 1 1048576)&&decide (bt n 0 d))=(b&&decide (lJ n d)):=by
  rw [Bool.eq_iff_iff];simp only [Bool.and_eq_true,decide_eq_true_eq,lJ,and_assoc]
 rw [e]
 try refine aA.finU ?_
 exact aB.ret tab Tryz.func140 rfl (eN () trivial)
theorem aXI {s:aG} {i n:Int} (h:s.base i=some n):∃(k:Nat) (_:i=k) (hk:k<s.items.length) (j:Nat) (_:s.items[k].un=j) (hj:j<s.units.length),n=s.units[j].base:=by
 unfold aG.base at h
 split at h
 ·rename_i x hx
  split at h
  ·rename_i u hu
   obtain ⟨k,e,hk,rfl⟩:=at?_some hx
   obtain ⟨j,e2,hj,rfl⟩:=at?_some hu
   exact ⟨k,e,hk,j,e2,hj,(Option.some.inj h).symm⟩
  cases h
 cases h
theorem aXO {s:aG} {i:Int} (h:s.base i=none):¬idx i s.items.length ∨ ∃(k:Nat) (_:i=k) (hk:k<s.items.length),¬idx s.items[k].un s.units.length:=by
 by_cases h1:idx i s.items.length
 ·obtain ⟨k,rfl,hk,e⟩:=at?_idx h1
  refine .inr ⟨k,rfl,hk,fun h2=>?_⟩
  obtain ⟨j,e2,hj,e3⟩:=at?_idx h2
  unfold aG.base at h
  rw [e] at h
  simp only [e3] at h
  cases h
 exact .inl h1
theorem kQ {s:aG} {i n:Int} (b:Bool) (hb:s.base i=some n):FnS Tryz.prog 142 9 [.ptr 8 0,.v (.int .i64 i)] (ckH s b) (fun _:Unit=>True) (fun _=>.ret (.tup [.v (.int .i64 n),.v (.bool true)]) 9 (ckH s b)):=by
 have lU:=aZ s.units
 have lI:=aE It.row s.items
 have lP:=cK s.plants
 have lM:=aE Mc.row s.machines
 have lO:=aE OpV.row s.options
 have lF:=aE FbV.row s.forbids
 have lR:=aE RcV.row s.recipes
 have lS:=aE Sw.row s.swaps
 obtain ⟨k,rfl,hk,j,hu,hj,rfl⟩:=aXI hb
 refine FnS.of Tryz.func142 (by kernel_rfl) rfl Tryz.ntmps142 rfl fun E0 F h w0 cs=>?_
 conv=>whnf
 refine gS ?_;conv=>whnf
 refine aA.callV (fun Ez Hz Az Sz K=>oO k (rws It.row s.items).length (by omega)) ?_
 conv=>whnf
 refine dT ?_
 refine ⟨_,bA hk,?_⟩;conv=>whnf
 refine aA.callV (fun Ez Hz Az Sz K=>oO s.items[k].un (aL s.units).length (by omega)) ?_
 conv=>whnf
 refine dT ?_
 refine ⟨_,(by rw [hu];exact dK hj),?_⟩;conv=>whnf
 try refine aA.retU ?_
 exact aB.ret tab Tryz.func142 rfl (eN () trivial)
theorem qY {s:aG} {i:Int} (b:Bool) (hb:s.base i=none):FnS Tryz.prog 142 9 [.ptr 8 0,.v (.int .i64 i)] (ckH s b) (fun _:Unit=>True) (fun _=>.ret (.tup [.v (.int .i64 0),.v (.bool false)]) 9 (ckH s b)):=by
 have lU:=aZ s.units
 have lI:=aE It.row s.items
 have lP:=cK s.plants
 have lM:=aE Mc.row s.machines
 have lO:=aE OpV.row s.options
 have lF:=aE FbV.row s.forbids
 have lR:=aE RcV.row s.recipes
 have lS:=aE Sw.row s.swaps
 rcases aXO hb with h1|⟨k,rfl,hk,h2⟩
 ·refine FnS.of Tryz.func142 (by kernel_rfl) rfl Tryz.ntmps142 rfl fun E0 F h w0 cs=>?_
  conv=>whnf
  refine gS ?_;conv=>whnf
  refine aA.callV (fun Ez Hz Az Sz K=>rT i (rws It.row s.items).length (by rw [lI];exact h1)) ?_
  conv=>whnf
  refine sqs ?_
  try refine aA.retU ?_
  exact aB.ret tab Tryz.func142 rfl (eN () trivial)
 refine FnS.of Tryz.func142 (by kernel_rfl) rfl Tryz.ntmps142 rfl fun E0 F h w0 cs=>?_
 conv=>whnf
 refine gS ?_;conv=>whnf
 refine aA.callV (fun Ez Hz Az Sz K=>oO k (rws It.row s.items).length (by omega)) ?_
 conv=>whnf
 refine dT ?_
 refine ⟨_,bA hk,?_⟩;conv=>whnf
 refine aA.callV (fun Ez Hz Az Sz K=>rT s.items[k].un (aL s.units).length (by rw [lU];exact h2)) ?_
 conv=>whnf
 refine sqs ?_
 try refine aA.retU ?_
 exact aB.ret tab Tryz.func142 rfl (eN () trivial)

theorem yP {α:Type} {f:α→Int} {l:List α} {k:Nat} (hk:k<l.length) (h:((l.take k).map f).Nodup) (hn:∀i (_:i<k) (hil:i<l.length),f l[i]≠f l[k]):((l.take (k+1)).map f).Nodup:=by
 rw [List.take_add_one,List.getElem?_eq_getElem hk,List.map_append]
 refine List.nodup_append.2 ⟨h,by simp,?_⟩
 intro a ha b hb e
 obtain ⟨u,hu,rfl⟩:=List.mem_map.1 ha
 simp only [Option.toList,List.map_cons,List.map_nil,List.mem_singleton] at hb
 obtain ⟨i,hi,rfl⟩:=List.getElem_of_mem hu
 rw [List.length_take] at hi
 rw [List.getElem_take] at e
 exact hn i (by omega) (by omega) (e.trans hb)
theorem aFA {α:Type} {f:α→Int} {l:List α} {j k:Nat} (hk:k<l.length) (hj:j<k) (he:f l[j]=f l[k]):¬(l.map f).Nodup:=by
 intro h
 have h1:=(List.pairwise_iff_getElem.1 h) j k (by rw [List.length_map];omega) (by rw [List.length_map];omega) hj
 simp only [List.getElem_map] at h1
 exact h1 he
theorem aFD {α:Type} {f:α→List Value} {l:List α} {j k:Nat} (hj:j<k) (hl:j<l.length):((rws f l).take ((k:Int)).toNat)[((j:Int)).toNat]? = some (f l[j]):=by
 rw [Int.toNat_natCast,Int.toNat_natCast,List.getElem?_take_of_lt hj]
 exact bA hl
theorem aVA {h:Array Obj} (c:Cd):FnV Tryz.prog 137 #[.agg c.row.toArray] h fun r h'=>r=.int .i64 c.on∧aH h.size h h':=by
 refine Fn.ofS (args:=[.agg c.row.toArray]) Tryz.func137 (by kernel_rfl) rfl Tryz.ntmps137 rfl fun w0 cs=>?_
 conv=>whnf
 refine gS ?_;conv=>whnf
 refine aA.retU (aB.ret tab Tryz.func137 rfl fun _ _ _ _ K=>⟨_,rfl,rfl,K.keeps⟩)
theorem aVQ {h:Array Obj} (l:List Cd) {v:Value} (hv:Ro h v 4 (rws Cd.row l)):FnV Tryz.prog 136 #[v,.func (.func 137) #[] #[]] h fun r h'=>r=.bool (decide (¬(l.map Cd.on).Nodup))∧aH h.size h h':=by
 have hl:=aE Cd.row l
 have hm:=hv.len
 obtain ⟨r,hr⟩:∃r,r=decide (¬(l.map Cd.on).Nodup):=⟨_,rfl⟩
 rw [←hr]
 refine Fn.ofG (mJ [v]) 1 [.buf 0,.v (.func (.func 137) #[] #[])] [(0,.ro (4) (rws Cd.row l))] (fun k=>k<_) Tryz.func136 (by kernel_rfl) rfl Tryz.ntmps136 rfl (fun _ hk=>hk) (Sat.ros (vs:=[v]) (l:=[(4,rws Cd.row l)]) ⟨hv,trivial⟩) fun w0 cs=>?_
 conv=>whnf
 refine gS ?_;conv=>whnf
 refine aA.meet (fun (b:Bool)=>[(5,.v (.bool b))]) (fun (b:Bool)=>[(0,.ro 4 (rws Cd.row l))]) 1 (fun (b:Bool)=>b=r) ?_ (fun meet=>?_)
 ·rintro b rfl
  refine sqs ?_
  refine aA.retU (aB.ret tab Tryz.func136 rfl fun _ _ _ _ K=>⟨_,rfl,rfl,K.keeps⟩)
 refine aA.subR [] (aA.loop (fun (k:Nat)=>[(12,.v (.int .i64 k)),(11,.v (.int .i64 (rws Cd.row l).length)),(10,.buf 0),(5,.v (.bool false)),(0,.buf 0),(1,.v (.func (.func 137) #[] #[]))]) (fun (k:Nat)=>[(0,.ro 4 (rws Cd.row l))]) 1 (fun (k:Nat)=>k≤l.length∧((l.take k).map Cd.on).Nodup) (fun (k:Nat)=>l.length - k) ?round1 (0) ?J01) sH sH
 case J01=>exact (⟨Nat.zero_le _,by simp⟩)
 rintro k hJ back
 try dsimp only at hJ back
 conv=>whnf
 try dsimp only
 refine gS ?_;conv=>whnf
 refine ⟨fun hk=>?_,fun hk=>?_⟩<;>conv=>whnf
 ·have hk:k<l.length:=by omega
  refine cG ?_
  refine ⟨_,bA hk,?_⟩;conv=>whnf
  try (refine oN ?_;conv=>whnf)
  refine sqC ?_
  refine sqs ?_
  have htl:((rws Cd.row l).take ((k:Int)).toNat).length=k:=by rw [List.length_take,hl,Int.toNat_natCast];omega
  have backO:=back
  have hJo:=hJ.2
  refine aA.subR [] (aA.loop (fun (j:Nat)=>[(21,.v (.int .i64 j)),(20,.v (.int .i64 ((rws Cd.row l).take ((k:Int)).toNat).length)),(19,.buf 2),(7,.ptr 1 0),(12,.v (.int .i64 k)),(11,.v (.int .i64 (rws Cd.row l).length)),(10,.buf 0),(5,.v (.bool false)),(0,.buf 0),(1,.v (.func (.func 137) #[] #[]))]) (fun (j:Nat)=>[(2,.ro 4 ((rws Cd.row l).take ((k:Int)).toNat)),(1,.cells 191 (toV (Cd.row l[k]))),(0,.ro 4 (rws Cd.row l))]) 3 (fun (j:Nat)=>j≤k ∧ ∀i (hi:i<j) (hil:i<l.length),l[i].on≠l[k].on) (fun (j:Nat)=>k - j) ?round2 (0) ?J02) sH sH
  case J02=>exact (⟨Nat.zero_le _,fun i hi=>absurd hi (Nat.not_lt_zero _)⟩)
  rintro j hJ back
  conv=>whnf
  refine gS ?_;conv=>whnf
  refine ⟨fun hj=>?_,fun hj=>?_⟩<;>conv=>whnf
  ·have hj:j<k:=by omega
   have hjl:j<l.length:=by omega
   refine cG ?_
   refine ⟨_,aFD hj hjl,?_⟩;conv=>whnf
   try (refine oN ?_;conv=>whnf)
   refine aA.held tab (.fl 0 (.fl 1 (.fl 3 (.fl 4 (.e1 2 [4] (.e1 5 [] (.fl 6 .done))))))) (by kernel_rfl) ?_;conv=>whnf
   refine sqr ?_
   refine aK.callV (fun Ez Hz Az Sz K=>aVA l[k]) (by (conv=>whnf);(repeat (guard_target=_∧_;refine And.intro (by (conv=>whnf);first|rfl|exact trivial) ?_;conv=>whnf));exact trivial) ?_
   conv=>whnf
   refine sqr ?_
   refine aK.callV (fun Ez Hz Az Sz K=>aVA l[j]) (by (conv=>whnf);(repeat (guard_target=_∧_;refine And.intro (by (conv=>whnf);first|rfl|exact trivial) ?_;conv=>whnf));exact trivial) ?_
   conv=>whnf
   refine sqr ?_
   refine ⟨fun he=>?_,fun he=>?_⟩<;>conv=>whnf
   ·try refine gR ?_
    conv=>whnf
    refine sqs ?_
    refine aA.subR [] (meet (true) (by exact (hr▸(decide_eq_true (aFA hk hj he.symm)).symm))) sH sH
   refine sqr ?_
   refine dT ?_
   refine aA.subR [] (back (j+1) (by exact (⟨hj,fun i hi hil=>(Nat.lt_succ_iff_lt_or_eq.1 hi).elim (fun hi=>hJ.2 i hi hil) (fun e=>by subst e;exact fun h=>he h.symm)⟩)) (by (try dsimp only);omega)) sH sH
  have hj:j=k:=by omega
  have hJ2:=hJ.2
  subst hj
  have back:=backO
  refine cG ?_
  refine aA.subR [] (back (j+1) (by exact (⟨hk,yP hk hJo hJ2⟩)) (by (try dsimp only);omega)) sH sH
 have hk:k=l.length:=by omega
 have h2:=hJ.2
 rw [hk,List.take_length] at h2
 conv=>whnf
 refine aA.subR [] (meet (false) (by exact (hr▸(decide_eq_false (fun h=>h h2)).symm))) sH sH
theorem aUQ {h:Array Obj} (c:Am):FnV Tryz.prog 239 #[.agg c.row.toArray] h fun r h'=>r=.int .i64 c.inn∧aH h.size h h':=by
 refine Fn.ofS (args:=[.agg c.row.toArray]) Tryz.func239 (by kernel_rfl) rfl Tryz.ntmps239 rfl fun w0 cs=>?_
 conv=>whnf
 refine gS ?_;conv=>whnf
 refine aA.retU (aB.ret tab Tryz.func239 rfl fun _ _ _ _ K=>⟨_,rfl,rfl,K.keeps⟩)
theorem aWO {h:Array Obj} (l:List Am) {v:Value} (hv:Ro h v 7 (rws Am.row l)):FnV Tryz.prog 238 #[v,.func (.func 239) #[] #[]] h fun r h'=>r=.bool (decide (¬(l.map Am.inn).Nodup))∧aH h.size h h':=by
 have hl:=aE Am.row l
 have hm:=hv.len
 obtain ⟨r,hr⟩:∃r,r=decide (¬(l.map Am.inn).Nodup):=⟨_,rfl⟩
 rw [←hr]
 refine Fn.ofG (mJ [v]) 1 [.buf 0,.v (.func (.func 239) #[] #[])] [(0,.ro (7) (rws Am.row l))] (fun k=>k<_) Tryz.func238 (by kernel_rfl) rfl Tryz.ntmps238 rfl (fun _ hk=>hk) (Sat.ros (vs:=[v]) (l:=[(7,rws Am.row l)]) ⟨hv,trivial⟩) fun w0 cs=>?_
 conv=>whnf
 refine gS ?_;conv=>whnf
 refine aA.meet (fun (b:Bool)=>[(5,.v (.bool b))]) (fun (b:Bool)=>[(0,.ro 7 (rws Am.row l))]) 1 (fun (b:Bool)=>b=r) ?_ (fun meet=>?_)
 ·rintro b rfl
  refine sqs ?_
  refine aA.retU (aB.ret tab Tryz.func238 rfl fun _ _ _ _ K=>⟨_,rfl,rfl,K.keeps⟩)
 refine aA.subR [] (aA.loop (fun (k:Nat)=>[(12,.v (.int .i64 k)),(11,.v (.int .i64 (rws Am.row l).length)),(10,.buf 0),(5,.v (.bool false)),(0,.buf 0),(1,.v (.func (.func 239) #[] #[]))]) (fun (k:Nat)=>[(0,.ro 7 (rws Am.row l))]) 1 (fun (k:Nat)=>k≤l.length∧((l.take k).map Am.inn).Nodup) (fun (k:Nat)=>l.length - k) ?round7 (0) ?J07) sH sH
 case J07=>exact (⟨Nat.zero_le _,by simp⟩)
 rintro k hJ back
 try dsimp only at hJ back
 conv=>whnf
 try dsimp only
 refine gS ?_;conv=>whnf
 refine ⟨fun hk=>?_,fun hk=>?_⟩<;>conv=>whnf
 ·have hk:k<l.length:=by omega
  refine cG ?_
  refine ⟨_,bA hk,?_⟩;conv=>whnf
  try (refine oN ?_;conv=>whnf)
  refine sqC ?_
  refine sqs ?_
  have htl:((rws Am.row l).take ((k:Int)).toNat).length=k:=by rw [List.length_take,hl,Int.toNat_natCast];omega
  have backO:=back
  have hJo:=hJ.2
  refine aA.subR [] (aA.loop (fun (j:Nat)=>[(21,.v (.int .i64 j)),(20,.v (.int .i64 ((rws Am.row l).take ((k:Int)).toNat).length)),(19,.buf 2),(7,.ptr 1 0),(12,.v (.int .i64 k)),(11,.v (.int .i64 (rws Am.row l).length)),(10,.buf 0),(5,.v (.bool false)),(0,.buf 0),(1,.v (.func (.func 239) #[] #[]))]) (fun (j:Nat)=>[(2,.ro 7 ((rws Am.row l).take ((k:Int)).toNat)),(1,.cells 55 (toV (Am.row l[k]))),(0,.ro 7 (rws Am.row l))]) 3 (fun (j:Nat)=>j≤k ∧ ∀i (hi:i<j) (hil:i<l.length),l[i].inn≠l[k].inn) (fun (j:Nat)=>k - j) ?round8 (0) ?J08) sH sH
  case J08=>exact (⟨Nat.zero_le _,fun i hi=>absurd hi (Nat.not_lt_zero _)⟩)
  rintro j hJ back
  conv=>whnf
  refine gS ?_;conv=>whnf
  refine ⟨fun hj=>?_,fun hj=>?_⟩<;>conv=>whnf
  ·have hj:j<k:=by omega
   have hjl:j<l.length:=by omega
   refine cG ?_
   refine ⟨_,aFD hj hjl,?_⟩;conv=>whnf
   try (refine oN ?_;conv=>whnf)
   refine aA.held tab (.fl 0 (.fl 1 (.fl 3 (.fl 4 (.e1 2 [4] (.e1 5 [] (.fl 6 .done))))))) (by kernel_rfl) ?_;conv=>whnf
   refine sqr ?_
   refine aK.callV (fun Ez Hz Az Sz K=>aUQ l[k]) (by (conv=>whnf);(repeat (guard_target=_∧_;refine And.intro (by (conv=>whnf);first|rfl|exact trivial) ?_;conv=>whnf));exact trivial) ?_
   conv=>whnf
   refine sqr ?_
   refine aK.callV (fun Ez Hz Az Sz K=>aUQ l[j]) (by (conv=>whnf);(repeat (guard_target=_∧_;refine And.intro (by (conv=>whnf);first|rfl|exact trivial) ?_;conv=>whnf));exact trivial) ?_
   conv=>whnf
   refine sqr ?_
   refine ⟨fun he=>?_,fun he=>?_⟩<;>conv=>whnf
   ·try refine gR ?_
    conv=>whnf
    refine sqs ?_
    refine aA.subR [] (meet (true) (by exact (hr▸(decide_eq_true (aFA hk hj he.symm)).symm))) sH sH
   refine sqr ?_
   refine dT ?_
   refine aA.subR [] (back (j+1) (by exact (⟨hj,fun i hi hil=>(Nat.lt_succ_iff_lt_or_eq.1 hi).elim (fun hi=>hJ.2 i hi hil) (fun e=>by subst e;exact fun h=>he h.symm)⟩)) (by (try dsimp only);omega)) sH sH
  have hj:j=k:=by omega
  have hJ2:=hJ.2
  subst hj
  have back:=backO
  refine cG ?_
  refine aA.subR [] (back (j+1) (by exact (⟨hk,yP hk hJo hJ2⟩)) (by (try dsimp only);omega)) sH sH
 have hk:k=l.length:=by omega
 have h2:=hJ.2
 rw [hk,List.take_length] at h2
 conv=>whnf
 refine aA.subR [] (meet (false) (by exact (hr▸(decide_eq_false (fun h=>h h2)).symm))) sH sH
theorem aTD {h:Array Obj} (c:Rn):FnV Tryz.prog 241 #[.agg c.row.toArray] h fun r h'=>r=.int .i64 c.mn∧aH h.size h h':=by
 refine Fn.ofS (args:=[.agg c.row.toArray]) Tryz.func241 (by kernel_rfl) rfl Tryz.ntmps241 rfl fun w0 cs=>?_
 conv=>whnf
 refine gS ?_;conv=>whnf
 refine aA.retU (aB.ret tab Tryz.func241 rfl fun _ _ _ _ K=>⟨_,rfl,rfl,K.keeps⟩)
theorem aXT {h:Array Obj} (l:List Rn) {v:Value} (hv:Ro h v 3 (rws Rn.row l)):FnV Tryz.prog 240 #[v,.func (.func 241) #[] #[]] h fun r h'=>r=.bool (decide (¬(l.map Rn.mn).Nodup))∧aH h.size h h':=by
 have hl:=aE Rn.row l
 have hm:=hv.len
 obtain ⟨r,hr⟩:∃r,r=decide (¬(l.map Rn.mn).Nodup):=⟨_,rfl⟩
 rw [←hr]
 refine Fn.ofG (mJ [v]) 1 [.buf 0,.v (.func (.func 241) #[] #[])] [(0,.ro (3) (rws Rn.row l))] (fun k=>k<_) Tryz.func240 (by kernel_rfl) rfl Tryz.ntmps240 rfl (fun _ hk=>hk) (Sat.ros (vs:=[v]) (l:=[(3,rws Rn.row l)]) ⟨hv,trivial⟩) fun w0 cs=>?_
 conv=>whnf
 refine gS ?_;conv=>whnf
 refine aA.meet (fun (b:Bool)=>[(5,.v (.bool b))]) (fun (b:Bool)=>[(0,.ro 3 (rws Rn.row l))]) 1 (fun (b:Bool)=>b=r) ?_ (fun meet=>?_)
 ·rintro b rfl
  refine sqs ?_
  refine aA.retU (aB.ret tab Tryz.func240 rfl fun _ _ _ _ K=>⟨_,rfl,rfl,K.keeps⟩)
 refine aA.subR [] (aA.loop (fun (k:Nat)=>[(12,.v (.int .i64 k)),(11,.v (.int .i64 (rws Rn.row l).length)),(10,.buf 0),(5,.v (.bool false)),(0,.buf 0),(1,.v (.func (.func 241) #[] #[]))]) (fun (k:Nat)=>[(0,.ro 3 (rws Rn.row l))]) 1 (fun (k:Nat)=>k≤l.length∧((l.take k).map Rn.mn).Nodup) (fun (k:Nat)=>l.length - k) ?round13 (0) ?J013) sH sH
 case J013=>exact (⟨Nat.zero_le _,by simp⟩)
 rintro k hJ back
 try dsimp only at hJ back
 conv=>whnf
 try dsimp only
 refine gS ?_;conv=>whnf
 refine ⟨fun hk=>?_,fun hk=>?_⟩<;>conv=>whnf
 ·have hk:k<l.length:=by omega
  refine cG ?_
  refine ⟨_,bA hk,?_⟩;conv=>whnf
  try (refine oN ?_;conv=>whnf)
  refine sqC ?_
  refine sqs ?_
  have htl:((rws Rn.row l).take ((k:Int)).toNat).length=k:=by rw [List.length_take,hl,Int.toNat_natCast];omega
  have backO:=back
  have hJo:=hJ.2
  refine aA.subR [] (aA.loop (fun (j:Nat)=>[(21,.v (.int .i64 j)),(20,.v (.int .i64 ((rws Rn.row l).take ((k:Int)).toNat).length)),(19,.buf 2),(7,.ptr 1 0),(12,.v (.int .i64 k)),(11,.v (.int .i64 (rws Rn.row l).length)),(10,.buf 0),(5,.v (.bool false)),(0,.buf 0),(1,.v (.func (.func 241) #[] #[]))]) (fun (j:Nat)=>[(2,.ro 3 ((rws Rn.row l).take ((k:Int)).toNat)),(1,.cells 272 (toV (Rn.row l[k]))),(0,.ro 3 (rws Rn.row l))]) 3 (fun (j:Nat)=>j≤k ∧ ∀i (hi:i<j) (hil:i<l.length),l[i].mn≠l[k].mn) (fun (j:Nat)=>k - j) ?round14 (0) ?J014) sH sH
  case J014=>exact (⟨Nat.zero_le _,fun i hi=>absurd hi (Nat.not_lt_zero _)⟩)
  rintro j hJ back
  conv=>whnf
  refine gS ?_;conv=>whnf
  refine ⟨fun hj=>?_,fun hj=>?_⟩<;>conv=>whnf
  ·have hj:j<k:=by omega
   have hjl:j<l.length:=by omega
   refine cG ?_
   refine ⟨_,aFD hj hjl,?_⟩;conv=>whnf
   try (refine oN ?_;conv=>whnf)
   refine aA.held tab (.fl 0 (.fl 1 (.fl 3 (.fl 4 (.e1 2 [4] (.e1 5 [] (.fl 6 .done))))))) (by kernel_rfl) ?_;conv=>whnf
   refine sqr ?_
   refine aK.callV (fun Ez Hz Az Sz K=>aTD l[k]) (by (conv=>whnf);(repeat (guard_target=_∧_;refine And.intro (by (conv=>whnf);first|rfl|exact trivial) ?_;conv=>whnf));exact trivial) ?_
   conv=>whnf
   refine sqr ?_
   refine aK.callV (fun Ez Hz Az Sz K=>aTD l[j]) (by (conv=>whnf);(repeat (guard_target=_∧_;refine And.intro (by (conv=>whnf);first|rfl|exact trivial) ?_;conv=>whnf));exact trivial) ?_
   conv=>whnf
   refine sqr ?_
   refine ⟨fun he=>?_,fun he=>?_⟩<;>conv=>whnf
   ·try refine gR ?_
    conv=>whnf
    refine sqs ?_
    refine aA.subR [] (meet (true) (by exact (hr▸(decide_eq_true (aFA hk hj he.symm)).symm))) sH sH
   refine sqr ?_
   refine dT ?_
   refine aA.subR [] (back (j+1) (by exact (⟨hj,fun i hi hil=>(Nat.lt_succ_iff_lt_or_eq.1 hi).elim (fun hi=>hJ.2 i hi hil) (fun e=>by subst e;exact fun h=>he h.symm)⟩)) (by (try dsimp only);omega)) sH sH
  have hj:j=k:=by omega
  have hJ2:=hJ.2
  subst hj
  have back:=backO
  refine cG ?_
  refine aA.subR [] (back (j+1) (by exact (⟨hk,yP hk hJo hJ2⟩)) (by (try dsimp only);omega)) sH sH
 have hk:k=l.length:=by omega
 have h2:=hJ.2
 rw [hk,List.take_length] at h2
 conv=>whnf
 refine aA.subR [] (meet (false) (by exact (hr▸(decide_eq_false (fun h=>h h2)).symm))) sH sH
end Go.Proofs.YthjedpdedjhndaaGreatDoor
