/- Texts of this seat, joined: low, Clone. divide. Trailing zeros; the binary way to the greatest common divisor; plain. TrailingZeros64, zeros. divisor. -/
import Derived.Test.YtofjdbmcloemnaaGreatDoorJoinC
import Derived.Lib.TrailingZeros
import Derived.Deep.Slices
import Derived.WideKeyArgs
import Derived.OpenShut
import Derived.WideShapes
import Derived.ChangeArms
set_option linter.unusedVariables false
set_option linter.unusedSimpArgs false
namespace Go.Proofs.YtofjdbmcloemnaaGreatDoor
open Go Go.Fw Go.NatM
set_option maxRecDepth 100000
set_option maxHeartbeats 99999999
theorem bit_word (V i:Nat):wdc V (i/64)/2^(i%64)%2=V/2^i%2:=by
 unfold wdc
 have h64:i%64<64:=Nat.mod_lt _ (by decide)
 rw [two_word i,←Nat.div_div_eq_div_mul]
 obtain ⟨t,ht⟩:∃t,t=i%64:=⟨_,rfl⟩
 rw [←ht] at h64 ⊢
 generalize V/B^(i/64)=X
 rw [show B=2^t*2^(64 - t) by rw [←Nat.pow_add,show t+(64 - t)=64 by omega];rfl,Nat.mod_mul_right_div_self]
 rw [show 2^(64 - t)=2*2^(63 - t) by rw [←Nat.pow_succ'];congr 1;omega,Nat.mod_mul_right_mod]
theorem low1_fn {h:Array Obj} {y bm bw V m cap many:Nat} {a:Option Addr} (J:Nat→Array Obj→Prop) (h0:J many h)
  (hcells:∀i h',J i h'→cellH h' bm 0=some (.int .i64 many)∧cellH h' bw 0=some (.slice a m cap)∧Wr h' (.slice a m cap) m V) (hm:many≤64*m) (hmb:m≤1048576)
  (hY:∀i h',i<many→J (i+1) h'→YieldsTo Tryz.prog y #[.int .i64 (i:Nat),.int .u64 (V/2^i%2:Nat)] h' fun v h''=>v=.bool true∧J i h''):
  FnV Tryz.prog 184 #[.func (.yield y) #[] #[],.pointer (some ⟨bm,0,none⟩),.pointer (some ⟨bw,0,none⟩)] h fun r h'=>r=.tuple #[]∧J 0 h':=by
 refine Fn.of (args:=[.func (.yield y) #[] #[],.pointer (some ⟨bm,0,none⟩),.pointer (some ⟨bw,0,none⟩)]) Tryz.func184 (by kernel_rfl) rfl Tryz.ntmps184 rfl fun w0 cs=>?_
 refine gO ?_;conv=>whnf
 refine ⟨_,(hcells _ _ h0).1,?_⟩;conv=>whnf
 repeat (refine oL ?_;conv=>whnf)
 refine Runs.loop (X:=Nat) (fun i=>[(0,.func (.yield y) #[] #[]),(1,.pointer (some ⟨bm,0,none⟩)),(2,.pointer (some ⟨bw,0,none⟩)),(4,.int .i64 ((i:Int) - 1))]) (fun i h'=>i≤many∧J i h') (fun i=>i) many
  ⟨Nat.le_refl _,h0⟩ ⟨rfl,rfl,rfl,rfl,trivial⟩ ?_
 rintro i h' ⟨hi,hJ⟩ ih
 obtain ⟨hc1,hc2,hw⟩:=hcells _ _ hJ
 try refine gO ?_;conv=>whnf
 refine ⟨fun h1=>?_,fun h1=>?_⟩<;>conv=>whnf
 ·obtain ⟨k,rfl⟩:∃k,i=k+1:=⟨i - 1,by omega⟩
  rw [show ((k+1:Nat):Int) - 1=(k:Nat) by omega]
  refine ⟨_,hc2,?_⟩;conv=>whnf
  rw [show ((k:Nat):Int)/64=(k/64:Nat) by omega]
  obtain ⟨b,off,rfl,hrd⟩:=hw.rd rfl (by omega)
  repeat (refine oL ?_;conv=>whnf)
  refine ⟨_,hrd (k/64) (by omega),?_⟩;conv=>whnf
  conv=>whnf
  repeat (refine oL ?_;conv=>whnf)
  rw [show ((k:Nat):Int)%64=(k%64:Nat) by omega,shr_cast]
  have b1:=shr_le (wdc_le V (k/64)) (k%64)
  have b2:=bit_word V k
  obtain ⟨x,hx⟩:∃x,x=wdc V (k/64)/2^(k%64):=⟨_,rfl⟩
  rw [←hx] at b1 b2 ⊢
  repeat (refine oL ?_;conv=>whnf)
  rw [show (((fun a b=>a&&&b) (x:Int).toNat (Int.toNat 1):Nat):Int)=(V/2^k%2:Nat) by rw [←b2];exact congrArg _ (Nat.and_two_pow_sub_one_eq_mod x 1)]
  refine Runs.callY (hY k h' (by omega) hJ) ?_
  rintro _ h'' ⟨rfl,hJ'⟩
  try refine gO ?_;conv=>whnf
  repeat (refine oL ?_;conv=>whnf)
  exact ih k _ _ ⟨by omega,hJ'⟩ (by omega) ⟨rfl,rfl,rfl,rfl,trivial⟩
 refine Runs.fin Tryz.func184 rfl rfl ⟨_,rfl,?_⟩
 have:i=0:=by omega
 subst this
 exact ⟨rfl,hJ⟩
theorem low_fn {h:Array Obj} (v:Value) (many:Int) (hv:v.cells = #[v]):
  FnV Tryz.prog 169 #[v,.int .i64 many] h fun r h'=>r=.func (.func 184) #[] #[.pointer (some ⟨h.size+1,0,none⟩),.pointer (some ⟨h.size,0,none⟩)] ∧
   h'=(h.push (.cells #[v] 196 (0,0))).push (.cells #[.int .i64 many] 3 (0,0)):=by
 refine Fn.of (args:=[v,.int .i64 many]) Tryz.func169 (by kernel_rfl) rfl Tryz.ntmps169 rfl fun w0 cs=>?_
 refine gO ?_;conv=>whnf
 refine Runs.eff (eff_box) ?_
 rintro _ _ ⟨rfl,rfl⟩
 try refine gO ?_;conv=>whnf
 refine Runs.eff (eff_box) ?_
 rintro _ _ ⟨rfl,rfl⟩
 try refine gO ?_;conv=>whnf
 refine Runs.ret Tryz.func169 rfl rfl ⟨_,rfl,?_⟩
 rw [hv]
 refine ⟨?_,rfl⟩
 show Value.func _ _ _=_
 simp
theorem clone_fn {h:Array Obj} {a:Option Addr} {m cap V:Nat} (hw:Wr h (.slice a m cap) m V) (h0:0<m) (hm:m≤1048576):
  FnV Tryz.prog 162 #[.slice a m cap] h fun r h'=>Wown h.size h' r m V∧Keeps h.size h h':=by
 obtain ⟨b,off,rfl,hrd⟩:=hw.rd rfl h0
 have hV:V<B^m:=by obtain ⟨_,_,_,_,hV,_⟩:=hw;exact hV
 have hb:b<h.size:=cellH_lt (hrd 0 h0)
 refine Fn.of (args:=[.slice (some ⟨b,off,none⟩) m cap]) Tryz.func162 (by kernel_rfl) rfl Tryz.ntmps162 rfl fun w0 cs=>?_
 refine gO ?_;conv=>whnf
 refine Runs.eff (eff_build tab [] (h1:=by simp)) ?_
 rintro _ _ ⟨rfl,rfl⟩
 try refine gO ?_;conv=>whnf
 have hown:Own h.size (h.push (.cells #[] 195 (0,0))) 195 1 (.slice (some ⟨h.size,0,none⟩) 0 0) 0 []:=
  ⟨rfl,.inr ⟨h.size,0,#[],rfl,Nat.le_refl _,push_new _ _ _,Nat.le_refl _,by unfold maxLen;omega,rfl,rfl⟩⟩
 have hk1:Keeps h.size h (h.push (.cells #[] 195 (0,0))):=(Keeps.refl _ _).push (Nat.le_refl _) _
 refine Runs.eff (eff_append tab (i:=⟨.int .u64 0,1,8⟩) (base:=h.size) (m:=0) (m2:=m) (news:=(List.range m).map fun j=>Value.int .u64 (wdc V j:Nat)) hown (by simp) (fun j u hu=>?_) (fun u hu=>?_) (h63:=by unfold maxLen;omega) (hbytes:=by dsimp only;omega) (hbase:=by simp)) ?_
 ·rw [List.getElem?_map] at hu
  have hj:j<m:=by
   rcases Nat.lt_or_ge j m with h|h
   ·exact h
   rw [List.getElem?_eq_none (by simp;omega)] at hu;cases hu
  rw [List.getElem?_range hj] at hu
  obtain rfl:=Option.some.inj hu
  rw [hk1.cell hb]
  exact hrd j hj
 ·obtain ⟨j,_,rfl⟩:=List.mem_map.1 hu
  rfl
 rintro v' h' ⟨H1,H2,H3,H4⟩
 try refine gO ?_;conv=>whnf
 refine Runs.ret Tryz.func162 rfl rfl ⟨_,rfl,?_⟩
 have hkk:Keeps h.size h h':=hk1.trans (hown.keeps (by simp) H2 H3)
 refine ⟨?_,hkk⟩
 rw [Nat.zero_add] at H1
 obtain ⟨hl,H1⟩:=H1
 rcases H1 with ⟨_,e⟩|⟨g,cap',cur,e1,e2,e3,e4,e5,e6,e7⟩
 ·omega
 dsimp only at e6 e7
 refine ⟨g,cap',cur,e1,e2,e3,by omega,e4,hV,fun j hj=>?_⟩
 have:(cur.toList.take (m*1))[j]? = some (.int .u64 (wdc V j:Nat)):=by
  rw [e7]
  simp [List.getElem?_range hj]
 rw [List.getElem?_take_of_lt (show j<m*1 by omega)] at this
 simpa using this

abbrev nilS:Value:=.slice none 0 0
theorem Wr.nil (h:Array Obj):Wr h nilS 0 0:=⟨none,0,rfl,Nat.le_refl _,by decide,fun h=>absurd h (Nat.lt_irrefl _)⟩
theorem cmpI_lt (x y:Nat):cmpI (x:Int) (y:Int)<0↔x<y:=by
 unfold cmpI
 constructor
 ·intro h;split at h
  ·omega
  split at h<;>omega
 intro h;rw [if_pos (by omega)];decide
theorem words_src {h:Array Obj} {g m V:Nat} {cur:Array Value} (hat:At h g cur 195) (hc:∀j,j<m→cur[j]? = some (.int .u64 (wdc V j:Nat))):
  ∀(j:Nat) (u:Value),((List.range m).map fun j=>Value.int .u64 (wdc V j:Nat))[j]? = some u→cellH h g (0+j)=some u:=fun j u hu=>by
 rw [List.getElem?_map] at hu
 have hj:j<m:=by
  rcases Nat.lt_or_ge j m with h|h
  ·exact h
  rw [List.getElem?_eq_none (by simp;omega)] at hu;cases hu
 rw [List.getElem?_range hj] at hu
 obtain rfl:=Option.some.inj hu
 rw [hat.cell,Nat.zero_add]
 exact hc j hj
theorem words_one (m V:Nat):∀u∈(List.range m).map (fun j=>Value.int .u64 (wdc V j:Nat)),u.oneCell'=true:=fun u hu=>by
 obtain ⟨j,_,rfl⟩:=List.mem_map.1 hu
 rfl
def DivR (h h':Array Obj) (r:Value) (V1 V2:Nat):Prop:=
 ∃vq vr mq mr,r=.tuple #[vq,vr]∧Wr h' vq mq (V1/V2)∧Wr h' vr mr (V1%V2)∧mq≤nw V1∧mr≤nw V1+nw V2+1∧Keeps h.size h h'
theorem slice_own {h:Array Obj} {a:Option Addr} {m cap V g:Nat} (hw:Wr h (.slice a m cap) m V) (hm:0<m) (hg:h.size≤g):(Value.slice a m cap).ownBlock≠some g:=by
 intro e
 obtain ⟨b,off,rfl,hr⟩:=hw.rd rfl hm
 have:=cellH_lt (hr 0 hm)
 have e:b=g:=by simpa [Value.ownBlock] using e
 omega
structure DivC (h:Array Obj) (v2:Value) (g1 g3:Nat) (V1 V2 i:Nat) (h':Array Obj):Prop where
 keeps:Keeps h.size h h'
 bb:At h' h.size #[v2] 196
 qq:At h' (h.size+1) #[.slice (some ⟨g1,0,none⟩) (nw V1) (nw V1)] 196
 rr:At h' (h.size+1+1) #[.slice (some ⟨g3,0,none⟩) (nw V2+1) (nw V2+1)] 196
 q:∃cur,At h' g1 cur 195∧cur.size=nw V1∧V1/2^i/V2*2^i<B^nw V1 ∧ ∀j,j<nw V1→cur[j]? = some (.int .u64 (wdc (V1/2^i/V2*2^i) j:Nat))
 r:∃cur,At h' g3 cur 195∧cur.size=nw V2+1 ∧ ∀j,j<nw V2+1→cur[j]? = some (.int .u64 (wdc (V1/2^i%V2) j:Nat))
theorem DivC.put {h:Array Obj} {v2:Value} {g1 g3 V1 V2 i:Nat} {h' h'':Array Obj} (H:DivC h v2 g1 g3 V1 V2 i h') {b:Nat} (P:PutO h' h'' b) (hb:h.size+2<b) (h1:g1≠b) (h3:g3≠b):DivC h v2 g1 g3 V1 V2 i h'':=by
 obtain ⟨k,b1,b2,b3,⟨c1,q1,q2⟩,⟨c2,r1,r2⟩⟩:=H
 exact ⟨k.trans (P.keeps.mono (by omega)),P.at b1 (by omega),P.at b2 (by omega),P.at b3 (by omega),⟨c1,P.at q1 h1,q2⟩,⟨c2,P.at r1 h3,r2⟩⟩
theorem DivC.kept {h:Array Obj} {v2:Value} {g1 g3 V1 V2 i:Nat} {h' h'':Array Obj} (H:DivC h v2 g1 g3 V1 V2 i h') {b:Nat} (P:Keeps b h' h'') (hb:h.size+2<b) (h1:g1<b) (h3:g3<b):DivC h v2 g1 g3 V1 V2 i h'':=by
 obtain ⟨k,b1,b2,b3,⟨c1,q1,q2⟩,⟨c2,r1,r2⟩⟩:=H
 exact ⟨k.trans (P.mono (by omega)),P.at b1 (by omega),P.at b2 (by omega),P.at b3 (by omega),⟨c1,P.at q1 h1,q2⟩,⟨c2,P.at r1 h3,r2⟩⟩
theorem divide_fn {h:Array Obj} {v1 v2:Value} {V1 V2:Nat} (hw1:Wr h v1 (nw V1) V1) (hw2:Wr h v2 (nw V2) V2) (h0:V2≠0) (hm1:nw V1≤65536) (hm2:nw V2≤65536):
  FnV Tryz.prog 146 #[v1,v2] h fun r h'=>DivR h h' r V1 V2:=by
 obtain ⟨a1,cap1,rfl⟩:∃a cap,v1=.slice a (nw V1) cap:=let ⟨a,cap,e,_⟩:=hw1;⟨a,cap,e⟩
 obtain ⟨a2,cap2,rfl⟩:∃a cap,v2=.slice a (nw V2) cap:=let ⟨a,cap,e,_⟩:=hw2;⟨a,cap,e⟩
 refine Fn.of (args:=[.slice a1 (nw V1) cap1,.slice a2 (nw V2) cap2]) Tryz.func146 (by kernel_rfl) rfl Tryz.ntmps146 rfl fun w0 cs=>?_
 refine gO ?_;conv=>whnf
 refine Runs.eff (eff_boxN (cs:=#[.slice a2 (nw V2) cap2]) rfl) ?_
 rintro _ ha ⟨rfl,Na⟩
 try refine gO ?_;conv=>whnf
 refine Runs.eff (eff_allocN (cs:=#[nilS]) tab) ?_
 rintro _ hb ⟨rfl,Nb⟩
 try refine gO ?_;conv=>whnf
 refine Runs.eff (eff_allocN (cs:=#[nilS]) tab) ?_
 rintro _ h1 ⟨rfl,Nc⟩
 have k1:Keeps h.size h h1:=(Na.keeps.trans (Nb.keeps.mono (by rw [Na.size];omega))).trans (Nc.keeps.mono (by rw [Nb.size,Na.size];omega))
 have B1:=Nc.at (Nb.at Na.blk)
 have Q1:=Nc.at Nb.blk
 have R1:=Nc.blk
 have s1:h1.size=h.size+3:=by rw [Nc.size,Nb.size,Na.size]
 rw [Na.size] at Q1
 rw [Nb.size,Na.size] at R1
 rw [Nb.size,Na.size]
 clear Na Nb Nc
 have hw1':=hw1.keeps k1
 have hw2':=hw2.keeps k1
 try refine gO ?_;conv=>whnf
 refine ⟨_,B1.one,?_⟩;conv=>whnf
 refine Runs.callV (compare_fn hw1' hw2' (by omega)) ?_
 rintro _ h1 ⟨rfl,rfl⟩
 try refine gO ?_;conv=>whnf
 refine ⟨fun hlt=>?_,fun hlt=>?_⟩<;>conv=>whnf
 ·refine Runs.eff (eff_storeB tab Q1) ?_
  rintro _ h2 P2
  try refine gO ?_;conv=>whnf
  refine Runs.eff (eff_storeB tab (P2.at R1 (by omega))) ?_
  rintro _ h3 P3
  try refine gO ?_;conv=>whnf
  have hV:=(cmpI_lt V1 V2).1 hlt
  have hk:Keeps h.size h h3:=(k1.trans (P2.keeps.mono (by omega))).trans (P3.keeps.mono (by omega))
  refine Runs.retC tab Tryz.func146 rfl (vs:=[nilS,.slice a1 (nw V1) cap1]) ⟨⟨_,_,rfl,rfl,(P3.at P2.blk (by omega)).one⟩,⟨_,_,rfl,rfl,P3.blk.one⟩,trivial⟩ ⟨_,rfl,?_⟩
  refine ⟨_,_,0,nw V1,rfl,by rw [Nat.div_eq_of_lt hV];exact Wr.nil _,by rw [Nat.mod_eq_of_lt hV];exact hw1.keeps hk,by omega,by omega,hk⟩
 have hge:V2≤V1:=by
  rcases Nat.lt_or_ge V1 V2 with h|h
  ·exact absurd ((cmpI_lt V1 V2).2 h) hlt
  exact h
 refine Runs.eff (eff_makeN tab (nw V1) (nw V1) (hn:=⟨by omega,by omega,by omega,by dsimp only;omega,by omega⟩)) ?_
 rintro _ h2 ⟨rfl,N2⟩
 have B2:=N2.at B1
 have Q2:=N2.at Q1
 have R2:=N2.at R1
 try refine gO ?_;conv=>whnf
 refine Runs.eff (eff_storeB tab Q2) ?_
 rintro _ h3 P3
 try refine gO ?_;conv=>whnf
 refine ⟨_,(P3.at B2 (by omega)).one,?_⟩;conv=>whnf
 refine ⟨fun hone=>?_,fun hone=>?_⟩<;>conv=>whnf
 ·have hone:nw V2=1:=by omega
  have hV2B:V2<B:=by have:=nw_lt V2;rw [hone,Nat.pow_one] at this;exact this
  have hV2w:wdc V2 0=V2:=by unfold wdc;rw [Nat.pow_zero,Nat.div_one];exact Nat.mod_eq_of_lt hV2B
  have hm1p:0<nw V1:=nw_pos (by omega)
  repeat (refine oL ?_;conv=>whnf)
  have s2:=N2.size
  have s3:=P3.size
  have k3:Keeps h.size h h3:=(k1.trans (N2.keeps.mono (by omega))).trans (P3.keeps.mono (by omega))
  refine Runs.loop (X:=Nat) (fun k=>[(0,.slice a1 (nw V1) cap1),(3,.pointer (some ⟨h.size,0,none⟩)),(4,.pointer (some ⟨h.size+1,0,none⟩)),(5,.pointer (some ⟨h.size+1+1,0,none⟩)),(6,.int .u64 (V1/B^k%V2:Nat)),(7,.int .i64 ((k:Nat) - 1))])
   (fun k h'=>k≤nw V1∧Keeps h.size h h'∧At h' h.size #[.slice a2 (nw V2) cap2] 196∧At h' (h.size+1) #[.slice (some ⟨h1.size,0,none⟩) (nw V1) (nw V1)] 196∧At h' (h.size+1+1) #[nilS] 196 ∧
    ∃cur,At h' h1.size cur 195∧cur.size=nw V1∧V1/B^k/V2*B^k<B^nw V1 ∧ ∀j,j<nw V1→cur[j]? = some (.int .u64 (wdc (V1/B^k/V2*B^k) j:Nat)))
   (fun k=>k) (nw V1)
   ⟨Nat.le_refl _,k3,P3.at B2 (by omega),P3.blk,P3.at R2 (by omega),_,P3.at N2.blk (by omega),by simp,?_,fun j hj=>?_⟩ ⟨rfl,rfl,rfl,rfl,?_,rfl,trivial⟩ ?_
  ·rw [Nat.div_eq_of_lt (nw_lt V1),Nat.zero_div,Nat.zero_mul];exact Bp_pos _
  ·rw [Nat.div_eq_of_lt (nw_lt V1),Nat.zero_div,Nat.zero_mul,wdc_zero,Array.getElem?_replicate,if_pos hj];rfl
  ·rw [Nat.div_eq_of_lt (nw_lt V1),Nat.zero_mod];rfl
  rintro k h4 ⟨hk,k4,B4,Q4,R4,cur,C4,hsz,hS,hc⟩ ih
  try refine gO ?_;conv=>whnf
  refine ⟨fun hpos=>?_,fun hpos=>?_⟩<;>conv=>whnf
  ·obtain ⟨i,rfl⟩:∃i,k=i+1:=⟨k - 1,by omega⟩
   rw [show ((i+1:Nat):Int) - 1=(i:Nat) by omega]
   have hwi:=hw1.keeps k4
   obtain ⟨b1,off1,rfl,hrd1⟩:=hwi.rd rfl hm1p
   obtain ⟨b2,off2,rfl,hrd2⟩:=(hw2.keeps k4).rd rfl (by omega)
   refine Runs.held tab [(0,[]),(1,[]),(2,[]),(3,[]),(4,[]),(5,[]),(6,[]),(7,[]),(8,[]),(9,[]),(10,[0]),(11,[]),(12,[]),(13,[]),(14,[]),(15,[]),(16,[])] (by kernel_rfl) ?_;conv=>whnf
   refine ⟨_,Q4.one,?_⟩;conv=>whnf
   repeat (refine oL ?_;conv=>whnf)
   refine ⟨_,hrd1 i (by omega),?_⟩;conv=>whnf
   refine ⟨_,B4.one,?_⟩;conv=>whnf
   repeat (refine oL ?_;conv=>whnf)
   refine ⟨_,hrd2 0 (by omega),?_⟩;conv=>whnf
   refine ⟨rfl,_,Eff.call (div64_fn (V1/B^(i+1)%V2) (wdc V1 i) (wdc V2 0) (wdc_lt _ _) (wdc_lt _ _) (by rw [hV2w];exact Nat.mod_lt _ (by omega))),?_⟩
   rintro _ h4 ⟨⟨q,r,rfl,hq,hr⟩,rfl⟩
   refine And.intro (by conv=>whnf
                        repeat (refine And.intro (fun e=>e) ?_;conv=>whnf)
                        exact trivial) ?_
   conv=>whnf
   repeat (refine oL ?_;conv=>whnf)
   refine ⟨rfl,_,eff_storeN tab C4 (hlt:=by omega),?_⟩
   rintro _ h5 P5
   refine And.intro (by conv=>whnf
                        repeat (refine And.intro (fun e=>e) ?_;conv=>whnf)
                        exact trivial) ?_
   conv=>whnf
   try refine gO ?_;conv=>whnf
   repeat (refine oL ?_;conv=>whnf)
   rw [hV2w] at hq hr
   obtain ⟨e1,e2⟩:=word_step (V1:=V1) (V2:=V2) (i:=i) (by omega)
   rw [←hq] at e1
   rw [←hr] at e2
   have hqB:q<B:=by rw [hq];exact word_digit_lt (Nat.mod_lt _ (by omega)) (wdc_lt _ _)
   have eS:V1/B^i/V2*B^i=putw (V1/B^(i+1)/V2*B^(i+1)) i q:=by rw [putw_mulB,e1]
   have z1:=k4.size
   refine ih i _ _ ⟨by omega,k4.trans (P5.keeps.mono (by omega)),P5.at B4 (by omega),P5.at Q4 (by omega),P5.at R4 (by omega),_,P5.blk,by simpa using hsz,by rw [eS];exact putw_lt hqB (by omega) hS,fun j hj=>?_⟩ (by omega)
    ⟨rfl,rfl,rfl,rfl,by rw [e2];rfl,rfl,trivial⟩
   rw [eS,wdc_putw hqB,show 0+((i:Int)).toNat=i by omega]
   by_cases e:j=i
   ·subst e
    rw [Array.getElem?_setIfInBounds_self_of_lt (by omega),if_pos rfl]
   rw [Array.getElem?_setIfInBounds_ne (by omega),if_neg e]
   exact hc j hj
  have hk0:k=0:=by omega
  subst hk0
  rw [Nat.pow_zero,Nat.div_one,Nat.mul_one] at hS hc
  rw [Nat.pow_zero,Nat.div_one]
  refine ⟨_,Q4.one,?_⟩;conv=>whnf
  try refine gO ?_;conv=>whnf
  refine Runs.eff (eff_buildN tab [.int .u64 (V1%V2:Nat)] (h1:=by simp [Value.cells])) ?_
  rintro _ h5 ⟨rfl,N5⟩
  try refine gO ?_;conv=>whnf
  refine Runs.eff (eff_storeB tab (N5.at Q4)) ?_
  rintro _ h6 P6
  try refine gO ?_;conv=>whnf
  refine Runs.eff (eff_storeB tab (P6.at (N5.at R4) (by omega))) ?_
  rintro _ h7 P7
  try refine gO ?_;conv=>whnf
  have z1:=k4.size
  have z5:=N5.size
  have z6:=P6.size
  have k7:Keeps h.size h h7:=((k4.trans (N5.keeps.mono (by omega))).trans (P6.keeps.mono (by omega))).trans (P7.keeps.mono (by omega))
  refine Runs.retC tab Tryz.func146 rfl (vs:=[.slice (some ⟨h1.size,0,none⟩) (nw V1) (nw V1),.slice (some ⟨h4.size,0,none⟩) 1 1]) ⟨⟨_,_,rfl,rfl,(P7.at P6.blk (by omega)).one⟩,⟨_,_,rfl,rfl,P7.blk.one⟩,trivial⟩ ⟨_,rfl,?_⟩
  have hlt4:=C4.lt
  refine ⟨_,_,nw V1,1,rfl,Wr.of_at (P7.at (P6.at (N5.at C4) (by omega)) (by omega)) (Nat.le_refl _) hS hc,Wr.of_at (P7.at (P6.at N5.blk (by omega)) (by omega)) (Nat.le_refl _) ?_ (fun j hj=>?_),by omega,by omega,k7⟩
  ·rw [Nat.pow_one];exact Nat.lt_of_lt_of_le (Nat.mod_lt _ (by omega)) (by omega)
  have:j=0:=by omega
  subst this
  rw [show wdc (V1%V2) 0=V1%V2 by unfold wdc;rw [Nat.pow_zero,Nat.div_one];exact Nat.mod_eq_of_lt (Nat.lt_of_lt_of_le (Nat.mod_lt _ (by omega)) (by omega))]
  rfl
 have hp2:0<nw V2:=nw_pos h0
 have hn2:2≤nw V2:=by omega
 have hm1p:0<nw V1:=nw_pos (by omega)
 have hmono:=bl_mono hge
 have s2:=N2.size
 have s3:=P3.size
 have k3:Keeps h.size h h3:=(k1.trans (N2.keeps.mono (by omega))).trans (P3.keeps.mono (by omega))
 have B3:=P3.at B2 (show h.size≠h.size+1 by omega)
 have R3:=P3.at R2 (show h.size+1+1≠h.size+1 by omega)
 have Q3:=P3.blk
 have C3:=P3.at N2.blk (show h1.size≠h.size+1 by omega)
 clear N2 P3 B2 Q2 R2
 have hbl1:bl V1≤4194304:=by
  have:=bl_word (show V1≠0 by omega)
  have:=bl_le64 (wdc_lt V1 (nw V1 - 1))
  omega
 refine Runs.held tab [(0,[]),(2,[]),(1,[2]),(3,[]),(4,[]),(5,[]),(6,[])] (by kernel_rfl) ?_;conv=>whnf
 refine ⟨_,B3.one,?_⟩;conv=>whnf
 refine ⟨rfl,_,Eff.call (size_fn (hw1.keeps k3) (by omega)),?_⟩
 rintro _ h3 ⟨rfl,rfl⟩
 refine And.intro (by conv=>whnf
                      repeat (refine And.intro (fun e=>e) ?_;conv=>whnf)
                      exact trivial) ?_
 conv=>whnf
 refine ⟨rfl,_,Eff.call (size_fn (hw2.keeps k3) (by omega)),?_⟩
 rintro _ h3 ⟨rfl,rfl⟩
 refine And.intro (by conv=>whnf
                      repeat (refine And.intro (fun e=>e) ?_;conv=>whnf)
                      exact trivial) ?_
 conv=>whnf
 repeat (refine oL ?_;conv=>whnf)
 obtain ⟨many,hmany⟩:∃many,many=bl V1 - bl V2+1:=⟨_,rfl⟩
 have hbl2:=bl_pos h0
 rw [show (bl V1:Int) - (bl V2:Int)+1=(many:Nat) by omega]
 have hXlt:V1/2^many<V2:=by
  have h1:=bl_lt V1
  have h2:=bl_le h0
  refine Nat.lt_of_lt_of_le (Nat.div_lt_of_lt_mul ?_) h2
  rw [←Nat.pow_add,show many+(bl V2 - 1)=bl V1 by omega]
  exact h1
 have hnX:=nw_mono (Nat.le_of_lt hXlt)
 try refine gO ?_;conv=>whnf
 refine ⟨_,B3.one,?_⟩;conv=>whnf
 repeat (refine oL ?_;conv=>whnf)
 refine Runs.eff (eff_makeN tab (nw V2+1) (nw V2+1) (hn:=⟨by omega,by omega,by omega,by dsimp only;omega,by omega⟩)) ?_
 rintro _ h4 ⟨rfl,N4⟩
 try refine gO ?_;conv=>whnf
 refine Runs.eff (eff_storeB tab (N4.at R3)) ?_
 rintro _ h5 P5
 have s4:=N4.size
 have s5:=P5.size
 have k5:Keeps h.size h h5:=(k3.trans (N4.keeps.mono (by omega))).trans (P5.keeps.mono (by omega))
 have B5:=P5.at (N4.at B3) (show h.size≠h.size+1+1 by omega)
 have Q5:=P5.at (N4.at Q3) (show h.size+1≠h.size+1+1 by omega)
 have C5:=P5.at (N4.at C3) (show h1.size≠h.size+1+1 by omega)
 have R5:=P5.blk
 have D5:=P5.at N4.blk (show h3.size≠h.size+1+1 by omega)
 clear N4 P5 B3 Q3 R3 C3
 try refine gO ?_;conv=>whnf
 refine Runs.held tab [(0,[]),(1,[]),(3,[]),(2,[0]),(4,[0]),(5,[])] (by kernel_rfl) ?_;conv=>whnf
 refine ⟨_,R5.one,?_⟩;conv=>whnf
 refine ⟨rfl,_,Eff.call (clone_fn (hw1.keeps k5) hm1p (by omega)),?_⟩
 rintro vc h6 ⟨O6,k6⟩
 refine And.intro (by conv=>whnf
                      repeat (first|(refine And.intro (fun e=>(Keeps.cell (k6) (by omega)).trans e) ?_;conv=>whnf)|(refine And.intro (fun e=>Keeps.cells (k6) (by omega) e) ?_;conv=>whnf))
                      exact trivial) ?_
 conv=>whnf
 obtain ⟨g6,cap6,cur6,rfl,hg6,C6,hsz6,hm6,hV6,hc6⟩:=O6
 refine ⟨rfl,_,Eff.call (shift_fn C6 hsz6 hm6 hV6 hc6 (by omega) many (by omega)),?_⟩
 rintro _ h7 ⟨rfl,cur7,hh7,hsz7,hc7⟩
 refine And.intro (by conv=>whnf
                      repeat (first|(refine And.intro (fun e=>(Keeps.cell ((hh7▸(Keeps.refl g6 h6).setB (Nat.le_refl _) _ _:Keeps g6 h6 h7)) (by omega)).trans e) ?_;conv=>whnf)|(refine And.intro (fun e=>Keeps.cells ((hh7▸(Keeps.refl g6 h6).setB (Nat.le_refl _) _ _:Keeps g6 h6 h7)) (by omega) e) ?_;conv=>whnf))
                      exact trivial) ?_
 conv=>whnf
 have k7:Keeps g6 h6 h7:=hh7▸(Keeps.refl g6 h6).setB (Nat.le_refl _) _ _
 have C7:At h7 g6 cur7 195:=by rw [hh7];exact setB_same C6.lt _ _
 have D7:=k7.at (k6.at D5 D5.lt) (show h3.size<g6 by omega)
 have hw7:=Wr.of_at C7 (m:=nw (V1/2^many)) (cap:=cap6) (V:=V1/2^many) (by have:=nw_mono (Nat.div_le_self V1 (2^many));omega) (nw_lt _) (fun j hj=>hc7 j (by have:=nw_mono (Nat.div_le_self V1 (2^many));omega))
 refine ⟨rfl,_,eff_copyN tab D7 (cs:=(List.range (nw (V1/2^many))).map fun j=>Value.int .u64 (wdc (V1/2^many) j:Nat)) (hn:=by rw [List.length_map,List.length_range];exact (Nat.min_eq_left (by omega)).symm) (hsrc:=words_src C7 (fun j hj=>hc7 j (by have:=nw_mono (Nat.div_le_self V1 (2^many));omega))) (hfit:=by simp;omega) (h1:=words_one _ _),?_⟩
 rintro _ h8 ⟨rfl,P8⟩
 refine And.intro (by conv=>whnf
                      repeat (refine And.intro (fun e=>e) ?_;conv=>whnf)
                      exact trivial) ?_
 conv=>whnf
 have z6:=k6.size
 have z7:=k7.size
 have z8:=P8.size
 have k8:Keeps h.size h h8:=((k5.trans (k6.mono (by omega))).trans (k7.mono (by omega))).trans (P8.keeps.mono (by omega))
 have up:∀ {b cs e},At h5 b cs e→b≠h3.size→At h8 b cs e:=fun H hne=>P8.at (k7.at (k6.at H H.lt) (by have:=H.lt;omega)) hne
 have B8:=up B5 (by omega)
 have Q8:=up Q5 (by omega)
 have R8:=up R5 (by omega)
 have C8:=up C5 (by omega)
 have D8:=P8.blk
 obtain ⟨cur8,hcur8⟩:∃cur8,cur8=(List.take 0 (Array.replicate (nw V2+1) (Value.int .u64 0)).toList++(List.range (nw (V1/2^many))).map (fun j=>Value.int .u64 (wdc (V1/2^many) j:Nat))++List.drop (0+((List.range (nw (V1/2^many))).map (fun j=>Value.int .u64 (wdc (V1/2^many) j:Nat))).length) (Array.replicate (nw V2+1) (Value.int .u64 0)).toList).toArray:=⟨_,rfl⟩
 have hD8:At h8 h3.size cur8 195:=by rw [hcur8];exact D8
 have hsz8:cur8.size=nw V2+1:=by rw [hcur8];simp;omega
 have hc8:∀j,j<nw V2+1→cur8[j]? = some (.int .u64 (wdc (V1/2^many) j:Nat)):=fun j hj=>by
  rw [hcur8]
  simp only [List.take_zero,List.nil_append,Nat.zero_add,List.length_map,List.length_range,List.getElem?_toArray,Array.toList_replicate,List.drop_replicate]
  rcases Nat.lt_or_ge j (nw (V1/2^many)) with h|h
  ·rw [List.getElem?_append_left (by simpa using h),List.getElem?_map,List.getElem?_range h];rfl
  rw [List.getElem?_append_right (by simpa using h),List.length_map,List.length_range,List.getElem?_replicate,if_pos (by omega),wdc_ge (nw_lt _) h];rfl
 clear hcur8 D8 P8 up B5 Q5 R5 C5 D5 D7 C7 hw7
 try refine gO ?_;conv=>whnf
 have I8:DivC h (.slice a2 (nw V2) cap2) h1.size h3.size V1 V2 many h8:=by
  refine ⟨k8,B8,Q8,R8,⟨_,C8,by simp,?_,fun j hj=>?_⟩,⟨cur8,hD8,hsz8,by rw [Nat.mod_eq_of_lt hXlt];exact hc8⟩⟩
  ·rw [Nat.div_eq_of_lt hXlt,Nat.zero_mul];exact Bp_pos _
  rw [Nat.div_eq_of_lt hXlt,Nat.zero_mul,wdc_zero,Array.getElem?_replicate,if_pos hj];rfl
 clear k8 B8 Q8 R8 C8 hD8 hsz8 hc8
 refine Runs.callV (low_fn (.slice a1 (nw V1) cap1) many rfl) ?_
 rintro _ h9 ⟨rfl,hh9⟩
 have z9:h9.size=h8.size+2:=by rw [hh9];simp
 have k9:Keeps h8.size h8 h9:=by rw [hh9];exact ((Keeps.refl _ _).push (Nat.le_refl _) _).push (by simp) _
 have m9:cellH h9 h8.size 0=some (.slice a1 (nw V1) cap1):=by rw [hh9];exact ((push_new _ _ _).push _).one
 have n9:cellH h9 (h8.size+1) 0=some (.int .i64 many):=by
  rw [hh9]
  have:=(push_new (h8.push (.cells #[.slice a1 (nw V1) cap1] 196 (0,0))) #[.int .i64 many] 3).one
  simpa using this
 have I9:=I8.kept k9 (by omega) (by omega) (by omega)
 clear hh9
 try refine gO ?_;conv=>whnf
 refine Runs.sub (l':=[(3,.pointer (some ⟨h.size,0,none⟩)),(4,.pointer (some ⟨h.size+1,0,none⟩)),(5,.pointer (some ⟨h.size+1+1,0,none⟩)),(66,.func (.func 184) #[] #[.pointer (some ⟨h8.size+1,0,none⟩),.pointer (some ⟨h8.size,0,none⟩)])]) ⟨rfl,rfl,rfl,rfl,trivial⟩ ?_
 refine Runs.rangeFuncL fun r h10 hrec N10=>?_
 have z10:=N10.size
 have I10:=I9.kept N10.keeps (by omega) (by omega) (by omega)
 refine (low1_fn (J:=fun i h'=>DivC h (.slice a2 (nw V2) cap2) h1.size h3.size V1 V2 i h'∧LoopAt h' (h9.size+1) r .ready none∧h'[h9.size]? = some (.deferred (some []))∧cellH h' h8.size 0=some (.slice a1 (nw V1) cap1)∧cellH h' (h8.size+1) 0=some (.int .i64 many))
  (m:=nw V1) (V:=V1) ⟨I10,N10.loop,N10.dfr,(N10.keeps.cell (by omega)).trans m9,(N10.keeps.cell (by omega)).trans n9⟩ (fun i h' H=>⟨H.2.2.2.2,H.2.2.2.1,hw1.keeps H.1.keeps⟩) ?_ (by omega) ?_).mono ?_
 ·have:=bl_word (show V1≠0 by omega)
  have:=bl_le64 (wdc_lt V1 (nw V1 - 1))
  omega
 ·rintro i h11 hi ⟨I,LA,df,c1,c2⟩
  clear I8 I9 I10 m9 n9 N10 k6 k7 hh7 C6 hsz6 hm6 hV6 hc6 hsz7 hc7
  obtain ⟨bit,hbit⟩:∃bit,bit=V1/2^i%2:=⟨_,rfl⟩
  rw [←hbit]
  have hb1:bit≤1:=by omega
  refine YieldsTo.ofL hrec LA (vs:=[.int .i64 (i:Nat),.int .u64 (bit:Nat)]) ?_
  intro w1 fr1 cs1
  try refine gO ?_;conv=>whnf
  refine Runs.beginRoundL LA fun h12 P12 LB=>?_
  have J12:=I.put P12 (by omega) (by omega) (by omega)
  have df12:h12[h9.size]? = some (.deferred (some [])):=by rw [P12.other _ (by omega)];exact df
  have d1:=(P12.cell (b:=h8.size) (o:=0) (by omega)).trans c1
  have d2:=(P12.cell (b:=h8.size+1) (o:=0) (by omega)).trans c2
  clear I LA df c1 c2
  obtain ⟨kk,Bx,Qx,Rx,hqx,curR,Rc,Rsz,Rw⟩:=J12
  try refine gO ?_;conv=>whnf
  refine ⟨_,Rx.one,?_⟩;conv=>whnf
  try refine gO ?_;conv=>whnf
  obtain ⟨R,hR⟩:∃R,R=V1/2^(i+1)%V2:=⟨_,rfl⟩
  rw [←hR] at Rw
  have hRlt:R<V2:=by rw [hR];exact Nat.mod_lt _ (by omega)
  have hV2B:V2<B^nw V2:=nw_lt V2
  have hWB:2*R+bit<B^(nw V2+1):=by
   have:=Nat.mul_le_mul_left (B^nw V2) (show 2≤B by decide)
   rw [Nat.pow_succ]
   omega
  have zk:=kk.size
  have LBlt:=LB.lt
  refine Runs.loop (X:=Nat) (fun j=>[(3,.pointer (some ⟨h.size,0,none⟩)),(4,.pointer (some ⟨h.size+1,0,none⟩)),(5,.pointer (some ⟨h.size+1+1,0,none⟩)),(9,.int .i64 (i:Nat)),(10,.int .u64 (cdb R bit j:Nat)),(70,.int .i64 ((nw V2+1:Nat):Int)),(71,.int .i64 (j:Nat))])
   (fun j h'=>j≤nw V2+1∧PutO h12 h' h3.size ∧ ∃cur,At h' h3.size cur 195∧cur.size=nw V2+1 ∧ ∀t,t<nw V2+1→cur[t]? = some (.int .u64 (if t<j then wdc (2*R+bit) t else wdc R t:Nat)))
   (fun j=>nw V2+1 - j) 0
   ⟨Nat.zero_le _,⟨rfl,fun _ _=>rfl⟩,curR,Rc,Rsz,fun t ht=>by rw [if_neg (Nat.not_lt_zero _)];exact Rw t ht⟩ ⟨rfl,rfl,rfl,rfl,by rw [cdb_zero];rfl,rfl,rfl,trivial⟩ ?_
  rintro j h13 ⟨hj,P13,cur13,C13,S13,W13⟩ ih
  have Bx:=P13.at Bx (show h.size≠h3.size by omega)
  have Qx:=P13.at Qx (show h.size+1≠h3.size by omega)
  have Rx:=P13.at Rx (show h.size+1+1≠h3.size by omega)
  try refine gO ?_;conv=>whnf
  refine ⟨fun hjl=>?_,fun hjl=>?_⟩<;>conv=>whnf
  ·have hw13:cellH h13 h3.size (0+j)=some (.int .u64 (wdc R j:Nat)):=by rw [C13.cell,Nat.zero_add,W13 j (by omega),if_neg (Nat.lt_irrefl j)]
   obtain ⟨e1,e2⟩:=dbl_word (R:=R) (j:=j) hb1
   have hcd:=cdb_le (R:=R) (j:=j) hb1
   have hwl:=wdc_le R j
   refine Runs.held tab [(0,[]),(1,[]),(2,[]),(3,[]),(4,[]),(5,[]),(6,[]),(7,[]),(8,[]),(9,[]),(10,[]),(11,[]),(12,[]),(13,[]),(14,[]),(15,[]),(16,[])] (by kernel_rfl) ?_;conv=>whnf
   refine ⟨_,Rx.one,?_⟩;conv=>whnf
   refine ⟨_,Rx.one,?_⟩;conv=>whnf
   repeat (refine oL ?_;conv=>whnf)
   refine ⟨_,hw13,?_⟩;conv=>whnf
   obtain ⟨x,hx⟩:∃x,x=wdc R j:=⟨_,rfl⟩
   obtain ⟨cb,hcb⟩:∃cb,cb=cdb R bit j:=⟨_,rfl⟩
   rw [←hx] at hwl
   rw [←hcb] at hcd
   repeat (refine oL ?_;conv=>whnf)
   refine ⟨_,Rx.one,?_⟩;conv=>whnf
   repeat (refine oL ?_;conv=>whnf)
   refine ⟨_,hw13,?_⟩;conv=>whnf
   repeat (refine oL ?_;conv=>whnf)
   refine ⟨rfl,_,eff_storeN tab C13 (hlt:=by omega),?_⟩
   rintro _ h14 P14
   refine And.intro (by conv=>whnf
                        repeat (refine And.intro (fun e=>e) ?_;conv=>whnf)
                        exact trivial) ?_
   conv=>whnf
   try refine gO ?_;conv=>whnf
   repeat (refine oL ?_;conv=>whnf)
   rw [show 0+((j:Int)).toNat=j by omega] at P14
   refine ih (j+1) _ _ ⟨by omega,⟨P14.size.trans P13.size,fun k hk=>(P14.other k hk).trans (P13.other k hk)⟩,_,P14.blk,by simpa using S13,fun t ht=>?_⟩ (by omega) ⟨rfl,rfl,rfl,rfl,?_,rfl,rfl,trivial⟩
   ·by_cases e:t=j
    ·subst e
     rw [Array.getElem?_setIfInBounds_self_of_lt (by omega),if_pos (Nat.lt_succ_self t),e1,←hx,←hcb]
     have e5:((x:Int)*2%18446744073709551616).toNat=x*2%B:=by rw [B_eq];omega
     rw [←e5];rfl
    rw [Array.getElem?_setIfInBounds_ne (by omega),W13 t ht]
    by_cases e3:t<j
    ·rw [if_pos e3,if_pos (by omega)]
    rw [if_neg e3,if_neg (by omega)]
   rw [e2,←hx]
   show some (Value.int .u64 _)=some (Value.int .u64 _)
   congr 2
  have hjm:j=nw V2+1:=by omega
  subst hjm
  obtain ⟨W,hW⟩:∃W,W=2*R+bit:=⟨_,rfl⟩
  rw [←hW] at hWB
  have W13:∀t,t<nw V2+1→cur13[t]? = some (.int .u64 (wdc W t:Nat)):=fun t ht=>by rw [W13 t ht,if_pos ht,hW]
  have hk13:Keeps h.size h h13:=kk.trans (P13.keeps.mono (by omega))
  have hw13:=Wr.of_at C13 (m:=nw V2+1) (cap:=nw V2+1) (V:=W) (Nat.le_refl _) hWB W13
  have hnW:=nw_le hWB
  have hw13':=Wr.of_at C13 (m:=nw W) (cap:=nw V2+1) (V:=W) hnW (nw_lt W) (fun t ht=>W13 t (by omega))
  obtain ⟨cq,Cq,Sq,Lq,Wq⟩:=hqx
  have Cq:=P13.at Cq (show h1.size≠h3.size by omega)
  have df13:h13[h9.size]? = some (.deferred (some [])):=by rw [P13.other _ (by omega)];exact df12
  have d1:=(P13.cell (b:=h8.size) (o:=0) (by omega)).trans d1
  have d2:=(P13.cell (b:=h8.size+1) (o:=0) (by omega)).trans d2
  have LB13:=LB.same (P13.other _ (show h9.size+1≠h3.size by omega))
  obtain ⟨b1,b2⟩:=bit_step (V1:=V1) (V2:=V2) (i:=i) (by omega) bit hbit
  rw [←hR,←hW] at b1 b2
  clear ih P12 LB df12
  refine Runs.held tab [(0,[]),(2,[]),(1,[2]),(3,[]),(4,[])] (by kernel_rfl) ?_;conv=>whnf
  refine ⟨_,Rx.one,?_⟩;conv=>whnf
  refine ⟨_,Bx.one,?_⟩;conv=>whnf
  refine ⟨rfl,_,Eff.call (trim_fn hw13 (by omega)),?_⟩
  rintro _ h13 ⟨rfl,rfl⟩
  refine And.intro (by conv=>whnf
                       repeat (refine And.intro (fun e=>e) ?_;conv=>whnf)
                       exact trivial) ?_
  conv=>whnf
  refine ⟨rfl,_,Eff.call (compare_fn hw13' (hw2.keeps hk13) (by omega)),?_⟩
  rintro _ h13 ⟨rfl,rfl⟩
  refine And.intro (by conv=>whnf
                       repeat (refine And.intro (fun e=>e) ?_;conv=>whnf)
                       exact trivial) ?_
  conv=>whnf
  refine ⟨fun hcmp=>?_,fun hcmp=>?_⟩<;>conv=>whnf
  ·have hVW:V2≤W:=by
    rcases Nat.lt_or_ge W V2 with h|h
    ·have:=(cmpI_lt W V2).2 h;omega
    exact h
   obtain ⟨f1,f2⟩:=b1 hVW
   try refine gO ?_;conv=>whnf
   refine ⟨_,Rx.one,?_⟩;conv=>whnf
   refine ⟨_,Bx.one,?_⟩;conv=>whnf
   have hsz13:h13.size=h12.size:=P13.size
   refine Runs.callV (reduce_fn C13 S13 (Nat.le_refl _) hWB W13 (hw2.keeps hk13) (slice_own hw2 hp2 (by omega)) hVW (by omega)) ?_
   rintro _ h14 ⟨rfl,cur14,hh14,S14,W14⟩
   have P14:Put h13 h14 h3.size cur14 195:=by rw [hh14];exact Put.of C13.lt _ _
   clear hh14
   have z13:=P13.size
   have z14:=P14.size
   have hi64:i/64<nw V1:=by
    have:=bl_word (show V1≠0 by omega)
    have:=bl_le64 (wdc_lt V1 (nw V1 - 1))
    omega
   obtain ⟨A,hA⟩:∃A,A=V1/2^(i+1)/V2:=⟨_,rfl⟩
   rw [←hA] at Lq Wq f1
   obtain ⟨g1,g2,g3⟩:=set_bit A i
   have Cq14:=P14.at Cq (show h1.size≠h3.size by omega)
   have hq14:cellH h14 h1.size (0+i/64)=some (.int .u64 (wdc (A*2^(i+1)) (i/64):Nat)):=by rw [Cq14.cell,Nat.zero_add];exact Wq _ hi64
   try refine gO ?_;conv=>whnf
   refine Runs.held tab [(0,[]),(1,[]),(2,[]),(3,[]),(4,[]),(5,[]),(6,[]),(7,[]),(8,[]),(9,[]),(10,[])] (by kernel_rfl) ?_;conv=>whnf
   refine ⟨_,(P14.at Qx (by omega)).one,?_⟩;conv=>whnf
   repeat (refine oL ?_;conv=>whnf)
   rw [show ((i:Nat):Int)/64=(i/64:Nat) by omega]
   refine ⟨_,hq14,?_⟩;conv=>whnf
   repeat (refine oL ?_;conv=>whnf)
   rw [show ((i:Nat):Int)%64=(i%64:Nat) by omega]
   have hp2:2^(i%64)<18446744073709551616:=Nat.pow_lt_pow_right (by decide) (show i%64<64 by omega)
   have hwq:=wdc_le (A*2^(i+1)) (i/64)
   rw [show (1:Int)*2^(((i%64:Nat):Int)).toNat%18446744073709551616=((2^(i%64):Nat):Int) by
    rw [Int.toNat_natCast]
    have e9:((2:Int)^(i%64))=((2^(i%64):Nat):Int):=by simp
    rw [e9]
    obtain ⟨p,hp⟩:∃p,p=2^(i%64):=⟨_,rfl⟩
    rw [←hp] at hp2 ⊢
    omega]
   obtain ⟨p,hp⟩:∃p,p=2^(i%64):=⟨_,rfl⟩
   rw [←hp] at hp2 g1 g2 g3 ⊢
   repeat (refine oL ?_;conv=>whnf)
   refine ⟨rfl,_,eff_storeN tab Cq14 (hlt:=by omega),?_⟩
   rintro _ h15 P15
   refine And.intro (by conv=>whnf
                        repeat (refine And.intro (fun e=>e) ?_;conv=>whnf)
                        exact trivial) ?_
   conv=>whnf
   try refine gO ?_;conv=>whnf
   rw [show 0+(((i/64:Nat):Int)).toNat=i/64 by omega] at P15
   have LB15:=LB13.same ((P15.other _ (show h9.size+1≠h1.size by omega)).trans (P14.other _ (show h9.size+1≠h3.size by omega)))
   have z15:=P15.size
   refine Runs.endRoundL LB15 fun h16 P16 LC=>?_
   have kk16:Keeps h.size h h16:=((hk13.trans (P14.keeps.mono (by omega))).trans (P15.keeps.mono (by omega))).trans (P16.keeps.mono (by omega))
   refine ⟨rfl,⟨kk16,P16.at (P15.at (P14.at Bx (by omega)) (by omega)) (by omega),P16.at (P15.at (P14.at Qx (by omega)) (by omega)) (by omega),P16.at (P15.at (P14.at Rx (by omega)) (by omega)) (by omega),
    ⟨_,P16.at P15.blk (by omega),by simpa using Sq,?_,fun t ht=>?_⟩,⟨cur14,P16.at (P15.at P14.blk (by omega)) (by omega),S14,by rw [f2];exact W14⟩⟩,LC,?_,
    (P16.cell (by omega)).trans ((P15.cell (by omega)).trans ((P14.cell (by omega)).trans d1)),(P16.cell (by omega)).trans ((P15.cell (by omega)).trans ((P14.cell (by omega)).trans d2))⟩
   ·rw [f1,←g3];exact putw_lt g2 hi64 Lq
   ·rw [f1,←g3,wdc_putw g2]
    by_cases e:t=i/64
    ·subst e
     rw [Array.getElem?_setIfInBounds_self_of_lt (by omega),if_pos rfl,←g1]
     rfl
    rw [Array.getElem?_setIfInBounds_ne (by omega),if_neg e]
    exact Wq t ht
   rw [P16.other _ (by omega),P15.other _ (by omega),P14.other _ (by omega)];exact df13
  have hWV:W<V2:=(cmpI_lt W V2).1 (by omega)
  obtain ⟨f1,f2⟩:=b2 hWV
  try refine gO ?_;conv=>whnf
  refine Runs.endRoundL LB13 fun h15 P15 LC=>?_
  have z13:=P13.size
  refine ⟨rfl,⟨hk13.trans (P15.keeps.mono (by omega)),P15.at Bx (by omega),P15.at Qx (by omega),P15.at Rx (by omega),⟨cq,P15.at Cq (by omega),Sq,?_⟩,⟨cur13,P15.at C13 (by omega),S13,?_⟩⟩,LC,?_,(P15.cell (by omega)).trans d1,(P15.cell (by omega)).trans d2⟩
  ·rw [f1,show 2*(V1/2^(i+1)/V2)*2^i=V1/2^(i+1)/V2*2^(i+1) by rw [Nat.pow_succ,Nat.mul_comm 2,Nat.mul_assoc,Nat.mul_comm 2]]
   exact ⟨Lq,Wq⟩
  ·rw [f2];exact W13
  rw [P15.other _ (by omega)];exact df13
 rintro _ h11 ⟨rfl,I,LA,df,_⟩
 refine ⟨.ready,none,LA,(by decide),fun h12 P12=>?_⟩
 have z11:=I.keeps.size
 have z12:=P12.size
 have LAlt:=LA.lt
 obtain ⟨kk,Bx,Qx,Rx,⟨cq,C1,C2,C3,C4⟩,⟨cr,E1,E2,E3⟩⟩:=I.put P12 (by omega) (by omega) (by omega)
 have df':h12[h9.size]? = some (.deferred (some [])):=by rw [P12.other _ (by omega)];exact df
 rw [Nat.pow_zero,Nat.div_one,Nat.mul_one] at C3 C4
 rw [Nat.pow_zero,Nat.div_one] at E3
 try refine gO ?_;conv=>whnf
 refine Runs.held tab [(0,[]),(1,[]),(2,[1]),(3,[])] (by kernel_rfl) ?_;conv=>whnf
 refine ⟨_,Qx.one,?_⟩;conv=>whnf
 refine ⟨_,Rx.one,?_⟩;conv=>whnf
 refine ⟨rfl,_,eff_storeB tab Qx,?_⟩
 rintro _ h13 P13
 refine And.intro (by conv=>whnf
                      repeat (refine And.intro (fun e=>(P13.cell (by omega)).trans e) ?_;conv=>whnf)
                      exact trivial) ?_
 conv=>whnf
 refine ⟨rfl,_,eff_storeB tab (P13.at Rx (by omega)),?_⟩
 rintro _ h14 P14
 refine And.intro (by conv=>whnf
                      repeat (refine And.intro (fun e=>e) ?_;conv=>whnf)
                      exact trivial) ?_
 conv=>whnf
 try refine gO ?_;conv=>whnf
 have z13:=P13.size
 have z14:=P14.size
 have df14:h14[h9.size]? = some (.deferred (some [])):=by rw [P14.other _ (by omega),P13.other _ (by omega)];exact df'
 have P15:=PutO.of h14 h9.size (.deferred none)
 have k15:Keeps h.size h _:=((kk.trans (P13.keeps.mono (by omega))).trans (P14.keeps.mono (by omega))).trans (P15.keeps.mono (by omega))
 refine Runs.retC tab Tryz.func146 ⟨_,rfl,df14,rfl⟩ (vs:=[.slice (some ⟨h1.size,0,none⟩) (nw V1) (nw V1),.slice (some ⟨h3.size,0,none⟩) (nw V2+1) (nw V2+1)])
  ⟨⟨_,_,rfl,rfl,(P15.at (P14.at P13.blk (by omega)) (by omega)).one⟩,⟨_,_,rfl,rfl,(P15.at P14.blk (by omega)).one⟩,trivial⟩ ⟨_,rfl,?_⟩
 refine ⟨_,_,nw V1,nw V2+1,rfl,Wr.of_at (P15.at (P14.at (P13.at C1 (by omega)) (by omega)) (by omega)) (Nat.le_refl _) C3 C4,Wr.of_at (P15.at (P14.at (P13.at E1 (by omega)) (by omega)) (by omega)) (Nat.le_refl _) ?_ E3,by omega,by omega,k15⟩
 exact Nat.lt_trans (Nat.mod_lt _ (by omega)) (Nat.lt_of_lt_of_le (nw_lt V2) (Nat.pow_le_pow_right B_pos (by omega)))
end Go.Proofs.YtofjdbmcloemnaaGreatDoor

namespace Go.NatM
open Go Go.Fw
def Tz (V k:Nat):Prop:=∃m,V=2^k*(2*m+1)
theorem Tz.div {V k:Nat} (h:Tz V k):∃m,V/2^k=2*m+1∧V=2^k*(V/2^k):=by
 obtain ⟨m,rfl⟩:=h
 rw [Nat.mul_div_cancel_left _ (Nat.two_pow_pos k)]
 exact ⟨m,rfl,rfl⟩
theorem Tz.lt_bl {V k:Nat} (h:Tz V k):k<bl V:=by
 obtain ⟨m,hm,e⟩:=h.div
 have h0:V≠0:=by
  intro h0
  rw [h0,Nat.zero_div] at hm
  omega
 have hlt:=bl_lt V
 rcases Nat.lt_or_ge k (bl V) with h1|h1
 ·exact h1
 have:=Nat.pow_le_pow_right (show 0<2 by decide) h1
 have h3:=Nat.mul_le_mul_left (2^k) (show 1≤V/2^k by omega)
 omega
theorem odd_coprime {k X m:Nat} (hX:X=2*m+1):Nat.Coprime (2^k) X:=by
 refine Nat.Coprime.pow_left k ?_
 have h1:=Nat.gcd_dvd_left 2 X
 have h2:=Nat.gcd_dvd_right 2 X
 have h3:=Nat.dvd_sub h2 (Nat.dvd_trans h1 ⟨m,rfl⟩)
 rw [hX,Nat.add_sub_cancel_left] at h3
 rw [←hX] at h3
 exact Nat.dvd_one.1 h3
theorem gcd_step {A C k m:Nat} (hC:C=2*m+1) (hle:C≤A) (hk:Tz (A - C) k):Nat.gcd ((A - C)/2^k) C=Nat.gcd A C:=by
 obtain ⟨_,_,e⟩:=hk.div
 have h1:Nat.gcd (A - C) C=Nat.gcd A C:=Nat.gcd_sub_self_left hle
 rw [←h1]
 conv=>rhs;rw [e]
 rw [Nat.Coprime.gcd_mul_left_cancel _ (odd_coprime hC)]
theorem gcd_start {V1 V2 k1 k2:Nat} (h1:Tz V1 k1) (h2:Tz V2 k2):Nat.gcd V1 V2=Nat.gcd (V1/2^k1) (V2/2^k2)*2^min k1 k2:=by
 obtain ⟨m1,o1,e1⟩:=h1.div
 obtain ⟨m2,o2,e2⟩:=h2.div
 obtain ⟨X,hX⟩:∃X,X=V1/2^k1:=⟨_,rfl⟩
 obtain ⟨Y,hY⟩:∃Y,Y=V2/2^k2:=⟨_,rfl⟩
 rw [←hX] at o1 e1 ⊢
 rw [←hY] at o2 e2 ⊢
 rw [e1,e2]
 rcases Nat.le_total k1 k2 with h|h
 ·rw [Nat.min_eq_left h,show 2^k2*Y=2^k1*(2^(k2 - k1)*Y) by rw [←Nat.mul_assoc,←Nat.pow_add];congr 2;omega,Nat.gcd_mul_left,Nat.Coprime.gcd_mul_left_cancel_right _ (odd_coprime o1),Nat.mul_comm]
 rw [Nat.min_eq_right h,show 2^k1*X=2^k2*(2^(k1 - k2)*X) by rw [←Nat.mul_assoc,←Nat.pow_add];congr 2;omega,Nat.gcd_mul_left,Nat.Coprime.gcd_mul_left_cancel _ (odd_coprime o2),Nat.mul_comm]
theorem tz_pos {V k:Nat} (h:Tz V k) (hev:V%2=0):0<k:=by
 rcases Nat.eq_zero_or_pos k with e|e
 ·subst e
  obtain ⟨m,hm⟩:=h
  rw [Nat.pow_zero,Nat.one_mul] at hm
  omega
 exact e
theorem tz_word {V n t:Nat} (h0:V%B^n=0) (ht:Tz (wdc V n) t) (h64:t<64):Tz V (64*n+t):=by
 obtain ⟨m,hm⟩:=ht
 have h1:=div_step V n
 have h2:=Nat.div_add_mod V (B^n)
 rw [h0,Nat.add_zero] at h2
 have hB:B=2^t*(2*2^(63 - t)):=by rw [←Nat.pow_succ',←Nat.pow_add,show t+(63 - t+1)=64 by omega];rfl
 refine ⟨m+2^(63 - t)*(V/B^(n+1)),?_⟩
 rw [Nat.pow_add,←B_pow,Nat.mul_assoc]
 rw [←h2]
 conv=>lhs;rw [h1,hm]
 obtain ⟨Y,hY⟩:∃Y,Y=V/B^(n+1):=⟨_,rfl⟩
 rw [h2,←hY]
 have e:B*Y=2^t*(2*(2^(63 - t)*Y)):=by rw [hB,Nat.mul_assoc,Nat.mul_assoc]
 rw [e,←Nat.mul_add]
 congr 2
 omega
theorem ctz_tz {x:Nat} (h0:x≠0) (hx:x<B):Tz x (Go.Lib.ctz 64 x)∧Go.Lib.ctz 64 x<64:=by
 obtain ⟨m,h1,h2⟩:=Go.Lib.ctzFrom_spec 64 x (by omega) hx
 have e:Go.Lib.ctz 64 x=Go.Lib.ctzFrom 64 x:=by simp [Go.Lib.ctz,h0]
 rw [e]
 exact ⟨⟨m,h1⟩,h2⟩
end Go.NatM

namespace Go.Proofs.YtofjdbmcloemnaaGreatDoor
open Go Go.Fw Go.NatM
set_option maxRecDepth 100000
set_option maxHeartbeats 99999999
def TabH (h:Array Obj):Prop:=∀j,j<64→cellH h 2 j=some (.int .u8 (Go.Lib.deBruijn64tab.getD j 0:Nat))
theorem TabH.keeps {h h':Array Obj} (H:TabH h) (k:Keeps h.size h h'):TabH h':=fun j hj=>(k.cell (cellH_lt (H 0 (by decide)))).trans (H j hj)
theorem tz64_fn (x:Nat) (h0:x≠0) (hx:x<B) {h:Array Obj} (hT:TabH h):
  FnV Tryz.prog 177 #[.int .u64 x] h fun v h'=>v=.int .i64 (Go.Lib.ctz 64 x:Nat)∧h'=h:=by
 obtain ⟨e1,e2⟩:=Go.Lib.lowest_bit 64 x h0 hx
 obtain ⟨t,ht⟩:∃t,t=Go.Lib.ctz 64 x:=⟨_,rfl⟩
 rw [←ht] at e1 e2 ⊢
 obtain ⟨d1,d2⟩:=Go.Lib.deBruijn64_at t e2
 rw [B_eq] at hx
 refine Fn.of (args:=[.int .u64 x]) Tryz.func177 (by kernel_rfl) rfl Tryz.ntmps177 rfl fun w0 cs=>?_
 refine gO ?_;conv=>whnf
 refine ⟨fun h1=>?_,fun h1=>?_⟩<;>conv=>whnf
 ·omega
 repeat (refine oL ?_;conv=>whnf)
 have e3:(((fun a b=>a&&&b) (x:Int).toNat (((0:Int) - x)%18446744073709551616).toNat:Nat):Int)=(2^t:Nat):=by
  rw [Int.toNat_natCast,show (((0:Int) - x)%18446744073709551616).toNat=2^64 - x by rw [show (2:Nat)^64=18446744073709551616 from rfl];omega]
  exact congrArg _ e1
 rw [e3]
 obtain ⟨p,hp⟩:∃p,p=2^t:=⟨_,rfl⟩
 rw [←hp] at d1 d2 ⊢
 rw [show (p:Int)*285870213051353865%18446744073709551616/288230376151711744=(p*285870213051353865%18446744073709551616/288230376151711744:Nat) by simp]
 obtain ⟨i,hi⟩:∃i,i=p*285870213051353865%18446744073709551616/288230376151711744:=⟨_,rfl⟩
 rw [←hi] at d1 d2 ⊢
 have hc:=hT i d1
 rw [d2] at hc
 rw [show 0+((i:Nat):Int).toNat=i by omega]
 refine ⟨_,hc,?_⟩;conv=>whnf
 repeat (refine oL ?_;conv=>whnf)
 refine Runs.ret Tryz.func177 rfl rfl ⟨_,rfl,?_⟩
 exact ⟨rfl,rfl⟩
theorem zeros_fn {h:Array Obj} {a:Option Addr} {m cap V:Nat} (hw:Wr h (.slice a m cap) m V) (h0:V≠0) (hm:m≤1048576) (hT:TabH h):
  FnV Tryz.prog 161 #[.slice a m cap] h fun r h'=>(∃k:Nat,r=.int .i64 k∧Tz V k)∧h'=h:=by
 have hV:V<B^m:=by obtain ⟨_,_,_,_,hV,_⟩:=hw;exact hV
 have hmp:0<m:=by
  rcases Nat.eq_zero_or_pos m with e|e
  ·subst e;simp at hV;omega
  exact e
 obtain ⟨b,off,rfl,hrd⟩:=hw.rd rfl hmp
 refine Fn.of (args:=[.slice (some ⟨b,off,none⟩) m cap]) Tryz.func161 (by kernel_rfl) rfl Tryz.ntmps161 rfl fun w0 cs=>?_
 refine gO ?_;conv=>whnf
 refine Runs.loopJ (X:=Nat) (Y:=Nat) (fun n=>[(0,.slice (some ⟨b,off,none⟩) m cap),(3,.int .i64 (n:Nat))]) (fun n h'=>h'=h∧n<m∧V%B^n=0) (fun n=>m - n) 0
  (fun n=>[(0,.slice (some ⟨b,off,none⟩) m cap),(3,.int .i64 (n:Nat))]) (fun n h'=>h'=h∧n<m∧V%B^n=0∧wdc V n≠0)
  ⟨rfl,hmp,by rw [Nat.pow_zero,Nat.mod_one]⟩ ⟨rfl,rfl,trivial⟩ ?_ ?_
 ·rintro n h ⟨rfl,hn,hz⟩ ih hx
  try refine gO ?_;conv=>whnf
  repeat (refine oL ?_;conv=>whnf)
  refine ⟨_,hrd n hn,?_⟩;conv=>whnf
  refine ⟨fun h1=>?_,fun h1=>?_⟩<;>conv=>whnf
  ·repeat (refine oL ?_;conv=>whnf)
   have hw0:wdc V n=0:=by omega
   have hz':V%B^(n+1)=0:=by rw [mod_succ,hz,hw0];rfl
   refine ih (n+1) _ _ ⟨rfl,?_,hz'⟩ (by omega) ⟨rfl,rfl,trivial⟩
   rcases Nat.lt_or_ge (n+1) m with h|h
   ·exact h
   have:n+1=m:=by omega
   rw [this,Nat.mod_eq_of_lt hV] at hz'
   exact absurd hz' h0
  exact hx n _ _ ⟨rfl,hn,hz,by omega⟩ ⟨rfl,rfl,trivial⟩
 rintro n h ⟨rfl,hn,hz,hne⟩
 try refine gO ?_;conv=>whnf
 repeat (refine oL ?_;conv=>whnf)
 refine ⟨_,hrd n hn,?_⟩;conv=>whnf
 refine Runs.callV (tz64_fn (wdc V n) hne (wdc_lt _ _) hT) ?_
 rintro _ h ⟨rfl,rfl⟩
 obtain ⟨t1,t2⟩:=ctz_tz hne (wdc_lt V n)
 try refine gO ?_;conv=>whnf
 repeat (refine oL ?_;conv=>whnf)
 refine Runs.ret Tryz.func161 rfl rfl ⟨_,rfl,?_⟩
 exact ⟨⟨64*n+Go.Lib.ctz 64 (wdc V n),rfl,tz_word hz t1 t2⟩,rfl⟩

theorem Wown.put {base:Nat} {h h':Array Obj} {v:Value} {m V g:Nat} (hw:Wown base h v m V) (P:PutO h h' g) (hne:v.ownBlock≠some g):Wown base h' v m V:=by
 obtain ⟨g',cap,cur,rfl,hb,hat,r⟩:=hw
 have hne:g'≠g:=fun e=>hne (by rw [e];rfl)
 exact ⟨g',cap,cur,rfl,hb,P.at hat hne,r⟩
theorem Wown.blk {base:Nat} {h:Array Obj} {v:Value} {m V:Nat} (hw:Wown base h v m V):∃g,v.ownBlock=some g∧base≤g∧g<h.size:=by
 obtain ⟨g,cap,cur,rfl,hb,hat,_⟩:=hw
 exact ⟨g,rfl,hb,hat.lt⟩
theorem PutO.setB {h:Array Obj} {g:Nat} (cs:Array Value) (e:TypeId):PutO h (Fw.setB h g cs e) g:=PutO.of ..
theorem shiftO_fn {base:Nat} {h:Array Obj} {v:Value} {m V:Nat} (hw:Wown base h v m V) (hm:m≤1048576) (k:Nat) (hk:k≤67108864):
  FnV Tryz.prog 163 #[v,.int .i64 k] h fun r h'=>Wown base h' r (nw (V/2^k)) (V/2^k)∧r.ownBlock=v.ownBlock ∧ ∃g,v.ownBlock=some g∧PutO h h' g:=by
 obtain ⟨g,cap,cur,rfl,hb,hat,hsz,hmc,hV,hc⟩:=hw
 refine (shift_fn hat hsz hmc hV hc hm k hk).mono ?_
 rintro _ _ ⟨rfl,cur',rfl,hsz',hc'⟩
 have hn:nw (V/2^k)≤m:=nw_le (Nat.lt_of_le_of_lt (Nat.div_le_self _ _) hV)
 exact ⟨⟨g,cap,cur',rfl,hb,setB_same hat.lt _ _,hsz',by omega,nw_lt _,fun j hj=>hc' j (by omega)⟩,rfl,g,rfl,PutO.setB ..⟩
theorem reduceO_fn {base base2:Nat} {h:Array Obj} {v v2:Value} {m m2 V1 V2:Nat} (hw:Wown base h v m V1) (hw2:Wown base2 h v2 m2 V2) (hne:v.ownBlock≠v2.ownBlock) (hle:V2≤V1) (hm:m≤1048576):
  FnV Tryz.prog 165 #[v,v2] h fun r h'=>r=.tuple #[]∧Wown base h' v m (V1 - V2) ∧ ∃g,v.ownBlock=some g∧PutO h h' g:=by
 obtain ⟨g,cap,cur,rfl,hb,hat,hsz,hmc,hV,hc⟩:=hw
 refine (reduce_fn hat hsz hmc hV hc hw2.wr (fun e=>hne e.symm) hle hm).mono ?_
 rintro _ _ ⟨rfl,cur',rfl,hsz',hc'⟩
 exact ⟨rfl,⟨g,cap,cur',rfl,hb,setB_same hat.lt _ _,hsz',hmc,Nat.lt_of_le_of_lt (Nat.sub_le _ _) hV,hc'⟩,g,rfl,PutO.setB ..⟩
theorem zerosO_fn {base:Nat} {h:Array Obj} {v:Value} {m V:Nat} (hw:Wown base h v m V) (h0:V≠0) (hm:m≤1048576) (hT:TabH h):
  FnV Tryz.prog 161 #[v] h fun r h'=>(∃k:Nat,r=.int .i64 k∧Tz V k)∧h'=h:=by
 have hw':=hw.wr
 obtain ⟨g,cap,cur,rfl,_⟩:=hw
 exact zeros_fn hw' h0 hm hT
structure GcdI (h:Array Obj) (G A C:Nat) (va vb:Value) (h':Array Obj):Prop where
 keeps:Keeps h.size h h'
 a:Wown h.size h' va (nw A) A
 c:Wown h.size h' vb (nw C) C
 ne:va.ownBlock≠vb.ownBlock
 oa:A%2=1
 oc:C%2=1
 na:nw A≤65536
 nc:nw C≤65536
 gcd:Nat.gcd A C=G
theorem tz_unique {V k k':Nat} (h:Tz V k) (h':Tz V k'):k=k':=by
 have key:∀ {k k':Nat},Tz V k→Tz V k' → ¬k<k':=by
  rintro k k' ⟨m,rfl⟩ ⟨m',e⟩ hlt
  rw [show 2^k'=2^k*(2*2^(k' - k - 1)) by rw [←Nat.pow_succ',←Nat.pow_add];congr 1;omega,Nat.mul_assoc] at e
  have e:=Nat.eq_of_mul_eq_mul_left (Nat.two_pow_pos k) e
  rw [Nat.mul_assoc] at e
  omega
 have h1:=key h h'
 have h2:=key h' h
 omega
theorem bl_nw (V:Nat):bl V≤64*nw V:=by
 by_cases h:V=0
 ·subst h;decide
 have:=bl_word h
 have:=bl_le64 (wdc_lt V (nw V - 1))
 have:=nw_pos h
 omega
theorem tz_le {V k:Nat} (h:Tz V k) (hn:nw V≤65536):k≤4194304:=by
 have:=h.lt_bl
 have:=bl_nw V
 omega
theorem odd_of {m X:Nat} (h:X=2*m+1):X%2=1:=by omega
theorem of_odd {X:Nat} (h:X%2=1):X=2*(X/2)+1:=by omega
theorem nw_zero_iff {V:Nat}:nw V=0↔V=0:=by
 constructor
 ·intro h
  rcases Nat.eq_zero_or_pos V with e|e
  ·exact e
  have:=nw_pos (show V≠0 by omega);omega
 rintro rfl;rfl
theorem one_word {V:Nat} (h:nw V=1):V<B∧wdc V 0=V:=by
 have h1:=nw_lt V
 rw [h,Nat.pow_one] at h1
 refine ⟨h1,?_⟩
 unfold wdc;rw [Nat.pow_zero,Nat.div_one];exact Nat.mod_eq_of_lt h1
theorem pow_word (t j:Nat):wdc (2^t) j=if j=t/64 then 2^(t%64) else 0:=by
 have h64:t%64<64:=Nat.mod_lt _ (by decide)
 have hp:2^(t%64)<B:=Nat.pow_lt_pow_right (by decide) h64
 rw [two_word t]
 split
 ·rename_i e
  unfold wdc
  rw [e,Nat.mul_div_cancel_left _ (Bp_pos _)]
  exact Nat.mod_eq_of_lt hp
 rename_i e
 rcases Nat.lt_or_ge j (t/64) with h|h
 ·rw [Nat.mul_comm];exact wdc_mulB h
 refine wdc_ge (m:=t/64+1) ?_ (by omega)
 rw [Nat.pow_succ]
 exact Nat.mul_lt_mul_of_pos_left hp (Bp_pos _)
theorem cmpI_eq {x y:Nat} (h:cmpI (x:Int) (y:Int)=0):x=y:=by
 unfold cmpI at h
 split at h
 ·omega
 split at h<;>omega
theorem divisor_fn {h:Array Obj} {v1 v2:Value} {V1 V2:Nat} (hw1:Wr h v1 (nw V1) V1) (hw2:Wr h v2 (nw V2) V2) (hm1:nw V1≤65536) (hm2:nw V2≤65536) (hT:TabH h):
  FnV Tryz.prog 145 #[v1,v2] h fun r h'=>(∃m,Wr h' r m (Nat.gcd V1 V2)∧m≤1048576)∧Keeps h.size h h':=by
 obtain ⟨a1,cap1,rfl⟩:∃a cap,v1=.slice a (nw V1) cap:=let ⟨a,cap,e,_⟩:=hw1;⟨a,cap,e⟩
 obtain ⟨a2,cap2,rfl⟩:∃a cap,v2=.slice a (nw V2) cap:=let ⟨a,cap,e,_⟩:=hw2;⟨a,cap,e⟩
 refine Fn.of (args:=[.slice a1 (nw V1) cap1,.slice a2 (nw V2) cap2]) Tryz.func145 (by kernel_rfl) rfl Tryz.ntmps145 rfl fun w0 cs=>?_
 refine gO ?_;conv=>whnf
 refine ⟨fun h1=>?_,fun h1=>?_⟩<;>conv=>whnf
 ·refine Runs.ret Tryz.func145 rfl rfl ⟨_,rfl,?_⟩
  have:V1=0:=nw_zero_iff.1 (by omega)
  subst this
  rw [Nat.gcd_zero_left]
  exact ⟨⟨_,hw2,by omega⟩,Keeps.refl _ _⟩
 have z1:V1≠0:=fun e=>h1 (by rw [e];rfl)
 refine ⟨fun h2=>?_,fun h2=>?_⟩<;>conv=>whnf
 ·refine Runs.ret Tryz.func145 rfl rfl ⟨_,rfl,?_⟩
  have:V2=0:=nw_zero_iff.1 (by omega)
  subst this
  rw [Nat.gcd_zero_right]
  exact ⟨⟨_,hw1,by omega⟩,Keeps.refl _ _⟩
 have z2:V2≠0:=fun e=>h2 (by rw [e];rfl)
 have p1:=nw_pos z1
 have p2:=nw_pos z2
 have big:¬(nw V1=1∧nw V2=1)→True:=fun _=>trivial
 refine ⟨fun h3=>?_,fun h3=>?_⟩<;>conv=>whnf
 ·refine ⟨fun h4=>?_,fun h4=>?_⟩<;>conv=>whnf
  ·obtain ⟨q1,w1⟩:=one_word (V:=V1) (by omega)
   obtain ⟨q2,w2⟩:=one_word (V:=V2) (by omega)
   obtain ⟨b1,off1,rfl,hrd1⟩:=hw1.rd rfl p1
   obtain ⟨b2,off2,rfl,hrd2⟩:=hw2.rd rfl p2
   refine Runs.held tab [(0,[]),(1,[]),(2,[]),(3,[]),(4,[]),(5,[]),(6,[]),(7,[])] (by kernel_rfl) ?_;conv=>whnf
   repeat (refine oL ?_;conv=>whnf)
   refine ⟨_,hrd1 0 p1,?_⟩;conv=>whnf
   repeat (refine oL ?_;conv=>whnf)
   refine ⟨_,hrd2 0 p2,?_⟩;conv=>whnf
   rw [w1,w2]
   try refine gO ?_;conv=>whnf
   refine Runs.loop (X:=Nat×Nat) (fun q=>[(5,.int .u64 (q.1:Nat)),(6,.int .u64 (q.2:Nat))]) (fun q h'=>h'=h∧q.1<B∧q.2<B∧Nat.gcd q.1 q.2=Nat.gcd V1 V2) (fun q=>q.2) (V1,V2)
    ⟨rfl,q1,q2,rfl⟩ ⟨rfl,rfl,trivial⟩ ?_
   rintro ⟨x,y⟩ h ⟨rfl,hx,hy,hg⟩ ih
   dsimp only at hx hy hg ⊢
   try refine gO ?_;conv=>whnf
   refine ⟨fun h5=>?_,fun h5=>?_⟩<;>conv=>whnf
   ·refine Runs.eff (eff_buildN tab [.int .u64 (x:Nat)] (h1:=by simp [Value.cells])) ?_
    rintro _ h2 ⟨rfl,N2⟩
    try refine gO ?_;conv=>whnf
    refine Runs.ret Tryz.func145 rfl rfl ⟨_,rfl,?_⟩
    have hy0:y=0:=by omega
    subst hy0
    rw [Nat.gcd_zero_right] at hg
    rw [←hg]
    refine ⟨⟨1,Wr.of_at N2.blk (Nat.le_refl _) (by rw [Nat.pow_one];exact hx) (fun j hj=>?_),by omega⟩,N2.keeps⟩
    have:j=0:=by omega
    subst this
    rw [show wdc x 0=x by unfold wdc;rw [Nat.pow_zero,Nat.div_one];exact Nat.mod_eq_of_lt hx]
    rfl
   try refine gO ?_;conv=>whnf
   refine Runs.held tab [(0,[]),(1,[]),(2,[]),(3,[]),(4,[]),(5,[])] (by kernel_rfl) ?_;conv=>whnf
   rw [B_eq] at hx hy
   repeat (refine oL ?_;conv=>whnf)
   try refine gO ?_;conv=>whnf
   exact ih (y,x%y) _ _ ⟨rfl,by rw [B_eq];exact hy,by rw [B_eq];exact Nat.lt_of_lt_of_le (Nat.mod_lt _ (by omega)) (by omega),by rw [←hg,Nat.gcd_comm,←Nat.gcd_rec,Nat.gcd_comm]⟩ (Nat.mod_lt _ (by omega)) ⟨rfl,rfl,trivial⟩
  try refine gO ?_;conv=>whnf
  refine Runs.callV (zeros_fn hw1 z1 (by omega) hT) ?_
  rintro _ h ⟨⟨k1,rfl,t1⟩,rfl⟩
  try refine gO ?_;conv=>whnf
  refine Runs.callV (zeros_fn hw2 z2 (by omega) hT) ?_
  rintro _ h ⟨⟨k2,rfl,t2⟩,rfl⟩
  have lk1:=tz_le t1 hm1
  have lk2:=tz_le t2 hm2
  obtain ⟨tw,htw⟩:∃tw,tw=min k1 k2:=⟨_,rfl⟩
  try refine gO ?_;conv=>whnf
  rw [show min (k1:Int) (k2:Int)=(tw:Nat) by omega]
  refine Runs.callV (clone_fn hw1 p1 (by omega)) ?_
  rintro va ha ⟨Oa,ka⟩
  try refine gO ?_;conv=>whnf
  refine Runs.callV (clone_fn (hw2.keeps ka) p2 (by omega)) ?_
  rintro vb hb ⟨Ob,kb⟩
  have sa:=ka.size
  have sb:=kb.size
  obtain ⟨ga,ea,ba,la⟩:=Oa.blk
  obtain ⟨gb,eb,bb,lb⟩:=Ob.blk
  have Oa:=Oa.keeps kb (Nat.le_refl _)
  have hkb:Keeps h.size h hb:=ka.trans (kb.mono sa)
  have Tb:=hT.keeps hkb
  have Ob:=Ob.mono sa
  try refine gO ?_;conv=>whnf
  refine Runs.callV (zerosO_fn Oa z1 (by omega) Tb) ?_
  rintro _ hb ⟨⟨k1',rfl,t1'⟩,rfl⟩
  obtain rfl:=tz_unique t1 t1'
  try refine gO ?_;conv=>whnf
  refine Runs.callV (shiftO_fn Oa (by omega) k1 (by omega)) ?_
  rintro va1 hc ⟨Oa1,oa1,g1,eg1,P1⟩
  rw [ea] at eg1
  cases eg1
  have Ob1:=Ob.put P1 (by rw [eb];intro e;cases e;omega)
  have hkc:Keeps h.size h hc:=hkb.trans (P1.keeps.mono ba)
  have Tc:=hT.keeps hkc
  try refine gO ?_;conv=>whnf
  refine Runs.callV (zerosO_fn Ob1 z2 (by omega) Tc) ?_
  rintro _ hc ⟨⟨k2',rfl,t2'⟩,rfl⟩
  obtain rfl:=tz_unique t2 t2'
  try refine gO ?_;conv=>whnf
  refine Runs.callV (shiftO_fn Ob1 (by omega) k2 (by omega)) ?_
  rintro vb1 hd ⟨Ob2,ob2,g2,eg2,P2⟩
  rw [eb] at eg2
  cases eg2
  have Oa2:=Oa1.put P2 (by rw [oa1,ea];intro e;cases e;omega)
  have hkd:Keeps h.size h hd:=hkc.trans (P2.keeps.mono (by omega))
  obtain ⟨m1,od1,_⟩:=t1.div
  obtain ⟨m2,od2,_⟩:=t2.div
  have hgs:=gcd_start t1 t2
  rw [←htw] at hgs
  have n1:=nw_mono (Nat.div_le_self V1 (2^k1))
  have n2:=nw_mono (Nat.div_le_self V2 (2^k2))
  try refine gO ?_;conv=>whnf
  refine Runs.loop (X:=Nat×Nat×Value×Value) (fun q=>[(0,q.2.2.1),(1,q.2.2.2),(7,.int .i64 (tw:Nat))]) (fun q h'=>GcdI h (Nat.gcd (V1/2^k1) (V2/2^k2)) q.1 q.2.1 q.2.2.1 q.2.2.2 h') (fun q=>q.1+q.2.1) (V1/2^k1,V2/2^k2,va1,vb1)
   ⟨hkd,Oa2,Ob2,by rw [oa1,ob2,ea,eb];intro e;cases e;omega,odd_of od1,odd_of od2,by dsimp only;omega,by dsimp only;omega,rfl⟩ ⟨rfl,rfl,rfl,trivial⟩ ?_
  rintro ⟨A,C,wa,wc⟩ he ⟨ke,Ea,Ec,ene,eoa,eoc,ena,enc,eg⟩ ih
  dsimp only at Ea Ec ene eoa eoc ena enc eg ih ⊢
  try refine gO ?_;conv=>whnf
  refine Runs.callV (compare_fn Ea.wr Ec.wr (by omega)) ?_
  rintro _ he ⟨rfl,rfl⟩
  try refine gO ?_;conv=>whnf
  refine ⟨fun hc0=>?_,fun hc0=>?_⟩<;>conv=>whnf
  ·try refine gO ?_
   conv=>whnf
   repeat (refine oL ?_;conv=>whnf)
   refine Runs.eff (eff_makeN tab (tw/64+1) (tw/64+1) (hn:=⟨by omega,by omega,by omega,by dsimp only;omega,by omega⟩)) ?_
   rintro _ hf ⟨rfl,Nf⟩
   try refine gO ?_;conv=>whnf
   repeat (refine oL ?_;conv=>whnf)
   refine Runs.eff (eff_storeN tab Nf.blk (hlt:=by simp;omega)) ?_
   rintro _ hg2 Pg
   try refine gO ?_;conv=>whnf
   have hAC:=cmpI_eq hc0
   subst hAC
   rw [Nat.gcd_self] at eg
   have zf:=Nf.size
   have zg:=Pg.size
   have zke:=ke.size
   have Ea0:=Ea
   have Ea:=Ea.keeps Nf.keeps (Nat.le_refl _)
   obtain ⟨gx,egx,bgx,lgx⟩:=Ea.blk
   have kf:Keeps h.size h hg2:=(ke.trans (Nf.keeps.mono zke)).trans (Pg.keeps.mono zke)
   have Eg:Wown h.size hg2 wa (nw A) A:=by
    obtain ⟨g',cap,cur,rfl,hb',hat,r⟩:=Ea
    refine ⟨g',cap,cur,rfl,hb',Pg.at hat ?_,r⟩
    intro e
    subst e
    have:=Nf.blk
    obtain ⟨g2',cap2',cur2',e2,_,hat2,_⟩:=Ea0
    cases e2
    have:=hat2.lt
    omega
   have hpow:(2:Nat)^tw<B^(tw/64+1):=by
    rw [two_word tw,Nat.pow_succ]
    exact Nat.mul_lt_mul_of_pos_left (Nat.pow_lt_pow_right (by decide) (show tw%64<64 by omega)) (Bp_pos _)
   have hwp:=Wr.of_at Pg.blk (m:=tw/64+1) (cap:=tw/64+1) (V:=2^tw) (Nat.le_refl _) hpow (fun j hj=>by
    rw [pow_word]
    by_cases e:j=tw/64
    ·rw [if_pos e,show 0+((tw:Int)/64).toNat=j by omega,Array.getElem?_setIfInBounds_self_of_lt (by simp;omega)]
     have h64:tw%64<64:=Nat.mod_lt _ (by decide)
     have hp:2^(tw%64)<B:=Nat.pow_lt_pow_right (by decide) h64
     obtain ⟨p,hp'⟩:∃p,p=2^(tw%64):=⟨_,rfl⟩
     rw [show ((tw:Int)%64).toNat=tw%64 by omega]
     have e9:((2:Int)^(tw%64))=((2^(tw%64):Nat):Int):=by simp
     rw [e9,←hp']
     rw [←hp',B_eq] at hp
     rw [show (1:Int)*p%18446744073709551616=p by omega]
    rw [if_neg e,Array.getElem?_setIfInBounds_ne (by omega),Array.getElem?_replicate,if_pos hj]
    rfl)
   refine Runs.callV (times_fn Eg.wr hwp (by omega) (by omega)) ?_
   rintro vr hh ⟨Or,kr⟩
   try refine gO ?_;conv=>whnf
   refine Runs.ret Tryz.func145 rfl rfl ⟨_,rfl,?_⟩
   refine ⟨⟨nw A+(tw/64+1),?_,by omega⟩,kf.trans (kr.mono (by omega))⟩
   rw [hgs,←eg]
   exact Or.wr
  refine ⟨fun hcl=>?_,fun hcl=>?_⟩<;>conv=>whnf
  ·have hlt:A<C:=by
    rcases Nat.lt_or_ge A C with h|h
    ·exact h
    exfalso
    rcases Nat.lt_or_ge C A with h'|h'
    ·first|exact hcl ((cmpI_lt _ _).2 h')|(have:=(cmpI_lt _ _).1 hcl;omega)
    have e:C=A:=by omega
    apply hc0
    subst e
    unfold cmpI
    rw [if_neg (Int.lt_irrefl _),if_neg (Int.lt_irrefl _)]
   try refine gO ?_;conv=>whnf
   refine Runs.callV (reduceO_fn Ec Ea (Ne.symm ene) (by omega) (by omega)) ?_
   rintro _ hf ⟨rfl,Ra,gr,egr,Pr⟩
   have R2:=Ea.put Pr (by rw [←egr];exact Ne.symm (Ne.symm ene))
   obtain ⟨g1',eg1',bg1',_⟩:=Ec.blk
   have hgr:h.size≤gr:=by rw [egr] at eg1';cases eg1';exact bg1'
   have kf:Keeps h.size h hf:=ke.trans (Pr.keeps.mono hgr)
   try refine gO ?_;conv=>whnf
   refine Runs.callV (zerosO_fn Ra (by omega) (by omega) (hT.keeps kf)) ?_
   rintro _ hf ⟨⟨kz,rfl,tz⟩,rfl⟩
   have hev:(C - A)%2=0:=by omega
   have kzp:=tz_pos tz hev
   have nsub:=nw_mono (Nat.sub_le C A)
   try refine gO ?_;conv=>whnf
   refine Runs.callV (shiftO_fn Ra (by omega) kz (Nat.le_trans (tz_le tz (by omega)) (by decide))) ?_
   rintro wa' hg ⟨Sa,osa,gs,egs,Ps⟩
   have S2:=R2.put Ps (by rw [←egs];exact Ne.symm (Ne.symm ene))
   have hgs':h.size≤gs:=by rw [egs] at eg1';cases eg1';exact bg1'
   have kg:Keeps h.size h hg:=kf.trans (Ps.keeps.mono hgs')
   obtain ⟨mo,odd',_⟩:=tz.div
   have gst:=gcd_step (of_odd eoa) (by omega) tz
   have hdl:=Nat.div_le_self (C - A) (2^kz)
   have ndiv:=nw_mono hdl
   try refine gO ?_;conv=>whnf
   exact ih ((C - A)/2^kz,A,wa',wa) _ _ ⟨kg,Sa,S2,by rw [osa];exact (Ne.symm ene),odd_of odd',eoa,by dsimp only;omega,ena,by rw [gst];exact (by rw [Nat.gcd_comm];exact eg)⟩ (by dsimp only;omega) ⟨rfl,rfl,rfl,trivial⟩
  have hlt:C<A:=by
   rcases Nat.lt_or_ge C A with h|h
   ·exact h
   exfalso
   rcases Nat.lt_or_ge A C with h'|h'
   ·first|exact hcl ((cmpI_lt _ _).2 h')|(have:=(cmpI_lt _ _).1 hcl;omega)
   have e:A=C:=by omega
   apply hc0
   subst e
   unfold cmpI
   rw [if_neg (Int.lt_irrefl _),if_neg (Int.lt_irrefl _)]
  try refine gO ?_;conv=>whnf
  refine Runs.callV (reduceO_fn Ea Ec ene (by omega) (by omega)) ?_
  rintro _ hf ⟨rfl,Ra,gr,egr,Pr⟩
  have R2:=Ec.put Pr (by rw [←egr];exact Ne.symm ene)
  obtain ⟨g1',eg1',bg1',_⟩:=Ea.blk
  have hgr:h.size≤gr:=by rw [egr] at eg1';cases eg1';exact bg1'
  have kf:Keeps h.size h hf:=ke.trans (Pr.keeps.mono hgr)
  try refine gO ?_;conv=>whnf
  refine Runs.callV (zerosO_fn Ra (by omega) (by omega) (hT.keeps kf)) ?_
  rintro _ hf ⟨⟨kz,rfl,tz⟩,rfl⟩
  have hev:(A - C)%2=0:=by omega
  have kzp:=tz_pos tz hev
  have nsub:=nw_mono (Nat.sub_le A C)
  try refine gO ?_;conv=>whnf
  refine Runs.callV (shiftO_fn Ra (by omega) kz (Nat.le_trans (tz_le tz (by omega)) (by decide))) ?_
  rintro wa' hg ⟨Sa,osa,gs,egs,Ps⟩
  have S2:=R2.put Ps (by rw [←egs];exact Ne.symm ene)
  have hgs':h.size≤gs:=by rw [egs] at eg1';cases eg1';exact bg1'
  have kg:Keeps h.size h hg:=kf.trans (Ps.keeps.mono hgs')
  obtain ⟨mo,odd',_⟩:=tz.div
  have gst:=gcd_step (of_odd eoc) (by omega) tz
  have hdl:=Nat.div_le_self (A - C) (2^kz)
  have ndiv:=nw_mono hdl
  try refine gO ?_;conv=>whnf
  exact ih ((A - C)/2^kz,C,wa',wc) _ _ ⟨kg,Sa,S2,by rw [osa];exact ene,odd_of odd',eoc,by dsimp only;omega,enc,by rw [gst];exact eg⟩ (by dsimp only;omega) ⟨rfl,rfl,rfl,trivial⟩
 try refine gO ?_;conv=>whnf
 refine Runs.callV (zeros_fn hw1 z1 (by omega) hT) ?_
 rintro _ h ⟨⟨k1,rfl,t1⟩,rfl⟩
 try refine gO ?_;conv=>whnf
 refine Runs.callV (zeros_fn hw2 z2 (by omega) hT) ?_
 rintro _ h ⟨⟨k2,rfl,t2⟩,rfl⟩
 have lk1:=tz_le t1 hm1
 have lk2:=tz_le t2 hm2
 obtain ⟨tw,htw⟩:∃tw,tw=min k1 k2:=⟨_,rfl⟩
 try refine gO ?_;conv=>whnf
 rw [show min (k1:Int) (k2:Int)=(tw:Nat) by omega]
 refine Runs.callV (clone_fn hw1 p1 (by omega)) ?_
 rintro va ha ⟨Oa,ka⟩
 try refine gO ?_;conv=>whnf
 refine Runs.callV (clone_fn (hw2.keeps ka) p2 (by omega)) ?_
 rintro vb hb ⟨Ob,kb⟩
 have sa:=ka.size
 have sb:=kb.size
 obtain ⟨ga,ea,ba,la⟩:=Oa.blk
 obtain ⟨gb,eb,bb,lb⟩:=Ob.blk
 have Oa:=Oa.keeps kb (Nat.le_refl _)
 have hkb:Keeps h.size h hb:=ka.trans (kb.mono sa)
 have Tb:=hT.keeps hkb
 have Ob:=Ob.mono sa
 try refine gO ?_;conv=>whnf
 refine Runs.callV (zerosO_fn Oa z1 (by omega) Tb) ?_
 rintro _ hb ⟨⟨k1',rfl,t1'⟩,rfl⟩
 obtain rfl:=tz_unique t1 t1'
 try refine gO ?_;conv=>whnf
 refine Runs.callV (shiftO_fn Oa (by omega) k1 (by omega)) ?_
 rintro va1 hc ⟨Oa1,oa1,g1,eg1,P1⟩
 rw [ea] at eg1
 cases eg1
 have Ob1:=Ob.put P1 (by rw [eb];intro e;cases e;omega)
 have hkc:Keeps h.size h hc:=hkb.trans (P1.keeps.mono ba)
 have Tc:=hT.keeps hkc
 try refine gO ?_;conv=>whnf
 refine Runs.callV (zerosO_fn Ob1 z2 (by omega) Tc) ?_
 rintro _ hc ⟨⟨k2',rfl,t2'⟩,rfl⟩
 obtain rfl:=tz_unique t2 t2'
 try refine gO ?_;conv=>whnf
 refine Runs.callV (shiftO_fn Ob1 (by omega) k2 (by omega)) ?_
 rintro vb1 hd ⟨Ob2,ob2,g2,eg2,P2⟩
 rw [eb] at eg2
 cases eg2
 have Oa2:=Oa1.put P2 (by rw [oa1,ea];intro e;cases e;omega)
 have hkd:Keeps h.size h hd:=hkc.trans (P2.keeps.mono (by omega))
 obtain ⟨m1,od1,_⟩:=t1.div
 obtain ⟨m2,od2,_⟩:=t2.div
 have hgs:=gcd_start t1 t2
 rw [←htw] at hgs
 have n1:=nw_mono (Nat.div_le_self V1 (2^k1))
 have n2:=nw_mono (Nat.div_le_self V2 (2^k2))
 try refine gO ?_;conv=>whnf
 refine Runs.loop (X:=Nat×Nat×Value×Value) (fun q=>[(0,q.2.2.1),(1,q.2.2.2),(7,.int .i64 (tw:Nat))]) (fun q h'=>GcdI h (Nat.gcd (V1/2^k1) (V2/2^k2)) q.1 q.2.1 q.2.2.1 q.2.2.2 h') (fun q=>q.1+q.2.1) (V1/2^k1,V2/2^k2,va1,vb1)
  ⟨hkd,Oa2,Ob2,by rw [oa1,ob2,ea,eb];intro e;cases e;omega,odd_of od1,odd_of od2,by dsimp only;omega,by dsimp only;omega,rfl⟩ ⟨rfl,rfl,rfl,trivial⟩ ?_
 rintro ⟨A,C,wa,wc⟩ he ⟨ke,Ea,Ec,ene,eoa,eoc,ena,enc,eg⟩ ih
 dsimp only at Ea Ec ene eoa eoc ena enc eg ih ⊢
 try refine gO ?_;conv=>whnf
 refine Runs.callV (compare_fn Ea.wr Ec.wr (by omega)) ?_
 rintro _ he ⟨rfl,rfl⟩
 try refine gO ?_;conv=>whnf
 refine ⟨fun hc0=>?_,fun hc0=>?_⟩<;>conv=>whnf
 ·try refine gO ?_
  conv=>whnf
  repeat (refine oL ?_;conv=>whnf)
  refine Runs.eff (eff_makeN tab (tw/64+1) (tw/64+1) (hn:=⟨by omega,by omega,by omega,by dsimp only;omega,by omega⟩)) ?_
  rintro _ hf ⟨rfl,Nf⟩
  try refine gO ?_;conv=>whnf
  repeat (refine oL ?_;conv=>whnf)
  refine Runs.eff (eff_storeN tab Nf.blk (hlt:=by simp;omega)) ?_
  rintro _ hg2 Pg
  try refine gO ?_;conv=>whnf
  have hAC:=cmpI_eq hc0
  subst hAC
  rw [Nat.gcd_self] at eg
  have zf:=Nf.size
  have zg:=Pg.size
  have zke:=ke.size
  have Ea0:=Ea
  have Ea:=Ea.keeps Nf.keeps (Nat.le_refl _)
  obtain ⟨gx,egx,bgx,lgx⟩:=Ea.blk
  have kf:Keeps h.size h hg2:=(ke.trans (Nf.keeps.mono zke)).trans (Pg.keeps.mono zke)
  have Eg:Wown h.size hg2 wa (nw A) A:=by
   obtain ⟨g',cap,cur,rfl,hb',hat,r⟩:=Ea
   refine ⟨g',cap,cur,rfl,hb',Pg.at hat ?_,r⟩
   intro e
   subst e
   have:=Nf.blk
   obtain ⟨g2',cap2',cur2',e2,_,hat2,_⟩:=Ea0
   cases e2
   have:=hat2.lt
   omega
  have hpow:(2:Nat)^tw<B^(tw/64+1):=by
   rw [two_word tw,Nat.pow_succ]
   exact Nat.mul_lt_mul_of_pos_left (Nat.pow_lt_pow_right (by decide) (show tw%64<64 by omega)) (Bp_pos _)
  have hwp:=Wr.of_at Pg.blk (m:=tw/64+1) (cap:=tw/64+1) (V:=2^tw) (Nat.le_refl _) hpow (fun j hj=>by
   rw [pow_word]
   by_cases e:j=tw/64
   ·rw [if_pos e,show 0+((tw:Int)/64).toNat=j by omega,Array.getElem?_setIfInBounds_self_of_lt (by simp;omega)]
    have h64:tw%64<64:=Nat.mod_lt _ (by decide)
    have hp:2^(tw%64)<B:=Nat.pow_lt_pow_right (by decide) h64
    obtain ⟨p,hp'⟩:∃p,p=2^(tw%64):=⟨_,rfl⟩
    rw [show ((tw:Int)%64).toNat=tw%64 by omega]
    have e9:((2:Int)^(tw%64))=((2^(tw%64):Nat):Int):=by simp
    rw [e9,←hp']
    rw [←hp',B_eq] at hp
    rw [show (1:Int)*p%18446744073709551616=p by omega]
   rw [if_neg e,Array.getElem?_setIfInBounds_ne (by omega),Array.getElem?_replicate,if_pos hj]
   rfl)
  refine Runs.callV (times_fn Eg.wr hwp (by omega) (by omega)) ?_
  rintro vr hh ⟨Or,kr⟩
  try refine gO ?_;conv=>whnf
  refine Runs.ret Tryz.func145 rfl rfl ⟨_,rfl,?_⟩
  refine ⟨⟨nw A+(tw/64+1),?_,by omega⟩,kf.trans (kr.mono (by omega))⟩
  rw [hgs,←eg]
  exact Or.wr
 refine ⟨fun hcl=>?_,fun hcl=>?_⟩<;>conv=>whnf
 ·have hlt:A<C:=by
   rcases Nat.lt_or_ge A C with h|h
   ·exact h
   exfalso
   rcases Nat.lt_or_ge C A with h'|h'
   ·first|exact hcl ((cmpI_lt _ _).2 h')|(have:=(cmpI_lt _ _).1 hcl;omega)
   have e:C=A:=by omega
   apply hc0
   subst e
   unfold cmpI
   rw [if_neg (Int.lt_irrefl _),if_neg (Int.lt_irrefl _)]
  try refine gO ?_;conv=>whnf
  refine Runs.callV (reduceO_fn Ec Ea (Ne.symm ene) (by omega) (by omega)) ?_
  rintro _ hf ⟨rfl,Ra,gr,egr,Pr⟩
  have R2:=Ea.put Pr (by rw [←egr];exact Ne.symm (Ne.symm ene))
  obtain ⟨g1',eg1',bg1',_⟩:=Ec.blk
  have hgr:h.size≤gr:=by rw [egr] at eg1';cases eg1';exact bg1'
  have kf:Keeps h.size h hf:=ke.trans (Pr.keeps.mono hgr)
  try refine gO ?_;conv=>whnf
  refine Runs.callV (zerosO_fn Ra (by omega) (by omega) (hT.keeps kf)) ?_
  rintro _ hf ⟨⟨kz,rfl,tz⟩,rfl⟩
  have hev:(C - A)%2=0:=by omega
  have kzp:=tz_pos tz hev
  have nsub:=nw_mono (Nat.sub_le C A)
  try refine gO ?_;conv=>whnf
  refine Runs.callV (shiftO_fn Ra (by omega) kz (Nat.le_trans (tz_le tz (by omega)) (by decide))) ?_
  rintro wa' hg ⟨Sa,osa,gs,egs,Ps⟩
  have S2:=R2.put Ps (by rw [←egs];exact Ne.symm (Ne.symm ene))
  have hgs':h.size≤gs:=by rw [egs] at eg1';cases eg1';exact bg1'
  have kg:Keeps h.size h hg:=kf.trans (Ps.keeps.mono hgs')
  obtain ⟨mo,odd',_⟩:=tz.div
  have gst:=gcd_step (of_odd eoa) (by omega) tz
  have hdl:=Nat.div_le_self (C - A) (2^kz)
  have ndiv:=nw_mono hdl
  try refine gO ?_;conv=>whnf
  exact ih ((C - A)/2^kz,A,wa',wa) _ _ ⟨kg,Sa,S2,by rw [osa];exact (Ne.symm ene),odd_of odd',eoa,by dsimp only;omega,ena,by rw [gst];exact (by rw [Nat.gcd_comm];exact eg)⟩ (by dsimp only;omega) ⟨rfl,rfl,rfl,trivial⟩
 have hlt:C<A:=by
  rcases Nat.lt_or_ge C A with h|h
  ·exact h
  exfalso
  rcases Nat.lt_or_ge A C with h'|h'
  ·first|exact hcl ((cmpI_lt _ _).2 h')|(have:=(cmpI_lt _ _).1 hcl;omega)
  have e:A=C:=by omega
  apply hc0
  subst e
  unfold cmpI
  rw [if_neg (Int.lt_irrefl _),if_neg (Int.lt_irrefl _)]
 try refine gO ?_;conv=>whnf
 refine Runs.callV (reduceO_fn Ea Ec ene (by omega) (by omega)) ?_
 rintro _ hf ⟨rfl,Ra,gr,egr,Pr⟩
 have R2:=Ec.put Pr (by rw [←egr];exact Ne.symm ene)
 obtain ⟨g1',eg1',bg1',_⟩:=Ea.blk
 have hgr:h.size≤gr:=by rw [egr] at eg1';cases eg1';exact bg1'
 have kf:Keeps h.size h hf:=ke.trans (Pr.keeps.mono hgr)
 try refine gO ?_;conv=>whnf
 refine Runs.callV (zerosO_fn Ra (by omega) (by omega) (hT.keeps kf)) ?_
 rintro _ hf ⟨⟨kz,rfl,tz⟩,rfl⟩
 have hev:(A - C)%2=0:=by omega
 have kzp:=tz_pos tz hev
 have nsub:=nw_mono (Nat.sub_le A C)
 try refine gO ?_;conv=>whnf
 refine Runs.callV (shiftO_fn Ra (by omega) kz (Nat.le_trans (tz_le tz (by omega)) (by decide))) ?_
 rintro wa' hg ⟨Sa,osa,gs,egs,Ps⟩
 have S2:=R2.put Ps (by rw [←egs];exact Ne.symm ene)
 have hgs':h.size≤gs:=by rw [egs] at eg1';cases eg1';exact bg1'
 have kg:Keeps h.size h hg:=kf.trans (Ps.keeps.mono hgs')
 obtain ⟨mo,odd',_⟩:=tz.div
 have gst:=gcd_step (of_odd eoc) (by omega) tz
 have hdl:=Nat.div_le_self (A - C) (2^kz)
 have ndiv:=nw_mono hdl
 try refine gO ?_;conv=>whnf
 exact ih ((A - C)/2^kz,C,wa',wc) _ _ ⟨kg,Sa,S2,by rw [osa];exact ene,odd_of odd',eoc,by dsimp only;omega,enc,by rw [gst];exact eg⟩ (by dsimp only;omega) ⟨rfl,rfl,rfl,trivial⟩

theorem size_mt {s:ByteArray}:s=NatM.mt↔s.size=0:=by
 constructor
 ·rintro rfl;rfl
 intro h
 exact bytes_ext (by rw [h];rfl) fun i hi=>by omega
theorem natv_ne {s:ByteArray} (hc:Canon s) (h:s.size≠0):natv s≠0:=by
 intro e
 have:=nb_natv hc
 rw [e,nb_zero] at this
 omega
theorem nw_small {s:ByteArray} (hc:Canon s) (hs:s.size≤256):nw (natv s)≤32:=by
 rw [←words_len hc];omega
theorem strs_at {h:Array Obj} {b:Nat} {e:TypeId} {ss:List ByteArray} (H:At h b (ss.map Value.string).toArray e):Strs h b 0 ss:=by
 intro j s hs
 rw [H.cell,Nat.zero_add]
 simp [hs]
theorem Div_fn {h:Array Obj} (s t:ByteArray):FnV Tryz.prog 124 #[.string s,.string t] h fun r h'=>r=.tuple #[.string (divS s t).1,.string (divS s t).2.1,.int .i64 (divS s t).2.2]∧Keeps h.size h h':=by
 unfold divS
 refine Fn.of (args:=[.string s,.string t]) Tryz.func124 (by kernel_rfl) rfl Tryz.ntmps124 rfl fun w0 cs=>?_
 refine gO ?_;conv=>whnf
 refine Runs.eff (eff_buildN tab [.string s,.string t] (h1:=by simp [Value.cells])) ?_
 rintro _ h0 ⟨rfl,N0⟩
 try refine gO ?_;conv=>whnf
 refine Runs.callV (check_fn (strs_at (ss:=[s,t]) N0.blk) (by simp)) ?_
 rintro _ h0 ⟨rfl,rfl⟩
 have k0:=N0.keeps
 try refine gO ?_;conv=>whnf
 refine ⟨fun hc=>?_,fun hc=>?_⟩<;>conv=>whnf
 ·have c1:=chk_zero hc (s:=s) (by simp)
  have c2:=chk_zero hc (s:=t) (by simp)
  rw [if_pos hc]
  refine ⟨fun hz=>?_,fun hz=>?_⟩<;>conv=>whnf
  ·refine Runs.ret Tryz.func124 rfl rfl ⟨_,rfl,?_⟩
   rw [if_pos (size_mt.1 hz)]
   exact ⟨rfl,k0⟩
  have hz':t.size≠0:=fun e=>hz (size_mt.2 e)
  rw [if_neg hz']
  refine Runs.callV (words_fn (s:=s) (by omega)) ?_
  rintro v2 h2 ⟨o2,k2⟩
  try refine gO ?_;conv=>whnf
  refine Runs.callV (words_fn (s:=t) (by omega)) ?_
  rintro v3 h3 ⟨o3,k3⟩
  try refine gO ?_;conv=>whnf
  have l2:=words_len c1.1
  have l3:=words_len c2.1
  have q2:=(o2.keeps k3 (Nat.le_refl _)).wr
  have q3:=o3.wr
  rw [l2] at q2
  rw [l3] at q3
  have n1:=nw_small c1.1 c1.2
  have n2:=nw_small c2.1 c2.2
  have s0:=k0.size
  have s2:=k2.size
  have s3:=k3.size
  have kk:=(k0.trans (k2.mono (by omega))).trans (k3.mono (by omega))
  refine Runs.callV (divide_fn q2 q3 (natv_ne c2.1 hz') (by omega) (by omega)) ?_
  rintro _ h4 ⟨vq,vr,mq,mr,rfl,w1,w2,b1,b2,k4⟩
  try refine gO ?_;conv=>whnf
  refine Runs.callV (text_fn w1 (by omega)) ?_
  rintro _ h5 ⟨rfl,k5⟩
  try refine gO ?_;conv=>whnf
  refine Runs.callV (text_fn (w2.keeps k5) (by omega)) ?_
  rintro _ h6 ⟨rfl,k6⟩
  try refine gO ?_;conv=>whnf
  refine Runs.ret Tryz.func124 rfl rfl ⟨_,rfl,?_⟩
  have s4:=k4.size
  have s5:=k5.size
  exact ⟨rfl,((kk.trans (k4.mono (by omega))).trans (k5.mono (by omega))).trans (k6.mono (by omega))⟩
 refine Runs.ret Tryz.func124 rfl rfl ⟨_,rfl,?_⟩
 rw [if_neg hc]
 exact ⟨rfl,k0⟩
theorem Gcd_fn {h:Array Obj} (s t:ByteArray) (hT:TabH h):FnV Tryz.prog 123 #[.string s,.string t] h fun r h'=>r=sev (gcdS s t)∧Keeps h.size h h':=by
 unfold gcdS
 refine Fn.of (args:=[.string s,.string t]) Tryz.func123 (by kernel_rfl) rfl Tryz.ntmps123 rfl fun w0 cs=>?_
 refine gO ?_;conv=>whnf
 refine Runs.eff (eff_buildN tab [.string s,.string t] (h1:=by simp [Value.cells])) ?_
 rintro _ h0 ⟨rfl,N0⟩
 try refine gO ?_;conv=>whnf
 refine Runs.callV (check_fn (strs_at (ss:=[s,t]) N0.blk) (by simp)) ?_
 rintro _ h0 ⟨rfl,rfl⟩
 have k0:=N0.keeps
 try refine gO ?_;conv=>whnf
 refine ⟨fun hc=>?_,fun hc=>?_⟩<;>conv=>whnf
 ·have c1:=chk_zero hc (s:=s) (by simp)
  have c2:=chk_zero hc (s:=t) (by simp)
  rw [if_pos hc]
  refine Runs.callV (words_fn (s:=s) (by omega)) ?_
  rintro v2 h2 ⟨o2,k2⟩
  try refine gO ?_;conv=>whnf
  refine Runs.callV (words_fn (s:=t) (by omega)) ?_
  rintro v3 h3 ⟨o3,k3⟩
  try refine gO ?_;conv=>whnf
  have l2:=words_len c1.1
  have l3:=words_len c2.1
  have q2:=(o2.keeps k3 (Nat.le_refl _)).wr
  have q3:=o3.wr
  rw [l2] at q2
  rw [l3] at q3
  have n1:=nw_small c1.1 c1.2
  have n2:=nw_small c2.1 c2.2
  have s0:=k0.size
  have s2:=k2.size
  have s3:=k3.size
  have kk:=(k0.trans (k2.mono (by omega))).trans (k3.mono (by omega))
  refine Runs.callV (divisor_fn q2 q3 (by omega) (by omega) (hT.keeps kk)) ?_
  rintro vr h4 ⟨⟨mr,w1,b1⟩,k4⟩
  try refine gO ?_;conv=>whnf
  refine Runs.callV (text_fn w1 b1) ?_
  rintro _ h5 ⟨rfl,k5⟩
  try refine gO ?_;conv=>whnf
  refine Runs.ret Tryz.func123 rfl rfl ⟨_,rfl,?_⟩
  have s4:=k4.size
  exact ⟨rfl,(kk.trans (k4.mono (by omega))).trans (k5.mono (by omega))⟩
 refine Runs.ret Tryz.func123 rfl rfl ⟨_,rfl,?_⟩
 rw [if_neg hc]
 exact ⟨rfl,k0⟩
end Go.Proofs.YtofjdbmcloemnaaGreatDoor

namespace Go.NatM
open Go Go.Fw
theorem enc_inj {A C:Nat} (h:enc A=enc C):A=C:=by rw [←natv_enc A,h,natv_enc]
theorem enc_eq {A C:Nat}:enc A=enc C↔A=C:=⟨enc_inj,fun h=>by rw [h]⟩
theorem enc_zero:enc 0=NatM.mt:=rfl
theorem enc_mt {A:Nat}:enc A=NatM.mt↔A=0:=by rw [←enc_zero,enc_eq]
theorem chk_ok {l:List ByteArray} (h:∀s∈l,Canon s∧s.size≤256):chk l=0:=by
 unfold chk
 rw [if_pos (List.all_eq_true.2 fun s hs=>canonB_iff.2 (h s hs).1),if_pos (List.all_eq_true.2 fun s hs=>Nat.ble_eq_true_of_le (h s hs).2)]
theorem chk_e1 {A:Nat} (hA:nb A≤256):chk [enc A]=0:=chk_ok fun s hs=>by
 obtain rfl:s=enc A:=by simpa using hs
 exact ⟨canon_enc A,by rw [enc_size];exact hA⟩
theorem chk_e2 {A C:Nat} (hA:nb A≤256) (hC:nb C≤256):chk [enc A,enc C]=0:=chk_ok fun s hs=>by
 simp only [List.mem_cons,List.not_mem_nil,or_false] at hs
 rcases hs with rfl|rfl
 ·exact ⟨canon_enc A,by rw [enc_size];exact hA⟩
 exact ⟨canon_enc C,by rw [enc_size];exact hC⟩
section
variable {A C:Nat} (hA:nb A≤256) (hC:nb C≤256)
include hA hC
theorem add_e:addS (enc A) (enc C)=shortS (A+C):=by unfold addS;rw [if_pos (chk_e2 hA hC),natv_enc,natv_enc]
theorem mul_e:mulS (enc A) (enc C)=shortS (A*C):=by unfold mulS;rw [if_pos (chk_e2 hA hC),natv_enc,natv_enc]
theorem sub_e:subS (enc A) (enc C)=if A<C then (NatM.mt,1) else (enc (A - C),0):=by unfold subS;rw [if_pos (chk_e2 hA hC),natv_enc,natv_enc]
theorem cmp_e:cmpS (enc A) (enc C)=(cmpN A C,0):=by unfold cmpS;rw [if_pos (chk_e2 hA hC),natv_enc,natv_enc]
theorem gcd_e:gcdS (enc A) (enc C)=(enc (Nat.gcd A C),0):=by unfold gcdS;rw [if_pos (chk_e2 hA hC),natv_enc,natv_enc]
theorem div_e:divS (enc A) (enc C)=if C=0 then (NatM.mt,NatM.mt,71) else (enc (A/C),enc (A%C),0):=by
 unfold divS
 rw [if_pos (chk_e2 hA hC),natv_enc,natv_enc]
 by_cases h:C=0
 ·subst h;rw [if_pos (by rw [enc_size];rfl),if_pos rfl]
 rw [if_neg h,if_neg]
 rw [enc_size]
 have:=nb_pos h
 omega
end
theorem short_e {V:Nat} (h:nb V≤256):shortS V=(enc V,0):=by unfold shortS;rw [if_pos h]
theorem short_big {V:Nat} (h:¬nb V≤256):shortS V=(NatM.mt,2):=by unfold shortS;rw [if_neg h]
theorem nb_mul (A C:Nat):nb (A*C)≤nb A+nb C:=by
 refine nb_le ?_
 rw [Nat.pow_add]
 exact Nat.mul_lt_mul'' (nb_lt A) (nb_lt C)
theorem cmpN_neg {A C:Nat}:cmpN A C<0↔A<C:=by
 unfold cmpN
 by_cases h:A<C
 ·rw [if_pos h];omega
 rw [if_neg h];split<;>omega
end Go.NatM

namespace Go.NatM
open Go Go.Fw
theorem byteAt_app (a b:ByteArray) (i:Nat):byteAt (a++b) i=if i<a.size then byteAt a i else byteAt b (i - a.size):=by
 obtain ⟨⟨a⟩⟩:=a
 obtain ⟨⟨b⟩⟩:=b
 have e:(ByteArray.mk ⟨a⟩++ByteArray.mk ⟨b⟩).data.toList=a++b:=by rw [ByteArray.data_append];simp
 unfold byteAt
 have e2:(ByteArray.mk ⟨a⟩).size=a.length:=rfl
 rw [e,e2,List.getD_eq_getElem?_getD,List.getElem?_append]
 by_cases h:i<a.length
 ·rw [if_pos h,if_pos h,List.getD_eq_getElem?_getD]
 rw [if_neg h,if_neg h,List.getD_eq_getElem?_getD]
theorem byteAt_ext (s:ByteArray) {lo hi i:Nat} (hh:hi≤s.size) (h:lo+i<hi):byteAt (s.extract lo hi) i=byteAt s (lo+i):=by
 obtain ⟨⟨a⟩⟩:=s
 have hh:hi≤a.length:=hh
 unfold byteAt
 rw [List.getD_eq_getElem?_getD,List.getD_eq_getElem?_getD]
 have e:((ByteArray.mk ⟨a⟩).extract lo hi).data.toList=(a.drop lo).take (hi - lo):=by
  rw [ByteArray.data_extract]
  simp
 rw [e,List.getElem?_take_of_lt (by omega),List.getElem?_drop]
theorem byc_push0 (R:Nat) {c:Nat} (hc:c<256):byc (256*R+c) 0=c:=by
 unfold byc;rw [Nat.pow_zero,Nat.div_one];omega
theorem byc_pushS (R:Nat) {c:Nat} (hc:c<256) (k:Nat):byc (256*R+c) (k+1)=byc R k:=by
 unfold byc
 rw [Nat.pow_succ',←Nat.div_div_eq_div_mul,show (256*R+c)/256=R by omega]
theorem nb_push {R c:Nat} (hR:R≠0) (hc:c<256):nb (256*R+c)=nb R+1:=by
 refine (nb_eq ?_ fun _=>?_).symm
 ·have:=nb_lt R
  rw [Nat.pow_succ]
  omega
 have:=nb_pos hR
 rw [show nb R+1 - 1=(nb R - 1)+1 by omega,byc_pushS R hc]
 exact nb_topb hR
theorem nb_one {c:Nat} (h0:c≠0) (hc:c<256):nb c=1:=by
 refine (nb_eq (by omega) fun _=>?_).symm
 have:=byc_push0 0 hc
 rw [Nat.mul_zero,Nat.zero_add] at this
 rw [this];exact h0
theorem push_enc {R i:Nat} {s:ByteArray} (hi:i<s.size) (h:R≠0∨byteAt s i≠0):enc R++s.extract i (i+1)=enc (256*R+byteAt s i):=by
 have hc:=byteAt_lt s i
 have e1:(s.extract i (i+1)).size=1:=by rw [ByteArray.size_extract];omega
 have hn:nb (256*R+byteAt s i)=nb R+1:=by
  by_cases hR:R=0
  ·subst hR
   rw [Nat.mul_zero,Nat.zero_add,nb_zero]
   exact nb_one (h.resolve_left (fun f=>f rfl)) hc
  exact nb_push hR hc
 refine bytes_ext (by rw [ByteArray.size_append,enc_size,enc_size,e1,hn]) fun k hk=>?_
 rw [ByteArray.size_append,enc_size,e1] at hk
 rw [byteAt_enc (by omega),byteAt_app,enc_size,hn]
 split
 ·next hk2=>rw [byteAt_enc hk2,show nb R+1 - 1 - k=(nb R - 1 - k)+1 by omega,byc_pushS R hc]
 rw [show nb R+1 - 1 - k=0 by omega,byc_push0 R hc,byteAt_ext s (by omega) (by omega)]
 congr 1
 omega
theorem push_first {R i:Nat} {s:ByteArray} (hi:i<s.size):byteAt (enc R++s.extract i (i+1)) 0=0↔R=0∧byteAt s i=0:=by
 rw [byteAt_app,enc_size]
 by_cases hR:R=0
 ·subst hR
  rw [nb_zero,if_neg (by omega),byteAt_ext s (by omega) (by omega)]
  simp
 have h1:=nb_pos hR
 have h2:=nb_topb hR
 rw [if_pos h1,byteAt_enc h1]
 simp [hR]
 exact h2
theorem push_zero {i:Nat} {s:ByteArray} (hi:i<s.size):(enc 0++s.extract i (i+1)).extract 1 ((enc 0++s.extract i (i+1)).size)=enc 0:=by
 refine bytes_ext ?_ fun k hk=>?_
 ·rw [ByteArray.size_extract,ByteArray.size_append,enc_size,nb_zero,ByteArray.size_extract];omega
 rw [ByteArray.size_extract,ByteArray.size_append,enc_size,nb_zero,ByteArray.size_extract] at hk;omega
theorem dn_push (Q:Nat) {d:Nat} (hd:d<256) (n:Nat):∀j,j≤n→dn (256*Q+d) (n+1) j=dn Q n j
 |0,_=>rfl
 |j+1,h=>by
  have ih:=dn_push Q hd n j (by omega)
  rw [dn,dn,ih,show n+1 - 1 - j=(n - 1 - j)+1 by omega,byc_pushS Q hd]
def bts (V:Nat):List Nat:=dn V (nb V) (nb V)
theorem bts_len (V:Nat):(bts V).length=nb V:=dn_length _ _ _
theorem bts_zero:bts 0=[]:=rfl
theorem bts_push {Q d:Nat} (hd:d<256) (h:Q≠0∨d≠0):bts (256*Q+d)=bts Q++[d]:=by
 have hn:nb (256*Q+d)=nb Q+1:=by
  by_cases hQ:Q=0
  ·subst hQ
   rw [Nat.mul_zero,Nat.zero_add,nb_zero]
   exact nb_one (h.resolve_left (fun f=>f rfl)) hd
  exact nb_push hQ hd
 unfold bts
 rw [hn,dn,dn_push Q hd _ _ (Nat.le_refl _),show nb Q+1 - 1 - nb Q=0 by omega,byc_push0 Q hd]
theorem pre_step {s:ByteArray} {i:Nat} (hi:i<s.size):natv s/256^(s.size - (i+1))=256*(natv s/256^(s.size - i))+byteAt s i:=by
 have h1:=bdiv_step (natv s) (s.size - 1 - i)
 rw [byc_natv s (by omega),show s.size - 1 - (s.size - 1 - i)=i by omega,show s.size - 1 - i+1=s.size - i by omega] at h1
 rw [show s.size - (i+1)=s.size - 1 - i by omega]
 omega
theorem div_digit {P B c:Nat} (hB:0<B):(256*P+c)/B=256*(P/B)+(256*(P%B)+c)/B∧(256*P+c)%B=(256*(P%B)+c)%B:=by
 have h:=Nat.div_add_mod P B
 have e:256*P+c=B*(256*(P/B))+(256*(P%B)+c):=by
  have:B*(256*(P/B))=256*(B*(P/B)):=by rw [Nat.mul_left_comm]
  omega
 rw [e,Nat.mul_add_div hB,Nat.mul_add_mod]
 exact ⟨rfl,rfl⟩
theorem digit_lt {P B c:Nat} (hB:0<B) (hc:c<256):(256*(P%B)+c)/B<256:=by
 have:=Nat.mod_lt P hB
 refine (Nat.div_lt_iff_lt_mul hB).2 ?_
 omega
end Go.NatM

namespace Go.Proofs.YtofjdbmcloemnaaGreatDoor
open Go Go.Fw Go.NatM
set_option maxRecDepth 100000
set_option maxHeartbeats 99999999
theorem own_keeps {base B':Nat} {h h':Array Obj} {e:TypeId} {sz:Nat} {v:Value} {m:Nat} {xs:List Value} (H:Own base h e sz v m xs) (hk:Keeps B' h h') (hB:h.size≤B'):Own base h' e sz v m xs:=by
 obtain ⟨hl,H⟩:=H
 refine ⟨hl,?_⟩
 rcases H with H|⟨g,cap,cur,h1,h2,h3,h4⟩
 ·exact .inl H
 exact .inr ⟨g,cap,cur,h1,h2,hk.at h3 (Nat.lt_of_lt_of_le h3.lt hB),h4⟩
theorem rdivide_fn {h:Array Obj} {a b:ByteArray} (hb:Canon b) (hsa:a.size≤1000) (hsb:b.size≤1000) (hB:natv b≠0):
  FnV Tryz.prog 156 #[.string a,.string b] h fun r h'=>r=.tuple #[.string (enc (natv a/natv b)),.string (enc (natv a%natv b))]∧Keeps h.size h h':=by
 obtain ⟨B,hBe⟩:∃B,B=natv b:=⟨_,rfl⟩
 rw [←hBe] at hB ⊢
 obtain ⟨P,hP⟩:∃P:Nat→Nat,P=fun i=>natv a/256^(a.size - i):=⟨_,rfl⟩
 have p0:P 0=0:=by rw [hP];exact Nat.div_eq_of_lt (natv_lt a)
 have pn:P a.size=natv a:=by rw [hP];simp
 have ps:∀i,i<a.size→P (i+1)=256*P i+byteAt a i:=fun i hi=>by rw [hP];exact pre_step hi
 have pb:∀i,nb (P i/B)≤a.size:=fun i=>by
  refine nb_le (Nat.lt_of_le_of_lt ?_ (natv_lt a))
  rw [hP]
  exact Nat.le_trans (Nat.div_le_self _ _) (Nat.div_le_self _ _)
 have hBp:0<B:=by omega
 have hBn:nb B=b.size:=by rw [hBe];exact nb_natv hb
 have rb:∀i,nb (P i%B)≤b.size:=fun i=>by
  rw [←hBn];exact nb_mono (Nat.le_of_lt (Nat.mod_lt _ hBp))
 rw [←pn]
 refine Fn.of (args:=[.string a,.string b]) Tryz.func156 (by kernel_rfl) rfl Tryz.ntmps156 rfl fun w0 cs=>?_
 refine gO ?_;conv=>whnf
 refine Runs.eff (eff_build tab [] (h1:=by simp)) ?_
 rintro _ _ ⟨rfl,rfl⟩
 try refine gO ?_;conv=>whnf
 refine Runs.loop (X:=Nat×Value) (fun q=>[(0,.string a),(1,.string b),(6,q.2),(7,.string (enc (P q.1%B))),(8,.int .i64 (q.1:Nat))])
  (fun q h'=>q.1≤a.size∧Buf h.size h' q.2 (bts (P q.1/B))∧Keeps h.size h h') (fun q=>a.size - q.1) (0,.slice (some ⟨h.size,0,none⟩) 0 0)
  ⟨Nat.zero_le _,?_,(Keeps.refl _ _).push (Nat.le_refl _) _⟩ ⟨rfl,rfl,rfl,by rw [p0,Nat.zero_mod];rfl,rfl,trivial⟩ ?_
 ·show Buf _ _ _ (bts (P 0/B))
  rw [p0,Nat.zero_div]
  exact ⟨rfl,.inr ⟨h.size,0,_,rfl,Nat.le_refl _,push_new _ _ _,Nat.zero_le _,by unfold maxLen;omega,by simp,by simp [bts_zero]⟩⟩
 rintro ⟨i,buf⟩ h' ⟨hi,hbuf,hkp⟩ ih
 dsimp only at hi hbuf ⊢
 try refine gO ?_;conv=>whnf
 refine ⟨fun h1=>?_,fun h1=>?_⟩<;>conv=>whnf
 ·have hi':i<a.size:=by omega
  have s1:(enc (P i%B)).size≤1000:=by rw [enc_size];have:=rb i;omega
  have s2:(a.extract i (i+1)).size=1:=by rw [ByteArray.size_extract];omega
  repeat (refine oL ?_;conv=>whnf)
  have hc:=byteAt_lt a i
  have hpi:=ps i hi'
  have hdd:=div_digit (P:=P i) (c:=byteAt a i) hBp
  have hdl:=digit_lt (P:=P i) hBp hc
  rw [←hpi] at hdd
  obtain ⟨X,hX⟩:∃X,X=256*(P i%B)+byteAt a i:=⟨_,rfl⟩
  rw [←hX] at hdd hdl
  have hpf:=push_first (R:=P i%B) hi'
  have hpz:=push_zero hi'
  have hpe:=push_enc (R:=P i%B) hi'
  rw [←hX] at hpe
  have sX:nb X≤b.size+1:=by
   have h1:=rb i
   have h2:=nb_lt (P i%B)
   refine nb_le (Nat.lt_of_lt_of_le (?_:X<256^(nb (P i%B)+1)) (Nat.pow_le_pow_right (by decide) (by omega)))
   rw [Nat.pow_succ]
   omega
  conv=>whnf
  rw [show (i:Int).toNat=i from rfl,show ((i:Int)+1).toNat=i+1 from rfl]
  repeat (refine oL ?_;conv=>whnf)
  conv=>whnf
  obtain ⟨s,hs⟩:∃s,s=enc (P i%B)++a.extract i (i+1):=⟨_,rfl⟩
  have hs1:s.size=(enc (P i%B)).size+1:=by rw [hs,ByteArray.size_append,s2]
  rw [←hs] at hpf hpe ⊢
  have hps:P i%B=0∧byteAt a i=0→s.extract 1 s.size=enc X:=fun hh=>by
   rw [hs,hh.1,hpz,hX,hh.1,hh.2]
  repeat (refine oL ?_;conv=>whnf)
  conv=>whnf
  refine ⟨fun h2=>?_,fun h2=>?_⟩<;>conv=>whnf
  all_goals first
   |(have h3:=hps (hpf.1 (by have:((byteAt s (Int.toNat 0):Nat):Int)=0:=h2
                             exact Int.ofNat.inj this))
     refine oL ?_;conv=>whnf
     rw [show (1:Int).toNat=1 from rfl,h3])
   |(have h3:=hpe (by by_cases h4:P i%B=0
                      ·refine .inr fun h5=>h2 ?_
                       have:=hpf.2 ⟨h4,h5⟩
                       show ((byteAt s (Int.toNat 0):Nat):Int)=0
                       rw [show Int.toNat 0=0 from rfl,this];rfl
                      exact .inl h4)
     rw [h3])
  all_goals try refine gO ?_
  all_goals conv=>whnf
  all_goals clear hpf hpe hpz hps h2 h3
  all_goals
   obtain ⟨ab,capb,rfl⟩:=Own.shape hbuf
   refine Runs.loop (X:=Nat) (fun d=>[(0,.string a),(1,.string b),(6,.slice ab (bts (P i/B)).length capb),(7,.string (enc (X - d*B))),(8,.int .i64 (i:Nat)),(9,.int .i64 (d:Nat))])
    (fun d h2=>d*B≤X∧Keeps h'.size h' h2) (fun d=>X - d*B) 0 ⟨by omega,Keeps.refl _ _⟩ ⟨rfl,rfl,rfl,by rw [Nat.zero_mul];rfl,rfl,rfl,trivial⟩ ?_
   rintro d h2 ⟨hd,hk2⟩ ih2
   have sY:nb (X - d*B)≤b.size+1:=Nat.le_trans (nb_mono (Nat.sub_le _ _)) sX
   have hdB:d≤X/B:=(Nat.le_div_iff_mul_le hBp).2 hd
   have e1:(d+1)*B=d*B+B:=Nat.succ_mul d B
   try refine gO ?_;conv=>whnf
   refine Runs.callV (rless_fn (canon_enc (X - d*B)) hb (by rw [enc_size];omega) (by omega)) ?_
   rintro _ h2 ⟨rfl,rfl⟩
   rw [natv_enc,←hBe]
   by_cases h4:X - d*B<B
   ·rw [decide_eq_true h4]
    try refine gO ?_;conv=>whnf
    have hdX:X/B=d:=(Nat.div_eq_of_lt_le (by omega) (by omega))
    have hmX:X%B=X - d*B:=by
     have:=Nat.div_add_mod X B
     rw [hdX,Nat.mul_comm] at this
     omega
    have hd256:(d:Int)%256=d:=by omega
    have sQ:=pb i
    rw [←bts_len] at sQ
    have hB2:=own_keeps hbuf hk2 (Nat.le_refl _)
    have sz2:=hk2.size
    have szh:=hkp.size
    have hnew:0<d ∨ ¬bts (P i/B)=[]→bts (P (i+1)/B)=bts (P i/B)++[d]:=fun hh=>by
     rw [hdd.1,hdX]
     refine bts_push (by omega) ?_
     rcases hh with hh|hh
     ·exact .inr (by omega)
     exact .inl fun e=>hh (by rw [e];rfl)
    refine ⟨fun h5=>?_,fun h5=>?_⟩<;>conv=>whnf
    rotate_left
    ·conv=>whnf
     refine ⟨fun h6=>?_,fun h6=>?_⟩<;>conv=>whnf
     rotate_left
     ·have hq:bts (P i/B)=[]:=List.eq_nil_of_length_eq_zero (by omega)
      have hd0:d=0:=by omega
      have hq0:bts (P (i+1)/B)=[]:=by
       have:P i/B=0:=by
        by_cases h7:P i/B=0
        ·exact h7
        have:=nb_pos h7
        rw [←bts_len,hq] at this
        exact absurd this (by decide)
       rw [hdd.1,this,hdX,hd0];rfl
      conv=>whnf
      repeat (refine oL ?_;conv=>whnf)
      refine ih (i+1,_) _ _ ⟨by dsimp only;omega,?_,hkp.trans (hk2.mono szh)⟩ (by dsimp only;omega) ⟨rfl,rfl,rfl,?_,rfl,trivial⟩
      ·show Buf _ _ _ (bts (P (i+1)/B))
       rw [hq0,←hq]
       exact hB2
      show some (Value.string (enc (X - d*B)))=some (Value.string (enc (P (i+1)%B)))
      rw [hdd.2,hmX]
     all_goals try refine gO ?_
     all_goals conv=>whnf
     all_goals replace hnew:=hnew (.inr fun e=>by rw [e] at h6;simp at h6)
     rw [hd256]
     refine Runs.eff (eff_build tab [.int .u8 (d:Nat)] (h1:=by simp [Value.cells])) ?_
     rintro _ _ ⟨rfl,rfl⟩
     try refine gO ?_;conv=>whnf
     have hnews:∀j u,[Value.int .u8 (d:Nat)][j]? = some u→cellH (h2.push (.cells #[Value.int .u8 (d:Nat)] 5 (0,0))) h2.size (0+j)=some u:=fun j u hu=>by
      rw [(push_new _ _ _).cell,Nat.zero_add]
      cases j with
      |zero=>simpa using hu
      |succ j=>simp at hu
     refine Runs.eff (eff_append tab (base:=h.size) (m:=(bts (P i/B)).length) (m2:=1) (news:=[Value.int .u8 (d:Nat)]) (Own.push hB2 _) rfl hnews (by simp [Value.oneCell']) (h63:=by unfold maxLen;omega) (hbytes:=by dsimp only;omega) (hbase:=by simp;omega)) ?_
     rintro v' h4 ⟨H1,H2,H3,_⟩
     try refine gO ?_;conv=>whnf
     repeat (refine oL ?_;conv=>whnf)
     refine ih (i+1,v') _ _ ⟨by dsimp only;omega,?_,((hkp.trans (hk2.mono szh)).push (by omega) _).trans ((Own.push hB2 _).keeps (by simp;omega) H2 H3)⟩ (by dsimp only;omega) ⟨rfl,rfl,rfl,?_,rfl,trivial⟩
     ·show Buf _ _ _ (bts (P (i+1)/B))
      rw [hnew]
      unfold Buf
      rw [List.length_append,List.map_append]
      exact H1
     show some (Value.string (enc (X - d*B)))=some (Value.string (enc (P (i+1)%B)))
     rw [hdd.2,hmX]
    try refine gO ?_;conv=>whnf
    replace hnew:=hnew (.inl (by omega))
    rw [hd256]
    refine Runs.eff (eff_build tab [.int .u8 (d:Nat)] (h1:=by simp [Value.cells])) ?_
    rintro _ _ ⟨rfl,rfl⟩
    try refine gO ?_;conv=>whnf
    have hnews:∀j u,[Value.int .u8 (d:Nat)][j]? = some u→cellH (h2.push (.cells #[Value.int .u8 (d:Nat)] 5 (0,0))) h2.size (0+j)=some u:=fun j u hu=>by
     rw [(push_new _ _ _).cell,Nat.zero_add]
     cases j with
     |zero=>simpa using hu
     |succ j=>simp at hu
    refine Runs.eff (eff_append tab (base:=h.size) (m:=(bts (P i/B)).length) (m2:=1) (news:=[Value.int .u8 (d:Nat)]) (Own.push hB2 _) rfl hnews (by simp [Value.oneCell']) (h63:=by unfold maxLen;omega) (hbytes:=by dsimp only;omega) (hbase:=by simp;omega)) ?_
    rintro v' h4 ⟨H1,H2,H3,_⟩
    try refine gO ?_;conv=>whnf
    repeat (refine oL ?_;conv=>whnf)
    refine ih (i+1,v') _ _ ⟨by dsimp only;omega,?_,((hkp.trans (hk2.mono szh)).push (by omega) _).trans ((Own.push hB2 _).keeps (by simp;omega) H2 H3)⟩ (by dsimp only;omega) ⟨rfl,rfl,rfl,?_,rfl,trivial⟩
    ·show Buf _ _ _ (bts (P (i+1)/B))
     rw [hnew]
     unfold Buf
     rw [List.length_append,List.map_append]
     exact H1
    show some (Value.string (enc (X - d*B)))=some (Value.string (enc (P (i+1)%B)))
    rw [hdd.2,hmX]
   rw [decide_eq_false h4]
   try refine gO ?_;conv=>whnf
   refine Runs.callV (rminus_fn (canon_enc (X - d*B)) hb (by rw [enc_size];omega) (by omega) (by rw [natv_enc,←hBe];omega)) ?_
   rintro _ h3 ⟨rfl,k3⟩
   rw [natv_enc,←hBe]
   try refine gO ?_;conv=>whnf
   repeat (refine oL ?_;conv=>whnf)
   refine ih2 (d+1) _ _ ⟨by omega,hk2.trans (k3.mono hk2.size)⟩ (by omega) ⟨rfl,rfl,rfl,?_,rfl,rfl,trivial⟩
   rw [e1,Nat.sub_add_eq];rfl
 have hin:i=a.size:=by omega
 subst hin
 obtain ⟨ab,capb,rfl⟩:=Own.shape hbuf
 refine Runs.eff (eff_bufString tab (base:=h.size) (ns:=bts (P a.size/B)) hbuf) ?_
 rintro _ _ ⟨rfl,rfl⟩
 try refine gO ?_;conv=>whnf
 refine Runs.ret Tryz.func156 rfl rfl ⟨_,rfl,?_⟩
 exact ⟨rfl,hkp⟩
theorem rDiv_fn {h:Array Obj} (s t:ByteArray):FnV Tryz.prog 131 #[.string s,.string t] h fun r h'=>r=.tuple #[.string (divS s t).1,.string (divS s t).2.1,.int .i64 (divS s t).2.2]∧Keeps h.size h h':=by
 unfold divS
 refine Fn.of (args:=[.string s,.string t]) Tryz.func131 (by kernel_rfl) rfl Tryz.ntmps131 rfl fun w0 cs=>?_
 refine gO ?_;conv=>whnf
 refine Runs.callV (rboth_fn s t) ?_
 rintro _ h ⟨rfl,rfl⟩
 try refine gO ?_;conv=>whnf
 refine ⟨fun hc=>?_,fun hc=>?_⟩<;>conv=>whnf
 ·have c1:=chk_zero hc (s:=s) (by simp)
  have c2:=chk_zero hc (s:=t) (by simp)
  rw [if_pos hc]
  refine ⟨fun hz=>?_,fun hz=>?_⟩<;>conv=>whnf
  ·refine Runs.ret Tryz.func131 rfl rfl ⟨_,rfl,?_⟩
   rw [if_pos (size_mt.1 hz)]
   exact ⟨rfl,Keeps.refl _ _⟩
  have hz':t.size≠0:=fun e=>hz (size_mt.2 e)
  rw [if_neg hz']
  refine Runs.callV (rdivide_fn (a:=s) c2.1 (by omega) (by omega) (natv_ne c2.1 hz')) ?_
  rintro _ h2 ⟨rfl,k2⟩
  try refine gO ?_;conv=>whnf
  refine Runs.ret Tryz.func131 rfl rfl ⟨_,rfl,?_⟩
  exact ⟨rfl,k2⟩
 refine Runs.ret Tryz.func131 rfl rfl ⟨_,rfl,?_⟩
 rw [if_neg hc]
 exact ⟨rfl,Keeps.refl _ _⟩
theorem rGcd_fn {h:Array Obj} (s t:ByteArray):FnV Tryz.prog 130 #[.string s,.string t] h fun r h'=>r=sev (gcdS s t)∧Keeps h.size h h':=by
 unfold gcdS
 refine Fn.of (args:=[.string s,.string t]) Tryz.func130 (by kernel_rfl) rfl Tryz.ntmps130 rfl fun w0 cs=>?_
 refine gO ?_;conv=>whnf
 refine Runs.callV (rboth_fn s t) ?_
 rintro _ h ⟨rfl,rfl⟩
 try refine gO ?_;conv=>whnf
 refine ⟨fun hc=>?_,fun hc=>?_⟩<;>conv=>whnf
 ·have c1:=chk_zero hc (s:=s) (by simp)
  have c2:=chk_zero hc (s:=t) (by simp)
  rw [if_pos hc]
  refine Runs.loop (X:=ByteArray×ByteArray) (fun q=>[(0,.string q.1),(1,.string q.2)])
   (fun q h'=>Canon q.1∧q.1.size≤256∧Canon q.2∧q.2.size≤256∧Nat.gcd (natv q.1) (natv q.2)=Nat.gcd (natv s) (natv t)∧Keeps h.size h h') (fun q=>natv q.2) (s,t)
   ⟨c1.1,c1.2,c2.1,c2.2,rfl,Keeps.refl _ _⟩ ⟨rfl,rfl,trivial⟩ ?_
  rintro ⟨a,b⟩ h' ⟨ha,hsa,hb,hsb,hg,hk⟩ ih
  dsimp only at ha hsa hb hsb hg ⊢
  try refine gO ?_;conv=>whnf
  refine ⟨fun hz=>?_,fun hz=>?_⟩<;>conv=>whnf
  ·try refine gO ?_
   conv=>whnf
   refine Runs.ret Tryz.func130 rfl rfl ⟨_,rfl,?_⟩
   rw [hz,show natv NatM.mt=0 from rfl,Nat.gcd_zero_right] at hg
   refine ⟨?_,hk⟩
   unfold sev
   rw [←hg,enc_natv ha]
   rfl
  have hz':b.size≠0:=fun e=>hz (size_mt.2 e)
  have hnz:=natv_ne hb hz'
  refine Runs.callV (rdivide_fn (a:=a) hb (by omega) (by omega) hnz) ?_
  rintro _ h2 ⟨rfl,k2⟩
  try refine gO ?_;conv=>whnf
  have hlt:=Nat.mod_lt (natv a) (Nat.pos_of_ne_zero hnz)
  refine ih (b,enc (natv a%natv b)) _ _ ⟨hb,hsb,canon_enc _,?_,?_,hk.trans (k2.mono hk.size)⟩ ?_ ⟨rfl,rfl,trivial⟩
  ·dsimp only
   rw [enc_size]
   have:=nb_mono (Nat.le_of_lt hlt)
   rw [nb_natv hb] at this
   omega
  ·dsimp only
   rw [natv_enc,←hg,Nat.gcd_comm (natv a) (natv b),Nat.gcd_rec (natv b) (natv a),Nat.gcd_comm]
  dsimp only
  rw [natv_enc];exact hlt
 refine Runs.ret Tryz.func130 rfl rfl ⟨_,rfl,?_⟩
 rw [if_neg hc]
 exact ⟨rfl,Keeps.refl _ _⟩
end Go.Proofs.YtofjdbmcloemnaaGreatDoor

namespace Go.RatM
open Go Go.Fw Go.NatM
structure Q where
 neg:Bool
 n:Nat
 d:Nat
def sg (neg:Bool) (n:Nat):Int:=if neg=true then -(n:Int) else n
def Q.val (a:Q):Rat:=mkRat (sg a.neg a.n) a.d
def Q.Ok (a:Q):Prop:=a.d≠0∧Nat.gcd a.n a.d=1∧(a.neg=true→a.n≠0)
def low (neg:Bool) (n d:Nat):Q:=⟨neg && !Nat.beq n 0,n/Nat.gcd n d,d/Nat.gcd n d⟩
theorem beq0 {n:Nat} (h:n≠0):Nat.beq n 0=false:=by cases n with
 |zero=>exact absurd rfl h
 |succ n=>rfl
theorem sg_abs (s:Bool) (n:Nat):(sg s n).natAbs=n:=by unfold sg;split<;>omega
theorem sg_zero (s:Bool):sg s 0=0:=by unfold sg;split<;>rfl
theorem Q.val_eq {a:Q} (h:a.Ok):a.val=⟨sg a.neg a.n,a.d,h.1,by rw [sg_abs];exact h.2.1⟩:=(Rat.mk_eq_mkRat _ _ h.1 (by rw [sg_abs];exact h.2.1)).symm
theorem Q.num {a:Q} (h:a.Ok):a.val.num=sg a.neg a.n:=by rw [Q.val_eq h]
theorem Q.den {a:Q} (h:a.Ok):a.val.den=a.d:=by rw [Q.val_eq h]
theorem Q.inj {a b:Q} (ha:a.Ok) (hb:b.Ok) (h:a.val=b.val):a=b:=by
 have h1:sg a.neg a.n=sg b.neg b.n:=by rw [←Q.num ha,←Q.num hb,h]
 have h2:a.d=b.d:=by rw [←Q.den ha,←Q.den hb,h]
 have h3:a.n=b.n:=by rw [←sg_abs a.neg a.n,←sg_abs b.neg b.n,h1]
 obtain ⟨s,n,d⟩:=a
 obtain ⟨s',n',d'⟩:=b
 obtain ⟨_,_,ha⟩:=ha
 obtain ⟨_,_,hb⟩:=hb
 simp only at h1 h2 h3 ha hb
 subst h2 h3
 have:s=s':=by
  cases s<;>cases s'<;>simp [sg] at h1 ha hb ⊢ <;> omega
 rw [this]
theorem low_ok (neg:Bool) (n:Nat) {d:Nat} (hd:d≠0):(low neg n d).Ok:=by
 have hg:0<Nat.gcd n d:=Nat.gcd_pos_of_pos_right _ (Nat.pos_of_ne_zero hd)
 refine ⟨?_,?_,fun h=>?_⟩
 ·show d/Nat.gcd n d≠0
  exact Nat.ne_of_gt (Nat.div_pos (Nat.le_of_dvd (Nat.pos_of_ne_zero hd) (Nat.gcd_dvd_right _ _)) hg)
 ·show Nat.gcd (n/Nat.gcd n d) (d/Nat.gcd n d)=1
  rw [Nat.gcd_div (Nat.gcd_dvd_left _ _) (Nat.gcd_dvd_right _ _),Nat.div_self hg]
 show n/Nat.gcd n d≠0
 have hn:n≠0:=by
  intro e;subst e
  simp [low] at h
 exact Nat.ne_of_gt (Nat.div_pos (Nat.le_of_dvd (Nat.pos_of_ne_zero hn) (Nat.gcd_dvd_left _ _)) hg)
theorem low_val (neg:Bool) (n:Nat) {d:Nat} (hd:d≠0):(low neg n d).val=mkRat (sg neg n) d:=by
 have hg:0<Nat.gcd n d:=Nat.gcd_pos_of_pos_right _ (Nat.pos_of_ne_zero hd)
 have e1:Nat.gcd n d*(n/Nat.gcd n d)=n:=Nat.mul_div_cancel' (Nat.gcd_dvd_left _ _)
 have e2:Nat.gcd n d*(d/Nat.gcd n d)=d:=Nat.mul_div_cancel' (Nat.gcd_dvd_right _ _)
 have hs:sg neg n=(Nat.gcd n d:Int)*sg (neg && !Nat.beq n 0) (n/Nat.gcd n d):=by
  by_cases hn:n=0
  ·subst hn;simp [sg_zero]
  have hb:Nat.beq n 0=false:=beq0 hn
  rw [hb]
  cases neg<;>simp only [sg,Bool.not_false,Bool.and_true,if_true,if_false,Bool.false_eq_true]
  ·rw [←Int.natCast_mul,e1]
  rw [Int.mul_neg,←Int.natCast_mul,e1]
 show mkRat (sg (neg && !Nat.beq n 0) (n/Nat.gcd n d)) (d/Nat.gcd n d)=mkRat (sg neg n) d
 rw [←Rat.mkRat_mul_left (Nat.ne_of_gt hg),←hs,e2]
abbrev fits (V:Nat):Prop:=nb V≤256
def Q.le (a:Q) (k:Nat):Prop:=nb a.n≤k∧nb a.d≤k
theorem low_le {neg:Bool} {n d k:Nat} (hn:nb n≤k) (hd:nb d≤k):(low neg n d).le k:=
 ⟨Nat.le_trans (nb_mono (Nat.div_le_self _ _)) hn,Nat.le_trans (nb_mono (Nat.div_le_self _ _)) hd⟩
def mulL (a b:Q):Option Q:=
 if fits (a.n*b.n)∧fits (a.d*b.d) then some (low (a.neg != b.neg) (a.n*b.n) (a.d*b.d)) else none
theorem mulL_val {a b c:Q} (ha:a.d≠0) (hb:b.d≠0) (h:mulL a b=some c):c.Ok∧c.val=a.val*b.val:=by
 have hd:a.d*b.d≠0:=Nat.mul_ne_zero ha hb
 unfold mulL at h
 split at h
 ·cases h
  refine ⟨low_ok _ _ hd,?_⟩
  rw [low_val _ _ hd]
  unfold Q.val
  rw [Rat.mkRat_mul_mkRat]
  congr 1
  cases a.neg<;>cases b.neg<;>simp [sg,Int.neg_mul,Int.mul_neg]
 cases h
theorem mulL_fit {a b:Q} {i j:Nat} (ha:a.le i) (hb:b.le j) (h:i+j≤256):∃c,mulL a b=some c∧c.le (i+j):=by
 have h1:nb (a.n*b.n)≤i+j:=Nat.le_trans (nb_mul _ _) (Nat.add_le_add ha.1 hb.1)
 have h3:nb (a.d*b.d)≤i+j:=Nat.le_trans (nb_mul _ _) (Nat.add_le_add ha.2 hb.2)
 unfold mulL
 rw [if_pos ⟨by omega,by omega⟩]
 exact ⟨_,rfl,low_le h1 h3⟩
def invQ (a:Q):Q:=⟨a.neg,a.d,a.n⟩
theorem invQ_val {a:Q} (ha:a.d≠0) (hn:a.n≠0):(invQ a).val=a.val⁻¹:=by
 have hv:a.val≠0:=by
  intro e
  unfold Q.val at e
  rw [Rat.mkRat_eq_zero ha] at e
  have:=sg_abs a.neg a.n
  rw [e] at this
  exact hn this.symm
 have h1:(invQ a).val*a.val=1:=by
  show mkRat (sg a.neg a.d) a.n*mkRat (sg a.neg a.n) a.d=1
  rw [Rat.mkRat_mul_mkRat]
  have hs:sg a.neg a.d*sg a.neg a.n=((a.n*a.d:Nat):Int):=by
   cases a.neg<;>simp [sg,Int.neg_mul,Int.mul_neg,Int.mul_comm]
  rw [hs]
  have:=Rat.mkRat_mul_left (n:=1) (d:=1) (a:=a.n*a.d) (Nat.mul_ne_zero hn ha)
  rw [Int.mul_one,Nat.mul_one] at this
  rw [this];rfl
 grind
theorem invQ_le {a:Q} {k:Nat} (h:a.le k):(invQ a).le k:=⟨h.2,h.1⟩
def cmpQ (a b:Q):Int:=
 if a.neg=true ∧ ¬b.neg=true then -1 else if ¬a.neg=true∧b.neg=true then 1
 else if a.neg=true then cmpN (b.n*a.d) (a.n*b.d) else cmpN (a.n*b.d) (b.n*a.d)
theorem val_lt {a b:Q} (ha:a.Ok) (hb:b.Ok):a.val<b.val↔sg a.neg a.n*(b.d:Int)<sg b.neg b.n*(a.d:Int):=by
 rw [Rat.lt_iff,Q.num ha,Q.num hb,Q.den ha,Q.den hb]
theorem cmpQ_lt {a b:Q} (ha:a.Ok) (hb:b.Ok):(cmpQ a b = -1↔a.val<b.val)∧(cmpQ a b=1↔b.val<a.val)∧(cmpQ a b = -1∨cmpQ a b=0∨cmpQ a b=1):=by
 rw [val_lt ha hb,val_lt hb ha]
 have pa:0<a.d:=Nat.pos_of_ne_zero ha.1
 have pb:0<b.d:=Nat.pos_of_ne_zero hb.1
 have na:=ha.2.2
 have nb:=hb.2.2
 unfold cmpQ cmpN
 cases hA:a.neg<;>cases hB:b.neg<;>simp only [hA,hB,sg,if_true,if_false,Bool.false_eq_true,not_false_eq_true,not_true_eq_false,and_true,and_false,true_and,false_and,forall_const,false_implies] at na nb ⊢
 ·have e1:(a.n:Int)*b.d=((a.n*b.d:Nat):Int):=(Int.natCast_mul _ _).symm
  have e2:(b.n:Int)*a.d=((b.n*a.d:Nat):Int):=(Int.natCast_mul _ _).symm
  rw [e1,e2]
  split
  ·omega
  split<;>omega
 ·have e1:(0:Int)≤(a.n:Int)*b.d:=Int.mul_nonneg (by omega) (by omega)
  have e2:(0:Int)<(b.n:Int)*a.d:=Int.mul_pos (by omega) (by omega)
  rw [Int.neg_mul]
  exact ⟨⟨fun h=>by omega,fun h=>by omega⟩,⟨fun _=>by omega,fun _=>trivial⟩,.inr (.inr trivial)⟩
 ·have e1:(0:Int)<(a.n:Int)*b.d:=Int.mul_pos (by omega) (by omega)
  have e2:(0:Int)≤(b.n:Int)*a.d:=Int.mul_nonneg (by omega) (by omega)
  rw [Int.neg_mul]
  exact ⟨⟨fun _=>by omega,fun _=>trivial⟩,⟨fun h=>by omega,fun h=>by omega⟩,.inl trivial⟩
 have e1:(a.n:Int)*b.d=((a.n*b.d:Nat):Int):=(Int.natCast_mul _ _).symm
 have e2:(b.n:Int)*a.d=((b.n*a.d:Nat):Int):=(Int.natCast_mul _ _).symm
 rw [Int.neg_mul,Int.neg_mul,e1,e2]
 split
 ·omega
 split<;>omega
end Go.RatM

namespace Go.RatM
open Go Go.Fw Go.NatM
structure Rt where
 neg:Bool
 n:ByteArray
 d:ByteArray
def Rt.v (a:Rt):Value:=.agg #[.bool a.neg,.string a.n,.string a.d]
def encQ (q:Q):Rt:=⟨q.neg,enc q.n,enc q.d⟩
def decQ (a:Rt):Q:=⟨a.neg,natv a.n,natv a.d⟩
def zr:Rt:=⟨false,NatM.mt,NatM.mt⟩
theorem dec_enc (q:Q):decQ (encQ q)=q:=by
 obtain ⟨s,n,d⟩:=q
 simp [decQ,encQ,natv_enc]
def okR (a:Rt):Prop:=chk [a.n]=0∧chk [a.d]=0∧natv a.d≠0∧Nat.gcd (natv a.n) (natv a.d)=1 ∧ ¬(a.neg=true∧natv a.n=0)
instance (a:Rt):Decidable (okR a):=by unfold okR;infer_instance
def chkR (a:Rt):Int:=if okR a then 0 else 70
theorem chkR_zero {a:Rt}:chkR a=0↔okR a:=by
 unfold chkR
 split
 ·simp [*]
 simp [*]
theorem okR_q {a:Rt} (h:okR a):a=encQ (decQ a)∧(decQ a).Ok∧(decQ a).le 256:=by
 obtain ⟨h1,h2,h3,h4,h5⟩:=h
 have c1:=chk_zero h1 (s:=a.n) (by simp)
 have c2:=chk_zero h2 (s:=a.d) (by simp)
 refine ⟨?_,⟨h3,h4,fun e1 e2=>h5 ⟨e1,e2⟩⟩,?_,?_⟩
 ·obtain ⟨s,n,d⟩:=a
  simp only [encQ,decQ,enc_natv c1.1,enc_natv c2.1]
 ·show nb (natv a.n)≤256
  rw [nb_natv c1.1];exact c1.2
 show nb (natv a.d)≤256
 rw [nb_natv c2.1];exact c2.2
theorem okR_enc {q:Q} (h:q.Ok) (hl:q.le 256):okR (encQ q):=by
 unfold okR
 simp only [encQ,natv_enc]
 exact ⟨chk_e1 hl.1,chk_e1 hl.2,h.1,h.2.1,fun ⟨e1,e2⟩=>h.2.2 e1 e2⟩
theorem okR_of {a:Rt} (h:okR a):∃q,a=encQ q∧q.Ok∧q.le 256:=⟨_,okR_q h⟩
def resR:Option Q→Rt×Int
 |some c=>(encQ c,0)
 |none=>(zr,2)
def opR (f:Q→Q→Option Q) (a b:Rt):Rt×Int:=if okR a∧okR b then resR (f (decQ a) (decQ b)) else (zr,70)
def mulR (a b:Rt):Rt×Int:=opR mulL a b
def divR (a b:Rt):Rt×Int:=if okR a∧okR b then (if natv b.n=0 then (zr,71) else resR (mulL (decQ a) (invQ (decQ b)))) else (zr,70)
def newQ (n d:Int):Q:=low (decide (n<0) != decide (d<0)) n.natAbs d.natAbs
def newR (n d:Int):Rt×Int:=if d=0 then (zr,71) else (encQ (newQ n d),0)
section
variable {a b:Q} (ha:a.Ok) (hb:b.Ok) (la:a.le 256) (lb:b.le 256)
include ha hb la lb
theorem opR_e (f:Q→Q→Option Q):opR f (encQ a) (encQ b)=resR (f a b):=by
 unfold opR
 rw [if_pos ⟨okR_enc ha la,okR_enc hb lb⟩,dec_enc,dec_enc]
theorem divR_e (hn:b.n≠0):divR (encQ a) (encQ b)=resR (mulL a (invQ b)):=by
 unfold divR
 rw [if_pos ⟨okR_enc ha la,okR_enc hb lb⟩,dec_enc,dec_enc,if_neg (by simp only [encQ,natv_enc];exact hn)]
end
end Go.RatM

namespace Go.RatM
open Go Go.Fw Go.NatM
theorem Q.le.mono {a:Q} {i j:Nat} (h:a.le i) (hij:i≤j):a.le j:=⟨Nat.le_trans h.1 hij,Nat.le_trans h.2 hij⟩
def zq:Q:=⟨false,0,1⟩
def oq:Q:=⟨false,1,1⟩
theorem zq_ok:zq.Ok:=⟨by decide,by decide,fun h=>by cases h⟩
theorem oq_ok:oq.Ok:=⟨by decide,by decide,fun h=>by cases h⟩
theorem oq_le:oq.le 1:=⟨by decide,by decide⟩
theorem zq_val:zq.val=0:=by decide +kernel
theorem oq_val:oq.val=1:=by decide +kernel
theorem val_zero {a:Q} (h:a.Ok):a.val=0↔a=zq:=⟨fun e=>Q.inj h zq_ok (by rw [e,zq_val]),fun e=>by rw [e,zq_val]⟩
theorem n_zero {a:Q} (h:a.Ok):a.n=0↔a=zq:=by
 constructor
 ·intro e
  refine (val_zero h).1 ?_
  unfold Q.val
  rw [e,sg_zero,Rat.mkRat_eq_zero h.1]
 intro e;rw [e];rfl
section
variable {a b:Q} {i j:Nat} (ha:a.Ok) (hb:b.Ok) (la:a.le i) (lb:b.le j)
include ha hb la lb
theorem mulR_ok (h:i+j≤256):∃c,mulR (encQ a) (encQ b)=(encQ c,0)∧c.Ok∧c.le (i+j)∧c.val=a.val*b.val:=by
 obtain ⟨c,e,hl⟩:=mulL_fit la lb h
 have hv:=mulL_val ha.1 hb.1 e
 refine ⟨c,?_,hv.1,hl,hv.2⟩
 unfold mulR
 rw [opR_e ha hb (la.mono (by omega)) (lb.mono (by omega)),e];rfl
theorem divR_ok (h:i+j≤256) (hz:b≠zq):∃c,divR (encQ a) (encQ b)=(encQ c,0)∧c.Ok∧c.le (i+j)∧c.val=a.val*b.val⁻¹:=by
 have hn:b.n≠0:=fun e=>hz ((n_zero hb).1 e)
 obtain ⟨c,e,hl⟩:=mulL_fit la (invQ_le lb) h
 have hv:=mulL_val (b:=invQ b) ha.1 hn e
 refine ⟨c,?_,hv.1,hl,?_⟩
 ·rw [divR_e ha hb (la.mono (by omega)) (lb.mono (by omega)) hn,e];rfl
 rw [hv.2,invQ_val hb.1 hn]
end
theorem newQ_ok {n d:Int} (hd:d≠0):(newQ n d).Ok:=low_ok _ _ (by omega)
theorem newQ_val {n d:Int} (hd:d≠0):(newQ n d).val=(n:Rat)*(d:Rat)⁻¹:=by
 unfold newQ
 rw [low_val _ _ (by omega)]
 have h1:sg (decide (n<0) != decide (d<0)) n.natAbs=if d<0 then -n else n:=by
  unfold sg
  by_cases hn:n<0<;>by_cases hd:d<0<;>simp [hn,hd]<;>omega
 rw [h1,Rat.mkRat_eq_div,Rat.div_def]
 split
 ·next hneg=>
  have e:((d.natAbs:Nat):Rat) = -(d:Rat):=by
   have:((d.natAbs:Nat):Int) = -d:=by omega
   rw [←Rat.intCast_natCast,this,Rat.intCast_neg]
  rw [e,Rat.intCast_neg]
  have hd':(d:Rat)≠0:=by
   intro e;exact hd (by exact_mod_cast e)
  grind
 next hneg=>
 have e:((d.natAbs:Nat):Rat)=(d:Rat):=by
  have:((d.natAbs:Nat):Int)=d:=by omega
  rw [←Rat.intCast_natCast,this]
 rw [e]
theorem newQ_le {n d:Int} {k:Nat} (hn:n.natAbs<256^k) (hd:d.natAbs<256^k):(newQ n d).le k:=low_le (nb_le hn) (nb_le hd)
theorem newR_ok {n d:Int} (hd:d≠0):newR n d=(encQ (newQ n d),0):=by unfold newR;rw [if_neg hd]
end Go.RatM

namespace Go.RatM
open Go Go.Fw Go.NatM
theorem newQ_one (F:Int):newQ F 1=⟨decide (F<0),F.natAbs,1⟩:=by
 unfold newQ low
 have:∀k:Nat,Nat.gcd k 1=1:=fun k=>Nat.gcd_one_right k
 simp only [show (1:Int).natAbs=1 from rfl,this,Nat.div_one]
 have e:((decide (F<0) != decide ((1:Int)<0)) && !Nat.beq F.natAbs 0)=decide (F<0):=by
  by_cases h:F<0
  ·have:F.natAbs≠0:=by omega
   simp [h,beq0 this]
  simp [h]
 rw [e]
theorem sg_one (F:Int):sg (decide (F<0)) F.natAbs=F:=by
 unfold sg
 by_cases h:F<0<;>simp [h]<;>omega
theorem cmp_int {a:Q} (ha:a.Ok) (F:Int):(cmpQ (newQ F 1) a≤0↔F*a.d≤sg a.neg a.n)∧(cmpQ a (newQ F 1)<0↔sg a.neg a.n<F*a.d):=by
 have hx:(newQ F 1).Ok:=newQ_ok (by decide)
 have h1:=cmpQ_lt hx ha
 have h2:=cmpQ_lt ha hx
 rw [val_lt hx ha,val_lt ha hx] at h1
 rw [val_lt hx ha,val_lt ha hx] at h2
 have e1:sg (newQ F 1).neg (newQ F 1).n=F:=by rw [newQ_one];exact sg_one F
 have e2:((newQ F 1).d:Int)=1:=by rw [newQ_one];rfl
 rw [e1,e2,Int.mul_one] at h1 h2
 omega

def lowQ (q:Q):Q:=low q.neg q.n q.d
def addP (a b:Q):Option Q:=
 if fits (a.n*b.d)∧fits (b.n*a.d) then
  if fits (a.d*b.d) then
   if a.neg=b.neg then
    if fits (a.n*b.d+b.n*a.d) then some ⟨a.neg,a.n*b.d+b.n*a.d,a.d*b.d⟩ else none
   else if a.n*b.d<b.n*a.d then some ⟨b.neg,b.n*a.d - a.n*b.d,a.d*b.d⟩
   else some ⟨a.neg,a.n*b.d - b.n*a.d,a.d*b.d⟩
  else none
 else none
def mulP (a b:Q):Option Q:=if fits (a.n*b.n) then if fits (a.d*b.d) then some ⟨a.neg != b.neg,a.n*b.n,a.d*b.d⟩ else none else none
theorem mulL_map (a b:Q):mulL a b=(mulP a b).map lowQ:=by
 unfold mulL mulP
 by_cases h1:fits (a.n*b.n)
 ·by_cases h2:fits (a.d*b.d)
  ·rw [if_pos ⟨h1,h2⟩,if_pos h1,if_pos h2];rfl
  rw [if_neg (fun h=>h2 h.2),if_pos h1,if_neg h2];rfl
 rw [if_neg (fun h=>h1 h.1),if_neg h1];rfl
theorem mulP_d {a b c:Q} (h:mulP a b=some c):c.d=a.d*b.d∧fits c.n∧fits c.d:=by
 unfold mulP at h
 split at h
 ·next h1=>
  split at h
  ·next h2=>cases h;exact ⟨rfl,h1,h2⟩
  cases h
 cases h
end Go.RatM

namespace Go.Proofs.YtofjdbmcloemnaaGreatDoor
open Go Go.Fw Go.NatM Go.RatM
set_option maxRecDepth 100000
set_option maxHeartbeats 99999999
def lim:List PanicEntry:=[{v:=.iface 179 (.agg #[.int .i64 2]),recovered:=false}]
theorem built_number (b:Bool) (s u:ByteArray):(Tryz.prog).built 156 [(0,.bool b),(1,.string s),(2,.string u)]=some #[.bool b,.string s,.string u]:=by rfl
theorem built_ratio (b:Bool) (s u:ByteArray):(Tryz.prog).built 57 [(0,.bool b),(1,.string s),(2,.string u)]=some #[.bool b,.string s,.string u]:=by rfl
theorem built_failure (e:Int):(Tryz.prog).built 179 [(0,.int .i64 e)]=some #[.int .i64 e]:=by rfl
theorem must_ok {h:Array Obj} (s:ByteArray):FnO Tryz.prog lim 120 #[.string s,.int .i64 0] h (some (.string s)):=by
 refine Fn.of (args:=[.string s,.int .i64 0]) Tryz.func120 (by kernel_rfl) rfl Tryz.ntmps120 rfl fun w0 cs=>?_
 refine gO ?_;conv=>whnf
 refine And.intro (fun _=>?_) (fun hn=>absurd (rfl) hn)
 conv=>whnf
 try refine gO ?_;conv=>whnf
 refine Runs.ret Tryz.func120 rfl rfl ⟨rfl,?_⟩
 exact Keeps.refl _ _
theorem must_no {h:Array Obj} (s:ByteArray):FnO Tryz.prog lim 120 #[.string s,.int .i64 2] h none:=by
 refine Fn.of (args:=[.string s,.int .i64 2]) Tryz.func120 (by kernel_rfl) rfl Tryz.ntmps120 rfl fun w0 cs=>?_
 refine gO ?_;conv=>whnf
 refine And.intro (fun hp=>absurd hp (by decide)) (fun _=>?_)
 conv=>whnf
 refine Runs.eff (eff_buildA (built_failure 2)) ?_
 rintro _ _ ⟨rfl,rfl⟩
 try refine gO ?_;conv=>whnf
 refine Runs.panicU (t:=179) (v:=.agg #[.int .i64 2]) ?_
 exact Unw.fail Tryz.func120 (Keeps.refl _ _)
theorem reason_fn {h:Array Obj}:FnV Tryz.prog 101 #[.iface 179 (.agg #[.int .i64 2])] h fun r h'=>r=.int .i64 2∧Keeps h.size h h':=by
 refine Fn.of (args:=[.iface 179 (.agg #[.int .i64 2])]) Tryz.func101 (by kernel_rfl) rfl Tryz.ntmps101 rfl fun w0 cs=>?_
 refine gO ?_;conv=>whnf
 refine Runs.eff (eff_assert Tryz.underlying179 (by simp)) ?_
 rintro _ _ ⟨rfl,rfl⟩
 try refine gO ?_;conv=>whnf
 refine Runs.eff (eff_allocN tab) ?_
 rintro _ h1 ⟨rfl,N1⟩
 try refine gO ?_;conv=>whnf
 refine Runs.eff (eff_storeS tab N1.blk) ?_
 rintro _ h2 P2
 try refine gO ?_;conv=>whnf
 refine ⟨_,(by rw [P2.blk.cell];rfl),?_⟩;conv=>whnf
 refine Runs.ret Tryz.func101 rfl rfl ⟨_,rfl,?_⟩
 exact ⟨rfl,N1.keeps.trans P2.keeps⟩
theorem sign_fn {h:Array Obj} {A C:Nat} (hA:fits A) (hC:fits C):FnV Tryz.prog 173 #[.string (enc A),.string (enc C)] h fun r h'=>r=.int .i64 (cmpN A C)∧Keeps h.size h h':=by
 refine Fn.of (args:=[.string (enc A),.string (enc C)]) Tryz.func173 (by kernel_rfl) rfl Tryz.ntmps173 rfl fun w0 cs=>?_
 refine gO ?_;conv=>whnf
 refine Runs.callV (Compare_fn (enc A) (enc C)) ?_
 rintro _ h1 ⟨rfl,k1⟩
 rw [cmp_e hA hC]
 try refine gO ?_;conv=>whnf
 refine Runs.callS (must_ok NatM.mt) ?_
 rintro h2 k2
 try refine gO ?_;conv=>whnf
 refine Runs.ret Tryz.func173 rfl rfl ⟨_,rfl,?_⟩
 exact ⟨rfl,k1.trans (k2.mono k1.size)⟩
def nv (q:Q):Value:=(encQ q).v
theorem lowest_fn {h:Array Obj} (q:Q) (hd:q.d≠0) (f1:nb q.n≤256) (f2:nb q.d≤256) (hT:TabH h):FnV Tryz.prog 103 #[nv q] h fun r h'=>r=nv (lowQ q)∧Keeps h.size h h':=by
 obtain ⟨s,n,d⟩:=q
 dsimp only at hd f1 f2
 refine Fn.of (args:=[.agg #[.bool s,.string (enc n),.string (enc d)]]) Tryz.func103 (by kernel_rfl) rfl Tryz.ntmps103 rfl fun w0 cs=>?_
 refine gO ?_;conv=>whnf
 refine Runs.eff (eff_boxN rfl) ?_
 rintro _ h1 ⟨rfl,N1⟩
 try refine gO ?_;conv=>whnf
 refine Runs.eff (eff_allocN tab) ?_
 rintro _ h2 ⟨rfl,N2⟩
 try refine gO ?_;conv=>whnf
 have A1:=N2.at N1.blk
 have s1:=N1.size
 have s2:=N2.size
 have k2:=N1.keeps.trans (N2.keeps.mono (by omega))
 have cc:∀h',Keeps h2.size h2 h'→cellH h' h.size 0=some (.bool s)∧cellH h' h.size (0+1)=some (.string (enc n))∧cellH h' h.size (0+2)=some (.string (enc d)):=fun h' hk=>by
  have A2:=hk.at A1 A1.lt
  exact ⟨by rw [A2.cell];rfl,by rw [A2.cell];rfl,by rw [A2.cell];rfl⟩
 have hg:0<Nat.gcd n d:=Nat.gcd_pos_of_pos_right _ (Nat.pos_of_ne_zero hd)
 have hgf:nb (Nat.gcd n d)≤256:=Nat.le_trans (nb_mono (Nat.gcd_le_right _ (Nat.pos_of_ne_zero hd))) f2
 have b0:=cc h2 (Keeps.refl _ _)
 refine ⟨_,b0.2.1,?_⟩;conv=>whnf
 refine ⟨_,b0.2.2,?_⟩;conv=>whnf
 refine Runs.callV (Gcd_fn (enc n) (enc d) (hT.keeps k2)) ?_
 rintro _ h3 ⟨rfl,k3⟩
 rw [gcd_e f1 f2]
 have kk3:=k3
 try refine gO ?_;conv=>whnf
 refine Runs.callS (must_ok (enc (Nat.gcd n d))) ?_
 rintro h4 k4
 have kk4:=kk3.trans (k4.mono kk3.size)
 try refine gO ?_;conv=>whnf
 refine ⟨_,(cc h4 kk4).2.1,?_⟩;conv=>whnf
 refine Runs.callV (Div_fn (enc n) (enc (Nat.gcd n d))) ?_
 rintro _ h5 ⟨rfl,k5⟩
 rw [div_e f1 hgf,if_neg (by omega)]
 have kk5:=kk4.trans (k5.mono kk4.size)
 try refine gO ?_;conv=>whnf
 refine Runs.callS (must_ok NatM.mt) ?_
 rintro h6 k6
 have kk6:=kk5.trans (k6.mono kk5.size)
 try refine gO ?_;conv=>whnf
 refine ⟨_,(cc h6 kk6).2.2,?_⟩;conv=>whnf
 refine Runs.callV (Div_fn (enc d) (enc (Nat.gcd n d))) ?_
 rintro _ h7 ⟨rfl,k7⟩
 rw [div_e f2 hgf,if_neg (by omega)]
 have kk7:=kk6.trans (k7.mono kk6.size)
 try refine gO ?_;conv=>whnf
 refine Runs.callS (must_ok NatM.mt) ?_
 rintro h8 k8
 have kk8:=kk7.trans (k8.mono kk7.size)
 try refine gO ?_;conv=>whnf
 refine ⟨_,(cc h8 kk8).1,?_⟩;conv=>whnf
 have fin:∀b:Bool,b=(s && !Nat.beq n 0) → ∀h9,Put h8 h9 h1.size #[.bool b,.string (enc (n/Nat.gcd n d)),.string (enc (d/Nat.gcd n d))] 57 →
   ∃v,Ending.returned (tup [Value.agg #[.bool b,.string (enc (n/Nat.gcd n d)),.string (enc (d/Nat.gcd n d))]])=Ending.returned v∧v=nv (lowQ ⟨s,n,d⟩)∧Keeps h.size h h9:=fun b hb h9 P9=>by
  subst hb
  exact ⟨_,rfl,rfl,(k2.trans (kk8.mono (by omega))).trans (P9.keeps.mono (by omega))⟩
 have A8:=kk8.at N2.blk N2.blk.lt
 have hz:(!decide (enc (n/Nat.gcd n d)=NatM.mt)) = !Nat.beq n 0:=by
  by_cases hn:n=0
  ·subst hn;simp [enc_mt]
  have h1:n/Nat.gcd n d≠0:=Nat.ne_of_gt (Nat.div_pos (Nat.le_of_dvd (Nat.pos_of_ne_zero hn) (Nat.gcd_dvd_left _ _)) hg)
  rw [beq0 hn,decide_eq_false (fun e=>h1 (enc_mt.1 e))]
 cases s
 ·conv=>whnf
  refine Runs.eff (eff_buildA (built_ratio _ _ _)) ?_
  rintro _ _ ⟨rfl,rfl⟩
  try refine gO ?_;conv=>whnf
  refine Runs.eff (eff_storeS tab A8) ?_
  rintro _ h9 P9
  try refine gO ?_;conv=>whnf
  refine Runs.retA tab Tryz.func103 (vs:=[.agg #[.bool false,.string (enc (n/Nat.gcd n d)),.string (enc (d/Nat.gcd n d))]]) (⟨⟨_,_,rfl,.inr ⟨_,_,rfl,rfl,rfl,cellsH_of_at P9.blk,rfl⟩⟩,trivial⟩) ?_
  exact fin _ rfl h9 P9
 conv=>whnf
 refine Runs.eff (eff_buildA (built_ratio _ _ _)) ?_
 rintro _ _ ⟨rfl,rfl⟩
 try refine gO ?_;conv=>whnf
 refine Runs.eff (eff_storeS tab A8) ?_
 rintro _ h9 P9
 try refine gO ?_;conv=>whnf
 refine Runs.retA tab Tryz.func103 (vs:=[.agg #[.bool (!decide (enc (n/Nat.gcd n d)=NatM.mt)),.string (enc (n/Nat.gcd n d)),.string (enc (d/Nat.gcd n d))]]) (⟨⟨_,_,rfl,.inr ⟨_,_,rfl,rfl,rfl,cellsH_of_at P9.blk,rfl⟩⟩,trivial⟩) ?_
 refine fin _ ?_ h9 P9
 rw [hz];rfl

def crossV (a b:Q):Option Value:=if fits (a.n*b.d)∧fits (b.n*a.d) then some (.tuple #[.string (enc (a.n*b.d)),.string (enc (b.n*a.d))]) else none
theorem crossed_fn {h:Array Obj} (a b:Q) (la:a.le 256) (lb:b.le 256):FnO Tryz.prog lim 171 #[nv a,nv b] h (crossV a b):=by
 obtain ⟨r,hr⟩:∃r,r=crossV a b:=⟨_,rfl⟩
 rw [←hr]
 obtain ⟨s,n,d⟩:=a
 obtain ⟨t,m,e⟩:=b
 unfold crossV at hr
 dsimp only at hr
 have ln:nb n≤256:=la.1
 have ld:nb d≤256:=la.2
 have lm:nb m≤256:=lb.1
 have le:nb e≤256:=lb.2
 refine Fn.of (args:=[.agg #[.bool s,.string (enc n),.string (enc d)],.agg #[.bool t,.string (enc m),.string (enc e)]]) Tryz.func171 (by kernel_rfl) rfl Tryz.ntmps171 rfl fun w0 cs=>?_
 refine gO ?_;conv=>whnf
 refine Runs.eff (eff_boxN rfl) ?_
 rintro _ h1 ⟨rfl,N1⟩
 try refine gO ?_;conv=>whnf
 refine Runs.eff (eff_boxN rfl) ?_
 rintro _ h2 ⟨rfl,N2⟩
 try refine gO ?_;conv=>whnf
 have s1:=N1.size
 have s2:=N2.size
 have A1:=N2.at N1.blk
 have k2:=N1.keeps.trans (N2.keeps.mono (by omega))
 have a1:cellH h2 h.size (0+1)=some (.string (enc n)):=by rw [A1.cell];rfl
 have a2:cellH h2 h.size (0+2)=some (.string (enc d)):=by rw [A1.cell];rfl
 have b1:cellH h2 h1.size (0+1)=some (.string (enc m)):=by rw [N2.blk.cell];rfl
 have b2:cellH h2 h1.size (0+2)=some (.string (enc e)):=by rw [N2.blk.cell];rfl
 refine Runs.heldP tab [(0,[]),(1,[]),(2,[]),(3,[]),(8,[]),(9,[]),(10,[]),(11,[]),(4,[9,11]),(5,[]),(6,[]),(7,[9,11]),(12,[]),(13,[]),(14,[]),(15,[]),(16,[]),(17,[])] (by kernel_rfl) ?_;conv=>whnf
 refine ⟨_,a1,?_⟩;conv=>whnf
 refine ⟨_,b2,?_⟩;conv=>whnf
 refine ⟨_,b1,?_⟩;conv=>whnf
 refine ⟨_,a2,?_⟩;conv=>whnf
 refine ⟨rfl,_,_,EffP.of_eff (Eff.call (Mul_fn (enc n) (enc e))),fun _ _ h=>h.elim,?_⟩
 rintro _ h3 ⟨rfl,k3⟩
 refine And.intro (by conv=>whnf
                      repeat (first|(refine And.intro (fun e=>(Keeps.cell (k3) (by omega)).trans e) ?_;conv=>whnf)|(refine And.intro (fun e=>Keeps.cells (k3) (by omega) e) ?_;conv=>whnf))
                      exact trivial) ?_
 conv=>whnf
 rw [mul_e ln le]
 have q3:=k3.size
 by_cases f1:fits (n*e)
 ·rw [short_e f1]
  conv=>whnf
  refine ⟨rfl,_,_,EffP.callS (must_ok (enc (n*e))),fun _ _ h=>h.elim,?_⟩
  rintro _ h4 ⟨rfl,k4⟩
  refine And.intro (by conv=>whnf
                       repeat (first|(refine And.intro (fun e=>(Keeps.cell (k4) (by omega)).trans e) ?_;conv=>whnf)|(refine And.intro (fun e=>Keeps.cells (k4) (by omega) e) ?_;conv=>whnf))
                       exact trivial) ?_
  conv=>whnf
  have q4:=k4.size
  refine ⟨rfl,_,_,EffP.of_eff (Eff.call (Mul_fn (enc m) (enc d))),fun _ _ h=>h.elim,?_⟩
  rintro _ h5 ⟨rfl,k5⟩
  refine And.intro (by conv=>whnf
                       repeat (refine And.intro (fun e=>e) ?_;conv=>whnf)
                       exact trivial) ?_
  conv=>whnf
  rw [mul_e lm ld]
  have q5:=k5.size
  have kk5:=((k2.trans (k3.mono (by omega))).trans (k4.mono (by omega))).trans (k5.mono (by omega))
  by_cases f2:fits (m*d)
  ·rw [short_e f2]
   conv=>whnf
   refine ⟨rfl,_,_,EffP.callS (must_ok (enc (m*d))),fun _ _ h=>h.elim,?_⟩
   rintro _ h6 ⟨rfl,k6⟩
   refine And.intro (by conv=>whnf
                        repeat (refine And.intro (fun e=>e) ?_;conv=>whnf)
                        exact trivial) ?_
   conv=>whnf
   rw [if_pos ⟨f1,f2⟩] at hr
   subst hr
   try refine gO ?_;conv=>whnf
   refine Runs.ret Tryz.func171 rfl rfl ⟨rfl,?_⟩
   exact kk5.trans (k6.mono (by omega))
  rw [short_big f2]
  conv=>whnf
  refine ⟨rfl,_,_,EffP.callF (must_no NatM.mt),?_,fun _ _ h0=>h0.elim⟩
  rintro _ h0 ⟨rfl,k0⟩
  rw [if_neg (fun h=>f2 h.2)] at hr
  subst hr
  exact Unw.fail Tryz.func171 (kk5.trans (k0.mono (by omega)))
 rw [short_big f1]
 conv=>whnf
 refine ⟨rfl,_,_,EffP.callF (must_no NatM.mt),?_,fun _ _ h0=>h0.elim⟩
 rintro _ h0 ⟨rfl,k0⟩
 rw [if_neg (fun h=>f1 h.1)] at hr
 subst hr
 exact Unw.fail Tryz.func171 ((k2.trans (k3.mono (by omega))).trans (k0.mono (by omega)))
theorem qtimes_fn {h:Array Obj} (a b:Q) (la:a.le 256) (lb:b.le 256):FnO Tryz.prog lim 153 #[nv a,nv b] h ((mulP a b).map nv):=by
 obtain ⟨r,hr⟩:∃r,r=(mulP a b).map nv:=⟨_,rfl⟩
 rw [←hr]
 obtain ⟨s,n,d⟩:=a
 obtain ⟨t,m,e⟩:=b
 unfold mulP at hr
 dsimp only at hr
 have ln:nb n≤256:=la.1
 have ld:nb d≤256:=la.2
 have lm:nb m≤256:=lb.1
 have le:nb e≤256:=lb.2
 refine Fn.of (args:=[.agg #[.bool s,.string (enc n),.string (enc d)],.agg #[.bool t,.string (enc m),.string (enc e)]]) Tryz.func153 (by kernel_rfl) rfl Tryz.ntmps153 rfl fun w0 cs=>?_
 refine gO ?_;conv=>whnf
 refine Runs.eff (eff_boxN rfl) ?_
 rintro _ h1 ⟨rfl,N1⟩
 try refine gO ?_;conv=>whnf
 refine Runs.eff (eff_boxN rfl) ?_
 rintro _ h2 ⟨rfl,N2⟩
 try refine gO ?_;conv=>whnf
 refine Runs.eff (eff_allocN tab) ?_
 rintro _ h2b ⟨rfl,N3⟩
 try refine gO ?_;conv=>whnf
 have s1:=N1.size
 have s2:=N2.size
 have s3:=N3.size
 have A1:=N3.at (N2.at N1.blk)
 have A2:=N3.at N2.blk
 have k2:=(N1.keeps.trans (N2.keeps.mono (by omega))).trans (N3.keeps.mono (by omega))
 have a0:cellH h2b h.size 0=some (.bool s):=by rw [A1.cell];rfl
 have a1:cellH h2b h.size (0+1)=some (.string (enc n)):=by rw [A1.cell];rfl
 have a2:cellH h2b h.size (0+2)=some (.string (enc d)):=by rw [A1.cell];rfl
 have b0:cellH h2b h1.size 0=some (.bool t):=by rw [A2.cell];rfl
 have b1:cellH h2b h1.size (0+1)=some (.string (enc m)):=by rw [A2.cell];rfl
 have b2:cellH h2b h1.size (0+2)=some (.string (enc e)):=by rw [A2.cell];rfl
 refine Runs.heldP tab [(0,[]),(1,[]),(2,[]),(3,[]),(4,[]),(5,[]),(6,[]),(7,[]),(8,[]),(13,[]),(14,[]),(15,[]),(16,[]),(9,[1,3,14,16]),(10,[]),(11,[]),(12,[1,3,14,16]),(17,[1,3]),(18,[]),(19,[]),(20,[1,3]),(21,[]),(22,[])] (by kernel_rfl) ?_;conv=>whnf
 refine ⟨_,a0,?_⟩;conv=>whnf
 refine ⟨_,b0,?_⟩;conv=>whnf
 refine ⟨_,a1,?_⟩;conv=>whnf
 refine ⟨_,b1,?_⟩;conv=>whnf
 refine ⟨_,a2,?_⟩;conv=>whnf
 refine ⟨_,b2,?_⟩;conv=>whnf
 refine ⟨rfl,_,_,EffP.of_eff (Eff.call (Mul_fn (enc n) (enc m))),fun _ _ h=>h.elim,?_⟩
 rintro _ h3 ⟨rfl,k3⟩
 refine And.intro (by conv=>whnf
                      repeat (first|(refine And.intro (fun e=>(Keeps.cell (k3) (by omega)).trans e) ?_;conv=>whnf)|(refine And.intro (fun e=>Keeps.cells (k3) (by omega) e) ?_;conv=>whnf))
                      exact trivial) ?_
 conv=>whnf
 rw [mul_e ln lm]
 have q3:=k3.size
 by_cases f1:fits (n*m)
 ·rw [short_e f1]
  conv=>whnf
  refine ⟨rfl,_,_,EffP.callS (must_ok (enc (n*m))),fun _ _ h=>h.elim,?_⟩
  rintro _ h4 ⟨rfl,k4⟩
  refine And.intro (by conv=>whnf
                       repeat (first|(refine And.intro (fun e=>(Keeps.cell (k4) (by omega)).trans e) ?_;conv=>whnf)|(refine And.intro (fun e=>Keeps.cells (k4) (by omega) e) ?_;conv=>whnf))
                       exact trivial) ?_
  conv=>whnf
  have q4:=k4.size
  refine ⟨rfl,_,_,EffP.of_eff (Eff.call (Mul_fn (enc d) (enc e))),fun _ _ h=>h.elim,?_⟩
  rintro _ h5 ⟨rfl,k5⟩
  refine And.intro (by conv=>whnf
                       repeat (first|(refine And.intro (fun e=>(Keeps.cell (k5) (by omega)).trans e) ?_;conv=>whnf)|(refine And.intro (fun e=>Keeps.cells (k5) (by omega) e) ?_;conv=>whnf))
                       exact trivial) ?_
  conv=>whnf
  rw [mul_e ld le]
  have q5:=k5.size
  have kk5:=(k3.trans (k4.mono (by omega))).trans (k5.mono (by omega))
  by_cases f2:fits (d*e)
  ·rw [short_e f2]
   conv=>whnf
   refine ⟨rfl,_,_,EffP.callS (must_ok (enc (d*e))),fun _ _ h=>h.elim,?_⟩
   rintro _ h6 ⟨rfl,k6⟩
   refine And.intro (by conv=>whnf
                        repeat (first|(refine And.intro (fun e=>(Keeps.cell (k6) (by omega)).trans e) ?_;conv=>whnf)|(refine And.intro (fun e=>Keeps.cells (k6) (by omega) e) ?_;conv=>whnf))
                        exact trivial) ?_
   conv=>whnf
   have q6:=k6.size
   have kk6:=kk5.trans (k6.mono (by omega))
   rw [if_pos f1,if_pos f2] at hr
   subst hr
   refine ⟨rfl,_,plain_build (built_number _ _ _),?_⟩;conv=>whnf
   refine ⟨rfl,_,_,EffP.of_eff (eff_storeS tab (kk6.at N3.blk N3.blk.lt)),fun _ _ h=>h.elim,?_⟩
   rintro _ h7 P7
   refine And.intro (by conv=>whnf
                        repeat (refine And.intro (fun e=>e) ?_;conv=>whnf)
                        exact trivial) ?_
   conv=>whnf
   try refine gO ?_;conv=>whnf
   refine Runs.retA tab Tryz.func153 (vs:=[.agg #[.bool (s != t),.string (enc (n*m)),.string (enc (d*e))]]) (⟨⟨_,_,rfl,.inr ⟨_,_,rfl,rfl,rfl,cellsH_of_at P7.blk,?_⟩⟩,trivial⟩) ?_
   ·cases s<;>cases t<;>rfl
   exact ⟨rfl,(k2.trans (kk6.mono (by omega))).trans (P7.keeps.mono (by omega))⟩
  rw [short_big f2]
  conv=>whnf
  refine ⟨rfl,_,_,EffP.callF (must_no NatM.mt),?_,fun _ _ h0=>h0.elim⟩
  rintro _ h0 ⟨rfl,k0⟩
  rw [if_pos f1,if_neg f2] at hr
  subst hr
  exact Unw.fail Tryz.func153 ((k2.trans (kk5.mono (by omega))).trans (k0.mono (by omega)))
 rw [short_big f1]
 conv=>whnf
 refine ⟨rfl,_,_,EffP.callF (must_no NatM.mt),?_,fun _ _ h0=>h0.elim⟩
 rintro _ h0 ⟨rfl,k0⟩
 rw [if_neg f1] at hr
 subst hr
 exact Unw.fail Tryz.func153 ((k2.trans (k3.mono (by omega))).trans (k0.mono (by omega)))

theorem qplus_fn {h:Array Obj} (a b:Q) (la:a.le 256) (lb:b.le 256):FnO Tryz.prog lim 149 #[nv a,nv b] h ((addP a b).map nv):=by
 obtain ⟨r,hr⟩:∃r,r=(addP a b).map nv:=⟨_,rfl⟩
 rw [←hr]
 obtain ⟨s,n,d⟩:=a
 obtain ⟨t,m,e⟩:=b
 unfold addP at hr
 dsimp only at hr
 have ln:nb n≤256:=la.1
 have ld:nb d≤256:=la.2
 have lm:nb m≤256:=lb.1
 have le:nb e≤256:=lb.2
 refine Fn.of (args:=[.agg #[.bool s,.string (enc n),.string (enc d)],.agg #[.bool t,.string (enc m),.string (enc e)]]) Tryz.func149 (by kernel_rfl) rfl Tryz.ntmps149 rfl fun w0 cs=>?_
 refine gO ?_;conv=>whnf
 refine Runs.eff (eff_boxN rfl) ?_
 rintro _ h1 ⟨rfl,N1⟩
 try refine gO ?_;conv=>whnf
 refine Runs.eff (eff_boxN rfl) ?_
 rintro _ h2 ⟨rfl,N2⟩
 try refine gO ?_;conv=>whnf
 refine Runs.eff (eff_allocN tab) ?_
 rintro _ h2b ⟨rfl,N3⟩
 try refine gO ?_;conv=>whnf
 have s1:=N1.size
 have s2:=N2.size
 have s3:=N3.size
 have A1:=N3.at (N2.at N1.blk)
 have A2:=N3.at N2.blk
 have k2:=(N1.keeps.trans (N2.keeps.mono (by omega))).trans (N3.keeps.mono (by omega))
 have ca:∀h',Keeps h2b.size h2b h'→cellH h' h.size 0=some (.bool s)∧cellH h' h.size (0+1)=some (.string (enc n))∧cellH h' h.size (0+2)=some (.string (enc d)):=fun h' hk=>by
  have A:=hk.at A1 A1.lt
  exact ⟨by rw [A.cell];rfl,by rw [A.cell];rfl,by rw [A.cell];rfl⟩
 have cb:∀h',Keeps h2b.size h2b h'→cellH h' h1.size 0=some (.bool t)∧cellH h' h1.size (0+1)=some (.string (enc m))∧cellH h' h1.size (0+2)=some (.string (enc e)):=fun h' hk=>by
  have A:=hk.at A2 A2.lt
  exact ⟨by rw [A.cell];rfl,by rw [A.cell];rfl,by rw [A.cell];rfl⟩
 refine Runs.eff (eff_loadAgg tab (vs:=[.bool s,.string (enc n),.string (enc d)]) (cellsH_of_at A1) rfl) ?_
 rintro _ h2b ⟨rfl,rfl⟩
 try refine gO ?_;conv=>whnf
 refine Runs.eff (eff_loadAgg tab (vs:=[.bool t,.string (enc m),.string (enc e)]) (cellsH_of_at A2) rfl) ?_
 rintro _ h2b ⟨rfl,rfl⟩
 try refine gO ?_;conv=>whnf
 by_cases f1:fits (n*e)∧fits (m*d)
 ·rw [if_pos f1] at hr
  have hcr:FnO Tryz.prog lim 171 #[nv ⟨s,n,d⟩,nv ⟨t,m,e⟩] h2b (some (.tuple #[.string (enc (n*e)),.string (enc (m*d))])):=by
   have:=crossed_fn (h:=h2b) ⟨s,n,d⟩ ⟨t,m,e⟩ la lb
   unfold crossV at this
   rw [if_pos f1] at this
   exact this
  refine Runs.callS (hcr) ?_
  rintro h3 k3
  have q3:=k3.size
  try refine gO ?_;conv=>whnf
  refine ⟨_,(ca h3 k3).2.2,?_⟩;conv=>whnf
  refine ⟨_,(cb h3 k3).2.2,?_⟩;conv=>whnf
  refine Runs.callV (Mul_fn (enc d) (enc e)) ?_
  rintro _ h4 ⟨rfl,k4⟩
  have q4:=k4.size
  rw [mul_e ld le]
  have kk4:=k3.trans (k4.mono (by omega))
  by_cases f2:fits (d*e)
  ·rw [short_e f2]
   rw [if_pos f2] at hr
   try refine gO ?_;conv=>whnf
   refine Runs.callS (must_ok (enc (d*e))) ?_
   rintro h5 k5
   have q5:=k5.size
   have kk5:=kk4.trans (k5.mono (by omega))
   try refine gO ?_;conv=>whnf
   refine ⟨_,(ca h5 kk5).1,?_⟩;conv=>whnf
   refine ⟨_,(cb h5 kk5).1,?_⟩;conv=>whnf
   have hst:(s==t)=decide (s=t):=by cases s<;>cases t<;>rfl
   rw [hst]
   by_cases hs:s=t
   ·rw [decide_eq_true hs]
    rw [if_pos hs] at hr
    try refine gO ?_;conv=>whnf
    refine Runs.heldP tab [(0,[]),(1,[]),(2,[]),(3,[]),(8,[]),(4,[1]),(5,[]),(6,[]),(7,[1]),(9,[]),(10,[])] (by kernel_rfl) ?_;conv=>whnf
    refine ⟨_,(ca h5 kk5).1,?_⟩;conv=>whnf
    refine ⟨rfl,_,_,EffP.of_eff (Eff.call (Add_fn (enc (n*e)) (enc (m*d)))),fun _ _ h=>h.elim,?_⟩
    rintro _ h6 ⟨rfl,k6⟩
    refine And.intro (by conv=>whnf
                         repeat (first|(refine And.intro (fun e=>(Keeps.cell (k6) (by omega)).trans e) ?_;conv=>whnf)|(refine And.intro (fun e=>Keeps.cells (k6) (by omega) e) ?_;conv=>whnf))
                         exact trivial) ?_
    conv=>whnf
    have q6:=k6.size
    rw [add_e f1.1 f1.2]
    have kk6:=kk5.trans (k6.mono (by omega))
    by_cases f3:fits (n*e+m*d)
    ·rw [short_e f3]
     rw [if_pos f3] at hr
     subst hr
     conv=>whnf
     refine ⟨rfl,_,_,EffP.callS (must_ok (enc (n*e+m*d))),fun _ _ h=>h.elim,?_⟩
     rintro _ h7 ⟨rfl,k7⟩
     refine And.intro (by conv=>whnf
                          repeat (first|(refine And.intro (fun e=>(Keeps.cell (k7) (by omega)).trans e) ?_;conv=>whnf)|(refine And.intro (fun e=>Keeps.cells (k7) (by omega) e) ?_;conv=>whnf))
                          exact trivial) ?_
     conv=>whnf
     have q7:=k7.size
     have kk7:=kk6.trans (k7.mono (by omega))
     refine ⟨rfl,_,plain_build (built_number _ _ _),?_⟩;conv=>whnf
     refine ⟨rfl,_,_,EffP.of_eff (eff_storeS tab (kk7.at N3.blk N3.blk.lt)),fun _ _ h=>h.elim,?_⟩
     rintro _ h8 P8
     refine And.intro (by conv=>whnf
                          repeat (refine And.intro (fun e=>e) ?_;conv=>whnf)
                          exact trivial) ?_
     conv=>whnf
     try refine gO ?_;conv=>whnf
     refine Runs.retA tab Tryz.func149 (vs:=[.agg #[.bool s,.string (enc (n*e+m*d)),.string (enc (d*e))]]) (⟨⟨_,_,rfl,.inr ⟨_,_,rfl,rfl,rfl,cellsH_of_at P8.blk,rfl⟩⟩,trivial⟩) ?_
     exact ⟨rfl,(k2.trans (kk7.mono (by omega))).trans (P8.keeps.mono (by omega))⟩
    rw [short_big f3]
    rw [if_neg f3] at hr
    subst hr
    conv=>whnf
    refine ⟨rfl,_,_,EffP.callF (must_no NatM.mt),?_,fun _ _ h0=>h0.elim⟩
    rintro _ h0 ⟨rfl,k0⟩
    exact Unw.fail Tryz.func149 ((k2.trans (kk6.mono (by omega))).trans (k0.mono (by omega)))
   rw [decide_eq_false hs]
   rw [if_neg hs] at hr
   try refine gO ?_;conv=>whnf
   refine Runs.callV (sign_fn f1.1 f1.2) ?_
   rintro _ h6 ⟨rfl,k6⟩
   have q6:=k6.size
   have kk6:=kk5.trans (k6.mono (by omega))
   try refine gO ?_;conv=>whnf
   refine ⟨fun hlt=>?_,fun hlt=>?_⟩<;>conv=>whnf
   ·have hlt:=cmpN_neg.1 hlt
    rw [if_pos hlt] at hr
    subst hr
    try refine gO ?_;conv=>whnf
    refine Runs.heldP tab [(0,[]),(1,[]),(2,[]),(3,[]),(8,[]),(4,[1]),(5,[]),(6,[]),(7,[1]),(9,[]),(10,[])] (by kernel_rfl) ?_;conv=>whnf
    refine ⟨_,(cb h6 kk6).1,?_⟩;conv=>whnf
    refine ⟨rfl,_,_,EffP.of_eff (Eff.call (Sub_fn (enc (m*d)) (enc (n*e)))),fun _ _ h=>h.elim,?_⟩
    rintro _ h7 ⟨rfl,k7⟩
    refine And.intro (by conv=>whnf
                         repeat (first|(refine And.intro (fun e=>(Keeps.cell (k7) (by omega)).trans e) ?_;conv=>whnf)|(refine And.intro (fun e=>Keeps.cells (k7) (by omega) e) ?_;conv=>whnf))
                         exact trivial) ?_
    conv=>whnf
    have q7:=k7.size
    rw [sub_e f1.2 f1.1,if_neg (by omega)]
    conv=>whnf
    refine ⟨rfl,_,_,EffP.callS (must_ok (enc (m*d - n*e))),fun _ _ h=>h.elim,?_⟩
    rintro _ h8 ⟨rfl,k8⟩
    refine And.intro (by conv=>whnf
                         repeat (first|(refine And.intro (fun e=>(Keeps.cell (k8) (by omega)).trans e) ?_;conv=>whnf)|(refine And.intro (fun e=>Keeps.cells (k8) (by omega) e) ?_;conv=>whnf))
                         exact trivial) ?_
    conv=>whnf
    have q8:=k8.size
    have kk8:=(kk6.trans (k7.mono (by omega))).trans (k8.mono (by omega))
    refine ⟨rfl,_,plain_build (built_number _ _ _),?_⟩;conv=>whnf
    refine ⟨rfl,_,_,EffP.of_eff (eff_storeS tab (kk8.at N3.blk N3.blk.lt)),fun _ _ h=>h.elim,?_⟩
    rintro _ h9 P9
    refine And.intro (by conv=>whnf
                         repeat (refine And.intro (fun e=>e) ?_;conv=>whnf)
                         exact trivial) ?_
    conv=>whnf
    try refine gO ?_;conv=>whnf
    refine Runs.retA tab Tryz.func149 (vs:=[.agg #[.bool t,.string (enc (m*d - n*e)),.string (enc (d*e))]]) (⟨⟨_,_,rfl,.inr ⟨_,_,rfl,rfl,rfl,cellsH_of_at P9.blk,rfl⟩⟩,trivial⟩) ?_
    exact ⟨rfl,(k2.trans (kk8.mono (by omega))).trans (P9.keeps.mono (by omega))⟩
   have hlt:¬n*e<m*d:=fun h=>hlt (cmpN_neg.2 h)
   rw [if_neg hlt] at hr
   subst hr
   try refine gO ?_;conv=>whnf
   refine Runs.heldP tab [(0,[]),(1,[]),(2,[]),(3,[]),(8,[]),(4,[1]),(5,[]),(6,[]),(7,[1]),(9,[]),(10,[])] (by kernel_rfl) ?_;conv=>whnf
   refine ⟨_,(ca h6 kk6).1,?_⟩;conv=>whnf
   refine ⟨rfl,_,_,EffP.of_eff (Eff.call (Sub_fn (enc (n*e)) (enc (m*d)))),fun _ _ h=>h.elim,?_⟩
   rintro _ h7 ⟨rfl,k7⟩
   refine And.intro (by conv=>whnf
                        repeat (first|(refine And.intro (fun e=>(Keeps.cell (k7) (by omega)).trans e) ?_;conv=>whnf)|(refine And.intro (fun e=>Keeps.cells (k7) (by omega) e) ?_;conv=>whnf))
                        exact trivial) ?_
   conv=>whnf
   have q7:=k7.size
   rw [sub_e f1.1 f1.2,if_neg hlt]
   conv=>whnf
   refine ⟨rfl,_,_,EffP.callS (must_ok (enc (n*e - m*d))),fun _ _ h=>h.elim,?_⟩
   rintro _ h8 ⟨rfl,k8⟩
   refine And.intro (by conv=>whnf
                        repeat (first|(refine And.intro (fun e=>(Keeps.cell (k8) (by omega)).trans e) ?_;conv=>whnf)|(refine And.intro (fun e=>Keeps.cells (k8) (by omega) e) ?_;conv=>whnf))
                        exact trivial) ?_
   conv=>whnf
   have q8:=k8.size
   have kk8:=(kk6.trans (k7.mono (by omega))).trans (k8.mono (by omega))
   refine ⟨rfl,_,plain_build (built_number _ _ _),?_⟩;conv=>whnf
   refine ⟨rfl,_,_,EffP.of_eff (eff_storeS tab (kk8.at N3.blk N3.blk.lt)),fun _ _ h=>h.elim,?_⟩
   rintro _ h9 P9
   refine And.intro (by conv=>whnf
                        repeat (refine And.intro (fun e=>e) ?_;conv=>whnf)
                        exact trivial) ?_
   conv=>whnf
   try refine gO ?_;conv=>whnf
   refine Runs.retA tab Tryz.func149 (vs:=[.agg #[.bool s,.string (enc (n*e - m*d)),.string (enc (d*e))]]) (⟨⟨_,_,rfl,.inr ⟨_,_,rfl,rfl,rfl,cellsH_of_at P9.blk,rfl⟩⟩,trivial⟩) ?_
   exact ⟨rfl,(k2.trans (kk8.mono (by omega))).trans (P9.keeps.mono (by omega))⟩
  rw [short_big f2]
  rw [if_neg f2] at hr
  subst hr
  try refine gO ?_;conv=>whnf
  refine Runs.callF (must_no NatM.mt) ?_
  rintro h0 k0
  exact Unw.fail Tryz.func149 ((k2.trans (kk4.mono (by omega))).trans (k0.mono (by omega)))
 rw [if_neg f1] at hr
 subst hr
 have hcr:FnO Tryz.prog lim 171 #[nv ⟨s,n,d⟩,nv ⟨t,m,e⟩] h2b none:=by
  have:=crossed_fn (h:=h2b) ⟨s,n,d⟩ ⟨t,m,e⟩ la lb
  unfold crossV at this
  rw [if_neg f1] at this
  exact this
 refine Runs.callF (hcr) ?_
 rintro h0 k0
 exact Unw.fail Tryz.func149 (k2.trans (k0.mono (by omega)))

theorem op1_fn {h:Array Obj} (a b:Q) (la:a.le 256) (lb:b.le 256):FnO Tryz.prog lim 148 #[nv a,nv b] h ((addP a b).map nv):=by
 obtain ⟨r,hr⟩:∃r,r=(addP a b).map nv:=⟨_,rfl⟩
 rw [←hr]
 refine Fn.of (args:=[.agg #[.bool a.neg,.string (enc a.n),.string (enc a.d)],.agg #[.bool b.neg,.string (enc b.n),.string (enc b.d)]]) Tryz.func148 (by kernel_rfl) rfl Tryz.ntmps148 rfl fun w0 cs=>?_
 refine gO ?_;conv=>whnf
 refine Runs.eff (eff_boxN rfl) ?_
 rintro _ h1 ⟨rfl,N1⟩
 try refine gO ?_;conv=>whnf
 refine Runs.eff (eff_boxN rfl) ?_
 rintro _ h2 ⟨rfl,N2⟩
 try refine gO ?_;conv=>whnf
 refine Runs.eff (eff_allocN tab) ?_
 rintro _ h3 ⟨rfl,N3⟩
 try refine gO ?_;conv=>whnf
 have s1:=N1.size
 have s2:=N2.size
 have s3:=N3.size
 have A1:=N3.at (N2.at N1.blk)
 have A2:=N3.at N2.blk
 have k2:=(N1.keeps.trans (N2.keeps.mono (by omega))).trans (N3.keeps.mono (by omega))
 refine Runs.eff (eff_loadAgg tab (vs:=[.bool a.neg,.string (enc a.n),.string (enc a.d)]) (cellsH_of_at A1) rfl) ?_
 rintro _ h3 ⟨rfl,rfl⟩
 try refine gO ?_;conv=>whnf
 refine Runs.eff (eff_loadAgg tab (vs:=[.bool b.neg,.string (enc b.n),.string (enc b.d)]) (cellsH_of_at A2) rfl) ?_
 rintro _ h3 ⟨rfl,rfl⟩
 try refine gO ?_;conv=>whnf
 have hc:=qplus_fn (h:=h3) a b la lb
 cases hq:addP a b with
 |none=>
  rw [hq] at hc hr
  subst hr
  refine Runs.callF (hc) ?_
  rintro h0 k0
  exact Unw.fail Tryz.func148 (k2.trans (k0.mono (by omega)))
 |some q=>
  rw [hq] at hc hr
  subst hr
  refine Runs.callS (hc) ?_
  rintro h4 k4
  have q4:=k4.size
  try refine gO ?_;conv=>whnf
  refine Runs.eff (eff_storeS tab (k4.at N3.blk N3.blk.lt)) ?_
  rintro _ h5 P5
  try refine gO ?_;conv=>whnf
  refine Runs.retA tab Tryz.func148 (vs:=[.agg #[.bool q.neg,.string (enc q.n),.string (enc q.d)]]) (⟨⟨_,_,rfl,.inr ⟨_,_,rfl,rfl,rfl,cellsH_of_at P5.blk,rfl⟩⟩,trivial⟩) ?_
  exact ⟨rfl,(k2.trans (k4.mono (by omega))).trans (P5.keeps.mono (by omega))⟩
theorem op3_fn {h:Array Obj} (a b:Q) (la:a.le 256) (lb:b.le 256):FnO Tryz.prog lim 152 #[nv a,nv b] h ((mulP a b).map nv):=by
 obtain ⟨r,hr⟩:∃r,r=(mulP a b).map nv:=⟨_,rfl⟩
 rw [←hr]
 refine Fn.of (args:=[.agg #[.bool a.neg,.string (enc a.n),.string (enc a.d)],.agg #[.bool b.neg,.string (enc b.n),.string (enc b.d)]]) Tryz.func152 (by kernel_rfl) rfl Tryz.ntmps152 rfl fun w0 cs=>?_
 refine gO ?_;conv=>whnf
 refine Runs.eff (eff_boxN rfl) ?_
 rintro _ h1 ⟨rfl,N1⟩
 try refine gO ?_;conv=>whnf
 refine Runs.eff (eff_boxN rfl) ?_
 rintro _ h2 ⟨rfl,N2⟩
 try refine gO ?_;conv=>whnf
 refine Runs.eff (eff_allocN tab) ?_
 rintro _ h3 ⟨rfl,N3⟩
 try refine gO ?_;conv=>whnf
 have s1:=N1.size
 have s2:=N2.size
 have s3:=N3.size
 have A1:=N3.at (N2.at N1.blk)
 have A2:=N3.at N2.blk
 have k2:=(N1.keeps.trans (N2.keeps.mono (by omega))).trans (N3.keeps.mono (by omega))
 refine Runs.eff (eff_loadAgg tab (vs:=[.bool a.neg,.string (enc a.n),.string (enc a.d)]) (cellsH_of_at A1) rfl) ?_
 rintro _ h3 ⟨rfl,rfl⟩
 try refine gO ?_;conv=>whnf
 refine Runs.eff (eff_loadAgg tab (vs:=[.bool b.neg,.string (enc b.n),.string (enc b.d)]) (cellsH_of_at A2) rfl) ?_
 rintro _ h3 ⟨rfl,rfl⟩
 try refine gO ?_;conv=>whnf
 have hc:=qtimes_fn (h:=h3) a b la lb
 cases hq:mulP a b with
 |none=>
  rw [hq] at hc hr
  subst hr
  refine Runs.callF (hc) ?_
  rintro h0 k0
  exact Unw.fail Tryz.func152 (k2.trans (k0.mono (by omega)))
 |some q=>
  rw [hq] at hc hr
  subst hr
  refine Runs.callS (hc) ?_
  rintro h4 k4
  have q4:=k4.size
  try refine gO ?_;conv=>whnf
  refine Runs.eff (eff_storeS tab (k4.at N3.blk N3.blk.lt)) ?_
  rintro _ h5 P5
  try refine gO ?_;conv=>whnf
  refine Runs.retA tab Tryz.func152 (vs:=[.agg #[.bool q.neg,.string (enc q.n),.string (enc q.d)]]) (⟨⟨_,_,rfl,.inr ⟨_,_,rfl,rfl,rfl,cellsH_of_at P5.blk,rfl⟩⟩,trivial⟩) ?_
  exact ⟨rfl,(k2.trans (k4.mono (by omega))).trans (P5.keeps.mono (by omega))⟩
def opsMap:Array MapEntry:=#[⟨.int .u8 43,.func (.func 148) #[] #[],0⟩,⟨.int .u8 45,.func (.func 150) #[] #[],1⟩,⟨.int .u8 42,.func (.func 152) #[] #[],2⟩,⟨.int .u8 47,.func (.func 154) #[] #[],3⟩]
theorem operations_fn {h:Array Obj}:FnV Tryz.prog 127 #[] h fun r h'=>r=.map (some h.size)∧h'[h.size]? = some (.map opsMap 4)∧Keeps h.size h h':=by
 refine Fn.of (args:=[]) Tryz.func127 (by kernel_rfl) rfl Tryz.ntmps127 rfl fun w0 cs=>?_
 refine gO ?_;conv=>whnf
 refine Runs.eff (eff_makeMap) ?_
 rintro _ _ ⟨rfl,rfl⟩
 try refine gO ?_;conv=>whnf
 have set:∀(g g':Array Obj) (o:Obj),g'=g.setIfInBounds h.size o→h.size<g.size→g'[h.size]? = some o:=fun g g' o e hg=>by rw [e];exact Array.getElem?_setIfInBounds_self_of_lt hg
 have u1:=Tryz.underlying186
 have u2:=Tryz.underlying5
 refine Runs.eff (eff_insert u1 u2 (r:=h.size) (es:=#[]) (clock:=0) (key:=.int .u8 43) (by simp) rfl) ?_
 rintro _ h1 ⟨rfl,e1⟩
 have z1:h1.size=h.size+1:=by rw [e1];simp
 have m1:=set _ _ _ e1 (by simp)
 have k1:Keeps h.size h h1:=by rw [e1];exact ((Keeps.refl _ _).push (Nat.le_refl _) _).put (Nat.le_refl _) _
 try refine gO ?_;conv=>whnf
 refine Runs.eff (eff_insert u1 u2 (key:=.int .u8 45) m1 rfl) ?_
 rintro _ h2 ⟨rfl,e2⟩
 have z2:h2.size=h1.size:=by rw [e2];simp
 have m2:=set _ _ _ e2 (by omega)
 have k2:Keeps h.size h h2:=by rw [e2];exact k1.put (Nat.le_refl _) _
 try refine gO ?_;conv=>whnf
 refine Runs.eff (eff_insert u1 u2 (key:=.int .u8 42) m2 rfl) ?_
 rintro _ h3 ⟨rfl,e3⟩
 have z3:h3.size=h2.size:=by rw [e3];simp
 have m3:=set _ _ _ e3 (by omega)
 have k3:Keeps h.size h h3:=by rw [e3];exact k2.put (Nat.le_refl _) _
 try refine gO ?_;conv=>whnf
 refine Runs.eff (eff_insert u1 u2 (key:=.int .u8 47) m3 rfl) ?_
 rintro _ h4 ⟨rfl,e4⟩
 have m4:=set _ _ _ e4 (by omega)
 have k4:Keeps h.size h h4:=by rw [e4];exact k3.put (Nat.le_refl _) _
 try refine gO ?_;conv=>whnf
 refine Runs.ret Tryz.func127 rfl rfl ⟨_,rfl,?_⟩
 exact ⟨rfl,m4,k4⟩

def limR:List PanicEntry:=[{v:=.iface 179 (.agg #[.int .i64 2]),recovered:=true}]
def zcells:Array Value:=#[.bool false,.string NatM.mt,.string NatM.mt]
theorem built_zero:(Tryz.prog).built 57 []=some zcells:=by rfl
theorem eff_neNil {P:Program} {n:Nat} {l:Fr} {h:Array Obj} {o:Oper} {t yt:TypeId} {x:Operand} {ms:Array (String×TypeId)} (ht:P.underlying t=some (.interface ms))
  (hop:o.op=.binOp .neq t x (.const .nilIface) yt:=by rfl) (hx:ev l x=some .nilIface:=by rfl):Eff P n l h o (fun v' h'=>v'=.bool false∧h'=h):=by
 refine Eff.of_val1 fun a w ha hh=>⟨w,?_,Like.refl w,hh⟩
 have e1:(Op.equalIn 10000 t .nilIface .nilIface).run P w=.ok true w:=by
  obtain ⟨m,hm⟩:∃m,10000=m+1:=⟨9999,rfl⟩
  rw [hm]
  simp [Op.equalIn,run_underlying ht]
 have hc:a.eval (.const .nilIface)=.nilIface:=rfl
 simp [execOp,hop,ha.ev hx,hc,eqGuard,binOp,Op.equal,Op.maxDepth,e1]
theorem calcDN {h:Array Obj} {p q:Value}:FnD Tryz.prog 126 #[p,q] .returning h fun e u' h'=>e=.returned (tup [])∧u'=.returning∧h'=h:=by
 refine FnD.of (args:=[p,q]) Tryz.func126 (by kernel_rfl) rfl Tryz.ntmps126 rfl fun w0 c0 cs=>?_
 refine gO ?_;conv=>whnf
 refine Runs.recoverN ?_
 try refine gO ?_;conv=>whnf
 refine Runs.eff (eff_neNil Tryz.underlying20) ?_
 rintro _ h ⟨rfl,rfl⟩
 try refine gO ?_;conv=>whnf
 exact Runs.finU (Unw.retD tab Tryz.func126 (vs:=[]) trivial ⟨rfl,rfl,rfl⟩)
theorem calcDP {h:Array Obj} {B b6 b7:Nat} {cs6 cs7:Array Value} {e7:TypeId} (A6:At h b6 cs6 57) (h6:cs6.size=3) (A7:At h b7 cs7 e7) (h7:cs7.size=1) (hne:b6≠b7) (hB6:B≤b6) (hB7:B≤b7):
  FnD Tryz.prog 126 #[.pointer (some ⟨b6,0,none⟩),.pointer (some ⟨b7,0,none⟩)] (.panicking lim) h fun e u' h'=>
   e=.returned (tup [])∧u'=.panicking limR∧At h' b6 zcells 57∧At h' b7 #[.int .i64 2] e7∧Keeps B h h':=by
 refine FnD.of (args:=[.pointer (some ⟨b6,0,none⟩),.pointer (some ⟨b7,0,none⟩)]) Tryz.func126 (by kernel_rfl) rfl Tryz.ntmps126 rfl fun w0 c0 cs=>?_
 refine gO ?_;conv=>whnf
 refine Runs.recoverP ?_
 try refine gO ?_;conv=>whnf
 refine Runs.eff (eff_buildA built_zero) ?_
 rintro _ h ⟨rfl,rfl⟩
 try refine gO ?_;conv=>whnf
 refine Runs.callV (reason_fn) ?_
 rintro _ h1 ⟨rfl,k1⟩
 try refine gO ?_;conv=>whnf
 have B6:=k1.at A6 A6.lt
 have B7:=k1.at A7 A7.lt
 have l6:=A6.lt
 have l7:=A7.lt
 refine Runs.eff (eff_storeS tab B6 (us:=zcells) (hlt:=h6)) ?_
 rintro _ h2 P2
 try refine gO ?_;conv=>whnf
 have C7:=P2.at B7 (Ne.symm hne)
 obtain ⟨v7,hv7⟩:∃v7,cs7 = #[v7]:=by
  obtain ⟨l⟩:=cs7
  match l,h7 with
  | [v],_=>exact ⟨v,rfl⟩
 subst hv7
 refine Runs.eff (eff_storeB tab C7) ?_
 rintro _ h3 P3
 try refine gO ?_;conv=>whnf
 refine Runs.finU (Unw.retD tab Tryz.func126 (vs:=[]) trivial ⟨rfl,rfl,P3.at P2.blk hne,P3.blk,?_⟩)
 exact ((k1.mono (by omega)).trans (P2.keeps.mono hB6)).trans (P3.keeps.mono hB7)

theorem enc_one:enc 1=⟨#[1]⟩:=by decide +kernel
theorem rtCheck_fn {h:Array Obj} (a:Rt) (hT:TabH h):FnV Tryz.prog 125 #[a.v] h fun r h'=>r=.int .i64 (chkR a)∧Keeps h.size h h':=by
 obtain ⟨s,n,d⟩:=a
 refine Fn.of (args:=[.agg #[.bool s,.string n,.string d]]) Tryz.func125 (by kernel_rfl) rfl Tryz.ntmps125 rfl fun w0 cs=>?_
 refine gO ?_;conv=>whnf
 refine Runs.eff (eff_boxN rfl) ?_
 rintro _ h1 ⟨rfl,N1⟩
 try refine gO ?_;conv=>whnf
 have s1:=N1.size
 have ca:∀h',Keeps h1.size h1 h'→cellH h' h.size 0=some (.bool s)∧cellH h' h.size (0+1)=some (.string n)∧cellH h' h.size (0+2)=some (.string d):=fun h' hk=>by
  have A:=hk.at N1.blk N1.blk.lt
  exact ⟨by rw [A.cell];rfl,by rw [A.cell];rfl,by rw [A.cell];rfl⟩
 refine ⟨_,(ca h1 (Keeps.refl _ _)).2.1,?_⟩;conv=>whnf
 refine Runs.callV (Check_fn n) ?_
 rintro _ h2 ⟨rfl,k2⟩
 have q2:=k2.size
 try refine gO ?_;conv=>whnf
 refine ⟨fun e1=>?_,fun e1=>?_⟩<;>conv=>whnf
 rotate_left
 ·conv=>whnf
  refine Runs.ret Tryz.func125 rfl rfl ⟨_,rfl,?_⟩
  exact ⟨by unfold chkR;rw [if_neg (fun o=>e1 o.1)];rfl,N1.keeps.trans (k2.mono (by omega))⟩
 conv=>whnf
 refine ⟨_,(ca h2 k2).2.2,?_⟩;conv=>whnf
 refine Runs.callV (Check_fn d) ?_
 rintro _ h3 ⟨rfl,k3⟩
 have q3:=k3.size
 have kk3:=k2.trans (k3.mono (by omega))
 try refine gO ?_;conv=>whnf
 refine ⟨fun e2=>?_,fun e2=>?_⟩<;>conv=>whnf
 rotate_left
 ·conv=>whnf
  refine Runs.ret Tryz.func125 rfl rfl ⟨_,rfl,?_⟩
  exact ⟨by unfold chkR;rw [if_neg (fun o=>e2 o.2.1)];rfl,N1.keeps.trans (kk3.mono (by omega))⟩
 conv=>whnf
 refine ⟨_,(ca h3 kk3).2.2,?_⟩;conv=>whnf
 refine ⟨fun e3=>?_,fun e3=>?_⟩<;>conv=>whnf
 ·conv=>whnf
  refine Runs.ret Tryz.func125 rfl rfl ⟨_,rfl,?_⟩
  exact ⟨by unfold chkR;rw [if_neg (fun o=>o.2.2.1 (by show natv d=0;rw [e3];rfl))];rfl,N1.keeps.trans (kk3.mono (by omega))⟩
 try refine gO ?_;conv=>whnf
 have c1:=chk_zero e1 (s:=n) (by simp)
 have c2:=chk_zero e2 (s:=d) (by simp)
 have hd:natv d≠0:=natv_ne c2.1 (fun e=>e3 (size_mt.2 e))
 refine ⟨_,(ca h3 kk3).2.1,?_⟩;conv=>whnf
 refine ⟨_,(ca h3 kk3).2.2,?_⟩;conv=>whnf
 refine Runs.callV (Gcd_fn n d (hT.keeps (N1.keeps.trans (kk3.mono (by omega))))) ?_
 rintro _ h4 ⟨rfl,k4⟩
 have q4:=k4.size
 have kk4:=kk3.trans (k4.mono (by omega))
 have eg:gcdS n d=(enc (Nat.gcd (natv n) (natv d)),0):=by
  have:=gcd_e (A:=natv n) (C:=natv d) (by rw [nb_natv c1.1];exact c1.2) (by rw [nb_natv c2.1];exact c2.2)
  rw [enc_natv c1.1,enc_natv c2.1] at this
  exact this
 rw [eg]
 try refine gO ?_;conv=>whnf
 have hge:(enc (Nat.gcd (natv n) (natv d))=⟨#[1]⟩)↔Nat.gcd (natv n) (natv d)=1:=by rw [←enc_one,enc_eq]
 have kk:Keeps h.size h h4:=N1.keeps.trans (kk4.mono (by omega))
 refine ⟨fun e4=>?_,fun e4=>?_⟩<;>conv=>whnf
 rotate_left
 ·conv=>whnf
  refine Runs.ret Tryz.func125 rfl rfl ⟨_,rfl,?_⟩
  exact ⟨by unfold chkR;rw [if_neg (fun o=>e4 (hge.2 o.2.2.2.1))];rfl,kk⟩
 have e4:=hge.1 e4
 conv=>whnf
 refine ⟨_,(ca h4 kk4).1,?_⟩;conv=>whnf
 cases s
 ·conv=>whnf
  refine Runs.ret Tryz.func125 rfl rfl ⟨_,rfl,?_⟩
  exact ⟨by unfold chkR;rw [if_pos ⟨e1,e2,hd,e4,fun o=>by cases o.1⟩];rfl,kk⟩
 conv=>whnf
 refine ⟨_,(ca h4 kk4).2.1,?_⟩;conv=>whnf
 refine ⟨fun e5=>?_,fun e5=>?_⟩<;>conv=>whnf
 ·conv=>whnf
  refine Runs.ret Tryz.func125 rfl rfl ⟨_,rfl,?_⟩
  exact ⟨by unfold chkR;rw [if_neg (fun o=>o.2.2.2.2 ⟨rfl,by show natv n=0;rw [e5];rfl⟩)];rfl,kk⟩
 conv=>whnf
 refine Runs.ret Tryz.func125 rfl rfl ⟨_,rfl,?_⟩
 exact ⟨by unfold chkR;rw [if_pos ⟨e1,e2,hd,e4,fun o=>natv_ne c1.1 (fun e=>e5 (size_mt.2 e)) o.2⟩];rfl,kk⟩

def resC (k:Int) (f:Q→Q→Option Q) (a b:Rt):Rt×Int:=
 if okR a∧okR b then (if k=47∧natv b.n=0 then (zr,71) else resR ((f (decQ a) (decQ b)).map lowQ)) else (zr,70)
def rev (p:Rt×Int):Value:=.tuple #[p.1.v,.int .i64 p.2]
theorem calculate_fn {h:Array Obj} {k:Int} {i:Nat} {g:FuncId} {f:Q→Q→Option Q} (a b:Rt) (hT:TabH h)
  (hf:Instr.findNow (.int .u8) (.int .u8 k) opsMap.toList 0=some (some (i,.func (.func g) #[] #[])))
  (hg:∀(h:Array Obj) (a b:Q),a.le 256→b.le 256→FnO Tryz.prog lim g #[nv a,nv b] h ((f a b).map nv))
  (hd:∀a b c:Q,a.Ok→b.Ok → ¬(k=47∧b.n=0)→f a b=some c→c.d≠0∧fits c.n∧fits c.d):
  FnV Tryz.prog 104 #[.int .u8 k,a.v,b.v] h fun r h'=>r=rev (resC k f a b)∧Keeps h.size h h':=by
 obtain ⟨r,hr⟩:∃r,r=resC k f a b:=⟨_,rfl⟩
 rw [←hr]
 obtain ⟨s,n,d⟩:=a
 obtain ⟨t,m,e⟩:=b
 unfold resC at hr
 refine Fn.of (args:=[.int .u8 k,.agg #[.bool s,.string n,.string d],.agg #[.bool t,.string m,.string e]]) Tryz.func104 (by kernel_rfl) rfl Tryz.ntmps104 rfl fun w0 cs=>?_
 refine gO ?_;conv=>whnf
 refine Runs.eff (eff_boxN rfl) ?_
 rintro _ h1 ⟨rfl,N1⟩
 try refine gO ?_;conv=>whnf
 refine Runs.eff (eff_boxN rfl) ?_
 rintro _ h2 ⟨rfl,N2⟩
 try refine gO ?_;conv=>whnf
 refine Runs.eff (eff_allocN tab) ?_
 rintro _ h3 ⟨rfl,N3⟩
 try refine gO ?_;conv=>whnf
 refine Runs.eff (eff_allocN tab) ?_
 rintro _ h4 ⟨rfl,N4⟩
 try refine gO ?_;conv=>whnf
 have s1:=N1.size
 have s2:=N2.size
 have s3:=N3.size
 have s4:=N4.size
 have A1:=N4.at (N3.at (N2.at N1.blk))
 have A2:=N4.at (N3.at N2.blk)
 have A3:=N4.at N3.blk
 have A4:=N4.blk
 have k4:=((N1.keeps.trans (N2.keeps.mono (by omega))).trans (N3.keeps.mono (by omega))).trans (N4.keeps.mono (by omega))
 refine Runs.eff (eff_loadAgg tab (vs:=[.bool s,.string n,.string d]) (cellsH_of_at A1) rfl) ?_
 rintro _ h4 ⟨rfl,rfl⟩
 try refine gO ?_;conv=>whnf
 refine Runs.callV (rtCheck_fn ⟨s,n,d⟩ (hT.keeps k4)) ?_
 rintro _ h5 ⟨rfl,k5⟩
 have q5:=k5.size
 try refine gO ?_;conv=>whnf
 refine ⟨fun o1=>?_,fun o1=>?_⟩<;>conv=>whnf
 rotate_left
 ·conv=>whnf
  refine Runs.eff (eff_buildA built_zero) ?_
  rintro _ h5 ⟨rfl,rfl⟩
  try refine gO ?_;conv=>whnf
  refine Runs.eff (eff_storeS tab (us:=zcells) (k5.at A3 A3.lt)) ?_
  rintro _ h16 P6
  try refine gO ?_;conv=>whnf
  refine Runs.eff (eff_storeB tab (P6.at (k5.at A4 A4.lt) (by omega))) ?_
  rintro _ h17 P7
  try refine gO ?_;conv=>whnf
  rw [if_neg (fun o=>o1 (chkR_zero.2 o.1))] at hr
  subst hr
  refine Runs.retA tab Tryz.func104 (vs:=[.agg zcells,.int .i64 70]) (⟨⟨_,_,rfl,.inr ⟨_,_,rfl,rfl,rfl,cellsH_of_at (P7.at P6.blk (by omega)),rfl⟩⟩,⟨_,_,rfl,.inl ⟨rfl,by rw [P7.blk.cell];rfl⟩⟩,trivial⟩) ?_
  exact ⟨_,rfl,rfl,((k4.trans (k5.mono (by omega))).trans (P6.keeps.mono (by omega))).trans (P7.keeps.mono (by omega))⟩
 have o1:=chkR_zero.1 o1
 conv=>whnf
 refine Runs.eff (eff_loadAgg tab (vs:=[.bool t,.string m,.string e]) (cellsH_of_at (k5.at A2 A2.lt)) rfl) ?_
 rintro _ h5 ⟨rfl,rfl⟩
 try refine gO ?_;conv=>whnf
 refine Runs.callV (rtCheck_fn ⟨t,m,e⟩ ((hT.keeps k4).keeps k5)) ?_
 rintro _ h6 ⟨rfl,k6⟩
 have q6:=k6.size
 have kk6:=k5.trans (k6.mono (by omega))
 try refine gO ?_;conv=>whnf
 refine ⟨fun o2=>?_,fun o2=>?_⟩<;>conv=>whnf
 rotate_left
 ·conv=>whnf
  refine Runs.eff (eff_buildA built_zero) ?_
  rintro _ h6 ⟨rfl,rfl⟩
  try refine gO ?_;conv=>whnf
  refine Runs.eff (eff_storeS tab (us:=zcells) (kk6.at A3 A3.lt)) ?_
  rintro _ h16 P6
  try refine gO ?_;conv=>whnf
  refine Runs.eff (eff_storeB tab (P6.at (kk6.at A4 A4.lt) (by omega))) ?_
  rintro _ h17 P7
  try refine gO ?_;conv=>whnf
  rw [if_neg (fun o=>o2 (chkR_zero.2 o.2))] at hr
  subst hr
  refine Runs.retA tab Tryz.func104 (vs:=[.agg zcells,.int .i64 70]) (⟨⟨_,_,rfl,.inr ⟨_,_,rfl,rfl,rfl,cellsH_of_at (P7.at P6.blk (by omega)),rfl⟩⟩,⟨_,_,rfl,.inl ⟨rfl,by rw [P7.blk.cell];rfl⟩⟩,trivial⟩) ?_
  exact ⟨_,rfl,rfl,((k4.trans (kk6.mono (by omega))).trans (P6.keeps.mono (by omega))).trans (P7.keeps.mono (by omega))⟩
 have o2:=chkR_zero.1 o2
 rw [if_pos ⟨o1,o2⟩] at hr
 conv=>whnf
 have ca:∀h',Keeps h4.size h4 h'→cellH h' h.size 0=some (.bool s)∧cellH h' h.size (0+1)=some (.string n)∧cellH h' h.size (0+2)=some (.string d):=fun h' hk=>by
  have A:=hk.at A1 A1.lt
  exact ⟨by rw [A.cell];rfl,by rw [A.cell];rfl,by rw [A.cell];rfl⟩
 have cb:∀h',Keeps h4.size h4 h'→cellH h' h1.size 0=some (.bool t)∧cellH h' h1.size (0+1)=some (.string m)∧cellH h' h1.size (0+2)=some (.string e):=fun h' hk=>by
  have A:=hk.at A2 A2.lt
  exact ⟨by rw [A.cell];rfl,by rw [A.cell];rfl,by rw [A.cell];rfl⟩
 have cm:=chk_zero o2.1 (s:=m) (by simp)
 have qa:=okR_q o1
 have qb:=okR_q o2
 have na:nv (decQ ⟨s,n,d⟩)=.agg #[.bool s,.string n,.string d]:=by rw [nv,←qa.1];rfl
 have nb:nv (decQ ⟨t,m,e⟩)=.agg #[.bool t,.string m,.string e]:=by rw [nv,←qb.1];rfl
 have u1:=Tryz.underlying186
 have u2:=Tryz.underlying5
 refine ⟨fun z1=>?_,fun z1=>?_⟩<;>conv=>whnf
 conv=>whnf
 refine ⟨_,(cb h6 kk6).2.1,?_⟩;conv=>whnf
 refine ⟨fun z2=>?_,fun z2=>?_⟩<;>conv=>whnf
 ·conv=>whnf
  refine Runs.eff (eff_buildA built_zero) ?_
  rintro _ h6 ⟨rfl,rfl⟩
  try refine gO ?_;conv=>whnf
  refine Runs.eff (eff_storeS tab (us:=zcells) (kk6.at A3 A3.lt)) ?_
  rintro _ h16 P6
  try refine gO ?_;conv=>whnf
  refine Runs.eff (eff_storeB tab (P6.at (kk6.at A4 A4.lt) (by omega))) ?_
  rintro _ h17 P7
  try refine gO ?_;conv=>whnf
  rw [if_pos ⟨z1,by show natv m=0;rw [z2];rfl⟩] at hr
  subst hr
  refine Runs.retA tab Tryz.func104 (vs:=[.agg zcells,.int .i64 71]) (⟨⟨_,_,rfl,.inr ⟨_,_,rfl,rfl,rfl,cellsH_of_at (P7.at P6.blk (by omega)),rfl⟩⟩,⟨_,_,rfl,.inl ⟨rfl,by rw [P7.blk.cell];rfl⟩⟩,trivial⟩) ?_
  exact ⟨_,rfl,rfl,((k4.trans (kk6.mono (by omega))).trans (P6.keeps.mono (by omega))).trans (P7.keeps.mono (by omega))⟩
 all_goals first
  |(have hz:¬(k=47∧natv m=0):=fun o=>natv_ne cm.1 (fun e=>z2 (size_mt.2 e)) o.2
    rw [if_neg hz] at hr)
  |(have hz:¬(k=47∧natv m=0):=fun o=>z1 o.1
    rw [if_neg hz] at hr)
 all_goals try refine gO ?_
 all_goals conv=>whnf
 all_goals refine Runs.deferU ?_
 all_goals try refine gO ?_
 all_goals conv=>whnf
 all_goals
  refine Runs.heldP tab [(1,[]),(3,[]),(4,[]),(5,[]),(6,[]),(7,[]),(8,[]),(9,[]),(10,[]),(11,[]),(12,[]),(13,[]),(14,[]),(15,[]),(16,[]),(0,[4,6,8,9,11,13,15,16]),(2,[4,6,8,9,11,13,15,16]),(17,[]),(18,[]),(19,[]),(20,[])] (by kernel_rfl) ?_;conv=>whnf
  refine ⟨_,(ca h6 kk6).1,?_⟩;conv=>whnf
  refine ⟨_,(ca h6 kk6).2.1,?_⟩;conv=>whnf
  refine ⟨_,(ca h6 kk6).2.2,?_⟩;conv=>whnf
  refine ⟨rfl,_,plain_build (built_number _ _ _),?_⟩;conv=>whnf
  refine ⟨_,(cb h6 kk6).1,?_⟩;conv=>whnf
  refine ⟨_,(cb h6 kk6).2.1,?_⟩;conv=>whnf
  refine ⟨_,(cb h6 kk6).2.2,?_⟩;conv=>whnf
  refine ⟨rfl,_,plain_build (built_number _ _ _),?_⟩;conv=>whnf
  refine ⟨rfl,_,_,EffP.of_eff (Eff.call operations_fn),fun _ _ h=>h.elim,?_⟩
  rintro _ h7 ⟨rfl,hm,k7⟩
  refine And.intro (by conv=>whnf
                       repeat (first|(refine And.intro (fun e=>(Keeps.cell (k7) (by omega)).trans e) ?_;conv=>whnf)|(refine And.intro (fun e=>Keeps.cells (k7) (by omega) e) ?_;conv=>whnf))
                       exact trivial) ?_
  conv=>whnf
  have q7:=k7.size
  have kk7:=kk6.trans (k7.mono (by omega))
  refine ⟨rfl,_,_,EffP.of_eff (eff_lookup u1 u2 hm hf),fun _ _ h=>h.elim,?_⟩
  rintro _ h7 ⟨rfl,rfl⟩
  refine And.intro (by conv=>whnf
                       repeat (refine And.intro (fun e=>e) ?_;conv=>whnf)
                       exact trivial) ?_
  conv=>whnf
  have hc:=hg h7 (decQ ⟨s,n,d⟩) (decQ ⟨t,m,e⟩) qa.2.2 qb.2.2
  rw [na,nb] at hc
  cases hq:f (decQ ⟨s,n,d⟩) (decQ ⟨t,m,e⟩) with
  |none=>
   rw [hq] at hc hr
   subst hr
   refine ⟨rfl,_,_,EffP.callF (hc),?_,fun _ _ h0=>h0.elim⟩
   rintro _ h0 ⟨rfl,k0⟩
   have kk0:=kk7.trans (k0.mono (by omega))
   refine Unw.defer (args:=#[]) (calcDP (B:=h.size) (kk0.at A3 A3.lt) rfl (kk0.at A4 A4.lt) rfl (by omega) (by omega) (by omega)) (by simp) (fun _ _ hh=>by cases hh.1) ?_ (fun _ _ _ hh=>by cases hh.1)
   rintro v u' h8 ⟨_,rfl,B6,B7,k8⟩
   show Unw _ _ .returning _ _
   exact Unw.retA tab Tryz.func104 (vs:=[.agg zcells,.int .i64 2]) ⟨⟨_,_,rfl,.inr ⟨_,_,rfl,rfl,rfl,cellsH_of_at B6,rfl⟩⟩,⟨_,_,rfl,.inl ⟨rfl,by rw [B7.cell];rfl⟩⟩,trivial⟩ ⟨_,rfl,rfl,(k4.trans (kk0.mono (by omega))).trans k8⟩
  |some c=>
   have hcd:=hd _ _ c qa.2.1 qb.2.1 hz hq
   rw [hq] at hc hr
   subst hr
   refine ⟨rfl,_,_,EffP.callS (hc),fun _ _ h=>h.elim,?_⟩
   rintro _ h8 ⟨rfl,k8⟩
   refine And.intro (by conv=>whnf
                        repeat (refine And.intro (fun e=>e) ?_;conv=>whnf)
                        exact trivial) ?_
   conv=>whnf
   have q8:=k8.size
   have kk8:=kk7.trans (k8.mono (by omega))
   refine ⟨rfl,_,_,EffP.of_eff (Eff.call (lowest_fn c hcd.1 hcd.2.1 hcd.2.2 ((hT.keeps k4).keeps kk8))),fun _ _ h=>h.elim,?_⟩
   rintro _ h9 ⟨rfl,k9⟩
   refine And.intro (by conv=>whnf
                        repeat (refine And.intro (fun e=>e) ?_;conv=>whnf)
                        exact trivial) ?_
   conv=>whnf
   have q9:=k9.size
   have kk9:=kk8.trans (k9.mono (by omega))
   refine ⟨rfl,_,_,EffP.of_eff (eff_storeS tab (us:=#[.bool (lowQ c).neg,.string (enc (lowQ c).n),.string (enc (lowQ c).d)]) (kk9.at A3 A3.lt)),fun _ _ h=>h.elim,?_⟩
   rintro _ h10 P10
   refine And.intro (by conv=>whnf
                        repeat (refine And.intro (fun e=>e) ?_;conv=>whnf)
                        exact trivial) ?_
   conv=>whnf
   refine ⟨rfl,_,_,EffP.of_eff (eff_storeB tab (P10.at (kk9.at A4 A4.lt) (by omega))),fun _ _ h=>h.elim,?_⟩
   rintro _ h11 P11
   refine And.intro (by conv=>whnf
                        repeat (refine And.intro (fun e=>e) ?_;conv=>whnf)
                        exact trivial) ?_
   conv=>whnf
   try refine gO ?_;conv=>whnf
   refine Runs.retU ?_
   refine Unw.defer (args:=#[]) calcDN (by simp) (fun _ _ hh=>by cases hh.1) ?_ (fun _ _ _ hh=>by cases hh.1)
   rintro v u' h12 ⟨_,rfl,rfl⟩
   show Unw _ _ .returning _ _
   exact Unw.retA tab Tryz.func104 (vs:=[.agg #[.bool (lowQ c).neg,.string (enc (lowQ c).n),.string (enc (lowQ c).d)],.int .i64 0]) ⟨⟨_,_,rfl,.inr ⟨_,_,rfl,rfl,rfl,cellsH_of_at (P11.at P10.blk (by omega)),rfl⟩⟩,⟨_,_,rfl,.inl ⟨rfl,by rw [P11.blk.cell];rfl⟩⟩,trivial⟩ ⟨_,rfl,rfl,((k4.trans (kk9.mono (by omega))).trans (P10.keeps.mono (by omega))).trans (P11.keeps.mono (by omega))⟩

theorem qMul_fn {h:Array Obj} (a b:Rt) (hT:TabH h):FnV Tryz.prog 65 #[a.v,b.v] h fun r h'=>r=rev (mulR a b)∧Keeps h.size h h':=by
 obtain ⟨r,hr⟩:∃r,r=mulR a b:=⟨_,rfl⟩
 rw [←hr]
 have heq:resC 42 (fun a b=>mulP a b) a b=mulR a b:=by unfold resC mulR opR;simp [←mulL_map]
 rw [←heq] at hr
 refine Fn.of (args:=[.agg #[.bool a.neg,.string a.n,.string a.d],.agg #[.bool b.neg,.string b.n,.string b.d]]) Tryz.func65 (by kernel_rfl) rfl Tryz.ntmps65 rfl fun w0 cs=>?_
 refine gO ?_;conv=>whnf
 refine Runs.eff (eff_boxN rfl) ?_
 rintro _ h1 ⟨rfl,N1⟩
 try refine gO ?_;conv=>whnf
 refine Runs.eff (eff_boxN rfl) ?_
 rintro _ h2 ⟨rfl,N2⟩
 try refine gO ?_;conv=>whnf
 refine Runs.eff (eff_allocN tab) ?_
 rintro _ h3 ⟨rfl,N3⟩
 try refine gO ?_;conv=>whnf
 have s1:=N1.size
 have s2:=N2.size
 have s3:=N3.size
 have A1:=N3.at (N2.at N1.blk)
 have A2:=N3.at N2.blk
 have k2:=(N1.keeps.trans (N2.keeps.mono (by omega))).trans (N3.keeps.mono (by omega))
 refine Runs.eff (eff_loadAgg tab (vs:=[.bool a.neg,.string a.n,.string a.d]) (cellsH_of_at A1) rfl) ?_
 rintro _ h3 ⟨rfl,rfl⟩
 try refine gO ?_;conv=>whnf
 refine Runs.eff (eff_loadAgg tab (vs:=[.bool b.neg,.string b.n,.string b.d]) (cellsH_of_at A2) rfl) ?_
 rintro _ h3 ⟨rfl,rfl⟩
 try refine gO ?_;conv=>whnf
 refine Runs.callV (calculate_fn (k:=42) (i:=2) (g:=152) (f:=fun a b=>mulP a b) a b (hT.keeps k2) (by rfl) (fun h a b la lb=>op3_fn a b la lb) (fun a b c ha hb _ e=>⟨by rw [(mulP_d e).1];exact Nat.mul_ne_zero ha.1 hb.1,(mulP_d e).2⟩)) ?_
 rintro _ h4 ⟨rfl,k4⟩
 rw [←hr]
 have q4:=k4.size
 try refine gO ?_;conv=>whnf
 refine Runs.eff (eff_storeS tab (us:=#[.bool r.1.neg,.string r.1.n,.string r.1.d]) (k4.at N3.blk N3.blk.lt)) ?_
 rintro _ h5 P5
 try refine gO ?_;conv=>whnf
 refine Runs.retA tab Tryz.func65 (vs:=[.agg #[.bool r.1.neg,.string r.1.n,.string r.1.d],.int .i64 r.2]) (⟨⟨_,_,rfl,.inr ⟨_,_,rfl,rfl,rfl,cellsH_of_at P5.blk,rfl⟩⟩,rfl,trivial⟩) ?_
 exact ⟨_,rfl,rfl,(k2.trans (k4.mono (by omega))).trans (P5.keeps.mono (by omega))⟩

theorem amount_fn {h:Array Obj} (n:Int) (hn: -9223372036854775808≤n∧n≤9223372036854775807):FnV Tryz.prog 102 #[.int .i64 n] h fun r h'=>r=.string (enc n.natAbs)∧Keeps h.size h h':=by
 refine Fn.of (args:=[.int .i64 n]) Tryz.func102 (by kernel_rfl) rfl Tryz.ntmps102 rfl fun w0 cs=>?_
 refine gO ?_;conv=>whnf
 have fit1:∀V:Nat,V≤9223372036854775808→nb V≤8:=fun V hV=>nb_le (by have:(256:Nat)^8=18446744073709551616:=by decide
                                                                    omega)
 refine ⟨fun h0=>?_,fun h0=>?_⟩<;>conv=>whnf
 ·try refine gO ?_
  conv=>whnf
  refine Runs.callV (Of_fn n hn.2) ?_
  rintro _ h1 ⟨rfl,k1⟩
  have q1:=k1.size
  rw [show ofS n=(enc n.natAbs,0) by unfold ofS;rw [if_neg (by omega),show n.toNat=n.natAbs by omega]]
  try refine gO ?_;conv=>whnf
  refine Runs.callS (must_ok (enc n.natAbs)) ?_
  rintro h2 k2
  try refine gO ?_;conv=>whnf
  refine Runs.ret Tryz.func102 rfl rfl ⟨_,rfl,?_⟩
  exact ⟨rfl,k1.trans (k2.mono (by omega))⟩
 try refine gO ?_;conv=>whnf
 repeat (refine oL ?_;conv=>whnf)
 refine Runs.callV (Of_fn (0 - (n+1)) (by omega)) ?_
 rintro _ h1 ⟨rfl,k1⟩
 have q1:=k1.size
 have e1:ofS (0 - (n+1))=(enc (n.natAbs - 1),0):=by unfold ofS;rw [if_neg (by omega),show (0 - (n+1)).toNat=n.natAbs - 1 by omega]
 rw [e1]
 try refine gO ?_;conv=>whnf
 refine Runs.callS (must_ok (enc (n.natAbs - 1))) ?_
 rintro h2 k2
 have q2:=k2.size
 try refine gO ?_;conv=>whnf
 rw [←enc_one]
 refine Runs.callV (Add_fn (enc (n.natAbs - 1)) (enc 1)) ?_
 rintro _ h3 ⟨rfl,k3⟩
 have q3:=k3.size
 have f1:=fit1 (n.natAbs - 1) (by omega)
 have f2:=fit1 1 (by omega)
 have f3:=fit1 (n.natAbs - 1+1) (by omega)
 rw [add_e (by omega) (by omega),short_e (by omega)]
 try refine gO ?_;conv=>whnf
 refine Runs.callS (must_ok (enc (n.natAbs - 1+1))) ?_
 rintro h4 k4
 try refine gO ?_;conv=>whnf
 refine Runs.ret Tryz.func102 rfl rfl ⟨_,rfl,?_⟩
 exact ⟨by rw [show n.natAbs - 1+1=n.natAbs by omega];rfl,((k1.trans (k2.mono (by omega))).trans (k3.mono (by omega))).trans (k4.mono (by omega))⟩

theorem newDN {h:Array Obj} {p q:Value}:FnD Tryz.prog 100 #[p,q] .returning h fun e u' h'=>e=.returned (tup [])∧u'=.returning∧h'=h:=by
 refine FnD.of (args:=[p,q]) Tryz.func100 (by kernel_rfl) rfl Tryz.ntmps100 rfl fun w0 c0 cs=>?_
 refine gO ?_;conv=>whnf
 refine Runs.recoverN ?_
 try refine gO ?_;conv=>whnf
 refine Runs.eff (eff_neNil Tryz.underlying20) ?_
 rintro _ h ⟨rfl,rfl⟩
 try refine gO ?_;conv=>whnf
 exact Runs.finU (Unw.retD tab Tryz.func100 (vs:=[]) trivial ⟨rfl,rfl,rfl⟩)
theorem qNew_fn {h:Array Obj} (n d:Int) (hn: -9223372036854775808≤n∧n≤9223372036854775807) (hd: -9223372036854775808≤d∧d≤9223372036854775807) (hT:TabH h):
  FnV Tryz.prog 59 #[.int .i64 n,.int .i64 d] h fun r h'=>r=rev (newR n d)∧Keeps h.size h h':=by
 have fit1:∀V:Nat,V≤9223372036854775808→nb V≤8:=fun V hV=>nb_le (by have:(256:Nat)^8=18446744073709551616:=by decide
                                                                    omega)
 refine Fn.of (args:=[.int .i64 n,.int .i64 d]) Tryz.func59 (by kernel_rfl) rfl Tryz.ntmps59 rfl fun w0 cs=>?_
 refine gO ?_;conv=>whnf
 refine Runs.eff (eff_allocN tab) ?_
 rintro _ h1 ⟨rfl,N1⟩
 try refine gO ?_;conv=>whnf
 refine Runs.eff (eff_allocN tab) ?_
 rintro _ h2 ⟨rfl,N2⟩
 try refine gO ?_;conv=>whnf
 have s1:=N1.size
 have s2:=N2.size
 have A1:=N2.at N1.blk
 have A2:=N2.blk
 have k2:=N1.keeps.trans (N2.keeps.mono (by omega))
 refine ⟨fun z=>?_,fun z=>?_⟩<;>conv=>whnf
 ·conv=>whnf
  refine Runs.eff (eff_buildA built_zero) ?_
  rintro _ h2 ⟨rfl,rfl⟩
  try refine gO ?_;conv=>whnf
  refine Runs.eff (eff_storeS tab (us:=zcells) A1) ?_
  rintro _ h3 P3
  try refine gO ?_;conv=>whnf
  refine Runs.eff (eff_storeB tab (P3.at A2 (by omega))) ?_
  rintro _ h4 P4
  try refine gO ?_;conv=>whnf
  refine Runs.retA tab Tryz.func59 (vs:=[.agg zcells,.int .i64 71]) (⟨⟨_,_,rfl,.inr ⟨_,_,rfl,rfl,rfl,cellsH_of_at (P4.at P3.blk (by omega)),rfl⟩⟩,⟨_,_,rfl,.inl ⟨rfl,by rw [P4.blk.cell];rfl⟩⟩,trivial⟩) ?_
  exact ⟨_,rfl,by unfold newR;rw [if_pos z];rfl,(k2.trans (P3.keeps.mono (by omega))).trans (P4.keeps.mono (by omega))⟩
 try refine gO ?_;conv=>whnf
 refine Runs.deferU ?_
 try refine gO ?_;conv=>whnf
 refine Runs.callV (amount_fn n hn) ?_
 rintro _ h3 ⟨rfl,k3⟩
 have q3:=k3.size
 try refine gO ?_;conv=>whnf
 refine Runs.callV (amount_fn d hd) ?_
 rintro _ h4 ⟨rfl,k4⟩
 have q4:=k4.size
 have kk4:=k3.trans (k4.mono (by omega))
 try refine gO ?_;conv=>whnf
 refine Runs.eff (eff_buildA (built_number _ _ _)) ?_
 rintro _ h4 ⟨rfl,rfl⟩
 try refine gO ?_;conv=>whnf
 have f1:=fit1 n.natAbs (by omega)
 have f2:=fit1 d.natAbs (by omega)
 have hl:FnV Tryz.prog 103 #[.agg #[.bool (!(decide (n<0)==decide (d<0))),.string (enc n.natAbs),.string (enc d.natAbs)]] h4 fun r h'=>r=nv (newQ n d)∧Keeps h4.size h4 h':=
  lowest_fn ⟨decide (n<0) != decide (d<0),n.natAbs,d.natAbs⟩ (by show d.natAbs≠0;omega) (by show nb n.natAbs≤256;omega) (by show nb d.natAbs≤256;omega) ((hT.keeps k2).keeps kk4)
 refine Runs.callV (hl) ?_
 rintro _ h5 ⟨rfl,k5⟩
 have q5:=k5.size
 have kk5:=kk4.trans (k5.mono (by omega))
 try refine gO ?_;conv=>whnf
 refine Runs.eff (eff_storeS tab (us:=#[.bool (newQ n d).neg,.string (enc (newQ n d).n),.string (enc (newQ n d).d)]) (kk5.at A1 A1.lt)) ?_
 rintro _ h6 P6
 try refine gO ?_;conv=>whnf
 refine Runs.eff (eff_storeB tab (P6.at (kk5.at A2 A2.lt) (by omega))) ?_
 rintro _ h7 P7
 try refine gO ?_;conv=>whnf
 refine Runs.retU ?_
 refine Unw.defer (args:=#[]) newDN (by simp) (fun _ _ hh=>by cases hh.1) ?_ (fun _ _ _ hh=>by cases hh.1)
 rintro v u' h12 ⟨_,rfl,rfl⟩
 show Unw _ _ .returning _ _
 exact Unw.retA tab Tryz.func59 (vs:=[.agg #[.bool (newQ n d).neg,.string (enc (newQ n d).n),.string (enc (newQ n d).d)],.int .i64 0]) ⟨⟨_,_,rfl,.inr ⟨_,_,rfl,rfl,rfl,cellsH_of_at (P7.at P6.blk (by omega)),rfl⟩⟩,⟨_,_,rfl,.inl ⟨rfl,by rw [P7.blk.cell];rfl⟩⟩,trivial⟩ ⟨_,rfl,by rw [newR_ok z];rfl,((k2.trans (kk5.mono (by omega))).trans (P6.keeps.mono (by omega))).trans (P7.keeps.mono (by omega))⟩



def rcells (a:Rt):List Value:=[.bool a.neg,.string a.n,.string a.d]
def rowsR (l:List Rt):List (List Value):=l.map rcells
theorem rowsR_len (l:List Rt):(rowsR l).length=l.length:=by simp [rowsR]
theorem rowsR_get {l:List Rt} {k:Nat} (hk:k<l.length):(rowsR l)[((k:Int)).toNat]? = some (rcells l[k]):=by simp [rowsR,hk]

theorem kp {P:Program} {f:FuncId} {args:Array Value} {h:Array Obj} {X:Value} (H:FnV P f args h fun r h'=>r=X∧h'=h):FnV P f args h fun r h'=>r=X∧Keeps h.size h h':=
 H.mono fun _ _ ⟨e,hk⟩=>⟨e,hk▸Keeps.refl _ _⟩
theorem okR_parts {s:Bool} {n d:ByteArray} (e1:chk [n]=0) (e2:chk [d]=0):(natv d=0↔d=⟨#[]⟩)∧(natv n=0↔n=⟨#[]⟩)∧gcdS n d=(enc (Nat.gcd (natv n) (natv d)),0):=by
 have c1:=chk_zero e1 (s:=n) (by simp)
 have c2:=chk_zero e2 (s:=d) (by simp)
 have z:∀ {x:ByteArray},Canon x→(natv x=0↔x=⟨#[]⟩):=fun {x} hx=>⟨fun e=>Classical.byContradiction fun hne=>natv_ne hx (fun e=>hne (size_mt.2 e)) e,fun e=>by rw [e];rfl⟩
 refine ⟨z c2.1,z c1.1,?_⟩
 have:=gcd_e (A:=natv n) (C:=natv d) (by rw [nb_natv c1.1];exact c1.2) (by rw [nb_natv c2.1];exact c2.2)
 rw [enc_natv c1.1,enc_natv c2.1] at this
 exact this
theorem enc_one_iff {k:Nat}:(enc k=⟨#[1]⟩)↔k=1:=by rw [←enc_one,enc_eq]
theorem rqCheck_fn {h:Array Obj} (a:Rt):FnV Tryz.prog 118 #[a.v] h fun r h'=>r=.int .i64 (chkR a)∧Keeps h.size h h':=by
 obtain ⟨s,n,d⟩:=a
 obtain ⟨r,hr⟩:∃r,r=chkR ⟨s,n,d⟩:=⟨_,rfl⟩
 rw [←hr]
 unfold chkR at hr
 refine Fn.ofS (args:=[.agg #[.bool s,.string n,.string d]]) Tryz.func118 (by kernel_rfl) rfl Tryz.ntmps118 rfl fun w0 cs=>?_
 conv=>whnf
 refine gS ?_;conv=>whnf
 refine RunsS.callV (fun Ez Hz Az Sz K=>kp (rCheck_fn n)) ?_
 conv=>whnf
 try refine gS ?_;conv=>whnf
 refine ⟨fun e1=>?_,fun e1=>?_⟩<;>conv=>whnf
 rotate_left
 ·conv=>whnf
  rw [if_neg (fun o=>e1 o.1)] at hr
  subst hr
  refine RunsS.retU (UnwS.ret tab Tryz.func118 rfl fun _ _ _ _ K=>⟨_,rfl,rfl,K.keeps⟩)
 conv=>whnf
 refine RunsS.callV (fun Ez Hz Az Sz K=>kp (rCheck_fn d)) ?_
 conv=>whnf
 try refine gS ?_;conv=>whnf
 refine ⟨fun e2=>?_,fun e2=>?_⟩<;>conv=>whnf
 rotate_left
 ·conv=>whnf
  rw [if_neg (fun o=>e2 o.2.1)] at hr
  subst hr
  refine RunsS.retU (UnwS.ret tab Tryz.func118 rfl fun _ _ _ _ K=>⟨_,rfl,rfl,K.keeps⟩)
 conv=>whnf
 obtain ⟨zd,zn,eg⟩:=okR_parts (s:=s) e1 e2
 refine ⟨fun e3=>?_,fun e3=>?_⟩<;>conv=>whnf
 ·conv=>whnf
  rw [if_neg (fun o=>o.2.2.1 (zd.2 e3))] at hr
  subst hr
  refine RunsS.retU (UnwS.ret tab Tryz.func118 rfl fun _ _ _ _ K=>⟨_,rfl,rfl,K.keeps⟩)
 cases s
 ·conv=>whnf
  refine RunsS.callV (fun Ez Hz Az Sz K=>rGcd_fn n d) ?_
  conv=>whnf
  rw [eg]
  try dsimp only
  try refine gS ?_;conv=>whnf
  refine ⟨fun e4=>?_,fun e4=>?_⟩<;>conv=>whnf
  rotate_left
  ·conv=>whnf
   rw [if_neg (fun o=>e4 (enc_one_iff.2 o.2.2.2.1))] at hr
   subst hr
   refine RunsS.retU (UnwS.ret tab Tryz.func118 rfl fun _ _ _ _ K=>⟨_,rfl,rfl,K.keeps⟩)
  conv=>whnf
  rw [if_pos ⟨e1,e2,fun e=>e3 (zd.1 e),enc_one_iff.1 e4,fun o=>by cases o.1⟩] at hr
  subst hr
  refine RunsS.retU (UnwS.ret tab Tryz.func118 rfl fun _ _ _ _ K=>⟨_,rfl,rfl,K.keeps⟩)
 conv=>whnf
 refine ⟨fun e5=>?_,fun e5=>?_⟩<;>conv=>whnf
 ·conv=>whnf
  rw [if_neg (fun o=>o.2.2.2.2 ⟨rfl,zn.2 e5⟩)] at hr
  subst hr
  refine RunsS.retU (UnwS.ret tab Tryz.func118 rfl fun _ _ _ _ K=>⟨_,rfl,rfl,K.keeps⟩)
 conv=>whnf
 refine RunsS.callV (fun Ez Hz Az Sz K=>rGcd_fn n d) ?_
 conv=>whnf
 rw [eg]
 try dsimp only
 try refine gS ?_;conv=>whnf
 refine ⟨fun e4=>?_,fun e4=>?_⟩<;>conv=>whnf
 rotate_left
 ·conv=>whnf
  rw [if_neg (fun o=>e4 (enc_one_iff.2 o.2.2.2.1))] at hr
  subst hr
  refine RunsS.retU (UnwS.ret tab Tryz.func118 rfl fun _ _ _ _ K=>⟨_,rfl,rfl,K.keeps⟩)
 conv=>whnf
 rw [if_pos ⟨e1,e2,fun e=>e3 (zd.1 e),enc_one_iff.1 e4,fun o=>e5 (zn.1 o.2)⟩] at hr
 subst hr
 refine RunsS.retU (UnwS.ret tab Tryz.func118 rfl fun _ _ _ _ K=>⟨_,rfl,rfl,K.keeps⟩)
theorem rqlowest_fn {h:Array Obj} (s:Bool) {n d:Nat} (hd:d≠0) (fn:nb n≤256) (fd:nb d≤256):FnV Tryz.prog 116 #[.bool s,.string (enc n),.string (enc d)] h fun r h'=>r=(encQ (low s n d)).v∧Keeps h.size h h':=by
 refine Fn.ofS (args:=[.bool s,.string (enc n),.string (enc d)]) Tryz.func116 (by kernel_rfl) rfl Tryz.ntmps116 rfl fun w0 cs=>?_
 conv=>whnf
 refine gS ?_;conv=>whnf
 have hg:0<Nat.gcd n d:=Nat.gcd_pos_of_pos_right _ (Nat.pos_of_ne_zero hd)
 have fg:nb (Nat.gcd n d)≤256:=Nat.le_trans (nb_mono (Nat.gcd_le_right _ (Nat.pos_of_ne_zero hd))) fd
 refine ⟨fun e1=>?_,fun e1=>?_⟩<;>conv=>whnf
 ·have e1:n=0:=enc_mt.1 e1
  subst e1
  conv=>whnf
  refine RunsS.retU (UnwS.ret tab Tryz.func116 rfl fun Ez Hz Az Sz K=>⟨_,rfl,?_,K.keeps⟩)
  have:low s 0 d=⟨false,0,1⟩:=by simp [low,Nat.div_self (Nat.pos_of_ne_zero hd)]
  rw [this]
  show Value.agg #[.bool false,.string ⟨#[]⟩,.string ⟨#[1]⟩]=(encQ ⟨false,0,1⟩).v
  rw [←enc_one];rfl
 have e1:n≠0:=fun e=>e1 (by rw [e];rfl)
 conv=>whnf
 refine RunsS.callV (fun Ez Hz Az Sz K=>rGcd_fn (enc n) (enc d)) ?_
 conv=>whnf
 rw [gcd_e fn fd]
 try dsimp only
 try refine gS ?_;conv=>whnf
 refine RunsS.callV (fun Ez Hz Az Sz K=>rDiv_fn (enc n) (enc (Nat.gcd n d))) ?_
 conv=>whnf
 rw [div_e fn fg,if_neg (Nat.ne_of_gt hg)]
 try dsimp only
 try refine gS ?_;conv=>whnf
 refine RunsS.callV (fun Ez Hz Az Sz K=>rDiv_fn (enc d) (enc (Nat.gcd n d))) ?_
 conv=>whnf
 rw [div_e fd fg,if_neg (Nat.ne_of_gt hg)]
 try dsimp only
 try refine gS ?_;conv=>whnf
 refine RunsS.retU (UnwS.ret tab Tryz.func116 rfl fun Ez Hz Az Sz K=>⟨_,rfl,?_,K.keeps⟩)
 show Value.agg #[.bool s,.string (enc (n/Nat.gcd n d)),.string (enc (d/Nat.gcd n d))]=(encQ ⟨s && !Nat.beq n 0,n/Nat.gcd n d,d/Nat.gcd n d⟩).v
 rw [beq0 e1,Bool.not_false,Bool.and_true];rfl
theorem rqMul_fn {h:Array Obj} (a b:Rt):FnV Tryz.prog 90 #[a.v,b.v] h fun r h'=>r=rev (mulR a b)∧Keeps h.size h h':=by
 obtain ⟨r,hr⟩:∃r,r=mulR a b:=⟨_,rfl⟩
 rw [←hr]
 obtain ⟨s,n,d⟩:=a
 obtain ⟨t,m,e⟩:=b
 unfold mulR opR at hr
 refine Fn.ofS (args:=[.agg #[.bool s,.string n,.string d],.agg #[.bool t,.string m,.string e]]) Tryz.func90 (by kernel_rfl) rfl Tryz.ntmps90 rfl fun w0 cs=>?_
 conv=>whnf
 refine gS ?_;conv=>whnf
 refine RunsS.callV (fun Ez Hz Az Sz K=>rqCheck_fn ⟨s,n,d⟩) ?_
 conv=>whnf
 try refine gS ?_;conv=>whnf
 refine ⟨fun o1=>?_,fun o1=>?_⟩<;>conv=>whnf
 rotate_left
 ·conv=>whnf
  rw [if_neg (fun o=>o1 (chkR_zero.2 o.1))] at hr
  subst hr
  refine RunsS.retU (UnwS.ret tab Tryz.func90 rfl fun _ _ _ _ K=>⟨_,rfl,rfl,K.keeps⟩)
 conv=>whnf
 refine RunsS.callV (fun Ez Hz Az Sz K=>rqCheck_fn ⟨t,m,e⟩) ?_
 conv=>whnf
 try refine gS ?_;conv=>whnf
 refine ⟨fun o2=>?_,fun o2=>?_⟩<;>conv=>whnf
 rotate_left
 ·conv=>whnf
  rw [if_neg (fun o=>o2 (chkR_zero.2 o.2))] at hr
  subst hr
  refine RunsS.retU (UnwS.ret tab Tryz.func90 rfl fun _ _ _ _ K=>⟨_,rfl,rfl,K.keeps⟩)
 rw [if_pos ⟨chkR_zero.1 o1,chkR_zero.1 o2⟩] at hr
 obtain ⟨⟨s,N,D⟩,ea,oka,la⟩:=okR_of (chkR_zero.1 o1)
 obtain ⟨⟨t,M,E⟩,eb,okb,lb⟩:=okR_of (chkR_zero.1 o2)
 rw [ea,eb,dec_enc,dec_enc] at hr
 cases ea
 cases eb
 unfold mulL at hr
 dsimp only at hr
 have hde:D*E≠0:=Nat.mul_ne_zero oka.1 okb.1
 by_cases f1:fits (N*M)<;>by_cases f2:fits (D*E)
 ·rw [if_pos ⟨f1,f2⟩] at hr
  subst hr
  conv=>whnf
  refine RunsS.callV (fun Ez Hz Az Sz K=>rMul_fn (enc N) (enc M)) ?_
  conv=>whnf
  rw [mul_e la.1 lb.1,short_e f1]
  try dsimp only
  try refine gS ?_;conv=>whnf
  refine RunsS.callV (fun Ez Hz Az Sz K=>rMul_fn (enc D) (enc E)) ?_
  conv=>whnf
  rw [mul_e la.2 lb.2,short_e f2]
  try dsimp only
  try refine gS ?_;conv=>whnf
  repeat ((first|refine oM ?_|refine oL ?_|refine oR ?_);(try intro _);conv=>whnf)
  cases s<;>cases t
  all_goals
   conv=>whnf
   refine RunsS.callV (fun Ez Hz Az Sz K=>rqlowest_fn _ hde f1 f2) ?_
   conv=>whnf
   try refine gS ?_;conv=>whnf
   refine RunsS.retU (UnwS.ret tab Tryz.func90 rfl fun _ _ _ _ K=>⟨_,rfl,rfl,K.keeps⟩)
 ·rw [if_neg (fun o=>f2 o.2)] at hr
  subst hr
  conv=>whnf
  refine RunsS.callV (fun Ez Hz Az Sz K=>rMul_fn (enc N) (enc M)) ?_
  conv=>whnf
  rw [mul_e la.1 lb.1,short_e f1]
  try dsimp only
  try refine gS ?_;conv=>whnf
  refine RunsS.callV (fun Ez Hz Az Sz K=>rMul_fn (enc D) (enc E)) ?_
  conv=>whnf
  rw [mul_e la.2 lb.2,short_big f2]
  try dsimp only
  try refine gS ?_;conv=>whnf
  repeat ((first|refine oM ?_|refine oL ?_|refine oR ?_);(try intro _);conv=>whnf)
  refine RunsS.retU (UnwS.ret tab Tryz.func90 rfl fun _ _ _ _ K=>⟨_,rfl,rfl,K.keeps⟩)
 ·rw [if_neg (fun o=>f1 o.1)] at hr
  subst hr
  conv=>whnf
  refine RunsS.callV (fun Ez Hz Az Sz K=>rMul_fn (enc N) (enc M)) ?_
  conv=>whnf
  rw [mul_e la.1 lb.1,short_big f1]
  try dsimp only
  try refine gS ?_;conv=>whnf
  refine RunsS.callV (fun Ez Hz Az Sz K=>rMul_fn (enc D) (enc E)) ?_
  conv=>whnf
  rw [mul_e la.2 lb.2,short_e f2]
  try dsimp only
  try refine gS ?_;conv=>whnf
  repeat ((first|refine oM ?_|refine oL ?_|refine oR ?_);(try intro _);conv=>whnf)
  refine RunsS.retU (UnwS.ret tab Tryz.func90 rfl fun _ _ _ _ K=>⟨_,rfl,rfl,K.keeps⟩)
 rw [if_neg (fun o=>f1 o.1)] at hr
 subst hr
 conv=>whnf
 refine RunsS.callV (fun Ez Hz Az Sz K=>rMul_fn (enc N) (enc M)) ?_
 conv=>whnf
 rw [mul_e la.1 lb.1,short_big f1]
 try dsimp only
 try refine gS ?_;conv=>whnf
 refine RunsS.callV (fun Ez Hz Az Sz K=>rMul_fn (enc D) (enc E)) ?_
 conv=>whnf
 rw [mul_e la.2 lb.2,short_big f2]
 try dsimp only
 try refine gS ?_;conv=>whnf
 repeat ((first|refine oM ?_|refine oL ?_|refine oR ?_);(try intro _);conv=>whnf)
 refine RunsS.retU (UnwS.ret tab Tryz.func90 rfl fun _ _ _ _ K=>⟨_,rfl,rfl,K.keeps⟩)


deriving instance DecidableEq for Go.RatM.Rt

theorem p8:(256:Nat)^8=18446744073709551616:=by decide
theorem rqamount_fn {h:Array Obj} (n:Int) (hn: -9223372036854775808≤n∧n≤9223372036854775807):FnV Tryz.prog 117 #[.int .i64 n] h fun r h'=>r=.string (enc n.natAbs)∧Keeps h.size h h':=by
 have fit1:∀V:Nat,V≤9223372036854775808→nb V≤8:=fun V hV=>nb_le (by rw [p8];omega)
 have f1:=fit1 (n.natAbs - 1) (by omega)
 have f2:=fit1 1 (by omega)
 have f3:=fit1 (n.natAbs - 1+1) (by omega)
 refine Fn.ofS (args:=[.int .i64 n]) Tryz.func117 (by kernel_rfl) rfl Tryz.ntmps117 rfl fun w0 cs=>?_
 conv=>whnf
 refine gS ?_;conv=>whnf
 refine ⟨fun h0=>?_,fun h0=>?_⟩<;>conv=>whnf
 ·conv=>whnf
  have e1:ofS n=(enc n.natAbs,0):=by unfold ofS;rw [if_neg (by omega),show n.toNat=n.natAbs by omega]
  refine RunsS.callV (fun Ez Hz Az Sz K=>rOf_fn n hn.2) ?_
  conv=>whnf
  rw [e1]
  try dsimp only
  refine gS ?_;conv=>whnf
  refine RunsS.retU (UnwS.ret tab Tryz.func117 rfl fun _ _ _ _ K=>⟨_,rfl,rfl,K.keeps⟩)
 conv=>whnf
 repeat ((first|refine oM ?_|refine oL ?_|refine oR ?_);(try intro _);conv=>whnf)
 have e1:ofS (0 - (n+1))=(enc (n.natAbs - 1),0):=by unfold ofS;rw [if_neg (by omega),show (0 - (n+1)).toNat=n.natAbs - 1 by omega]
 have e2:addS (enc (n.natAbs - 1)) ⟨#[1]⟩=(enc n.natAbs,0):=by
  rw [←enc_one,add_e (by omega) (by omega),short_e (by omega),show n.natAbs - 1+1=n.natAbs by omega]
 refine RunsS.callV (fun Ez Hz Az Sz K=>rOf_fn (0 - (n+1)) (by omega)) ?_
 conv=>whnf
 rw [e1]
 try dsimp only
 refine gS ?_;conv=>whnf
 refine RunsS.callV (fun Ez Hz Az Sz K=>rAdd_fn (enc (n.natAbs - 1)) ⟨#[1]⟩) ?_
 conv=>whnf
 rw [e2]
 try dsimp only
 refine gS ?_;conv=>whnf
 refine RunsS.retU (UnwS.ret tab Tryz.func117 rfl fun _ _ _ _ K=>⟨_,rfl,rfl,K.keeps⟩)
theorem rqNew_fn {h:Array Obj} (n d:Int) (hn: -9223372036854775808≤n∧n≤9223372036854775807) (hd: -9223372036854775808≤d∧d≤9223372036854775807):
  FnV Tryz.prog 89 #[.int .i64 n,.int .i64 d] h fun r h'=>r=rev (newR n d)∧Keeps h.size h h':=by
 have fit1:∀V:Nat,V≤9223372036854775808→nb V≤256:=fun V hV=>Nat.le_trans (nb_le (m:=8) (by rw [p8];omega)) (by omega)
 have f1:=fit1 n.natAbs (by omega)
 have f2:=fit1 d.natAbs (by omega)
 obtain ⟨r,hr⟩:∃r,r=newR n d:=⟨_,rfl⟩
 rw [←hr]
 unfold newR at hr
 refine Fn.ofS (args:=[.int .i64 n,.int .i64 d]) Tryz.func89 (by kernel_rfl) rfl Tryz.ntmps89 rfl fun w0 cs=>?_
 conv=>whnf
 refine gS ?_;conv=>whnf
 refine ⟨fun hz=>?_,fun hz=>?_⟩<;>conv=>whnf
 ·conv=>whnf
  rw [if_pos hz] at hr
  subst hr
  refine RunsS.retU (UnwS.ret tab Tryz.func89 rfl fun _ _ _ _ K=>⟨_,rfl,rfl,K.keeps⟩)
 rw [if_neg hz] at hr
 conv=>whnf
 refine RunsS.callV (fun Ez Hz Az Sz K=>rqamount_fn n hn) ?_
 conv=>whnf
 refine gS ?_;conv=>whnf
 refine RunsS.callV (fun Ez Hz Az Sz K=>rqamount_fn d hd) ?_
 conv=>whnf
 refine gS ?_;conv=>whnf
 subst hr
 refine RunsS.callV (fun Ez Hz Az Sz K=>rqlowest_fn (n:=n.natAbs) (d:=d.natAbs) (decide (n<0) != decide (d<0)) (by omega) f1 f2) ?_
 conv=>whnf
 refine gS ?_;conv=>whnf
 refine RunsS.retU (UnwS.ret tab Tryz.func89 rfl fun _ _ _ _ K=>⟨_,rfl,rfl,K.keeps⟩)
end Go.Proofs.YtofjdbmcloemnaaGreatDoor

namespace Go.Fw
open Go Go.RowKit Go.WideShapes Go.ChangeShapes
section
variable {H:Type} {enc:TypeId×Value→H} {P:Program}
theorem trodAll_stays (hl:laidOutB P=true) {W W':World} {sp:Nat→Bool}:∀ {ts:List TypeId} {vs:List Value} {ds:List (DataW H)} {ps:List MemPlace},
  (∀t∈ts,P.readableRec t=true∧t<P.types.size)→DataW.TrodAll enc P W 0 (fun _=>true) true ts vs ds ps→(∀p∈ps,W.sameAt W' p)→(∀p∈ps,sp p.block=true)→DataW.TrodAll enc P W' 0 sp true ts vs ds ps
 | [],vs,ds,ps,_,h,_,_=>by
  obtain ⟨rfl,rfl,rfl⟩:=trodAll_nil h
  exact trodAll_mk0
 |t::ts,vs,ds,ps,hr,h,hs,hsp=>by
  obtain ⟨v,vs',d,ds',p,q,rfl,rfl,rfl,h1,h2⟩:=trodAll_cons h
  have h0:=hr t (List.mem_cons_self ..)
  exact trodAll_cons_mk (WideElems.Trod_stays hl h0.1 h0.2 h1 (fun x hx=>hs x (List.mem_append_left _ hx)) (fun x hx=>hsp x (List.mem_append_left _ hx)))
   (trodAll_stays hl (fun x hx=>hr x (List.mem_cons_of_mem _ hx)) h2 (fun x hx=>hs x (List.mem_append_right _ hx)) (fun x hx=>hsp x (List.mem_append_right _ hx)))
def readTs (P:Program) (ts:List TypeId):Bool:=ts.all fun t=>P.readableRec t&&decide (t<P.types.size)
theorem readTs_ok {ts:List TypeId} (h:readTs P ts=true):∀t∈ts,P.readableRec t=true∧t<P.types.size:=fun t ht=>by
 have:=List.all_eq_true.1 h t ht
 simpa using this
theorem post_true {f:Func} {s:ChangeSpec} {apart fresh handsOn again:Bool} {W W':World} {args:Array Value} {ds gs:List (DataW H)} {before:List MemPlace} {tb:TypeId}
  (hl:laidOutB P=true) (hr:readTs P f.params.toList=true) (ht:P.underlying tb=some .bool) (hres:f.resultTypes = #[tb])
  (hW:DataW.Whole enc P f.params.toList s.vars apart W args.toList ds gs before) (hv:s.vars=[])
  (hs:∀n,ds.length=n→(s.fn H (ds++[])).results=[.lit (.bool true)]∧(s.fn H (ds++[])).args=ds∧(s.fn H (ds++[])).vars=[]) (hb:Below W.heap.size W W'):
  s.post enc P f apart fresh handsOn again W args (.bool true) W':=by
 have hW':=hW
 obtain ⟨p,q,hA,hV,rfl,_,_⟩:=hW
 rw [hv] at hV
 obtain ⟨rfl,rfl⟩:=trodVars_none hV
 obtain ⟨h1,h2,h3⟩:=hs _ rfl
 have hlt:∀x∈p,x.block<W.heap.size:=fun x hx=>hW'.lt x (List.mem_append_left _ hx)
 refine post_of_below (pa:=p) (pv:=[]) hW' (fun _ _ _=>?_) (fun sp hsp=>?_) (fun _ _=>?_) rfl hb ?_
 ·rw [h1,hres]
  exact trodAll_cons_mk (shut_bool ht _) trodAll_mk0
 ·rw [h2]
  exact trodAll_stays hl (readTs_ok hr) hA (fun x hx=>hb.same (hlt x hx)) (fun x hx=>hsp x (by simpa using hx))
 ·rw [h3,hv];rfl
 exact ok_one hres rfl (okWide_bool_mk ht _)
theorem cellsH_flat {h:Array Obj} {g sz:Nat}:∀ {rows:List (List Value)} {o:Nat},(∀r∈rows,r.length=sz)→(∀i r,rows[i]? = some r→CellsH h g (o+i*sz) r)→CellsH h g o rows.flatten
 | [],o,_,_=>fun j v hv=>by simp at hv
 |r::rs,o,hl,H=>fun j v hv=>by
  rw [List.flatten_cons] at hv
  have hr:=hl r (List.mem_cons_self ..)
  by_cases hj:j<r.length
  ·rw [List.getElem?_append_left hj] at hv
   have:=H 0 r rfl
   rw [Nat.zero_mul] at this
   exact this j v hv
  rw [List.getElem?_append_right (by omega)] at hv
  have:=cellsH_flat (rows:=rs) (o:=o+sz) (fun x hx=>hl x (List.mem_cons_of_mem _ hx)) (fun i x hx=>by
   have:=H (i+1) x hx
   rw [Nat.add_mul,Nat.one_mul] at this
   rw [show o+sz+i*sz=o+(i*sz+sz) by omega]
   exact this) (j - r.length) v hv
  rw [show o+j=o+sz+(j - r.length) by omega]
  exact this
theorem list_lt {α:Type} {p:Nat→α→Prop}:∀ {n:Nat},(∀i,i<n → ∃a,p i a) → ∃l:List α,l.length=n ∧ ∀i (h:i<l.length),p i l[i]
 |0,_=>⟨[],rfl,fun _ h=>absurd h (Nat.not_lt_zero _)⟩
 |n+1,H=>by
  obtain ⟨l,hl,hp⟩:=list_lt (n:=n) (fun i hi=>H i (by omega))
  obtain ⟨a,ha⟩:=H n (by omega)
  refine ⟨l++[a],by simp [hl],fun i hi=>?_⟩
  by_cases h:i<l.length
  ·rw [List.getElem_append_left h];exact hp i h
  have:i=n:=by simp at hi;omega
  subst this
  rw [List.getElem_append_right (by omega)]
  simpa [hl] using ha
end
end Go.Fw

namespace Go.Fw
open Go Go.RowKit Go.WideShapes Go.ChangeShapes
section
variable {H:Type} {enc:TypeId×Value→H} {P:Program} {w:World} {base:Nat} {sp:Nat→Bool} {held:Bool}
inductive Sc where
 |b
 |s
 |i (k:IntKind)
def Sc.ok:Sc→Value→Prop
 | .b,v=>∃x,v=.bool x
 | .s,v=>∃x:ByteArray,v=.string x∧x.size≤maxLen
 | .i k,v=>∃n,v=.int k n∧(Lit.int k n).wf=true
def Sc.und:Sc→TypeDesc
 | .b=>.bool
 | .s=>.string
 | .i k=>.int k
theorem trod_sc {t:TypeId} {k:Sc} (ht:P.underlying t=some k.und) {fuel:Nat} {cs:List Value} {x:DataW H×List MemPlace} (h:DataW.trod enc P w base sp held fuel t cs=some x):∃v,cs=[v]∧k.ok v:=by
 cases k with
 |b=>obtain ⟨b,e,_⟩:=DataW.trod_bool ht h;exact ⟨_,e,b,rfl⟩
 |s=>obtain ⟨s,e,_,m⟩:=DataW.trod_string ht h;exact ⟨_,e,s,rfl,m⟩
 |i k=>obtain ⟨n,e,_,m⟩:=DataW.trod_int ht h;exact ⟨_,e,n,rfl,m⟩
end
end Go.Fw

namespace Go.RatM
open Go Go.Fw Go.NatM
structure Un where
 name:ByteArray
 of_:ByteArray
 n:Int
 d:Int
 base:Int
 scale:Rt
def Un.row (u:Un):List Value:=[.string u.name,.string u.of_,.int .i64 u.n,.int .i64 u.d,.int .i64 u.base,.bool u.scale.neg,.string u.scale.n,.string u.scale.d]
def Un.v (u:Un):Value:=.agg u.row.toArray
theorem Un.ext8 {u v:Un} (h:u.name=v.name∧u.of_=v.of_∧u.n=v.n∧u.d=v.d∧u.base=v.base∧u.scale.neg=v.scale.neg∧u.scale.n=v.scale.n∧u.scale.d=v.scale.d):u=v:=by
 obtain ⟨a,b,c,d,e,⟨f,g,i⟩⟩:=u
 obtain ⟨a',b',c',d',e',⟨f',g',i'⟩⟩:=v
 obtain ⟨rfl,rfl,rfl,rfl,rfl,rfl,rfl,rfl⟩:=h
 rfl
theorem Un.ext8_iff {u v:Un}:u=v↔(u.name=v.name∧u.of_=v.of_∧u.n=v.n∧u.d=v.d∧u.base=v.base∧u.scale.neg=v.scale.neg∧u.scale.n=v.scale.n∧u.scale.d=v.scale.d):=
 ⟨fun e=>by subst e;simp,Un.ext8⟩
instance:DecidableEq Un:=fun _ _=>decidable_of_iff _ Un.ext8_iff.symm
def rowsU (l:List Un):List (List Value):=l.map Un.row
theorem rowsU_len (l:List Un):(rowsU l).length=l.length:=by simp [rowsU]
theorem rowsU_get {l:List Un} {k:Nat} (hk:k<l.length):(rowsU l)[k]? = some l[k].row:=by simp [rowsU,hk]
def findI (l:List Un) (nm:ByteArray):Int:=match l.findIdx? (fun u=>decide (u.name=nm)) with
 |some k=>k
 |none=> -1
theorem findI_none {l:List Un} {nm:ByteArray}:findI l nm = -1 ↔ ∀u∈l,u.name≠nm:=by
 unfold findI
 cases h:l.findIdx? (fun u=>decide (u.name=nm)) with
 |none=>
  rw [List.findIdx?_eq_none_iff] at h
  simpa using h
 |some k=>
  rw [List.findIdx?_eq_some_iff_getElem] at h
  obtain ⟨hk,h1,_⟩:=h
  constructor
  ·intro e;dsimp only at e;omega
  intro e
  exact absurd (by simpa using h1) (e _ (List.getElem_mem hk))
theorem findI_some {l:List Un} {nm:ByteArray} {k:Nat}:findI l nm=k ↔ ∃hk:k<l.length,l[k].name=nm ∧ ∀j (hj:j<k),l[j].name≠nm:=by
 unfold findI
 cases h:l.findIdx? (fun u=>decide (u.name=nm)) with
 |none=>
  rw [List.findIdx?_eq_none_iff] at h
  constructor
  ·intro e;dsimp only at e;omega
  rintro ⟨hk,h1,_⟩
  have:=h _ (List.getElem_mem hk)
  simp [h1] at this
 |some m=>
  rw [List.findIdx?_eq_some_iff_getElem] at h
  obtain ⟨hm,h1,h2⟩:=h
  simp only [decide_eq_true_eq] at h1
  constructor
  ·intro e
   dsimp only at e
   obtain rfl:m=k:=by omega
   refine ⟨hm,h1,fun j hj=>?_⟩
   have:=h2 j hj
   simpa using this
  rintro ⟨hk,g1,g2⟩
  dsimp only
  rcases Nat.lt_trichotomy m k with h|h|h
  ·exact absurd h1 (g2 m h)
  ·omega
  have:=h2 k h
  simp [g1] at this
def one1:Rt:=encQ oq
abbrev btw (n:Int):Prop:=1≤n∧n≤1000000
def Un.re (u:Un) (b:Int) (s:Rt):Un:=⟨u.name,u.of_,u.n,u.d,b,s⟩
def stepU (x:List Un) (u:Un):Un ⊕ Int:=
 if u.of_=NatM.mt then (if u.n=0∧u.d=0 then .inl (u.re x.length one1) else .inr 90)
 else if btw u.n∧btw u.d then
  match x[(findI x u.of_).toNat]? with
  |some v=>if findI x u.of_<0 then .inr 110 else .inl (u.re v.base (mulR v.scale (newR u.n u.d).1).1)
  |none=>.inr 110
 else .inr 90
def resU:List Un→List Un→List Un ⊕ Int
 | [],x=>.inl x
 |u::l,x=>match stepU x u with
  | .inl v=>resU l (x++[v])
  | .inr e=>.inr e
def resolveU (l:List Un):List Un ⊕ Int:=
 if 32<l.length then .inr 90 else if ¬(l.map Un.name).Nodup then .inr 111 else resU l []
def checkU (l:List Un):Int:=match resolveU l with
 | .inr e=>e
 | .inl x=>if x=l then 0 else 90
def convU (l:List Un) (a b:Int) (r:Rt):Rt×Int:=
 if checkU l≠0 then (zr',checkU l) else
 match l[a.toNat]?,l[b.toNat]? with
 |some u,some v=>if a<0∨b<0∨u.base≠v.base then (zr',90) else
   if (mulR r u.scale).2≠0 then (zr',(mulR r u.scale).2) else divR (mulR r u.scale).1 v.scale
 |_,_=>(zr',90)
where zr':Rt:=⟨false,NatM.mt,NatM.mt⟩
def Sc1 (k:Nat) (u:Un):Prop:=∃q:Q,u.scale=encQ q∧q.Ok∧q.le k∧0<q.val
theorem Sc1.mono {k m:Nat} {u:Un} (h:Sc1 k u) (hk:k≤m):Sc1 m u:=by
 obtain ⟨q,h1,h2,h3,h4⟩:=h
 exact ⟨q,h1,h2,h3.mono hk,h4⟩
theorem newQ_pos {n d:Int} (hn:btw n) (hd:btw d):(newQ n d).Ok∧(newQ n d).le 3∧0<(newQ n d).val:=by
 refine ⟨newQ_ok (by omega),newQ_le (by have:(256:Nat)^3=16777216:=by decide
                                        omega) (by have:(256:Nat)^3=16777216:=by decide
                                                   omega),?_⟩
 rw [newQ_val (by omega)]
 have h1:(0:Rat)<(n:Rat):=by
  have:=(Rat.intCast_lt_intCast (a:=0) (b:=n)).2 (by omega)
  simpa using this
 have h2:(0:Rat)<(d:Rat):=by
  have:=(Rat.intCast_lt_intCast (a:=0) (b:=d)).2 (by omega)
  simpa using this
 exact Rat.mul_pos h1 (Rat.inv_pos.2 h2)
theorem stepU_sc {x:List Un} {u v:Un} {k:Nat} (hk:k+3≤256) (hk1:1≤k) (hx:∀w∈x,Sc1 k w) (h:stepU x u=.inl v):Sc1 (k+3) v:=by
 unfold stepU at h
 split at h
 ·split at h
  ·cases h
   exact ⟨oq,rfl,oq_ok,oq_le.mono (by omega),by rw [oq_val];decide⟩
  cases h
 split at h
 ·rename_i hb
  split at h
  ·rename_i w hw
   split at h
   ·cases h
   cases h
   obtain ⟨q,h1,h2,h3,h4⟩:=hx w (List.mem_of_getElem? hw)
   obtain ⟨n1,n2,n3⟩:=newQ_pos hb.1 hb.2
   obtain ⟨c,c1,c2,c3,c4⟩:=mulR_ok h2 n1 h3 n2 hk
   refine ⟨c,?_,c2,c3,by rw [c4];exact Rat.mul_pos h4 n3⟩
   show (mulR w.scale (newR u.n u.d).1).1=_
   rw [h1,newR_ok (by omega),c1]
  cases h
 cases h
end Go.RatM

namespace Go.Proofs.YtofjdbmcloemnaaGreatDoor
open Go Go.Fw Go.RatM
set_option maxRecDepth 100000
set_option maxHeartbeats 99999999
theorem between_fn {h:Array Obj} (n:Int):FnV Tryz.prog 63 #[.int .i64 n] h fun r h'=>r=.bool (decide (btw n))∧Keeps h.size h h':=by
 refine Fn.ofS (args:=[.int .i64 n]) Tryz.func63 (by kernel_rfl) rfl Tryz.ntmps63 rfl fun w0 cs=>?_
 conv=>whnf
 refine gS ?_;conv=>whnf
 repeat' (refine And.intro (fun hs=>?_) (fun hs=>?_)<;>(conv=>whnf))
 all_goals (
  refine RunsS.retU (UnwS.ret tab Tryz.func63 rfl fun Ez Hz Az Sz K=>⟨_,rfl,?_,K.keeps⟩)
  first|exact congrArg Value.bool (decide_eq_true (by omega)).symm|exact congrArg Value.bool (decide_eq_false (by omega)).symm|exact congrArg Value.bool (decide_eq_decide.2 (by omega))
 )
def unB (b:Nat) (u:Un):Nat×Fw.Blk:=(b,.cells 59 (toV u.row))
theorem twins1_fn (v u:Un):FnS Tryz.prog 99 1 [.agg (toV v.row),.ptr 0 0] [unB 0 u] (fun _:Unit=>True) (fun _=>.ret (.v (.bool (decide (v.name=u.name)))) 1 [unB 0 u]):=by
 refine FnS.of Tryz.func99 (by kernel_rfl) rfl Tryz.ntmps99 rfl fun E0 F h w0 cs=>?_
 conv=>whnf
 refine gS ?_;conv=>whnf
 try refine RunsS.retU ?_
 exact UnwS.ret tab Tryz.func99 rfl (eN () trivial)
abbrev strB (b:Nat) (s:ByteArray):Nat×Fw.Blk:=(b,.cells 9 [.v (.string s)])
theorem meant1_fn (v:Un) (s:ByteArray):FnS Tryz.prog 62 1 [.agg (toV v.row),.ptr 0 0] [strB 0 s] (fun _:Unit=>True) (fun _=>.ret (.v (.bool (decide (v.name=s)))) 1 [strB 0 s]):=by
 refine FnS.of Tryz.func62 (by kernel_rfl) rfl Tryz.ntmps62 rfl fun E0 F h w0 cs=>?_
 conv=>whnf
 refine gS ?_;conv=>whnf
 try refine RunsS.retU ?_
 exact UnwS.ret tab Tryz.func62 rfl (eN () trivial)
theorem idxT_fn (l:List Un) (hl:l.length≤9223372036854775807) (u:Un):FnS Tryz.prog 61 2 [.buf 0,.fn (.func 99) [] [.ptr 1 0]] [(0,.ro 8 (rowsU l)),unB 1 u] (fun _:Unit=>True)
  (fun _=>.ret (.v (.int .i64 (findI l u.name))) 2 [unB 1 u]):=by
 have hlr:=rowsU_len l
 obtain ⟨r,hr⟩:∃r,r=findI l u.name:=⟨_,rfl⟩
 rw [←hr]
 refine FnS.of Tryz.func61 (by kernel_rfl) rfl Tryz.ntmps61 rfl fun E0 F h w0 cs=>?_
 conv=>whnf
 refine gS ?_;conv=>whnf
 refine RunsS.subR [] (RunsS.loop (fun (k:Nat)=>[(8,.v (.int .i64 k)),(7,.v (.int .i64 (rowsU l).length)),(0,.buf 0),(1,.fn (.func 99) [] [.ptr 1 0])]) (fun (k:Nat)=>[(0,.ro 8 (rowsU l)),unB 1 u]) 2 (fun (k:Nat)=>k≤l.length ∧ ∀j (hj:j<k) (hjl:j<l.length),l[j].name≠u.name) (fun (k:Nat)=>l.length - k) ?round1 (0) ?J01) sH sH
 case J01=>exact (⟨Nat.zero_le _,fun j hj=>absurd hj (Nat.not_lt_zero _)⟩)
 rintro k hJ back
 conv=>whnf
 refine gS ?_;conv=>whnf
 refine ⟨fun hk=>?_,fun hk=>?_⟩<;>conv=>whnf
 ·have hk:k<l.length:=by omega
  conv=>whnf
  repeat ((first|refine oM ?_|refine oL ?_|refine oR ?_);(try intro _);conv=>whnf)
  refine ⟨_,rowsU_get hk,?_⟩;conv=>whnf
  try (refine oN ?_;conv=>whnf)
  have C:=twins1_fn l[k] u
  by_cases hn:l[k].name=u.name
  ·rw [decide_eq_true hn] at C
   refine RunsS.callN (C) [1] ?_ sH ?CNa2
   case CNa2=>rfl
   intro _ _
   conv=>whnf
   try refine gS ?_;conv=>whnf
   have:r=k:=by rw [hr];exact findI_some.2 ⟨hk,hn,fun j hj=>hJ.2 j hj (by omega)⟩
   rw [this]
   try refine RunsS.retU ?_
   exact UnwS.ret tab Tryz.func61 rfl (eN () trivial)
  rw [decide_eq_false hn] at C
  refine RunsS.callN (C) [1] ?_ sH ?CNa3
  case CNa3=>rfl
  intro _ _
  conv=>whnf
  try refine gS ?_;conv=>whnf
  repeat ((first|refine oM ?_|refine oL ?_|refine oR ?_);(try intro _);conv=>whnf)
  refine RunsS.subR [] (back (k+1) (by exact (⟨hk,fun j hj hjl=>(Nat.lt_succ_iff_lt_or_eq.1 hj).elim (fun hj=>hJ.2 j hj hjl) (fun e=>by subst e;exact hn)⟩)) (by (try dsimp only);omega)) sH sH
 conv=>whnf
 have:r = -1:=by
  rw [hr,findI_none]
  intro w hw
  obtain ⟨j,hj,rfl⟩:=List.getElem_of_mem hw
  exact hJ.2 j (by omega) hj
 rw [this]
 try refine RunsS.retU ?_
 exact UnwS.ret tab Tryz.func61 rfl (eN () trivial)

theorem contT_fn (l:List Un) (hl:l.length≤9223372036854775807) (u:Un):FnS Tryz.prog 98 2 [.buf 0,.fn (.func 99) [] [.ptr 1 0]] [(0,.ro 8 (rowsU l)),unB 1 u] (fun _:Unit=>True)
  (fun _=>.ret (.v (.bool (decide (0≤findI l u.name)))) 2 [unB 1 u]):=by
 have C:=idxT_fn l hl u
 obtain ⟨r,hr⟩:∃r,r=findI l u.name:=⟨_,rfl⟩
 rw [←hr] at C ⊢
 refine FnS.of Tryz.func98 (by kernel_rfl) rfl Tryz.ntmps98 rfl fun E0 F h w0 cs=>?_
 conv=>whnf
 refine gS ?_;conv=>whnf
 refine RunsS.callN (C) [0,1] ?_ sH ?CNa1
 case CNa1=>rfl
 intro _ _
 conv=>whnf
 refine gS ?_;conv=>whnf
 refine RunsS.retU ?_
 exact UnwS.ret tab Tryz.func98 rfl (eN () trivial)
theorem rowsU_take (l:List Un) (k:Nat):rowsU (l.take k)=(rowsU l).take k:=by simp [rowsU,List.map_take]
theorem findI_neg {l:List Un} {nm:ByteArray} (h:findI l nm<0):∀u∈l,u.name≠nm:=by
 refine findI_none.1 ?_
 unfold findI at h ⊢
 split at h
 ·omega
 rfl
theorem findI_nonneg {l:List Un} {nm:ByteArray} (h:0≤findI l nm):∃k:Nat,findI l nm=k ∧ ∃hk:k<l.length,l[k].name=nm ∧ ∀j (hj:j<k),l[j].name≠nm:=by
 obtain ⟨k,hk⟩:∃k:Nat,findI l nm=k:=⟨(findI l nm).toNat,by omega⟩
 exact ⟨k,hk,findI_some.1 hk⟩
theorem nodup_succ {l:List Un} {k:Nat} (hk:k<l.length) (h:((l.take k).map Un.name).Nodup) (hn:findI (l.take k) l[k].name<0):((l.take (k+1)).map Un.name).Nodup:=by
 rw [List.take_add_one,List.getElem?_eq_getElem hk,List.map_append]
 refine List.nodup_append.2 ⟨h,by simp,?_⟩
 intro a ha b hb e
 obtain ⟨u,hu,rfl⟩:=List.mem_map.1 ha
 simp only [Option.toList,List.map_cons,List.map_nil,List.mem_singleton] at hb
 exact findI_neg hn u hu (e.trans hb)
theorem not_nodup {l:List Un} {k:Nat} (hk:k<l.length) (hn:0≤findI (l.take k) l[k].name):¬(l.map Un.name).Nodup:=by
 intro h
 obtain ⟨j,_,hj,hnm,_⟩:=findI_nonneg hn
 rw [List.length_take] at hj
 rw [List.getElem_take] at hnm
 have h1:=(List.pairwise_iff_getElem.1 h) j k (by rw [List.length_map];omega) (by rw [List.length_map];omega) (by omega)
 simp only [List.getElem_map] at h1
 exact h1 hnm
theorem twins_fn {h:Array Obj} (l:List Un) {v:Value} (hv:Ro h v 8 (rowsU l)):FnV Tryz.prog 58 #[v] h fun r h'=>r=.bool (decide (¬(l.map Un.name).Nodup))∧Keeps h.size h h':=by
 have hl:=rowsU_len l
 have hm:=hv.len
 obtain ⟨r,hr⟩:∃r,r=decide (¬(l.map Un.name).Nodup):=⟨_,rfl⟩
 rw [←hr]
 refine Fn.ofG (envL [v]) 1 [.buf 0] [(0,.ro (8) (rowsU l))] (fun k=>k<_) Tryz.func58 (by kernel_rfl) rfl Tryz.ntmps58 rfl (fun _ hk=>hk) (Sat.ros (vs:=[v]) (l:=[(8,rowsU l)]) ⟨hv,trivial⟩) fun w0 cs=>?_
 conv=>whnf
 refine gS ?_;conv=>whnf
 refine RunsS.subR [] (RunsS.loop (fun (k:Nat)=>[(7,.v (.int .i64 k)),(6,.v (.int .i64 (rowsU l).length)),(5,.buf 0),(0,.buf 0)]) (fun (k:Nat)=>[(0,.ro 8 (rowsU l))]) 1 (fun (k:Nat)=>k≤l.length∧((l.take k).map Un.name).Nodup) (fun (k:Nat)=>l.length - k) ?round2 (0) ?J02) sH sH
 case J02=>exact (⟨Nat.zero_le _,by simp⟩)
 rintro k hJ back
 try dsimp only at hJ back
 conv=>whnf
 try dsimp only
 refine gS ?_;conv=>whnf
 refine ⟨fun hk=>?_,fun hk=>?_⟩<;>conv=>whnf
 ·have hk:k<l.length:=by omega
  conv=>whnf
  repeat ((first|refine oM ?_|refine oL ?_|refine oR ?_);(try intro _);conv=>whnf)
  refine ⟨_,rowsU_get hk,?_⟩;conv=>whnf
  try (refine oN ?_;conv=>whnf)
  repeat ((first|refine oM ?_|refine oL ?_|refine oR ?_);(try intro _);conv=>whnf)
  refine gS ?_;conv=>whnf
  have C:=contT_fn (l.take k) (by rw [List.length_take];omega) l[k]
  rw [rowsU_take] at C
  by_cases hn:0≤findI (l.take k) l[k].name
  ·rw [decide_eq_true hn] at C
   refine RunsS.callN (C) [2,1] ?_ sH ?CNa3
   case CNa3=>rfl
   intro _ _
   conv=>whnf
   refine gS ?_;conv=>whnf
   have:r=true:=by rw [hr];exact decide_eq_true (not_nodup hk hn)
   rw [this]
   refine RunsS.retU (UnwS.ret tab Tryz.func58 rfl fun _ _ _ _ K=>⟨_,rfl,rfl,K.keeps⟩)
  rw [decide_eq_false hn] at C
  refine RunsS.callN (C) [2,1] ?_ sH ?CNa4
  case CNa4=>rfl
  intro _ _
  conv=>whnf
  refine gS ?_;conv=>whnf
  repeat ((first|refine oM ?_|refine oL ?_|refine oR ?_);(try intro _);conv=>whnf)
  refine RunsS.subR [] (back (k+1) (by exact (⟨hk,nodup_succ hk hJ.2 (by omega)⟩)) (by (try dsimp only);omega)) sH sH
 conv=>whnf
 have hk:k=l.length:=by omega
 have hnd:=hJ.2
 rw [hk,List.take_length] at hnd
 have:r=false:=by rw [hr];exact decide_eq_false (fun h=>h hnd)
 rw [this]
 refine RunsS.retU (UnwS.ret tab Tryz.func58 rfl fun _ _ _ _ K=>⟨_,rfl,rfl,K.keeps⟩)

abbrev ownU (b:Nat) (l:List Un):Nat×Fw.Blk:=(b,.own 59 8 (rowsU l))
abbrev cellU (b:Nat) (x:SV):Nat×Fw.Blk:=(b,.cells 22 [x])
theorem idxM_fn (l:List Un) (hl:l.length≤9223372036854775807) (s:ByteArray):FnS Tryz.prog 61 2 [.buf 0,.fn (.func 62) [] [.ptr 1 0]] [ownU 0 l,strB 1 s] (fun _:Unit=>True)
  (fun _=>.ret (.v (.int .i64 (findI l s))) 2 [ownU 0 l,strB 1 s]):=by
 have hlr:=rowsU_len l
 obtain ⟨r,hr⟩:∃r,r=findI l s:=⟨_,rfl⟩
 rw [←hr]
 refine FnS.of Tryz.func61 (by kernel_rfl) rfl Tryz.ntmps61 rfl fun E0 F h w0 cs=>?_
 conv=>whnf
 refine gS ?_;conv=>whnf
 refine RunsS.subR [] (RunsS.loop (fun (k:Nat)=>[(8,.v (.int .i64 k)),(7,.v (.int .i64 (rowsU l).length)),(0,.buf 0),(1,.fn (.func 62) [] [.ptr 1 0])]) (fun (k:Nat)=>[ownU 0 l,strB 1 s]) 2 (fun (k:Nat)=>k≤l.length ∧ ∀j (hj:j<k) (hjl:j<l.length),l[j].name≠s) (fun (k:Nat)=>l.length - k) ?round1 (0) ?J01) sH sH
 case J01=>exact (⟨Nat.zero_le _,fun j hj=>absurd hj (Nat.not_lt_zero _)⟩)
 rintro k hJ back
 conv=>whnf
 refine gS ?_;conv=>whnf
 refine ⟨fun hk=>?_,fun hk=>?_⟩<;>conv=>whnf
 ·have hk:k<l.length:=by omega
  conv=>whnf
  repeat ((first|refine oM ?_|refine oL ?_|refine oR ?_);(try intro _);conv=>whnf)
  refine ⟨_,rowsU_get hk,?_⟩;conv=>whnf
  try (refine oN ?_;conv=>whnf)
  have C:=meant1_fn l[k] s
  by_cases hn:l[k].name=s
  ·rw [decide_eq_true hn] at C
   refine RunsS.callN (C) [1] ?_ sH ?CNa2
   case CNa2=>rfl
   intro _ _
   conv=>whnf
   refine gS ?_;conv=>whnf
   have:r=k:=by rw [hr];exact findI_some.2 ⟨hk,hn,fun j hj=>hJ.2 j hj (by omega)⟩
   rw [this]
   refine RunsS.retU ?_
   exact UnwS.ret tab Tryz.func61 rfl (eN () trivial)
  rw [decide_eq_false hn] at C
  refine RunsS.callN (C) [1] ?_ sH ?CNa3
  case CNa3=>rfl
  intro _ _
  conv=>whnf
  refine gS ?_;conv=>whnf
  repeat ((first|refine oM ?_|refine oL ?_|refine oR ?_);(try intro _);conv=>whnf)
  refine RunsS.subR [] (back (k+1) (by exact (⟨hk,fun j hj hjl=>(Nat.lt_succ_iff_lt_or_eq.1 hj).elim (fun hj=>hJ.2 j hj hjl) (fun e=>by subst e;exact hn)⟩)) (by (try dsimp only);omega)) sH sH
 conv=>whnf
 have:r = -1:=by
  rw [hr,findI_none]
  intro w hw
  obtain ⟨j,hj,rfl⟩:=List.getElem_of_mem hw
  exact hJ.2 j (by omega) hj
 rw [this]
 refine RunsS.retU ?_
 exact UnwS.ret tab Tryz.func61 rfl (eN () trivial)
theorem meant_fn (l:List Un) (hl:l.length≤9223372036854775807) (s:ByteArray):FnS Tryz.prog 60 2 [.v (.string s),.ptr 0 0] [cellU 0 (.buf 1),ownU 1 l] (fun _:Unit=>True)
  (fun _=>.ret (.v (.int .i64 (findI l s))) 2 [cellU 0 (.buf 1),ownU 1 l]):=by
 have C:=idxM_fn l hl s
 refine FnS.of Tryz.func60 (by kernel_rfl) rfl Tryz.ntmps60 rfl fun E0 F h w0 cs=>?_
 conv=>whnf
 refine gS ?_;conv=>whnf
 refine RunsS.callN (C) [1,2] ?_ sH ?CNa5
 case CNa5=>rfl
 intro _ _
 conv=>whnf
 refine gS ?_;conv=>whnf
 refine RunsS.retU ?_
 exact UnwS.ret tab Tryz.func60 rfl (eN () trivial)
end Go.Proofs.YtofjdbmcloemnaaGreatDoor

namespace Go.Proofs.YtofjdbmcloemnaaGreatDoor
open Go Go.Fw Go.NatM Go.RatM
set_option maxRecDepth 100000
set_option maxHeartbeats 99999999
def TabT (F:Nat→Prop) (h:Array Obj):Prop:=TabH h∧F 2
theorem tabOk:TOk TabT:=by
 refine ⟨fun F F' h hs hT=>⟨hT.1,hs _ hT.2⟩,fun F h h' hT K=>⟨fun j hj=>?_,hT.2⟩⟩
 rw [←hT.1 j hj]
 unfold cellH
 rw [K.same _ hT.2]
theorem TabH.t {h:Array Obj} (hT:TabH h):TabT (fun k=>k<h.size) h:=⟨hT,cellH_lt (hT 0 (by decide))⟩
def foldM:List Rt→Rt→Rt×Int
 | [],a=>(a,0)
 |b::l,a=>if (mulR a b).2=0 then foldM l (mulR a b).1 else mulR a b
theorem fold_fn {h:Array Obj} (l:List Rt) (a:Rt) {v:Value} (hv:Ro h v 3 (rowsR l)) (hT:TabH h):FnV Tryz.prog 64 #[v,a.v,.func (.func 65) #[] #[]] h fun r h'=>r=rev (foldM l a)∧Keeps h.size h h':=by
 have hl:=rowsR_len l
 have hm:=hv.len
 obtain ⟨r,hr⟩:∃r,r=foldM l a:=⟨_,rfl⟩
 rw [←hr]
 refine Fn.ofG (envL [v]) 1 [.buf 0,.agg [.v (.bool a.neg),.v (.string a.n),.v (.string a.d)],.fn (.func 65) [] []] [(0,.ro (3) (rowsR l))] (fun k=>k<_) Tryz.func64 (by kernel_rfl) rfl Tryz.ntmps64 rfl (fun _ hk=>hk) (Sat.ros (vs:=[v]) (l:=[(3,rowsR l)]) ⟨hv,trivial⟩) fun w0 cs=>?_
 conv=>whnf
 refine gS ?_;conv=>whnf
 refine RunsS.subR [] (RunsS.loop (fun (⟨k,acc⟩:Nat×Rt)=>[(13,.v (.int .i64 k)),(12,.v (.int .i64 (rowsR l).length)),(11,.buf 0),(6,.ptr 2 0),(4,.ptr 1 0),(2,.fn (.func 65) [] [])]) (fun (⟨k,acc⟩:Nat×Rt)=>[(2,.cells 57 [.v (.bool false),.v (.string ⟨#[]⟩),.v (.string ⟨#[]⟩)]),(1,.cells 57 [.v (.bool acc.neg),.v (.string acc.n),.v (.string acc.d)]),(0,.ro 3 (rowsR l))]) 3 (fun (⟨k,acc⟩:Nat×Rt)=>k≤l.length∧r=foldM (l.drop k) acc) (fun (⟨k,acc⟩:Nat×Rt)=>l.length - k) ?round1 ((0,a)) ?J01) sH sH
 case J01=>exact (⟨Nat.zero_le _,hr⟩)
 rintro ⟨k,acc⟩ hJ back
 try dsimp only at hJ back
 conv=>whnf
 try dsimp only
 refine gS ?_;conv=>whnf
 refine ⟨fun hk=>?_,fun hk=>?_⟩<;>conv=>whnf
 ·have hk:k<l.length:=by omega
  have hd:l.drop k=l[k]::l.drop (k+1):=List.drop_eq_getElem_cons hk
  have hJ2:=hJ.2
  rw [hd] at hJ2
  unfold foldM at hJ2
  conv=>whnf
  repeat ((first|refine oM ?_|refine oL ?_|refine oR ?_);(try intro _);conv=>whnf)
  refine ⟨_,rowsR_get hk,?_⟩;conv=>whnf
  try (refine oN ?_;conv=>whnf)
  refine RunsS.callV (fun Ez Hz Az Sz K=>qMul_fn acc l[k] (hT.keeps ⟨K.size,K.same⟩)) ?_
  conv=>whnf
  refine gS ?_;conv=>whnf
  refine ⟨fun o1=>?_,fun o1=>?_⟩<;>conv=>whnf
  ·conv=>whnf
   repeat ((first|refine oM ?_|refine oL ?_|refine oR ?_);(try intro _);conv=>whnf)
   rw [if_pos o1] at hJ2
   refine RunsS.subR [] (back ((k+1,(mulR acc l[k]).1)) (by exact (⟨hk,hJ2⟩)) (by (try dsimp only);omega)) sH sH
  conv=>whnf
  rw [if_neg o1] at hJ2
  rw [hJ2]
  refine RunsS.retU (UnwS.ret tab Tryz.func64 rfl fun _ _ _ _ K=>⟨_,rfl,rfl,K.keeps⟩)
 have hk:k=l.length:=by omega
 have hJ2:=hJ.2
 rw [hk,List.drop_length] at hJ2
 conv=>whnf
 rw [hJ2]
 refine RunsS.retU (UnwS.ret tab Tryz.func64 rfl fun _ _ _ _ K=>⟨_,rfl,rfl,K.keeps⟩)
end Go.Proofs.YtofjdbmcloemnaaGreatDoor

namespace Go.RatM
open Go Go.Fw Go.NatM
theorem stepU_fields {x:List Un} {u v:Un} (h:stepU x u=.inl v):v.name=u.name∧v.of_=u.of_∧v.n=u.n∧v.d=u.d:=by
 unfold stepU at h
 split at h
 ·split at h
  ·cases h;exact ⟨rfl,rfl,rfl,rfl⟩
  cases h
 split at h
 ·split at h
  ·split at h
   ·cases h
   cases h;exact ⟨rfl,rfl,rfl,rfl⟩
  cases h
 cases h
def ResP (l x:List Un):Prop:=x.length=l.length ∧ ∀i (h:i<l.length) (h':i<x.length),stepU (x.take i) l[i]=.inl x[i]
theorem ResP.base {l x:List Un} (h:ResP l x) {i:Nat} (hi:i<x.length) (he:x[i].of_=NatM.mt):x[i].base=i∧x[i].scale=one1:=by
 have hi':i<l.length:=by rw [←h.1];exact hi
 have hs:=h.2 i hi' hi
 have e1:=(stepU_fields hs).2.1
 unfold stepU at hs
 rw [if_pos (e1▸he)] at hs
 split at hs
 ·have hs:=Sum.inl.inj hs
  rw [←hs]
  refine ⟨?_,rfl⟩
  show ((x.take i).length:Int)=i
  rw [List.length_take]
  omega
 cases hs
end Go.RatM

namespace Go.Proofs.YtofjdbmcloemnaaGreatDoor
open Go Go.Fw Go.NatM Go.RatM
set_option maxRecDepth 100000
set_option maxHeartbeats 99999999
def resO:List Un ⊕ Int→OutS
 | .inl x=>.ret (.tup [.buf 1,.v (.int .i64 0)]) 2 [ownU 1 x]
 | .inr e=>.ret (.tup [.v (.slice none 0 0),.v (.int .i64 e)]) 1 []
def scOk (x:List Un):Prop:=∀w∈x,Sc1 (1+3*x.length) w
theorem scOk.nil:scOk []:=fun w hw=>by cases hw
theorem scOk.step {x:List Un} {u v:Un} (hx:scOk x) (hl:x.length<32) (h:stepU x u=.inl v):scOk (x++[v]):=by
 intro w hw
 have hs:=stepU_sc (k:=1+3*x.length) (by omega) (by omega) hx h
 have hle:(x++[v]).length=x.length+1:=by simp
 rw [hle]
 rcases List.mem_append.1 hw with hw|hw
 ·exact (hx w hw).mono (by omega)
 rw [List.mem_singleton.1 hw];exact hs.mono (by omega)
theorem mulR_one {q:Q} {k:Nat} (ok:q.Ok) (hk:q.le k) (h:k≤255):mulR one1 (encQ q)=(encQ q,0):=by
 obtain ⟨c,c1,c2,c3,c4⟩:=mulR_ok oq_ok ok oq_le hk (by omega)
 have:c=q:=Q.inj c2 ok (by rw [c4,oq_val];grind)
 subst this
 exact c1
theorem mulR_new {q:Q} {k:Nat} {n d:Int} (ok:q.Ok) (hk:q.le k) (h:k+3≤256) (hn:btw n) (hd:btw d):(mulR (encQ q) (newR n d).1).2=0:=by
 obtain ⟨n1,n2,n3⟩:=newQ_pos hn hd
 obtain ⟨c,c1,c2,c3,c4⟩:=mulR_ok ok n1 hk n2 h
 rw [newR_ok (by omega),c1]
theorem foldM_two {q:Q} {k:Nat} {n d:Int} (ok:q.Ok) (hk:q.le k) (h:k+3≤256) (hn:btw n) (hd:btw d):foldM [encQ q,(newR n d).1] one1=((mulR (encQ q) (newR n d).1).1,0):=by
 have h1:=mulR_new ok hk h hn hd
 unfold foldM
 rw [mulR_one ok hk (by omega),if_pos rfl]
 unfold foldM
 rw [if_pos h1]
 rfl
abbrev rtB (b:Nat) (a:Rt):Nat×Fw.Blk:=(b,.cells 57 [.v (.bool a.neg),.v (.string a.n),.v (.string a.d)])
theorem rowsU_app (x:List Un) (v:Un):rowsU x++[v.row]=rowsU (x++[v]):=by simp [rowsU]
theorem foldM_nil:foldM [] one1=(one1,0):=rfl
theorem newR_one:newR 1 1=(one1,0):=(newR_ok (by decide)).trans (by rw [show newQ 1 1=oq from rfl];rfl)
theorem resolve_fn (l:List Un) (hl:l.length≤9223372036854775807) (hi:∀u∈l,(-9223372036854775808≤u.n∧u.n≤9223372036854775807)∧(-9223372036854775808≤u.d∧u.d≤9223372036854775807)):
  FnT Tryz.prog TabT 28 1 [.buf 0] [(0,.ro 8 (rowsU l))] (fun _:Unit=>True) (fun _=>resO (resolveU l)):=by
 have hlr:=rowsU_len l
 obtain ⟨r,hr⟩:∃r,r=resolveU l:=⟨_,rfl⟩
 rw [←hr]
 unfold resolveU at hr
 refine FnT.of Tryz.func28 (by kernel_rfl) rfl Tryz.ntmps28 rfl fun E0 F h hT w0 cs=>?_
 conv=>whnf
 refine gS ?_;conv=>whnf
 refine ⟨fun h1=>?_,fun h1=>?_⟩<;>conv=>whnf
 ·rw [if_pos (by omega)] at hr
  subst hr
  conv=>whnf
  refine RunsS.retU ?_
  exact UnwS.ret tab Tryz.func28 rfl (eN () trivial)
 rw [if_neg (by omega)] at hr
 have h1:l.length≤32:=by omega
 conv=>whnf
 by_cases hn:(l.map Un.name).Nodup
 ·rw [if_neg (fun h=>h hn)] at hr
  refine RunsS.callV (fun Ez Hz Az Sz K=>twins_fn l (Sz.ro (b:=0) rfl)) ?_
  conv=>whnf
  rw [decide_eq_false (fun h=>h hn)]
  try dsimp only
  refine gS ?_;conv=>whnf
  refine RunsS.callV (fun Ez Hz Az Sz K=>qNew_fn 1 1 (by omega) (by omega) (tabOk.at hT K).1) ?_
  conv=>whnf
  rw [newR_one]
  refine gS ?_;conv=>whnf
  refine RunsS.subR (nx':=3) (l':=[(25,.v (.int .i64 0)),(24,.v (.int .i64 (rowsU l).length)),(23,.buf 0),(6,.fn (.func 60) [] [.ptr 1 0]),(4,.ptr 2 0),(3,.v (.int .i64 0)),(2,.ptr 1 0)]) (H':=[rtB 2 one1,cellU 1 (.v (.slice none 0 0)),(0,.ro 8 (rowsU l))]) [] ?_ sH sH
  refine RunsS.nilOwn (l':=[(25,.v (.int .i64 0)),(24,.v (.int .i64 (rowsU l).length)),(23,.buf 0),(6,.fn (.func 60) [] [.ptr 1 0]),(4,.ptr 2 0),(3,.v (.int .i64 0)),(2,.ptr 1 0)]) (H':=[rtB 2 one1,cellU 1 (.buf 3),(0,.ro 8 (rowsU l))]) 59 8 ?_ (by rfl) (by rfl) (by rfl)
  refine RunsS.subR [] (RunsS.loop (fun (⟨k,x⟩:Nat×List Un)=>[(25,.v (.int .i64 k)),(24,.v (.int .i64 (rowsU l).length)),(23,.buf 0),(6,.fn (.func 60) [] [.ptr 1 0]),(4,.ptr 2 0),(3,.v (.int .i64 0)),(2,.ptr 1 0)]) (fun (⟨k,x⟩:Nat×List Un)=>[ownU 3 x,rtB 2 one1,cellU 1 (.buf 3),(0,.ro 8 (rowsU l))]) 4 (fun (⟨k,x⟩:Nat×List Un)=>k≤l.length∧x.length=k∧scOk x∧r=resU (l.drop k) x) (fun (⟨k,x⟩:Nat×List Un)=>l.length - k) ?round1 ((0,[])) ?J01) sH sH
  case J01=>exact (⟨Nat.zero_le _,rfl,scOk.nil,hr⟩)
  rintro ⟨k,x⟩ hJ back
  try dsimp only at hJ back
  conv=>whnf
  try dsimp only
  refine gS ?_;conv=>whnf
  refine ⟨fun hk=>?_,fun hk=>?_⟩<;>conv=>whnf
  ·have hk:k<l.length:=by omega
   have hd:l.drop k=l[k]::l.drop (k+1):=List.drop_eq_getElem_cons hk
   obtain ⟨hJ1,hJ2,hJ3,hJ4⟩:=hJ
   rw [hd] at hJ4
   simp only [resU] at hJ4
   conv=>whnf
   repeat ((first|refine oM ?_|refine oL ?_|refine oR ?_);(try intro _);conv=>whnf)
   refine ⟨_,rowsU_get hk,?_⟩;conv=>whnf
   try (refine oN ?_;conv=>whnf)
   refine ⟨fun e0=>?_,fun e0=>?_⟩<;>conv=>whnf
   ·have st:stepU x l[k]=if l[k].n=0∧l[k].d=0 then .inl (l[k].re k one1) else .inr 90:=by
     unfold stepU
     rw [if_pos e0,hJ2]
    by_cases hz:l[k].n=0∧l[k].d=0
    ·rw [if_pos hz] at st
     rw [st] at hJ4
     conv=>whnf
     repeat ((first|refine oM ?_|refine oL ?_|refine oR ?_);(try intro _);conv=>whnf)
     refine RunsS.callV (fun Ez Hz Az Sz K=>fold_fn [] one1 Ro.nil (tabOk.at hT K).1) ?_
     conv=>whnf
     rw [foldM_nil]
     try dsimp only
     refine gS ?_;conv=>whnf
     repeat ((first|refine oM ?_|refine oL ?_|refine oR ?_);(try intro _);conv=>whnf)
     refine And.intro (appOb (by rw [rowsU_len];omega)) ?_;conv=>whnf
     conv=>whnf
     repeat ((first|refine oM ?_|refine oL ?_|refine oR ?_);(try intro _);conv=>whnf)
     refine RunsS.rowsEq (6) (rowsU_app x (l[k].re k one1)) ?_;conv=>whnf
     refine RunsS.subR [(3,6)] (back ((k+1,x++[(l[k].re k one1)])) (by exact (⟨hk,by rw [List.length_append,hJ2];rfl,hJ3.step (by omega) st,hJ4⟩)) (by (try dsimp only);omega)) sH sH
    rw [if_neg hz] at st
    rw [st] at hJ4
    subst hJ4
    by_cases hz1:l[k].n=0
    ·have hz2:l[k].d≠0:=fun e=>hz ⟨hz1,e⟩
     conv=>whnf
     repeat ((first|refine oM ?_|refine oL ?_|refine oR ?_);(try intro _);conv=>whnf)
     refine RunsS.retU ?_
     exact UnwS.ret tab Tryz.func28 rfl (eN () trivial)
    conv=>whnf
    repeat ((first|refine oM ?_|refine oL ?_|refine oR ?_);(try intro _);conv=>whnf)
    refine RunsS.retU ?_
    exact UnwS.ret tab Tryz.func28 rfl (eN () trivial)
   conv=>whnf
   have hi':=hi l[k] (List.getElem_mem hk)
   by_cases b1:btw l[k].n
   ·refine RunsS.callV (fun Ez Hz Az Sz K=>between_fn l[k].n) ?_
    conv=>whnf
    rw [decide_eq_true b1]
    try dsimp only
    refine gS ?_;conv=>whnf
    by_cases b2:btw l[k].d
    ·refine RunsS.callV (fun Ez Hz Az Sz K=>between_fn l[k].d) ?_
     conv=>whnf
     rw [decide_eq_true b2]
     try dsimp only
     refine gS ?_;conv=>whnf
     by_cases hf:findI x l[k].of_<0
     ·have st:stepU x l[k]=.inr 110:=by
       unfold stepU
       rw [if_neg e0,if_pos ⟨b1,b2⟩]
       split
       ·rw [if_pos hf]
       rfl
      rw [st] at hJ4
      subst hJ4
      refine RunsS.callN (meant_fn x (by omega) l[k].of_) [1,3] ?_ sH ?CNa3
      case CNa3=>rfl
      intro _ _
      conv=>whnf
      refine gS ?_;conv=>whnf
      repeat ((first|refine oM ?_|refine oL ?_|refine oR ?_);(try intro _);conv=>whnf)
      refine RunsS.retU ?_
      exact UnwS.ret tab Tryz.func28 rfl (eN () trivial)
     obtain ⟨j,hj,hj1,hj2⟩:=findI_nonneg (l:=x) (nm:=l[k].of_) (by omega)
     have st:stepU x l[k]=.inl (l[k].re x[j].base (mulR x[j].scale (newR l[k].n l[k].d).1).1):=by
      unfold stepU
      rw [if_neg e0,if_pos ⟨b1,b2⟩,hj,Int.toNat_natCast,List.getElem?_eq_getElem hj1]
      exact if_neg (by omega)
     rw [st] at hJ4
     obtain ⟨q,q1,q2,q3,q4⟩:=hJ3 x[j] (List.getElem_mem hj1)
     have fm:foldM [x[j].scale,(newR l[k].n l[k].d).1] one1=((mulR x[j].scale (newR l[k].n l[k].d).1).1,0):=by rw [q1];exact foldM_two q2 q3 (by omega) b1 b2
     have nm:newR l[k].n l[k].d=((newR l[k].n l[k].d).1,0):=by rw [newR_ok (by omega)]
     have C:=meant_fn x (by omega) l[k].of_
     rw [hj] at C
     have hxr:=rowsU_len x
     refine RunsS.callN (C) [1,3] ?_ sH ?CNa4
     case CNa4=>rfl
     intro _ _
     conv=>whnf
     refine gS ?_;conv=>whnf
     repeat ((first|refine oM ?_|refine oL ?_|refine oR ?_);(try intro _);conv=>whnf)
     refine RunsS.callV (fun Ez Hz Az Sz K=>qNew_fn l[k].n l[k].d hi'.1 hi'.2 (tabOk.at hT K).1) ?_
     conv=>whnf
     rw [nm]
     try dsimp only
     refine gS ?_;conv=>whnf
     repeat ((first|refine oM ?_|refine oL ?_|refine oR ?_);(try intro _);conv=>whnf)
     refine ⟨_,rowsU_get hj1,?_⟩;conv=>whnf
     refine RunsS.held tab (.fl 0 (.fl 1 (.fl 2 (.fl 3 (.fl 4 (.fl 5 (.e1 6 [] (.fl 7 .done)))))))) (by kernel_rfl) ?_;conv=>whnf
     try refine gR ?_;conv=>whnf
     repeat ((first|refine oM ?_|refine oL ?_|refine oR ?_|refine oB ?_);(try intro _);conv=>whnf)
     conv=>whnf
     refine ⟨_,rowsU_get hj1,?_⟩;conv=>whnf
     try (refine oN ?_;conv=>whnf)
     conv=>whnf
     repeat ((first|refine oM ?_|refine oL ?_|refine oR ?_|refine oB ?_);(try intro _);conv=>whnf)
     refine gS ?_;conv=>whnf
     refine RunsS.callV (fun Ez Hz Az Sz K=>fold_fn [x[j].scale,(newR l[k].n l[k].d).1] one1 (Sz.ro (b:=6) rfl) (tabOk.at hT K).1) ?_
     conv=>whnf
     rw [fm]
     try dsimp only
     refine gS ?_;conv=>whnf
     repeat ((first|refine oM ?_|refine oL ?_|refine oR ?_);(try intro _);conv=>whnf)
     refine And.intro (appOb (by rw [rowsU_len];omega)) ?_;conv=>whnf
     conv=>whnf
     repeat ((first|refine oM ?_|refine oL ?_|refine oR ?_);(try intro _);conv=>whnf)
     refine RunsS.rowsEq (8) (rowsU_app x (l[k].re x[j].base (mulR x[j].scale (newR l[k].n l[k].d).1).1)) ?_;conv=>whnf
     refine RunsS.subR [(3,8)] (back ((k+1,x++[l[k].re x[j].base (mulR x[j].scale (newR l[k].n l[k].d).1).1])) (by exact (⟨hk,by rw [List.length_append,hJ2];rfl,hJ3.step (by omega) st,hJ4⟩)) (by (try dsimp only);omega)) sH sH
    have st:stepU x l[k]=.inr 90:=by
     unfold stepU
     rw [if_neg e0,if_neg fun h=>b2 h.2]
    rw [st] at hJ4
    subst hJ4
    refine RunsS.callV (fun Ez Hz Az Sz K=>between_fn l[k].d) ?_
    conv=>whnf
    rw [decide_eq_false b2]
    try dsimp only
    refine gS ?_;conv=>whnf
    refine RunsS.retU ?_
    exact UnwS.ret tab Tryz.func28 rfl (eN () trivial)
   have st:stepU x l[k]=.inr 90:=by
    unfold stepU
    rw [if_neg e0,if_neg fun h=>b1 h.1]
   rw [st] at hJ4
   subst hJ4
   refine RunsS.callV (fun Ez Hz Az Sz K=>between_fn l[k].n) ?_
   conv=>whnf
   rw [decide_eq_false b1]
   try dsimp only
   refine gS ?_;conv=>whnf
   refine RunsS.retU ?_
   exact UnwS.ret tab Tryz.func28 rfl (eN () trivial)
  have hk:k=l.length:=by omega
  have hJ4:=hJ.2.2.2
  rw [hk,List.drop_length] at hJ4
  have hJ4:r=.inl x:=hJ4
  conv=>whnf
  rw [hJ4]
  refine RunsS.retU ?_
  exact UnwS.ret tab Tryz.func28 rfl (EndS.mk (()) (trivial) [(1,3)] sH rfl rfl (okRet rfl rfl))
 rw [if_pos hn] at hr
 subst hr
 refine RunsS.callV (fun Ez Hz Az Sz K=>twins_fn l (Sz.ro (b:=0) rfl)) ?_
 conv=>whnf
 rw [decide_eq_true hn]
 try dsimp only
 refine gS ?_;conv=>whnf
 refine RunsS.retU ?_
 exact UnwS.ret tab Tryz.func28 rfl (eN () trivial)

def UnOk (l:List Un):Prop:=∀u∈l,(-9223372036854775808≤u.n∧u.n≤9223372036854775807)∧(-9223372036854775808≤u.d∧u.d≤9223372036854775807)


abbrev FewS (a:Rt):Prop:=(a.n.size:Int)≤40∧(a.d.size:Int)≤40
def FewU (l:List Un):Prop:=(∀u∈l,FewS u.scale)∧l.length≤8
instance (l:List Un):Decidable (FewU l):=by unfold FewU;infer_instance

def sM:ByteArray:=⟨#[109]⟩
instance decRtU:DecidableEq Go.RatM.Rt:=fun a b=>decidable_of_iff (a.neg=b.neg∧a.n=b.n∧a.d=b.d) ⟨fun h=>by cases a;cases b;obtain ⟨rfl,rfl,rfl⟩:=h;rfl,fun h=>by subst h;exact ⟨rfl,rfl,rfl⟩⟩
instance (l:List Un):Decidable (UnOk l):=by unfold UnOk;infer_instance


theorem nodup_find {l:List Un}:(l.map Un.name).Nodup ↔ ∀k (hk:k<l.length),findI l l[k].name=k:=by
 constructor
 ·intro h k hk
  refine findI_some.2 ⟨hk,rfl,fun j hj e=>?_⟩
  have:=(List.pairwise_iff_getElem.1 h) j k (by rw [List.length_map];omega) (by rw [List.length_map];omega) hj
  simp only [List.getElem_map] at this
  exact this e
 intro h
 refine List.pairwise_iff_getElem.2 fun i j hi hj hij e=>?_
 rw [List.length_map] at hi hj
 rw [List.getElem_map,List.getElem_map] at e
 have h1:=h i hi
 have h2:=h j hj
 rw [←e,h1] at h2
 omega
theorem findI_names:∀ {x y:List Un} (nm:ByteArray),x.map Un.name=y.map Un.name→findI x nm=findI y nm:=by
 have key:∀(x:List Un) (nm:ByteArray),findI x nm=match (x.map Un.name).findIdx? (fun s=>decide (s=nm)) with|some k=>(k:Int)|none=> -1:=fun x nm=>by
  unfold findI
  rw [List.findIdx?_map]
  rfl
 intro x y nm h
 rw [key,key,h]
theorem findI_take {l:List Un} {i:Nat} (nm:ByteArray) (hi:i≤l.length):findI (l.take i) nm=if findI l nm<i then findI l nm else -1:=by
 by_cases h:findI l nm<0
 ·have h1:=findI_neg h
  rw [findI_none.2 h1,findI_none.2 fun u hu=>h1 u (List.mem_of_mem_take hu)]
  exact (if_pos (by omega)).symm
 obtain ⟨k,hk,hk1,hk2,hk3⟩:=findI_nonneg (l:=l) (nm:=nm) (by omega)
 rw [hk]
 by_cases hik:k<i
 ·rw [if_pos (by omega)]
  refine findI_some.2 ⟨by rw [List.length_take];omega,by rw [List.getElem_take];exact hk2,fun j hj=>?_⟩
  rw [List.getElem_take]
  exact hk3 j hj
 rw [if_neg (by omega)]
 refine findI_none.2 fun u hu e=>?_
 obtain ⟨j,hj,rfl⟩:=List.getElem_of_mem hu
 rw [List.length_take] at hj
 rw [List.getElem_take] at e
 exact hk3 j (by omega) e
theorem rfind_fn {h:Array Obj} (l:List Un) {v:Value} (hv:Ro h v 8 (rowsU l)) (s:ByteArray):FnV Tryz.prog 87 #[v,.string s] h fun r h'=>r=.int .i64 (findI l s)∧Keeps h.size h h':=by
 have hl:=rowsU_len l
 have hm:=hv.len
 obtain ⟨r,hr⟩:∃r,r=findI l s:=⟨_,rfl⟩
 rw [←hr]
 refine Fn.ofG (envL [v]) 1 [.buf 0,.v (.string s)] [(0,.ro (8) (rowsU l))] (fun k=>k<_) Tryz.func87 (by kernel_rfl) rfl Tryz.ntmps87 rfl (fun _ hk=>hk) (Sat.ros (vs:=[v]) (l:=[(8,rowsU l)]) ⟨hv,trivial⟩) fun w0 cs=>?_
 conv=>whnf
 refine gS ?_;conv=>whnf
 refine RunsS.subR [] (RunsS.loop (fun (k:Nat)=>[(5,.v (.int .i64 k)),(0,.buf 0),(1,.v (.string s))]) (fun (k:Nat)=>[(0,.ro 8 (rowsU l))]) 1 (fun (k:Nat)=>k≤l.length ∧ ∀j (hj:j<k) (hjl:j<l.length),l[j].name≠s) (fun (k:Nat)=>l.length - k) ?round1 (0) ?J01) sH sH
 case J01=>exact (⟨Nat.zero_le _,fun j hj=>absurd hj (Nat.not_lt_zero _)⟩)
 rintro k hJ back
 try dsimp only at hJ back
 conv=>whnf
 try dsimp only
 refine gS ?_;conv=>whnf
 refine ⟨fun hk=>?_,fun hk=>?_⟩<;>conv=>whnf
 ·have hk:k<l.length:=by omega
  conv=>whnf
  repeat ((first|refine oM ?_|refine oL ?_|refine oR ?_);(try intro _);conv=>whnf)
  refine ⟨_,rowsU_get hk,?_⟩;conv=>whnf
  refine ⟨fun hn=>?_,fun hn=>?_⟩<;>conv=>whnf
  ·conv=>whnf
   have:r=k:=by rw [hr];exact findI_some.2 ⟨hk,hn,fun j hj=>hJ.2 j hj (by omega)⟩
   rw [this]
   refine RunsS.retU (UnwS.ret tab Tryz.func87 rfl fun _ _ _ _ K=>⟨_,rfl,rfl,K.keeps⟩)
  conv=>whnf
  repeat ((first|refine oM ?_|refine oL ?_|refine oR ?_);(try intro _);conv=>whnf)
  refine RunsS.subR [] (back (k+1) (by exact (⟨hk,fun j hj hjl=>(Nat.lt_succ_iff_lt_or_eq.1 hj).elim (fun hj=>hJ.2 j hj hjl) (fun e=>by subst e;exact hn)⟩)) (by (try dsimp only);omega)) sH sH
 conv=>whnf
 have:r = -1:=by
  rw [hr,findI_none]
  intro w hw
  obtain ⟨j,hj,rfl⟩:=List.getElem_of_mem hw
  exact hJ.2 j (by omega) hj
 rw [this]
 refine RunsS.retU (UnwS.ret tab Tryz.func87 rfl fun _ _ _ _ K=>⟨_,rfl,rfl,K.keeps⟩)
def FitU (u:Un):Prop:=if u.of_=NatM.mt then u.n=0∧u.d=0 else btw u.n∧btw u.d
instance (u:Un):Decidable (FitU u):=by unfold FitU;infer_instance
theorem rfits_fn {h:Array Obj} (u:Un):FnV Tryz.prog 88 #[u.v] h fun r h'=>r=.bool (decide (FitU u))∧Keeps h.size h h':=by
 obtain ⟨r,hr⟩:∃r,r=decide (FitU u):=⟨_,rfl⟩
 rw [←hr]
 refine Fn.ofS (args:=[u.v]) Tryz.func88 (by kernel_rfl) rfl Tryz.ntmps88 rfl fun w0 cs=>?_
 conv=>whnf
 refine gS ?_;conv=>whnf
 refine ⟨fun h0=>?_,fun h0=>?_⟩<;>conv=>whnf
 ·conv=>whnf
  have e:FitU u↔(u.n=0∧u.d=0):=by unfold FitU;rw [if_pos h0]
  by_cases h1:u.n=0
  ·by_cases h2:u.d=0
   ·conv=>whnf
    repeat ((first|refine oM ?_|refine oL ?_|refine oR ?_);(try intro _);conv=>whnf)
    have:r=true:=by rw [hr];exact decide_eq_true (e.2 ⟨h1,h2⟩)
    rw [this]
    refine RunsS.retU (UnwS.ret tab Tryz.func88 rfl fun Ez Hz Az Sz K=>⟨_,rfl,?_,K.keeps⟩)
    exact congrArg Value.bool (decide_eq_true h2)
   conv=>whnf
   repeat ((first|refine oM ?_|refine oL ?_|refine oR ?_);(try intro _);conv=>whnf)
   have:r=false:=by rw [hr];exact decide_eq_false (fun h=>h2 (e.1 h).2)
   rw [this]
   refine RunsS.retU (UnwS.ret tab Tryz.func88 rfl fun Ez Hz Az Sz K=>⟨_,rfl,?_,K.keeps⟩)
   exact congrArg Value.bool (decide_eq_false h2)
  conv=>whnf
  repeat ((first|refine oM ?_|refine oL ?_|refine oR ?_);(try intro _);conv=>whnf)
  have:r=false:=by rw [hr];exact decide_eq_false (fun h=>h1 (e.1 h).1)
  rw [this]
  refine RunsS.retU (UnwS.ret tab Tryz.func88 rfl fun _ _ _ _ K=>⟨_,rfl,rfl,K.keeps⟩)
 conv=>whnf
 have e:FitU u↔(btw u.n∧btw u.d):=by unfold FitU;rw [if_neg h0]
 by_cases h1:btw u.n∧btw u.d
 ·have:r=true:=by rw [hr];exact decide_eq_true (e.2 h1)
  rw [this]
  conv=>whnf
  repeat ((first|refine oM ?_|refine oL ?_|refine oR ?_);(try intro _);conv=>whnf)
  refine RunsS.retU (UnwS.ret tab Tryz.func88 rfl fun Ez Hz Az Sz K=>⟨_,rfl,?_,K.keeps⟩)
  first|rfl|exact congrArg Value.bool (decide_eq_true (by omega))
 have:r=false:=by rw [hr];exact decide_eq_false (fun h=>h1 (e.1 h))
 rw [this]
 by_cases k1:1≤u.n
 ·by_cases k2:u.n≤1000000
  ·by_cases k3:1≤u.d
   ·conv=>whnf
    repeat ((first|refine oM ?_|refine oL ?_|refine oR ?_);(try intro _);conv=>whnf)
    refine RunsS.retU (UnwS.ret tab Tryz.func88 rfl fun Ez Hz Az Sz K=>⟨_,rfl,?_,K.keeps⟩)
    first|rfl|exact congrArg Value.bool (decide_eq_false (by omega))
   conv=>whnf
   repeat ((first|refine oM ?_|refine oL ?_|refine oR ?_);(try intro _);conv=>whnf)
   refine RunsS.retU (UnwS.ret tab Tryz.func88 rfl fun _ _ _ _ K=>⟨_,rfl,rfl,K.keeps⟩)
  conv=>whnf
  repeat ((first|refine oM ?_|refine oL ?_|refine oR ?_);(try intro _);conv=>whnf)
  refine RunsS.retU (UnwS.ret tab Tryz.func88 rfl fun _ _ _ _ K=>⟨_,rfl,rfl,K.keeps⟩)
 conv=>whnf
 repeat ((first|refine oM ?_|refine oL ?_|refine oR ?_);(try intro _);conv=>whnf)
 refine RunsS.retU (UnwS.ret tab Tryz.func88 rfl fun _ _ _ _ K=>⟨_,rfl,rfl,K.keeps⟩)
theorem rResolve_fn (l:List Un) (hl:l.length≤9223372036854775807) (hi:UnOk l):
  FnS Tryz.prog 32 1 [.buf 0] [(0,.ro 8 (rowsU l))] (fun _:Unit=>True) (fun _=>resO (resolveU l)):=by
 have hlr:=rowsU_len l
 obtain ⟨r,hr⟩:∃r,r=resolveU l:=⟨_,rfl⟩
 rw [←hr]
 unfold resolveU at hr
 refine FnS.of Tryz.func32 (by kernel_rfl) rfl Tryz.ntmps32 rfl fun E0 F h w0 cs=>?_
 conv=>whnf
 refine gS ?_;conv=>whnf
 refine ⟨fun h1=>?_,fun h1=>?_⟩<;>conv=>whnf
 ·rw [if_pos (by omega)] at hr
  subst hr
  conv=>whnf
  refine RunsS.retU ?_
  exact UnwS.ret tab Tryz.func32 rfl (eN () trivial)
 rw [if_neg (by omega)] at hr
 have h1:l.length≤32:=by omega
 conv=>whnf
 refine RunsS.subR [] (RunsS.loop (fun (k:Nat)=>[(4,.v (.int .i64 k)),(0,.buf 0)]) (fun (k:Nat)=>[(0,.ro 8 (rowsU l))]) 1 (fun (k:Nat)=>k≤l.length ∧ ∀j (hj:j<k) (hjl:j<l.length),findI l l[j].name=j) (fun (k:Nat)=>l.length - k) ?round3 (0) ?J03) sH sH
 case J03=>exact (⟨Nat.zero_le _,fun j hj=>absurd hj (Nat.not_lt_zero _)⟩)
 rintro k hJ back
 conv=>whnf
 refine gS ?_;conv=>whnf
 refine ⟨fun hk=>?_,fun hk=>?_⟩<;>conv=>whnf
 ·have hk:k<l.length:=by omega
  conv=>whnf
  repeat ((first|refine oM ?_|refine oL ?_|refine oR ?_);(try intro _);conv=>whnf)
  refine ⟨_,rowsU_get hk,?_⟩;conv=>whnf
  refine RunsS.callV (fun Ez Hz Az Sz K=>rfind_fn l (Sz.ro (b:=0) rfl) l[k].name) ?_
  conv=>whnf
  refine gS ?_;conv=>whnf
  refine ⟨fun hn=>?_,fun hn=>?_⟩<;>conv=>whnf
  ·conv=>whnf
   repeat ((first|refine oM ?_|refine oL ?_|refine oR ?_);(try intro _);conv=>whnf)
   refine RunsS.subR [] (back (k+1) (by exact (⟨hk,fun j hj hjl=>(Nat.lt_succ_iff_lt_or_eq.1 hj).elim (fun hj=>hJ.2 j hj hjl) (fun e=>by subst e;exact hn)⟩)) (by (try dsimp only);omega)) sH sH
  conv=>whnf
  rw [if_pos (fun h=>hn (nodup_find.1 h k hk))] at hr
  subst hr
  refine RunsS.retU ?_
  exact UnwS.ret tab Tryz.func32 rfl (eN () trivial)
 have hn:(l.map Un.name).Nodup:=nodup_find.2 fun j hj=>hJ.2 j (by omega) hj
 rw [if_neg (fun h=>h hn)] at hr
 clear hJ back
 conv=>whnf
 refine RunsS.subR [] (RunsS.loop (fun (⟨k,x⟩:Nat×List Un)=>[(6,.v (.int .i64 k)),(5,.buf 1),(0,.buf 0)]) (fun (⟨k,x⟩:Nat×List Un)=>[ownU 1 x,(0,.ro 8 (rowsU l))]) 2 (fun (⟨k,x⟩:Nat×List Un)=>k≤l.length∧x.length=k∧scOk x∧r=resU (l.drop k) x∧x.map Un.name=(l.take k).map Un.name) (fun (⟨k,x⟩:Nat×List Un)=>l.length - k) ?round5 ((0,[])) ?J05) sH sH
 case J05=>exact (⟨Nat.zero_le _,rfl,scOk.nil,hr,by simp⟩)
 rintro ⟨k,x⟩ hJ back
 try dsimp only at hJ back
 conv=>whnf
 try dsimp only
 refine gS ?_;conv=>whnf
 refine ⟨fun hk=>?_,fun hk=>?_⟩<;>conv=>whnf
 ·have hk:k<l.length:=by omega
  have hd:l.drop k=l[k]::l.drop (k+1):=List.drop_eq_getElem_cons hk
  obtain ⟨hJ1,hJ2,hJ3,hJ4,hJ5⟩:=hJ
  rw [hd] at hJ4
  simp only [resU] at hJ4
  have hxr:=rowsU_len x
  have nx:∀v:Un,v.name=l[k].name→(x++[v]).map Un.name=(l.take (k+1)).map Un.name:=fun v hv=>by
   rw [List.map_append,hJ5,List.take_add_one,List.getElem?_eq_getElem hk,List.map_append]
   simp [hv]
  conv=>whnf
  repeat ((first|refine oM ?_|refine oL ?_|refine oR ?_);(try intro _);conv=>whnf)
  refine ⟨_,rowsU_get hk,?_⟩;conv=>whnf
  try (refine oN ?_;conv=>whnf)
  by_cases hf:FitU l[k]
  ·refine RunsS.callV (fun Ez Hz Az Sz K=>rfits_fn l[k]) ?_
   conv=>whnf
   rw [decide_eq_true hf]
   refine gS ?_;conv=>whnf
   refine RunsS.callV (fun Ez Hz Az Sz K=>rqNew_fn 1 1 (by omega) (by omega)) ?_
   conv=>whnf
   rw [newR_one]
   refine gS ?_;conv=>whnf
   refine ⟨fun e0=>?_,fun e0=>?_⟩<;>conv=>whnf
   ·have st:stepU x l[k]=.inl (l[k].re k one1):=by
     unfold stepU
     unfold FitU at hf
     rw [if_pos e0] at hf
     rw [if_pos e0,hJ2,if_pos hf]
    rw [st] at hJ4
    conv=>whnf
    refine And.intro (appOb (by rw [rowsU_len];omega)) ?_;conv=>whnf
    conv=>whnf
    repeat ((first|refine oM ?_|refine oL ?_|refine oR ?_);(try intro _);conv=>whnf)
    refine RunsS.rowsEq (5) (rowsU_app x (l[k].re k one1)) ?_;conv=>whnf
    refine RunsS.subR [(1,5)] (back ((k+1,x++[(l[k].re k one1)])) (by exact (⟨hk,by rw [List.length_append,hJ2];rfl,hJ3.step (by omega) st,hJ4,nx _ rfl⟩)) (by (try dsimp only);omega)) sH sH
   have hb:btw l[k].n∧btw l[k].d:=by
    unfold FitU at hf
    rw [if_neg e0] at hf
    exact hf
   have hfx:findI x l[k].of_=if findI l l[k].of_<k then findI l l[k].of_ else -1:=by
    rw [findI_names _ hJ5,findI_take _ hJ1]
   conv=>whnf
   refine RunsS.callV (fun Ez Hz Az Sz K=>rfind_fn l (Sz.ro (b:=0) rfl) l[k].of_) ?_
   conv=>whnf
   refine gS ?_;conv=>whnf
   by_cases hn1:findI l l[k].of_<0
   ·have st:stepU x l[k]=.inr 110:=by
     unfold stepU
     rw [if_neg e0,if_pos hb]
     split
     ·rw [if_pos (by rw [hfx];split<;>omega)]
     rfl
    rw [st] at hJ4
    subst hJ4
    conv=>whnf
    repeat ((first|refine oM ?_|refine oL ?_|refine oR ?_);(try intro _);conv=>whnf)
    refine RunsS.retU ?_
    exact UnwS.ret tab Tryz.func32 rfl (eN () trivial)
   by_cases hn2:(k:Int)≤findI l l[k].of_
   ·have st:stepU x l[k]=.inr 110:=by
     unfold stepU
     rw [if_neg e0,if_pos hb]
     split
     ·rw [if_pos (by rw [hfx];split<;>omega)]
     rfl
    rw [st] at hJ4
    subst hJ4
    conv=>whnf
    repeat ((first|refine oM ?_|refine oL ?_|refine oR ?_);(try intro _);conv=>whnf)
    refine RunsS.retU ?_
    exact UnwS.ret tab Tryz.func32 rfl (eN () trivial)
   rw [if_pos (by omega)] at hfx
   obtain ⟨j,hj⟩:∃j:Nat,findI l l[k].of_=j:=⟨(findI l l[k].of_).toNat,by omega⟩
   rw [hj] at hfx hn1 hn2 ⊢
   have hj1:j<x.length:=by omega
   have st:stepU x l[k]=.inl (l[k].re x[j].base (mulR x[j].scale (newR l[k].n l[k].d).1).1):=by
    unfold stepU
    rw [if_neg e0,if_pos hb,hfx,Int.toNat_natCast,List.getElem?_eq_getElem hj1]
    exact if_neg (by omega)
   rw [st] at hJ4
   have hi':=hi l[k] (List.getElem_mem hk)
   conv=>whnf
   repeat ((first|refine oM ?_|refine oL ?_|refine oR ?_);(try intro _);conv=>whnf)
   refine RunsS.callV (fun Ez Hz Az Sz K=>rqNew_fn l[k].n l[k].d hi'.1 hi'.2) ?_
   conv=>whnf
   refine gS ?_;conv=>whnf
   repeat ((first|refine oM ?_|refine oL ?_|refine oR ?_);(try intro _);conv=>whnf)
   refine ⟨_,rowsU_get hj1,?_⟩;conv=>whnf
   refine RunsS.held tab (.fl 0 (.fl 1 (.fl 2 (.fl 3 (.fl 4 (.fl 5 (.e1 6 [] (.fl 7 (.fl 8 (.fl 9 (.fl 10 (.e1 11 [] .done)))))))))))) (by kernel_rfl) ?_;conv=>whnf
   try refine gR ?_;conv=>whnf
   repeat ((first|refine oM ?_|refine oL ?_|refine oR ?_|refine oB ?_);(try intro _);conv=>whnf)
   conv=>whnf
   refine ⟨_,rowsU_get hj1,?_⟩;conv=>whnf
   try (refine oN ?_;conv=>whnf)
   conv=>whnf
   refine EffR.callV (fun Ez Hz Az Sz K=>rqMul_fn x[j].scale (newR l[k].n l[k].d).1) (by (conv=>whnf);(repeat (guard_target=_∧_;refine And.intro (by (conv=>whnf);first|rfl|exact trivial) ?_;conv=>whnf));exact trivial) ?_
   conv=>whnf
   try refine gR ?_;conv=>whnf
   repeat ((first|refine oM ?_|refine oL ?_|refine oR ?_|refine oB ?_);(try intro _);conv=>whnf)
   refine gS ?_;conv=>whnf
   refine And.intro (appOb (by rw [rowsU_len];omega)) ?_;conv=>whnf
   conv=>whnf
   repeat ((first|refine oM ?_|refine oL ?_|refine oR ?_);(try intro _);conv=>whnf)
   refine RunsS.rowsEq (6) (rowsU_app x (l[k].re x[j].base (mulR x[j].scale (newR l[k].n l[k].d).1).1)) ?_;conv=>whnf
   refine RunsS.subR [(1,6)] (back ((k+1,x++[l[k].re x[j].base (mulR x[j].scale (newR l[k].n l[k].d).1).1])) (by exact (⟨hk,by rw [List.length_append,hJ2];rfl,hJ3.step (by omega) st,hJ4,nx _ rfl⟩)) (by (try dsimp only);omega)) sH sH
  have st:stepU x l[k]=.inr 90:=by
   unfold stepU
   unfold FitU at hf
   split
   ·rename_i e0
    rw [if_pos e0] at hf
    exact if_neg hf
   rename_i e0
   rw [if_neg e0] at hf
   exact if_neg hf
  rw [st] at hJ4
  subst hJ4
  refine RunsS.callV (fun Ez Hz Az Sz K=>rfits_fn l[k]) ?_
  conv=>whnf
  rw [decide_eq_false hf]
  try dsimp only
  refine gS ?_;conv=>whnf
  refine RunsS.retU ?_
  exact UnwS.ret tab Tryz.func32 rfl (eN () trivial)
 have hk:k=l.length:=by omega
 have hJ4:=hJ.2.2.2.1
 rw [hk,List.drop_length] at hJ4
 have hJ4:r=.inl x:=hJ4
 conv=>whnf
 rw [hJ4]
 refine RunsS.retU ?_
 exact UnwS.ret tab Tryz.func32 rfl (EndS.mk (()) (trivial) [(1,1)] sH rfl rfl (okRet rfl rfl))

end Go.Proofs.YtofjdbmcloemnaaGreatDoor

namespace Go.SrcM
open Go Go.Fw Go.RatM
abbrev rws {α:Type} (f:α→List Value) (l:List α):List (List Value):=l.map f
theorem rws_len {α:Type} (f:α→List Value) (l:List α):(rws f l).length=l.length:=by simp [rws]
theorem rws_get {α:Type} {f:α→List Value} {l:List α} {k:Nat} (hk:k<l.length):(rws f l)[k]? = some (f l[k]):=by simp [rws,hk]
abbrev rwsB (l:List ByteArray):List (List Value):=rws (fun s=>[Value.string s]) l
theorem rwsB_len (l:List ByteArray):(rwsB l).length=l.length:=rws_len _ l
structure It where
 name:ByteArray
 unit:ByteArray
 mn:Int
 md:Int
 shelf:Int
 un:Int
def It.row (i:It):List Value:=[.string i.name,.string i.unit,.int .i64 i.mn,.int .i64 i.md,.int .i64 i.shelf,.int .i64 i.un]
structure Mc where
 name:ByteArray
 plant:ByteArray
 clean:Int
 pn:Int
def Mc.row (i:Mc):List Value:=[.string i.name,.string i.plant,.int .i64 i.clean,.int .i64 i.pn]
structure Cd where
 opt:ByteArray
 ch:ByteArray
 on:Int
 cn:Int
def Cd.row (i:Cd):List Value:=[.string i.opt,.string i.ch,.int .i64 i.on,.int .i64 i.cn]
structure Am where
 n:Int
 d:Int
 unit:ByteArray
 item:ByteArray
 back:Bool
 un:Int
 inn:Int
def Am.row (i:Am):List Value:=[.int .i64 i.n,.int .i64 i.d,.string i.unit,.string i.item,.bool i.back,.int .i64 i.un,.int .i64 i.inn]
structure Rn where
 mach:ByteArray
 slots:Int
 mn:Int
def Rn.row (i:Rn):List Value:=[.string i.mach,.int .i64 i.slots,.int .i64 i.mn]
structure Sw where
 a:ByteArray
 b:ByteArray
 an:Int
 bn:Int
def Sw.row (i:Sw):List Value:=[.string i.a,.string i.b,.int .i64 i.an,.int .i64 i.bn]
structure Hd where
 a:Option Addr
 c:Nat
abbrev Hd.v (h:Hd) (n:Nat):Value:=.slice h.a n h.c
structure OpV where
 name:ByteArray
 hd:Hd
 ch:List ByteArray
def OpV.row (i:OpV):List Value:=[.string i.name,.slice i.hd.a i.ch.length i.hd.c]
structure FbV where
 hd:Hd
 cs:List Cd
def FbV.row (i:FbV):List Value:=[.slice i.hd.a i.cs.length i.hd.c]
structure RcV where
 item:ByteArray
 plant:ByteArray
 fr:Int
 to:Int
 hc:Hd
 cs:List Cd
 hi:Hd
 inn:List Am
 ho:Hd
 out:List Am
 rwN:Int
 rwD:Int
 yN:Int
 yD:Int
 tN:Int
 tD:Int
 lead:Int
 hr:Hd
 runs:List Rn
 inum:Int
 pnum:Int
def RcV.row (r:RcV):List Value:=[.string r.item,.string r.plant,.int .i64 r.fr,.int .i64 r.to,.slice r.hc.a r.cs.length r.hc.c,.slice r.hi.a r.inn.length r.hi.c,.slice r.ho.a r.out.length r.ho.c,.int .i64 r.rwN,.int .i64 r.rwD,.int .i64 r.yN,.int .i64 r.yD,.int .i64 r.tN,.int .i64 r.tD,.int .i64 r.lead,.slice r.hr.a r.runs.length r.hr.c,.int .i64 r.inum,.int .i64 r.pnum]
structure SrcV where
 units:List Un
 items:List It
 plants:List ByteArray
 machines:List Mc
 options:List OpV
 forbids:List FbV
 recipes:List RcV
 swaps:List Sw
abbrev srcV (vU vI vP vM vO vF vR vS:Value):Value:=.agg #[vU,vI,vP,vM,vO,vF,vR,vS]
section
variable (G:Nat→Prop) (h:Array Obj)
def OpV.ok (o:OpV):Prop:=RoF G h (o.hd.v o.ch.length) 1 (rwsB o.ch)
def FbV.ok (o:FbV):Prop:=RoF G h (o.hd.v o.cs.length) 4 (rws Cd.row o.cs)
structure RcV.ok (r:RcV):Prop where
 c:RoF G h (r.hc.v r.cs.length) 4 (rws Cd.row r.cs)
 i:RoF G h (r.hi.v r.inn.length) 7 (rws Am.row r.inn)
 o:RoF G h (r.ho.v r.out.length) 7 (rws Am.row r.out)
 rn:RoF G h (r.hr.v r.runs.length) 3 (rws Rn.row r.runs)
structure SrcV.sub (s:SrcV):Prop where
 o:∀o∈s.options,o.ok G h
 f:∀o∈s.forbids,o.ok G h
 r:∀o∈s.recipes,o.ok G h
end
section
variable {G G':Nat→Prop} {h h':Array Obj}
theorem OpV.ok.up {o:OpV} (H:o.ok G h) (U:Up G h G' h'):o.ok G' h':=RoF.up U H
theorem FbV.ok.up {o:FbV} (H:o.ok G h) (U:Up G h G' h'):o.ok G' h':=RoF.up U H
theorem RcV.ok.up {o:RcV} (H:o.ok G h) (U:Up G h G' h'):o.ok G' h':=⟨RoF.up U H.c,RoF.up U H.i,RoF.up U H.o,RoF.up U H.rn⟩
theorem SrcV.sub.up {s:SrcV} (H:s.sub G h) (U:Up G h G' h'):s.sub G' h':=⟨fun o ho=>(H.o o ho).up U,fun o ho=>(H.f o ho).up U,fun o ho=>(H.r o ho).up U⟩
theorem Up.kp {F:Nat→Prop} (K:Kp F h h'):Up F h (fun k=>k<h'.size) h':=⟨fun i hi=>Nat.lt_of_lt_of_le (K.lt i hi) K.size,K.same⟩
structure Top (h:Array Obj) (vU vI vP vM vO vF vR vS:Value) (s:SrcV):Prop where
 U:Ro h vU 8 (rowsU s.units)
 I:Ro h vI 6 (rws It.row s.items)
 P:Ro h vP 1 (rwsB s.plants)
 M:Ro h vM 4 (rws Mc.row s.machines)
 O:Ro h vO 2 (rws OpV.row s.options)
 F:Ro h vF 1 (rws FbV.row s.forbids)
 R:Ro h vR 17 (rws RcV.row s.recipes)
 S:Ro h vS 4 (rws Sw.row s.swaps)
 below:s.sub (fun k=>k<h.size) h
theorem RoF.tok (v:Value) (sz:Nat) (rows:List (List Value)):TOk (fun F h=>RoF F h v sz rows):=⟨fun _ _ _ hs H=>RoF.up ⟨hs,fun _ _=>rfl⟩ H,fun _ _ _ H K=>RoF.up ⟨fun _ x=>x,K.same⟩ H⟩
end
abbrev i64 (n:Int):Prop:= -9223372036854775808≤n∧n≤9223372036854775807
def Cd.wf (c:Cd):Prop:=i64 c.on∧i64 c.cn
def Am.wf (a:Am):Prop:=i64 a.n∧i64 a.d∧i64 a.un∧i64 a.inn
def Rn.wf (r:Rn):Prop:=i64 r.slots∧i64 r.mn
def Sw.wf (r:Sw):Prop:=i64 r.an∧i64 r.bn
def It.wf (i:It):Prop:=i64 i.mn∧i64 i.md∧i64 i.shelf∧i64 i.un
def Mc.wf (i:Mc):Prop:=i64 i.clean∧i64 i.pn
structure RcV.wf (r:RcV):Prop where
 c:∀c∈r.cs,c.wf
 i:∀c∈r.inn,c.wf
 o:∀c∈r.out,c.wf
 rn:∀c∈r.runs,c.wf
 n:i64 r.fr∧i64 r.to∧i64 r.rwN∧i64 r.rwD∧i64 r.yN∧i64 r.yD∧i64 r.tN∧i64 r.tD∧i64 r.lead∧i64 r.inum∧i64 r.pnum
structure SrcV.wf (s:SrcV):Prop where
 U:∀u∈s.units,i64 u.n∧i64 u.d
 I:∀u∈s.items,u.wf
 M:∀u∈s.machines,u.wf
 F:∀u∈s.forbids,∀c∈u.cs,c.wf
 R:∀u∈s.recipes,u.wf
 S:∀u∈s.swaps,u.wf
end Go.SrcM
