/- Texts of this seat, joined: divisor. Div, Gcd. The functions of package naturals at numbers' strings; plain. The reference's division: strings that gr -/
import Derived.Test.YtofjdbmcloemnaaGreatDoorJoinC
import Derived.Deep.Slices
import Derived.WideKeyArgs
import Derived.OpenShut
import Derived.WideShapes
import Derived.ChangeArms
set_option linter.unusedVariables false
set_option linter.unusedSimpArgs false
namespace Go.Proofs.YtofjdbmcloemnaaGreatDoor
open Go Go.Fw Go.NatM
set_option maxRecDepth 100000
set_option maxHeartbeats 99999999
theorem Wown.put {base:Nat} {h h':Array Obj} {v:Value} {m V g:Nat} (hw:Wown base h v m V) (P:PutO h h' g) (hne:v.ownBlock≠some g):Wown base h' v m V:=by
 obtain ⟨g',cap,cur,rfl,hb,hat,r⟩:=hw
 have hne:g'≠g:=fun e=>hne (by rw [e];rfl)
 exact ⟨g',cap,cur,rfl,hb,P.at hat hne,r⟩
theorem Wown.blk {base:Nat} {h:Array Obj} {v:Value} {m V:Nat} (hw:Wown base h v m V):∃g,v.ownBlock=some g∧base≤g∧g<h.size:=by
 obtain ⟨g,cap,cur,rfl,hb,hat,_⟩:=hw
 exact ⟨g,rfl,hb,hat.lt⟩
theorem PutO.setB {h:Array Obj} {g:Nat} (cs:Array Value) (e:TypeId):PutO h (Fw.setB h g cs e) g:=PutO.of ..
theorem shiftO_fn {base:Nat} {h:Array Obj} {v:Value} {m V:Nat} (hw:Wown base h v m V) (hm:m≤1048576) (k:Nat) (hk:k≤67108864):
  FnV Tryz.prog 163 #[v,.int .i64 k] h fun r h'=>Wown base h' r (nw (V/2^k)) (V/2^k)∧r.ownBlock=v.ownBlock ∧ ∃g,v.ownBlock=some g∧PutO h h' g:=by
 obtain ⟨g,cap,cur,rfl,hb,hat,hsz,hmc,hV,hc⟩:=hw
 refine (shift_fn hat hsz hmc hV hc hm k hk).mono ?_
 rintro _ _ ⟨rfl,cur',rfl,hsz',hc'⟩
 have hn:nw (V/2^k)≤m:=nw_le (Nat.lt_of_le_of_lt (Nat.div_le_self _ _) hV)
 exact ⟨⟨g,cap,cur',rfl,hb,setB_same hat.lt _ _,hsz',by omega,nw_lt _,fun j hj=>hc' j (by omega)⟩,rfl,g,rfl,PutO.setB ..⟩
theorem reduceO_fn {base base2:Nat} {h:Array Obj} {v v2:Value} {m m2 V1 V2:Nat} (hw:Wown base h v m V1) (hw2:Wown base2 h v2 m2 V2) (hne:v.ownBlock≠v2.ownBlock) (hle:V2≤V1) (hm:m≤1048576):
  FnV Tryz.prog 165 #[v,v2] h fun r h'=>r=.tuple #[]∧Wown base h' v m (V1 - V2) ∧ ∃g,v.ownBlock=some g∧PutO h h' g:=by
 obtain ⟨g,cap,cur,rfl,hb,hat,hsz,hmc,hV,hc⟩:=hw
 refine (reduce_fn hat hsz hmc hV hc hw2.wr (fun e=>hne e.symm) hle hm).mono ?_
 rintro _ _ ⟨rfl,cur',rfl,hsz',hc'⟩
 exact ⟨rfl,⟨g,cap,cur',rfl,hb,setB_same hat.lt _ _,hsz',hmc,Nat.lt_of_le_of_lt (Nat.sub_le _ _) hV,hc'⟩,g,rfl,PutO.setB ..⟩
theorem zerosO_fn {base:Nat} {h:Array Obj} {v:Value} {m V:Nat} (hw:Wown base h v m V) (h0:V≠0) (hm:m≤1048576) (hT:TabH h):
  FnV Tryz.prog 161 #[v] h fun r h'=>(∃k:Nat,r=.int .i64 k∧Tz V k)∧h'=h:=by
 have hw':=hw.wr
 obtain ⟨g,cap,cur,rfl,_⟩:=hw
 exact zeros_fn hw' h0 hm hT
structure GcdI (h:Array Obj) (G A C:Nat) (va vb:Value) (h':Array Obj):Prop where
 keeps:Keeps h.size h h'
 a:Wown h.size h' va (nw A) A
 c:Wown h.size h' vb (nw C) C
 ne:va.ownBlock≠vb.ownBlock
 oa:A%2=1
 oc:C%2=1
 na:nw A≤65536
 nc:nw C≤65536
 gcd:Nat.gcd A C=G
theorem tz_unique {V k k':Nat} (h:Tz V k) (h':Tz V k'):k=k':=by
 have key:∀ {k k':Nat},Tz V k→Tz V k' → ¬k<k':=by
  rintro k k' ⟨m,rfl⟩ ⟨m',e⟩ hlt
  rw [show 2^k'=2^k*(2*2^(k' - k - 1)) by rw [←Nat.pow_succ',←Nat.pow_add];congr 1;omega,Nat.mul_assoc] at e
  have e:=Nat.eq_of_mul_eq_mul_left (Nat.two_pow_pos k) e
  rw [Nat.mul_assoc] at e
  omega
 have h1:=key h h'
 have h2:=key h' h
 omega
theorem bl_nw (V:Nat):bl V≤64*nw V:=by
 by_cases h:V=0
 ·subst h;decide
 have:=bl_word h
 have:=bl_le64 (wdc_lt V (nw V - 1))
 have:=nw_pos h
 omega
theorem tz_le {V k:Nat} (h:Tz V k) (hn:nw V≤65536):k≤4194304:=by
 have:=h.lt_bl
 have:=bl_nw V
 omega
theorem odd_of {m X:Nat} (h:X=2*m+1):X%2=1:=by omega
theorem of_odd {X:Nat} (h:X%2=1):X=2*(X/2)+1:=by omega
theorem nw_zero_iff {V:Nat}:nw V=0↔V=0:=by
 constructor
 ·intro h
  rcases Nat.eq_zero_or_pos V with e|e
  ·exact e
  have:=nw_pos (show V≠0 by omega);omega
 rintro rfl;rfl
theorem one_word {V:Nat} (h:nw V=1):V<B∧wdc V 0=V:=by
 have h1:=nw_lt V
 rw [h,Nat.pow_one] at h1
 refine ⟨h1,?_⟩
 unfold wdc;rw [Nat.pow_zero,Nat.div_one];exact Nat.mod_eq_of_lt h1
theorem pow_word (t j:Nat):wdc (2^t) j=if j=t/64 then 2^(t%64) else 0:=by
 have h64:t%64<64:=Nat.mod_lt _ (by decide)
 have hp:2^(t%64)<B:=Nat.pow_lt_pow_right (by decide) h64
 rw [two_word t]
 split
 ·rename_i e
  unfold wdc
  rw [e,Nat.mul_div_cancel_left _ (Bp_pos _)]
  exact Nat.mod_eq_of_lt hp
 rename_i e
 rcases Nat.lt_or_ge j (t/64) with h|h
 ·rw [Nat.mul_comm];exact wdc_mulB h
 refine wdc_ge (m:=t/64+1) ?_ (by omega)
 rw [Nat.pow_succ]
 exact Nat.mul_lt_mul_of_pos_left hp (Bp_pos _)
theorem cmpI_eq {x y:Nat} (h:cmpI (x:Int) (y:Int)=0):x=y:=by
 unfold cmpI at h
 split at h
 ·omega
 split at h<;>omega
theorem divisor_fn {h:Array Obj} {v1 v2:Value} {V1 V2:Nat} (hw1:Wr h v1 (nw V1) V1) (hw2:Wr h v2 (nw V2) V2) (hm1:nw V1≤65536) (hm2:nw V2≤65536) (hT:TabH h):
  FnV Tryz.prog 145 #[v1,v2] h fun r h'=>(∃m,Wr h' r m (Nat.gcd V1 V2)∧m≤1048576)∧Keeps h.size h h':=by
 obtain ⟨a1,cap1,rfl⟩:∃a cap,v1=.slice a (nw V1) cap:=let ⟨a,cap,e,_⟩:=hw1;⟨a,cap,e⟩
 obtain ⟨a2,cap2,rfl⟩:∃a cap,v2=.slice a (nw V2) cap:=let ⟨a,cap,e,_⟩:=hw2;⟨a,cap,e⟩
 refine Fn.of (args:=[.slice a1 (nw V1) cap1,.slice a2 (nw V2) cap2]) Tryz.func145 (by kernel_rfl) rfl Tryz.ntmps145 rfl fun w0 cs=>?_
 refine gO ?_;conv=>whnf
 refine ⟨fun h1=>?_,fun h1=>?_⟩<;>conv=>whnf
 ·refine Runs.ret Tryz.func145 rfl rfl ⟨_,rfl,?_⟩
  have:V1=0:=nw_zero_iff.1 (by omega)
  subst this
  rw [Nat.gcd_zero_left]
  exact ⟨⟨_,hw2,by omega⟩,Keeps.refl _ _⟩
 have z1:V1≠0:=fun e=>h1 (by rw [e];rfl)
 refine ⟨fun h2=>?_,fun h2=>?_⟩<;>conv=>whnf
 ·refine Runs.ret Tryz.func145 rfl rfl ⟨_,rfl,?_⟩
  have:V2=0:=nw_zero_iff.1 (by omega)
  subst this
  rw [Nat.gcd_zero_right]
  exact ⟨⟨_,hw1,by omega⟩,Keeps.refl _ _⟩
 have z2:V2≠0:=fun e=>h2 (by rw [e];rfl)
 have p1:=nw_pos z1
 have p2:=nw_pos z2
 have big:¬(nw V1=1∧nw V2=1)→True:=fun _=>trivial
 refine ⟨fun h3=>?_,fun h3=>?_⟩<;>conv=>whnf
 ·refine ⟨fun h4=>?_,fun h4=>?_⟩<;>conv=>whnf
  ·obtain ⟨q1,w1⟩:=one_word (V:=V1) (by omega)
   obtain ⟨q2,w2⟩:=one_word (V:=V2) (by omega)
   obtain ⟨b1,off1,rfl,hrd1⟩:=hw1.rd rfl p1
   obtain ⟨b2,off2,rfl,hrd2⟩:=hw2.rd rfl p2
   refine Runs.held tab [(0,[]),(1,[]),(2,[]),(3,[]),(4,[]),(5,[]),(6,[]),(7,[])] (by kernel_rfl) ?_;conv=>whnf
   repeat (refine oL ?_;conv=>whnf)
   refine ⟨_,hrd1 0 p1,?_⟩;conv=>whnf
   repeat (refine oL ?_;conv=>whnf)
   refine ⟨_,hrd2 0 p2,?_⟩;conv=>whnf
   rw [w1,w2]
   try refine gO ?_;conv=>whnf
   refine Runs.loop (X:=Nat×Nat) (fun q=>[(5,.int .u64 (q.1:Nat)),(6,.int .u64 (q.2:Nat))]) (fun q h'=>h'=h∧q.1<B∧q.2<B∧Nat.gcd q.1 q.2=Nat.gcd V1 V2) (fun q=>q.2) (V1,V2)
    ⟨rfl,q1,q2,rfl⟩ ⟨rfl,rfl,trivial⟩ ?_
   rintro ⟨x,y⟩ h ⟨rfl,hx,hy,hg⟩ ih
   dsimp only at hx hy hg ⊢
   try refine gO ?_;conv=>whnf
   refine ⟨fun h5=>?_,fun h5=>?_⟩<;>conv=>whnf
   ·refine Runs.eff (eff_buildN tab [.int .u64 (x:Nat)] (h1:=by simp [Value.cells])) ?_
    rintro _ h2 ⟨rfl,N2⟩
    try refine gO ?_;conv=>whnf
    refine Runs.ret Tryz.func145 rfl rfl ⟨_,rfl,?_⟩
    have hy0:y=0:=by omega
    subst hy0
    rw [Nat.gcd_zero_right] at hg
    rw [←hg]
    refine ⟨⟨1,Wr.of_at N2.blk (Nat.le_refl _) (by rw [Nat.pow_one];exact hx) (fun j hj=>?_),by omega⟩,N2.keeps⟩
    have:j=0:=by omega
    subst this
    rw [show wdc x 0=x by unfold wdc;rw [Nat.pow_zero,Nat.div_one];exact Nat.mod_eq_of_lt hx]
    rfl
   try refine gO ?_;conv=>whnf
   refine Runs.held tab [(0,[]),(1,[]),(2,[]),(3,[]),(4,[]),(5,[])] (by kernel_rfl) ?_;conv=>whnf
   rw [B_eq] at hx hy
   repeat (refine oL ?_;conv=>whnf)
   try refine gO ?_;conv=>whnf
   exact ih (y,x%y) _ _ ⟨rfl,by rw [B_eq];exact hy,by rw [B_eq];exact Nat.lt_of_lt_of_le (Nat.mod_lt _ (by omega)) (by omega),by rw [←hg,Nat.gcd_comm,←Nat.gcd_rec,Nat.gcd_comm]⟩ (Nat.mod_lt _ (by omega)) ⟨rfl,rfl,trivial⟩
  try refine gO ?_;conv=>whnf
  refine Runs.callV (zeros_fn hw1 z1 (by omega) hT) ?_
  rintro _ h ⟨⟨k1,rfl,t1⟩,rfl⟩
  try refine gO ?_;conv=>whnf
  refine Runs.callV (zeros_fn hw2 z2 (by omega) hT) ?_
  rintro _ h ⟨⟨k2,rfl,t2⟩,rfl⟩
  have lk1:=tz_le t1 hm1
  have lk2:=tz_le t2 hm2
  obtain ⟨tw,htw⟩:∃tw,tw=min k1 k2:=⟨_,rfl⟩
  try refine gO ?_;conv=>whnf
  rw [show min (k1:Int) (k2:Int)=(tw:Nat) by omega]
  refine Runs.callV (clone_fn hw1 p1 (by omega)) ?_
  rintro va ha ⟨Oa,ka⟩
  try refine gO ?_;conv=>whnf
  refine Runs.callV (clone_fn (hw2.keeps ka) p2 (by omega)) ?_
  rintro vb hb ⟨Ob,kb⟩
  have sa:=ka.size
  have sb:=kb.size
  obtain ⟨ga,ea,ba,la⟩:=Oa.blk
  obtain ⟨gb,eb,bb,lb⟩:=Ob.blk
  have Oa:=Oa.keeps kb (Nat.le_refl _)
  have hkb:Keeps h.size h hb:=ka.trans (kb.mono sa)
  have Tb:=hT.keeps hkb
  have Ob:=Ob.mono sa
  try refine gO ?_;conv=>whnf
  refine Runs.callV (zerosO_fn Oa z1 (by omega) Tb) ?_
  rintro _ hb ⟨⟨k1',rfl,t1'⟩,rfl⟩
  obtain rfl:=tz_unique t1 t1'
  try refine gO ?_;conv=>whnf
  refine Runs.callV (shiftO_fn Oa (by omega) k1 (by omega)) ?_
  rintro va1 hc ⟨Oa1,oa1,g1,eg1,P1⟩
  rw [ea] at eg1
  cases eg1
  have Ob1:=Ob.put P1 (by rw [eb];intro e;cases e;omega)
  have hkc:Keeps h.size h hc:=hkb.trans (P1.keeps.mono ba)
  have Tc:=hT.keeps hkc
  try refine gO ?_;conv=>whnf
  refine Runs.callV (zerosO_fn Ob1 z2 (by omega) Tc) ?_
  rintro _ hc ⟨⟨k2',rfl,t2'⟩,rfl⟩
  obtain rfl:=tz_unique t2 t2'
  try refine gO ?_;conv=>whnf
  refine Runs.callV (shiftO_fn Ob1 (by omega) k2 (by omega)) ?_
  rintro vb1 hd ⟨Ob2,ob2,g2,eg2,P2⟩
  rw [eb] at eg2
  cases eg2
  have Oa2:=Oa1.put P2 (by rw [oa1,ea];intro e;cases e;omega)
  have hkd:Keeps h.size h hd:=hkc.trans (P2.keeps.mono (by omega))
  obtain ⟨m1,od1,_⟩:=t1.div
  obtain ⟨m2,od2,_⟩:=t2.div
  have hgs:=gcd_start t1 t2
  rw [←htw] at hgs
  have n1:=nw_mono (Nat.div_le_self V1 (2^k1))
  have n2:=nw_mono (Nat.div_le_self V2 (2^k2))
  try refine gO ?_;conv=>whnf
  refine Runs.loop (X:=Nat×Nat×Value×Value) (fun q=>[(0,q.2.2.1),(1,q.2.2.2),(7,.int .i64 (tw:Nat))]) (fun q h'=>GcdI h (Nat.gcd (V1/2^k1) (V2/2^k2)) q.1 q.2.1 q.2.2.1 q.2.2.2 h') (fun q=>q.1+q.2.1) (V1/2^k1,V2/2^k2,va1,vb1)
   ⟨hkd,Oa2,Ob2,by rw [oa1,ob2,ea,eb];intro e;cases e;omega,odd_of od1,odd_of od2,by dsimp only;omega,by dsimp only;omega,rfl⟩ ⟨rfl,rfl,rfl,trivial⟩ ?_
  rintro ⟨A,C,wa,wc⟩ he ⟨ke,Ea,Ec,ene,eoa,eoc,ena,enc,eg⟩ ih
  dsimp only at Ea Ec ene eoa eoc ena enc eg ih ⊢
  try refine gO ?_;conv=>whnf
  refine Runs.callV (compare_fn Ea.wr Ec.wr (by omega)) ?_
  rintro _ he ⟨rfl,rfl⟩
  try refine gO ?_;conv=>whnf
  refine ⟨fun hc0=>?_,fun hc0=>?_⟩<;>conv=>whnf
  ·try refine gO ?_
   conv=>whnf
   repeat (refine oL ?_;conv=>whnf)
   refine Runs.eff (eff_makeN tab (tw/64+1) (tw/64+1) (hn:=⟨by omega,by omega,by omega,by dsimp only;omega,by omega⟩)) ?_
   rintro _ hf ⟨rfl,Nf⟩
   try refine gO ?_;conv=>whnf
   repeat (refine oL ?_;conv=>whnf)
   refine Runs.eff (eff_storeN tab Nf.blk (hlt:=by simp;omega)) ?_
   rintro _ hg2 Pg
   try refine gO ?_;conv=>whnf
   have hAC:=cmpI_eq hc0
   subst hAC
   rw [Nat.gcd_self] at eg
   have zf:=Nf.size
   have zg:=Pg.size
   have zke:=ke.size
   have Ea0:=Ea
   have Ea:=Ea.keeps Nf.keeps (Nat.le_refl _)
   obtain ⟨gx,egx,bgx,lgx⟩:=Ea.blk
   have kf:Keeps h.size h hg2:=(ke.trans (Nf.keeps.mono zke)).trans (Pg.keeps.mono zke)
   have Eg:Wown h.size hg2 wa (nw A) A:=by
    obtain ⟨g',cap,cur,rfl,hb',hat,r⟩:=Ea
    refine ⟨g',cap,cur,rfl,hb',Pg.at hat ?_,r⟩
    intro e
    subst e
    have:=Nf.blk
    obtain ⟨g2',cap2',cur2',e2,_,hat2,_⟩:=Ea0
    cases e2
    have:=hat2.lt
    omega
   have hpow:(2:Nat)^tw<B^(tw/64+1):=by
    rw [two_word tw,Nat.pow_succ]
    exact Nat.mul_lt_mul_of_pos_left (Nat.pow_lt_pow_right (by decide) (show tw%64<64 by omega)) (Bp_pos _)
   have hwp:=Wr.of_at Pg.blk (m:=tw/64+1) (cap:=tw/64+1) (V:=2^tw) (Nat.le_refl _) hpow (fun j hj=>by
    rw [pow_word]
    by_cases e:j=tw/64
    ·rw [if_pos e,show 0+((tw:Int)/64).toNat=j by omega,Array.getElem?_setIfInBounds_self_of_lt (by simp;omega)]
     have h64:tw%64<64:=Nat.mod_lt _ (by decide)
     have hp:2^(tw%64)<B:=Nat.pow_lt_pow_right (by decide) h64
     obtain ⟨p,hp'⟩:∃p,p=2^(tw%64):=⟨_,rfl⟩
     rw [show ((tw:Int)%64).toNat=tw%64 by omega]
     have e9:((2:Int)^(tw%64))=((2^(tw%64):Nat):Int):=by simp
     rw [e9,←hp']
     rw [←hp',B_eq] at hp
     rw [show (1:Int)*p%18446744073709551616=p by omega]
    rw [if_neg e,Array.getElem?_setIfInBounds_ne (by omega),Array.getElem?_replicate,if_pos hj]
    rfl)
   refine Runs.callV (times_fn Eg.wr hwp (by omega) (by omega)) ?_
   rintro vr hh ⟨Or,kr⟩
   try refine gO ?_;conv=>whnf
   refine Runs.ret Tryz.func145 rfl rfl ⟨_,rfl,?_⟩
   refine ⟨⟨nw A+(tw/64+1),?_,by omega⟩,kf.trans (kr.mono (by omega))⟩
   rw [hgs,←eg]
   exact Or.wr
  refine ⟨fun hcl=>?_,fun hcl=>?_⟩<;>conv=>whnf
  ·have hlt:A<C:=by
    rcases Nat.lt_or_ge A C with h|h
    ·exact h
    exfalso
    rcases Nat.lt_or_ge C A with h'|h'
    ·first|exact hcl ((cmpI_lt _ _).2 h')|(have:=(cmpI_lt _ _).1 hcl;omega)
    have e:C=A:=by omega
    apply hc0
    subst e
    unfold cmpI
    rw [if_neg (Int.lt_irrefl _),if_neg (Int.lt_irrefl _)]
   try refine gO ?_;conv=>whnf
   refine Runs.callV (reduceO_fn Ec Ea (Ne.symm ene) (by omega) (by omega)) ?_
   rintro _ hf ⟨rfl,Ra,gr,egr,Pr⟩
   have R2:=Ea.put Pr (by rw [←egr];exact Ne.symm (Ne.symm ene))
   obtain ⟨g1',eg1',bg1',_⟩:=Ec.blk
   have hgr:h.size≤gr:=by rw [egr] at eg1';cases eg1';exact bg1'
   have kf:Keeps h.size h hf:=ke.trans (Pr.keeps.mono hgr)
   try refine gO ?_;conv=>whnf
   refine Runs.callV (zerosO_fn Ra (by omega) (by omega) (hT.keeps kf)) ?_
   rintro _ hf ⟨⟨kz,rfl,tz⟩,rfl⟩
   have hev:(C - A)%2=0:=by omega
   have kzp:=tz_pos tz hev
   have nsub:=nw_mono (Nat.sub_le C A)
   try refine gO ?_;conv=>whnf
   refine Runs.callV (shiftO_fn Ra (by omega) kz (Nat.le_trans (tz_le tz (by omega)) (by decide))) ?_
   rintro wa' hg ⟨Sa,osa,gs,egs,Ps⟩
   have S2:=R2.put Ps (by rw [←egs];exact Ne.symm (Ne.symm ene))
   have hgs':h.size≤gs:=by rw [egs] at eg1';cases eg1';exact bg1'
   have kg:Keeps h.size h hg:=kf.trans (Ps.keeps.mono hgs')
   obtain ⟨mo,odd',_⟩:=tz.div
   have gst:=gcd_step (of_odd eoa) (by omega) tz
   have hdl:=Nat.div_le_self (C - A) (2^kz)
   have ndiv:=nw_mono hdl
   try refine gO ?_;conv=>whnf
   exact ih ((C - A)/2^kz,A,wa',wa) _ _ ⟨kg,Sa,S2,by rw [osa];exact (Ne.symm ene),odd_of odd',eoa,by dsimp only;omega,ena,by rw [gst];exact (by rw [Nat.gcd_comm];exact eg)⟩ (by dsimp only;omega) ⟨rfl,rfl,rfl,trivial⟩
  have hlt:C<A:=by
   rcases Nat.lt_or_ge C A with h|h
   ·exact h
   exfalso
   rcases Nat.lt_or_ge A C with h'|h'
   ·first|exact hcl ((cmpI_lt _ _).2 h')|(have:=(cmpI_lt _ _).1 hcl;omega)
   have e:A=C:=by omega
   apply hc0
   subst e
   unfold cmpI
   rw [if_neg (Int.lt_irrefl _),if_neg (Int.lt_irrefl _)]
  try refine gO ?_;conv=>whnf
  refine Runs.callV (reduceO_fn Ea Ec ene (by omega) (by omega)) ?_
  rintro _ hf ⟨rfl,Ra,gr,egr,Pr⟩
  have R2:=Ec.put Pr (by rw [←egr];exact Ne.symm ene)
  obtain ⟨g1',eg1',bg1',_⟩:=Ea.blk
  have hgr:h.size≤gr:=by rw [egr] at eg1';cases eg1';exact bg1'
  have kf:Keeps h.size h hf:=ke.trans (Pr.keeps.mono hgr)
  try refine gO ?_;conv=>whnf
  refine Runs.callV (zerosO_fn Ra (by omega) (by omega) (hT.keeps kf)) ?_
  rintro _ hf ⟨⟨kz,rfl,tz⟩,rfl⟩
  have hev:(A - C)%2=0:=by omega
  have kzp:=tz_pos tz hev
  have nsub:=nw_mono (Nat.sub_le A C)
  try refine gO ?_;conv=>whnf
  refine Runs.callV (shiftO_fn Ra (by omega) kz (Nat.le_trans (tz_le tz (by omega)) (by decide))) ?_
  rintro wa' hg ⟨Sa,osa,gs,egs,Ps⟩
  have S2:=R2.put Ps (by rw [←egs];exact Ne.symm ene)
  have hgs':h.size≤gs:=by rw [egs] at eg1';cases eg1';exact bg1'
  have kg:Keeps h.size h hg:=kf.trans (Ps.keeps.mono hgs')
  obtain ⟨mo,odd',_⟩:=tz.div
  have gst:=gcd_step (of_odd eoc) (by omega) tz
  have hdl:=Nat.div_le_self (A - C) (2^kz)
  have ndiv:=nw_mono hdl
  try refine gO ?_;conv=>whnf
  exact ih ((A - C)/2^kz,C,wa',wc) _ _ ⟨kg,Sa,S2,by rw [osa];exact ene,odd_of odd',eoc,by dsimp only;omega,enc,by rw [gst];exact eg⟩ (by dsimp only;omega) ⟨rfl,rfl,rfl,trivial⟩
 try refine gO ?_;conv=>whnf
 refine Runs.callV (zeros_fn hw1 z1 (by omega) hT) ?_
 rintro _ h ⟨⟨k1,rfl,t1⟩,rfl⟩
 try refine gO ?_;conv=>whnf
 refine Runs.callV (zeros_fn hw2 z2 (by omega) hT) ?_
 rintro _ h ⟨⟨k2,rfl,t2⟩,rfl⟩
 have lk1:=tz_le t1 hm1
 have lk2:=tz_le t2 hm2
 obtain ⟨tw,htw⟩:∃tw,tw=min k1 k2:=⟨_,rfl⟩
 try refine gO ?_;conv=>whnf
 rw [show min (k1:Int) (k2:Int)=(tw:Nat) by omega]
 refine Runs.callV (clone_fn hw1 p1 (by omega)) ?_
 rintro va ha ⟨Oa,ka⟩
 try refine gO ?_;conv=>whnf
 refine Runs.callV (clone_fn (hw2.keeps ka) p2 (by omega)) ?_
 rintro vb hb ⟨Ob,kb⟩
 have sa:=ka.size
 have sb:=kb.size
 obtain ⟨ga,ea,ba,la⟩:=Oa.blk
 obtain ⟨gb,eb,bb,lb⟩:=Ob.blk
 have Oa:=Oa.keeps kb (Nat.le_refl _)
 have hkb:Keeps h.size h hb:=ka.trans (kb.mono sa)
 have Tb:=hT.keeps hkb
 have Ob:=Ob.mono sa
 try refine gO ?_;conv=>whnf
 refine Runs.callV (zerosO_fn Oa z1 (by omega) Tb) ?_
 rintro _ hb ⟨⟨k1',rfl,t1'⟩,rfl⟩
 obtain rfl:=tz_unique t1 t1'
 try refine gO ?_;conv=>whnf
 refine Runs.callV (shiftO_fn Oa (by omega) k1 (by omega)) ?_
 rintro va1 hc ⟨Oa1,oa1,g1,eg1,P1⟩
 rw [ea] at eg1
 cases eg1
 have Ob1:=Ob.put P1 (by rw [eb];intro e;cases e;omega)
 have hkc:Keeps h.size h hc:=hkb.trans (P1.keeps.mono ba)
 have Tc:=hT.keeps hkc
 try refine gO ?_;conv=>whnf
 refine Runs.callV (zerosO_fn Ob1 z2 (by omega) Tc) ?_
 rintro _ hc ⟨⟨k2',rfl,t2'⟩,rfl⟩
 obtain rfl:=tz_unique t2 t2'
 try refine gO ?_;conv=>whnf
 refine Runs.callV (shiftO_fn Ob1 (by omega) k2 (by omega)) ?_
 rintro vb1 hd ⟨Ob2,ob2,g2,eg2,P2⟩
 rw [eb] at eg2
 cases eg2
 have Oa2:=Oa1.put P2 (by rw [oa1,ea];intro e;cases e;omega)
 have hkd:Keeps h.size h hd:=hkc.trans (P2.keeps.mono (by omega))
 obtain ⟨m1,od1,_⟩:=t1.div
 obtain ⟨m2,od2,_⟩:=t2.div
 have hgs:=gcd_start t1 t2
 rw [←htw] at hgs
 have n1:=nw_mono (Nat.div_le_self V1 (2^k1))
 have n2:=nw_mono (Nat.div_le_self V2 (2^k2))
 try refine gO ?_;conv=>whnf
 refine Runs.loop (X:=Nat×Nat×Value×Value) (fun q=>[(0,q.2.2.1),(1,q.2.2.2),(7,.int .i64 (tw:Nat))]) (fun q h'=>GcdI h (Nat.gcd (V1/2^k1) (V2/2^k2)) q.1 q.2.1 q.2.2.1 q.2.2.2 h') (fun q=>q.1+q.2.1) (V1/2^k1,V2/2^k2,va1,vb1)
  ⟨hkd,Oa2,Ob2,by rw [oa1,ob2,ea,eb];intro e;cases e;omega,odd_of od1,odd_of od2,by dsimp only;omega,by dsimp only;omega,rfl⟩ ⟨rfl,rfl,rfl,trivial⟩ ?_
 rintro ⟨A,C,wa,wc⟩ he ⟨ke,Ea,Ec,ene,eoa,eoc,ena,enc,eg⟩ ih
 dsimp only at Ea Ec ene eoa eoc ena enc eg ih ⊢
 try refine gO ?_;conv=>whnf
 refine Runs.callV (compare_fn Ea.wr Ec.wr (by omega)) ?_
 rintro _ he ⟨rfl,rfl⟩
 try refine gO ?_;conv=>whnf
 refine ⟨fun hc0=>?_,fun hc0=>?_⟩<;>conv=>whnf
 ·try refine gO ?_
  conv=>whnf
  repeat (refine oL ?_;conv=>whnf)
  refine Runs.eff (eff_makeN tab (tw/64+1) (tw/64+1) (hn:=⟨by omega,by omega,by omega,by dsimp only;omega,by omega⟩)) ?_
  rintro _ hf ⟨rfl,Nf⟩
  try refine gO ?_;conv=>whnf
  repeat (refine oL ?_;conv=>whnf)
  refine Runs.eff (eff_storeN tab Nf.blk (hlt:=by simp;omega)) ?_
  rintro _ hg2 Pg
  try refine gO ?_;conv=>whnf
  have hAC:=cmpI_eq hc0
  subst hAC
  rw [Nat.gcd_self] at eg
  have zf:=Nf.size
  have zg:=Pg.size
  have zke:=ke.size
  have Ea0:=Ea
  have Ea:=Ea.keeps Nf.keeps (Nat.le_refl _)
  obtain ⟨gx,egx,bgx,lgx⟩:=Ea.blk
  have kf:Keeps h.size h hg2:=(ke.trans (Nf.keeps.mono zke)).trans (Pg.keeps.mono zke)
  have Eg:Wown h.size hg2 wa (nw A) A:=by
   obtain ⟨g',cap,cur,rfl,hb',hat,r⟩:=Ea
   refine ⟨g',cap,cur,rfl,hb',Pg.at hat ?_,r⟩
   intro e
   subst e
   have:=Nf.blk
   obtain ⟨g2',cap2',cur2',e2,_,hat2,_⟩:=Ea0
   cases e2
   have:=hat2.lt
   omega
  have hpow:(2:Nat)^tw<B^(tw/64+1):=by
   rw [two_word tw,Nat.pow_succ]
   exact Nat.mul_lt_mul_of_pos_left (Nat.pow_lt_pow_right (by decide) (show tw%64<64 by omega)) (Bp_pos _)
  have hwp:=Wr.of_at Pg.blk (m:=tw/64+1) (cap:=tw/64+1) (V:=2^tw) (Nat.le_refl _) hpow (fun j hj=>by
   rw [pow_word]
   by_cases e:j=tw/64
   ·rw [if_pos e,show 0+((tw:Int)/64).toNat=j by omega,Array.getElem?_setIfInBounds_self_of_lt (by simp;omega)]
    have h64:tw%64<64:=Nat.mod_lt _ (by decide)
    have hp:2^(tw%64)<B:=Nat.pow_lt_pow_right (by decide) h64
    obtain ⟨p,hp'⟩:∃p,p=2^(tw%64):=⟨_,rfl⟩
    rw [show ((tw:Int)%64).toNat=tw%64 by omega]
    have e9:((2:Int)^(tw%64))=((2^(tw%64):Nat):Int):=by simp
    rw [e9,←hp']
    rw [←hp',B_eq] at hp
    rw [show (1:Int)*p%18446744073709551616=p by omega]
   rw [if_neg e,Array.getElem?_setIfInBounds_ne (by omega),Array.getElem?_replicate,if_pos hj]
   rfl)
  refine Runs.callV (times_fn Eg.wr hwp (by omega) (by omega)) ?_
  rintro vr hh ⟨Or,kr⟩
  try refine gO ?_;conv=>whnf
  refine Runs.ret Tryz.func145 rfl rfl ⟨_,rfl,?_⟩
  refine ⟨⟨nw A+(tw/64+1),?_,by omega⟩,kf.trans (kr.mono (by omega))⟩
  rw [hgs,←eg]
  exact Or.wr
 refine ⟨fun hcl=>?_,fun hcl=>?_⟩<;>conv=>whnf
 ·have hlt:A<C:=by
   rcases Nat.lt_or_ge A C with h|h
   ·exact h
   exfalso
   rcases Nat.lt_or_ge C A with h'|h'
   ·first|exact hcl ((cmpI_lt _ _).2 h')|(have:=(cmpI_lt _ _).1 hcl;omega)
   have e:C=A:=by omega
   apply hc0
   subst e
   unfold cmpI
   rw [if_neg (Int.lt_irrefl _),if_neg (Int.lt_irrefl _)]
  try refine gO ?_;conv=>whnf
  refine Runs.callV (reduceO_fn Ec Ea (Ne.symm ene) (by omega) (by omega)) ?_
  rintro _ hf ⟨rfl,Ra,gr,egr,Pr⟩
  have R2:=Ea.put Pr (by rw [←egr];exact Ne.symm (Ne.symm ene))
  obtain ⟨g1',eg1',bg1',_⟩:=Ec.blk
  have hgr:h.size≤gr:=by rw [egr] at eg1';cases eg1';exact bg1'
  have kf:Keeps h.size h hf:=ke.trans (Pr.keeps.mono hgr)
  try refine gO ?_;conv=>whnf
  refine Runs.callV (zerosO_fn Ra (by omega) (by omega) (hT.keeps kf)) ?_
  rintro _ hf ⟨⟨kz,rfl,tz⟩,rfl⟩
  have hev:(C - A)%2=0:=by omega
  have kzp:=tz_pos tz hev
  have nsub:=nw_mono (Nat.sub_le C A)
  try refine gO ?_;conv=>whnf
  refine Runs.callV (shiftO_fn Ra (by omega) kz (Nat.le_trans (tz_le tz (by omega)) (by decide))) ?_
  rintro wa' hg ⟨Sa,osa,gs,egs,Ps⟩
  have S2:=R2.put Ps (by rw [←egs];exact Ne.symm (Ne.symm ene))
  have hgs':h.size≤gs:=by rw [egs] at eg1';cases eg1';exact bg1'
  have kg:Keeps h.size h hg:=kf.trans (Ps.keeps.mono hgs')
  obtain ⟨mo,odd',_⟩:=tz.div
  have gst:=gcd_step (of_odd eoa) (by omega) tz
  have hdl:=Nat.div_le_self (C - A) (2^kz)
  have ndiv:=nw_mono hdl
  try refine gO ?_;conv=>whnf
  exact ih ((C - A)/2^kz,A,wa',wa) _ _ ⟨kg,Sa,S2,by rw [osa];exact (Ne.symm ene),odd_of odd',eoa,by dsimp only;omega,ena,by rw [gst];exact (by rw [Nat.gcd_comm];exact eg)⟩ (by dsimp only;omega) ⟨rfl,rfl,rfl,trivial⟩
 have hlt:C<A:=by
  rcases Nat.lt_or_ge C A with h|h
  ·exact h
  exfalso
  rcases Nat.lt_or_ge A C with h'|h'
  ·first|exact hcl ((cmpI_lt _ _).2 h')|(have:=(cmpI_lt _ _).1 hcl;omega)
  have e:A=C:=by omega
  apply hc0
  subst e
  unfold cmpI
  rw [if_neg (Int.lt_irrefl _),if_neg (Int.lt_irrefl _)]
 try refine gO ?_;conv=>whnf
 refine Runs.callV (reduceO_fn Ea Ec ene (by omega) (by omega)) ?_
 rintro _ hf ⟨rfl,Ra,gr,egr,Pr⟩
 have R2:=Ec.put Pr (by rw [←egr];exact Ne.symm ene)
 obtain ⟨g1',eg1',bg1',_⟩:=Ea.blk
 have hgr:h.size≤gr:=by rw [egr] at eg1';cases eg1';exact bg1'
 have kf:Keeps h.size h hf:=ke.trans (Pr.keeps.mono hgr)
 try refine gO ?_;conv=>whnf
 refine Runs.callV (zerosO_fn Ra (by omega) (by omega) (hT.keeps kf)) ?_
 rintro _ hf ⟨⟨kz,rfl,tz⟩,rfl⟩
 have hev:(A - C)%2=0:=by omega
 have kzp:=tz_pos tz hev
 have nsub:=nw_mono (Nat.sub_le A C)
 try refine gO ?_;conv=>whnf
 refine Runs.callV (shiftO_fn Ra (by omega) kz (Nat.le_trans (tz_le tz (by omega)) (by decide))) ?_
 rintro wa' hg ⟨Sa,osa,gs,egs,Ps⟩
 have S2:=R2.put Ps (by rw [←egs];exact Ne.symm ene)
 have hgs':h.size≤gs:=by rw [egs] at eg1';cases eg1';exact bg1'
 have kg:Keeps h.size h hg:=kf.trans (Ps.keeps.mono hgs')
 obtain ⟨mo,odd',_⟩:=tz.div
 have gst:=gcd_step (of_odd eoc) (by omega) tz
 have hdl:=Nat.div_le_self (A - C) (2^kz)
 have ndiv:=nw_mono hdl
 try refine gO ?_;conv=>whnf
 exact ih ((A - C)/2^kz,C,wa',wc) _ _ ⟨kg,Sa,S2,by rw [osa];exact ene,odd_of odd',eoc,by dsimp only;omega,enc,by rw [gst];exact eg⟩ (by dsimp only;omega) ⟨rfl,rfl,rfl,trivial⟩

theorem size_mt {s:ByteArray}:s=NatM.mt↔s.size=0:=by
 constructor
 ·rintro rfl;rfl
 intro h
 exact bytes_ext (by rw [h];rfl) fun i hi=>by omega
theorem natv_ne {s:ByteArray} (hc:Canon s) (h:s.size≠0):natv s≠0:=by
 intro e
 have:=nb_natv hc
 rw [e,nb_zero] at this
 omega
theorem nw_small {s:ByteArray} (hc:Canon s) (hs:s.size≤256):nw (natv s)≤32:=by
 rw [←words_len hc];omega
theorem strs_at {h:Array Obj} {b:Nat} {e:TypeId} {ss:List ByteArray} (H:At h b (ss.map Value.string).toArray e):Strs h b 0 ss:=by
 intro j s hs
 rw [H.cell,Nat.zero_add]
 simp [hs]
theorem Div_fn {h:Array Obj} (s t:ByteArray):FnV Tryz.prog 124 #[.string s,.string t] h fun r h'=>r=.tuple #[.string (divS s t).1,.string (divS s t).2.1,.int .i64 (divS s t).2.2]∧Keeps h.size h h':=by
 unfold divS
 refine Fn.of (args:=[.string s,.string t]) Tryz.func124 (by kernel_rfl) rfl Tryz.ntmps124 rfl fun w0 cs=>?_
 refine gO ?_;conv=>whnf
 refine Runs.eff (eff_buildN tab [.string s,.string t] (h1:=by simp [Value.cells])) ?_
 rintro _ h0 ⟨rfl,N0⟩
 try refine gO ?_;conv=>whnf
 refine Runs.callV (check_fn (strs_at (ss:=[s,t]) N0.blk) (by simp)) ?_
 rintro _ h0 ⟨rfl,rfl⟩
 have k0:=N0.keeps
 try refine gO ?_;conv=>whnf
 refine ⟨fun hc=>?_,fun hc=>?_⟩<;>conv=>whnf
 ·have c1:=chk_zero hc (s:=s) (by simp)
  have c2:=chk_zero hc (s:=t) (by simp)
  rw [if_pos hc]
  refine ⟨fun hz=>?_,fun hz=>?_⟩<;>conv=>whnf
  ·refine Runs.ret Tryz.func124 rfl rfl ⟨_,rfl,?_⟩
   rw [if_pos (size_mt.1 hz)]
   exact ⟨rfl,k0⟩
  have hz':t.size≠0:=fun e=>hz (size_mt.2 e)
  rw [if_neg hz']
  refine Runs.callV (words_fn (s:=s) (by omega)) ?_
  rintro v2 h2 ⟨o2,k2⟩
  try refine gO ?_;conv=>whnf
  refine Runs.callV (words_fn (s:=t) (by omega)) ?_
  rintro v3 h3 ⟨o3,k3⟩
  try refine gO ?_;conv=>whnf
  have l2:=words_len c1.1
  have l3:=words_len c2.1
  have q2:=(o2.keeps k3 (Nat.le_refl _)).wr
  have q3:=o3.wr
  rw [l2] at q2
  rw [l3] at q3
  have n1:=nw_small c1.1 c1.2
  have n2:=nw_small c2.1 c2.2
  have s0:=k0.size
  have s2:=k2.size
  have s3:=k3.size
  have kk:=(k0.trans (k2.mono (by omega))).trans (k3.mono (by omega))
  refine Runs.callV (divide_fn q2 q3 (natv_ne c2.1 hz') (by omega) (by omega)) ?_
  rintro _ h4 ⟨vq,vr,mq,mr,rfl,w1,w2,b1,b2,k4⟩
  try refine gO ?_;conv=>whnf
  refine Runs.callV (text_fn w1 (by omega)) ?_
  rintro _ h5 ⟨rfl,k5⟩
  try refine gO ?_;conv=>whnf
  refine Runs.callV (text_fn (w2.keeps k5) (by omega)) ?_
  rintro _ h6 ⟨rfl,k6⟩
  try refine gO ?_;conv=>whnf
  refine Runs.ret Tryz.func124 rfl rfl ⟨_,rfl,?_⟩
  have s4:=k4.size
  have s5:=k5.size
  exact ⟨rfl,((kk.trans (k4.mono (by omega))).trans (k5.mono (by omega))).trans (k6.mono (by omega))⟩
 refine Runs.ret Tryz.func124 rfl rfl ⟨_,rfl,?_⟩
 rw [if_neg hc]
 exact ⟨rfl,k0⟩
theorem Gcd_fn {h:Array Obj} (s t:ByteArray) (hT:TabH h):FnV Tryz.prog 123 #[.string s,.string t] h fun r h'=>r=sev (gcdS s t)∧Keeps h.size h h':=by
 unfold gcdS
 refine Fn.of (args:=[.string s,.string t]) Tryz.func123 (by kernel_rfl) rfl Tryz.ntmps123 rfl fun w0 cs=>?_
 refine gO ?_;conv=>whnf
 refine Runs.eff (eff_buildN tab [.string s,.string t] (h1:=by simp [Value.cells])) ?_
 rintro _ h0 ⟨rfl,N0⟩
 try refine gO ?_;conv=>whnf
 refine Runs.callV (check_fn (strs_at (ss:=[s,t]) N0.blk) (by simp)) ?_
 rintro _ h0 ⟨rfl,rfl⟩
 have k0:=N0.keeps
 try refine gO ?_;conv=>whnf
 refine ⟨fun hc=>?_,fun hc=>?_⟩<;>conv=>whnf
 ·have c1:=chk_zero hc (s:=s) (by simp)
  have c2:=chk_zero hc (s:=t) (by simp)
  rw [if_pos hc]
  refine Runs.callV (words_fn (s:=s) (by omega)) ?_
  rintro v2 h2 ⟨o2,k2⟩
  try refine gO ?_;conv=>whnf
  refine Runs.callV (words_fn (s:=t) (by omega)) ?_
  rintro v3 h3 ⟨o3,k3⟩
  try refine gO ?_;conv=>whnf
  have l2:=words_len c1.1
  have l3:=words_len c2.1
  have q2:=(o2.keeps k3 (Nat.le_refl _)).wr
  have q3:=o3.wr
  rw [l2] at q2
  rw [l3] at q3
  have n1:=nw_small c1.1 c1.2
  have n2:=nw_small c2.1 c2.2
  have s0:=k0.size
  have s2:=k2.size
  have s3:=k3.size
  have kk:=(k0.trans (k2.mono (by omega))).trans (k3.mono (by omega))
  refine Runs.callV (divisor_fn q2 q3 (by omega) (by omega) (hT.keeps kk)) ?_
  rintro vr h4 ⟨⟨mr,w1,b1⟩,k4⟩
  try refine gO ?_;conv=>whnf
  refine Runs.callV (text_fn w1 b1) ?_
  rintro _ h5 ⟨rfl,k5⟩
  try refine gO ?_;conv=>whnf
  refine Runs.ret Tryz.func123 rfl rfl ⟨_,rfl,?_⟩
  have s4:=k4.size
  exact ⟨rfl,(kk.trans (k4.mono (by omega))).trans (k5.mono (by omega))⟩
 refine Runs.ret Tryz.func123 rfl rfl ⟨_,rfl,?_⟩
 rw [if_neg hc]
 exact ⟨rfl,k0⟩
end Go.Proofs.YtofjdbmcloemnaaGreatDoor

namespace Go.NatM
open Go Go.Fw
theorem enc_inj {A C:Nat} (h:enc A=enc C):A=C:=by rw [←natv_enc A,h,natv_enc]
theorem enc_eq {A C:Nat}:enc A=enc C↔A=C:=⟨enc_inj,fun h=>by rw [h]⟩
theorem enc_zero:enc 0=NatM.mt:=rfl
theorem enc_mt {A:Nat}:enc A=NatM.mt↔A=0:=by rw [←enc_zero,enc_eq]
theorem chk_ok {l:List ByteArray} (h:∀s∈l,Canon s∧s.size≤256):chk l=0:=by
 unfold chk
 rw [if_pos (List.all_eq_true.2 fun s hs=>canonB_iff.2 (h s hs).1),if_pos (List.all_eq_true.2 fun s hs=>Nat.ble_eq_true_of_le (h s hs).2)]
theorem chk_e1 {A:Nat} (hA:nb A≤256):chk [enc A]=0:=chk_ok fun s hs=>by
 obtain rfl:s=enc A:=by simpa using hs
 exact ⟨canon_enc A,by rw [enc_size];exact hA⟩
theorem chk_e2 {A C:Nat} (hA:nb A≤256) (hC:nb C≤256):chk [enc A,enc C]=0:=chk_ok fun s hs=>by
 simp only [List.mem_cons,List.not_mem_nil,or_false] at hs
 rcases hs with rfl|rfl
 ·exact ⟨canon_enc A,by rw [enc_size];exact hA⟩
 exact ⟨canon_enc C,by rw [enc_size];exact hC⟩
section
variable {A C:Nat} (hA:nb A≤256) (hC:nb C≤256)
include hA hC
theorem add_e:addS (enc A) (enc C)=shortS (A+C):=by unfold addS;rw [if_pos (chk_e2 hA hC),natv_enc,natv_enc]
theorem mul_e:mulS (enc A) (enc C)=shortS (A*C):=by unfold mulS;rw [if_pos (chk_e2 hA hC),natv_enc,natv_enc]
theorem sub_e:subS (enc A) (enc C)=if A<C then (NatM.mt,1) else (enc (A - C),0):=by unfold subS;rw [if_pos (chk_e2 hA hC),natv_enc,natv_enc]
theorem cmp_e:cmpS (enc A) (enc C)=(cmpN A C,0):=by unfold cmpS;rw [if_pos (chk_e2 hA hC),natv_enc,natv_enc]
theorem gcd_e:gcdS (enc A) (enc C)=(enc (Nat.gcd A C),0):=by unfold gcdS;rw [if_pos (chk_e2 hA hC),natv_enc,natv_enc]
theorem div_e:divS (enc A) (enc C)=if C=0 then (NatM.mt,NatM.mt,71) else (enc (A/C),enc (A%C),0):=by
 unfold divS
 rw [if_pos (chk_e2 hA hC),natv_enc,natv_enc]
 by_cases h:C=0
 ·subst h;rw [if_pos (by rw [enc_size];rfl),if_pos rfl]
 rw [if_neg h,if_neg]
 rw [enc_size]
 have:=nb_pos h
 omega
end
theorem short_e {V:Nat} (h:nb V≤256):shortS V=(enc V,0):=by unfold shortS;rw [if_pos h]
theorem short_big {V:Nat} (h:¬nb V≤256):shortS V=(NatM.mt,2):=by unfold shortS;rw [if_neg h]
theorem nb_mul (A C:Nat):nb (A*C)≤nb A+nb C:=by
 refine nb_le ?_
 rw [Nat.pow_add]
 exact Nat.mul_lt_mul'' (nb_lt A) (nb_lt C)
theorem cmpN_neg {A C:Nat}:cmpN A C<0↔A<C:=by
 unfold cmpN
 by_cases h:A<C
 ·rw [if_pos h];omega
 rw [if_neg h];split<;>omega
end Go.NatM

namespace Go.NatM
open Go Go.Fw
def bts (V:Nat):List Nat:=dn V (nb V) (nb V)
end Go.NatM

namespace Go.Proofs.YtofjdbmcloemnaaGreatDoor
open Go Go.Fw Go.NatM
set_option maxRecDepth 100000
set_option maxHeartbeats 99999999
end Go.Proofs.YtofjdbmcloemnaaGreatDoor

namespace Go.RatM
open Go Go.Fw Go.NatM
structure Q where
 neg:Bool
 n:Nat
 d:Nat
def sg (neg:Bool) (n:Nat):Int:=if neg=true then -(n:Int) else n
def Q.val (a:Q):Rat:=mkRat (sg a.neg a.n) a.d
def Q.Ok (a:Q):Prop:=a.d≠0∧Nat.gcd a.n a.d=1∧(a.neg=true→a.n≠0)
def low (neg:Bool) (n d:Nat):Q:=⟨neg && !Nat.beq n 0,n/Nat.gcd n d,d/Nat.gcd n d⟩
theorem beq0 {n:Nat} (h:n≠0):Nat.beq n 0=false:=by cases n with
 |zero=>exact absurd rfl h
 |succ n=>rfl
theorem sg_abs (s:Bool) (n:Nat):(sg s n).natAbs=n:=by unfold sg;split<;>omega
theorem sg_zero (s:Bool):sg s 0=0:=by unfold sg;split<;>rfl
theorem Q.val_eq {a:Q} (h:a.Ok):a.val=⟨sg a.neg a.n,a.d,h.1,by rw [sg_abs];exact h.2.1⟩:=(Rat.mk_eq_mkRat _ _ h.1 (by rw [sg_abs];exact h.2.1)).symm
theorem Q.num {a:Q} (h:a.Ok):a.val.num=sg a.neg a.n:=by rw [Q.val_eq h]
theorem Q.den {a:Q} (h:a.Ok):a.val.den=a.d:=by rw [Q.val_eq h]
theorem Q.inj {a b:Q} (ha:a.Ok) (hb:b.Ok) (h:a.val=b.val):a=b:=by
 have h1:sg a.neg a.n=sg b.neg b.n:=by rw [←Q.num ha,←Q.num hb,h]
 have h2:a.d=b.d:=by rw [←Q.den ha,←Q.den hb,h]
 have h3:a.n=b.n:=by rw [←sg_abs a.neg a.n,←sg_abs b.neg b.n,h1]
 obtain ⟨s,n,d⟩:=a
 obtain ⟨s',n',d'⟩:=b
 obtain ⟨_,_,ha⟩:=ha
 obtain ⟨_,_,hb⟩:=hb
 simp only at h1 h2 h3 ha hb
 subst h2 h3
 have:s=s':=by
  cases s<;>cases s'<;>simp [sg] at h1 ha hb ⊢ <;> omega
 rw [this]
theorem low_ok (neg:Bool) (n:Nat) {d:Nat} (hd:d≠0):(low neg n d).Ok:=by
 have hg:0<Nat.gcd n d:=Nat.gcd_pos_of_pos_right _ (Nat.pos_of_ne_zero hd)
 refine ⟨?_,?_,fun h=>?_⟩
 ·show d/Nat.gcd n d≠0
  exact Nat.ne_of_gt (Nat.div_pos (Nat.le_of_dvd (Nat.pos_of_ne_zero hd) (Nat.gcd_dvd_right _ _)) hg)
 ·show Nat.gcd (n/Nat.gcd n d) (d/Nat.gcd n d)=1
  rw [Nat.gcd_div (Nat.gcd_dvd_left _ _) (Nat.gcd_dvd_right _ _),Nat.div_self hg]
 show n/Nat.gcd n d≠0
 have hn:n≠0:=by
  intro e;subst e
  simp [low] at h
 exact Nat.ne_of_gt (Nat.div_pos (Nat.le_of_dvd (Nat.pos_of_ne_zero hn) (Nat.gcd_dvd_left _ _)) hg)
theorem low_val (neg:Bool) (n:Nat) {d:Nat} (hd:d≠0):(low neg n d).val=mkRat (sg neg n) d:=by
 have hg:0<Nat.gcd n d:=Nat.gcd_pos_of_pos_right _ (Nat.pos_of_ne_zero hd)
 have e1:Nat.gcd n d*(n/Nat.gcd n d)=n:=Nat.mul_div_cancel' (Nat.gcd_dvd_left _ _)
 have e2:Nat.gcd n d*(d/Nat.gcd n d)=d:=Nat.mul_div_cancel' (Nat.gcd_dvd_right _ _)
 have hs:sg neg n=(Nat.gcd n d:Int)*sg (neg && !Nat.beq n 0) (n/Nat.gcd n d):=by
  by_cases hn:n=0
  ·subst hn;simp [sg_zero]
  have hb:Nat.beq n 0=false:=beq0 hn
  rw [hb]
  cases neg<;>simp only [sg,Bool.not_false,Bool.and_true,if_true,if_false,Bool.false_eq_true]
  ·rw [←Int.natCast_mul,e1]
  rw [Int.mul_neg,←Int.natCast_mul,e1]
 show mkRat (sg (neg && !Nat.beq n 0) (n/Nat.gcd n d)) (d/Nat.gcd n d)=mkRat (sg neg n) d
 rw [←Rat.mkRat_mul_left (Nat.ne_of_gt hg),←hs,e2]
abbrev fits (V:Nat):Prop:=nb V≤256
def Q.le (a:Q) (k:Nat):Prop:=nb a.n≤k∧nb a.d≤k
theorem low_le {neg:Bool} {n d k:Nat} (hn:nb n≤k) (hd:nb d≤k):(low neg n d).le k:=
 ⟨Nat.le_trans (nb_mono (Nat.div_le_self _ _)) hn,Nat.le_trans (nb_mono (Nat.div_le_self _ _)) hd⟩
def mulL (a b:Q):Option Q:=
 if fits (a.n*b.n)∧fits (a.d*b.d) then some (low (a.neg != b.neg) (a.n*b.n) (a.d*b.d)) else none
theorem mulL_val {a b c:Q} (ha:a.d≠0) (hb:b.d≠0) (h:mulL a b=some c):c.Ok∧c.val=a.val*b.val:=by
 have hd:a.d*b.d≠0:=Nat.mul_ne_zero ha hb
 unfold mulL at h
 split at h
 ·cases h
  refine ⟨low_ok _ _ hd,?_⟩
  rw [low_val _ _ hd]
  unfold Q.val
  rw [Rat.mkRat_mul_mkRat]
  congr 1
  cases a.neg<;>cases b.neg<;>simp [sg,Int.neg_mul,Int.mul_neg]
 cases h
theorem mulL_fit {a b:Q} {i j:Nat} (ha:a.le i) (hb:b.le j) (h:i+j≤256):∃c,mulL a b=some c∧c.le (i+j):=by
 have h1:nb (a.n*b.n)≤i+j:=Nat.le_trans (nb_mul _ _) (Nat.add_le_add ha.1 hb.1)
 have h3:nb (a.d*b.d)≤i+j:=Nat.le_trans (nb_mul _ _) (Nat.add_le_add ha.2 hb.2)
 unfold mulL
 rw [if_pos ⟨by omega,by omega⟩]
 exact ⟨_,rfl,low_le h1 h3⟩
def invQ (a:Q):Q:=⟨a.neg,a.d,a.n⟩
theorem invQ_val {a:Q} (ha:a.d≠0) (hn:a.n≠0):(invQ a).val=a.val⁻¹:=by
 have hv:a.val≠0:=by
  intro e
  unfold Q.val at e
  rw [Rat.mkRat_eq_zero ha] at e
  have:=sg_abs a.neg a.n
  rw [e] at this
  exact hn this.symm
 have h1:(invQ a).val*a.val=1:=by
  show mkRat (sg a.neg a.d) a.n*mkRat (sg a.neg a.n) a.d=1
  rw [Rat.mkRat_mul_mkRat]
  have hs:sg a.neg a.d*sg a.neg a.n=((a.n*a.d:Nat):Int):=by
   cases a.neg<;>simp [sg,Int.neg_mul,Int.mul_neg,Int.mul_comm]
  rw [hs]
  have:=Rat.mkRat_mul_left (n:=1) (d:=1) (a:=a.n*a.d) (Nat.mul_ne_zero hn ha)
  rw [Int.mul_one,Nat.mul_one] at this
  rw [this];rfl
 grind
theorem invQ_le {a:Q} {k:Nat} (h:a.le k):(invQ a).le k:=⟨h.2,h.1⟩
def cmpQ (a b:Q):Int:=
 if a.neg=true ∧ ¬b.neg=true then -1 else if ¬a.neg=true∧b.neg=true then 1
 else if a.neg=true then cmpN (b.n*a.d) (a.n*b.d) else cmpN (a.n*b.d) (b.n*a.d)
theorem val_lt {a b:Q} (ha:a.Ok) (hb:b.Ok):a.val<b.val↔sg a.neg a.n*(b.d:Int)<sg b.neg b.n*(a.d:Int):=by
 rw [Rat.lt_iff,Q.num ha,Q.num hb,Q.den ha,Q.den hb]
theorem cmpQ_lt {a b:Q} (ha:a.Ok) (hb:b.Ok):(cmpQ a b = -1↔a.val<b.val)∧(cmpQ a b=1↔b.val<a.val)∧(cmpQ a b = -1∨cmpQ a b=0∨cmpQ a b=1):=by
 rw [val_lt ha hb,val_lt hb ha]
 have pa:0<a.d:=Nat.pos_of_ne_zero ha.1
 have pb:0<b.d:=Nat.pos_of_ne_zero hb.1
 have na:=ha.2.2
 have nb:=hb.2.2
 unfold cmpQ cmpN
 cases hA:a.neg<;>cases hB:b.neg<;>simp only [hA,hB,sg,if_true,if_false,Bool.false_eq_true,not_false_eq_true,not_true_eq_false,and_true,and_false,true_and,false_and,forall_const,false_implies] at na nb ⊢
 ·have e1:(a.n:Int)*b.d=((a.n*b.d:Nat):Int):=(Int.natCast_mul _ _).symm
  have e2:(b.n:Int)*a.d=((b.n*a.d:Nat):Int):=(Int.natCast_mul _ _).symm
  rw [e1,e2]
  split
  ·omega
  split<;>omega
 ·have e1:(0:Int)≤(a.n:Int)*b.d:=Int.mul_nonneg (by omega) (by omega)
  have e2:(0:Int)<(b.n:Int)*a.d:=Int.mul_pos (by omega) (by omega)
  rw [Int.neg_mul]
  exact ⟨⟨fun h=>by omega,fun h=>by omega⟩,⟨fun _=>by omega,fun _=>trivial⟩,.inr (.inr trivial)⟩
 ·have e1:(0:Int)<(a.n:Int)*b.d:=Int.mul_pos (by omega) (by omega)
  have e2:(0:Int)≤(b.n:Int)*a.d:=Int.mul_nonneg (by omega) (by omega)
  rw [Int.neg_mul]
  exact ⟨⟨fun _=>by omega,fun _=>trivial⟩,⟨fun h=>by omega,fun h=>by omega⟩,.inl trivial⟩
 have e1:(a.n:Int)*b.d=((a.n*b.d:Nat):Int):=(Int.natCast_mul _ _).symm
 have e2:(b.n:Int)*a.d=((b.n*a.d:Nat):Int):=(Int.natCast_mul _ _).symm
 rw [Int.neg_mul,Int.neg_mul,e1,e2]
 split
 ·omega
 split<;>omega
end Go.RatM

namespace Go.RatM
open Go Go.Fw Go.NatM
structure Rt where
 neg:Bool
 n:ByteArray
 d:ByteArray
def Rt.v (a:Rt):Value:=.agg #[.bool a.neg,.string a.n,.string a.d]
def encQ (q:Q):Rt:=⟨q.neg,enc q.n,enc q.d⟩
def decQ (a:Rt):Q:=⟨a.neg,natv a.n,natv a.d⟩
def zr:Rt:=⟨false,NatM.mt,NatM.mt⟩
theorem dec_enc (q:Q):decQ (encQ q)=q:=by
 obtain ⟨s,n,d⟩:=q
 simp [decQ,encQ,natv_enc]
def okR (a:Rt):Prop:=chk [a.n]=0∧chk [a.d]=0∧natv a.d≠0∧Nat.gcd (natv a.n) (natv a.d)=1 ∧ ¬(a.neg=true∧natv a.n=0)
instance (a:Rt):Decidable (okR a):=by unfold okR;infer_instance
def chkR (a:Rt):Int:=if okR a then 0 else 70
theorem chkR_zero {a:Rt}:chkR a=0↔okR a:=by
 unfold chkR
 split
 ·simp [*]
 simp [*]
theorem okR_q {a:Rt} (h:okR a):a=encQ (decQ a)∧(decQ a).Ok∧(decQ a).le 256:=by
 obtain ⟨h1,h2,h3,h4,h5⟩:=h
 have c1:=chk_zero h1 (s:=a.n) (by simp)
 have c2:=chk_zero h2 (s:=a.d) (by simp)
 refine ⟨?_,⟨h3,h4,fun e1 e2=>h5 ⟨e1,e2⟩⟩,?_,?_⟩
 ·obtain ⟨s,n,d⟩:=a
  simp only [encQ,decQ,enc_natv c1.1,enc_natv c2.1]
 ·show nb (natv a.n)≤256
  rw [nb_natv c1.1];exact c1.2
 show nb (natv a.d)≤256
 rw [nb_natv c2.1];exact c2.2
theorem okR_enc {q:Q} (h:q.Ok) (hl:q.le 256):okR (encQ q):=by
 unfold okR
 simp only [encQ,natv_enc]
 exact ⟨chk_e1 hl.1,chk_e1 hl.2,h.1,h.2.1,fun ⟨e1,e2⟩=>h.2.2 e1 e2⟩
def resR:Option Q→Rt×Int
 |some c=>(encQ c,0)
 |none=>(zr,2)
def opR (f:Q→Q→Option Q) (a b:Rt):Rt×Int:=if okR a∧okR b then resR (f (decQ a) (decQ b)) else (zr,70)
def mulR (a b:Rt):Rt×Int:=opR mulL a b
def divR (a b:Rt):Rt×Int:=if okR a∧okR b then (if natv b.n=0 then (zr,71) else resR (mulL (decQ a) (invQ (decQ b)))) else (zr,70)
def newQ (n d:Int):Q:=low (decide (n<0) != decide (d<0)) n.natAbs d.natAbs
def newR (n d:Int):Rt×Int:=if d=0 then (zr,71) else (encQ (newQ n d),0)
section
variable {a b:Q} (ha:a.Ok) (hb:b.Ok) (la:a.le 256) (lb:b.le 256)
include ha hb la lb
theorem opR_e (f:Q→Q→Option Q):opR f (encQ a) (encQ b)=resR (f a b):=by
 unfold opR
 rw [if_pos ⟨okR_enc ha la,okR_enc hb lb⟩,dec_enc,dec_enc]
theorem divR_e (hn:b.n≠0):divR (encQ a) (encQ b)=resR (mulL a (invQ b)):=by
 unfold divR
 rw [if_pos ⟨okR_enc ha la,okR_enc hb lb⟩,dec_enc,dec_enc,if_neg (by simp only [encQ,natv_enc];exact hn)]
end
end Go.RatM

namespace Go.RatM
open Go Go.Fw Go.NatM
theorem Q.le.mono {a:Q} {i j:Nat} (h:a.le i) (hij:i≤j):a.le j:=⟨Nat.le_trans h.1 hij,Nat.le_trans h.2 hij⟩
def zq:Q:=⟨false,0,1⟩
def oq:Q:=⟨false,1,1⟩
theorem zq_ok:zq.Ok:=⟨by decide,by decide,fun h=>by cases h⟩
theorem oq_ok:oq.Ok:=⟨by decide,by decide,fun h=>by cases h⟩
theorem oq_le:oq.le 1:=⟨by decide,by decide⟩
theorem zq_val:zq.val=0:=by decide +kernel
theorem oq_val:oq.val=1:=by decide +kernel
theorem val_zero {a:Q} (h:a.Ok):a.val=0↔a=zq:=⟨fun e=>Q.inj h zq_ok (by rw [e,zq_val]),fun e=>by rw [e,zq_val]⟩
theorem n_zero {a:Q} (h:a.Ok):a.n=0↔a=zq:=by
 constructor
 ·intro e
  refine (val_zero h).1 ?_
  unfold Q.val
  rw [e,sg_zero,Rat.mkRat_eq_zero h.1]
 intro e;rw [e];rfl
section
variable {a b:Q} {i j:Nat} (ha:a.Ok) (hb:b.Ok) (la:a.le i) (lb:b.le j)
include ha hb la lb
theorem mulR_ok (h:i+j≤256):∃c,mulR (encQ a) (encQ b)=(encQ c,0)∧c.Ok∧c.le (i+j)∧c.val=a.val*b.val:=by
 obtain ⟨c,e,hl⟩:=mulL_fit la lb h
 have hv:=mulL_val ha.1 hb.1 e
 refine ⟨c,?_,hv.1,hl,hv.2⟩
 unfold mulR
 rw [opR_e ha hb (la.mono (by omega)) (lb.mono (by omega)),e];rfl
theorem divR_ok (h:i+j≤256) (hz:b≠zq):∃c,divR (encQ a) (encQ b)=(encQ c,0)∧c.Ok∧c.le (i+j)∧c.val=a.val*b.val⁻¹:=by
 have hn:b.n≠0:=fun e=>hz ((n_zero hb).1 e)
 obtain ⟨c,e,hl⟩:=mulL_fit la (invQ_le lb) h
 have hv:=mulL_val (b:=invQ b) ha.1 hn e
 refine ⟨c,?_,hv.1,hl,?_⟩
 ·rw [divR_e ha hb (la.mono (by omega)) (lb.mono (by omega)) hn,e];rfl
 rw [hv.2,invQ_val hb.1 hn]
end
theorem newQ_ok {n d:Int} (hd:d≠0):(newQ n d).Ok:=low_ok _ _ (by omega)
theorem newQ_val {n d:Int} (hd:d≠0):(newQ n d).val=(n:Rat)*(d:Rat)⁻¹:=by
 unfold newQ
 rw [low_val _ _ (by omega)]
 have h1:sg (decide (n<0) != decide (d<0)) n.natAbs=if d<0 then -n else n:=by
  unfold sg
  by_cases hn:n<0<;>by_cases hd:d<0<;>simp [hn,hd]<;>omega
 rw [h1,Rat.mkRat_eq_div,Rat.div_def]
 split
 ·next hneg=>
  have e:((d.natAbs:Nat):Rat) = -(d:Rat):=by
   have:((d.natAbs:Nat):Int) = -d:=by omega
   rw [←Rat.intCast_natCast,this,Rat.intCast_neg]
  rw [e,Rat.intCast_neg]
  have hd':(d:Rat)≠0:=by
   intro e;exact hd (by exact_mod_cast e)
  grind
 next hneg=>
 have e:((d.natAbs:Nat):Rat)=(d:Rat):=by
  have:((d.natAbs:Nat):Int)=d:=by omega
  rw [←Rat.intCast_natCast,this]
 rw [e]
theorem newQ_le {n d:Int} {k:Nat} (hn:n.natAbs<256^k) (hd:d.natAbs<256^k):(newQ n d).le k:=low_le (nb_le hn) (nb_le hd)
theorem newR_ok {n d:Int} (hd:d≠0):newR n d=(encQ (newQ n d),0):=by unfold newR;rw [if_neg hd]
end Go.RatM

namespace Go.RatM
open Go Go.Fw Go.NatM
theorem newQ_one (F:Int):newQ F 1=⟨decide (F<0),F.natAbs,1⟩:=by
 unfold newQ low
 have:∀k:Nat,Nat.gcd k 1=1:=fun k=>Nat.gcd_one_right k
 simp only [show (1:Int).natAbs=1 from rfl,this,Nat.div_one]
 have e:((decide (F<0) != decide ((1:Int)<0)) && !Nat.beq F.natAbs 0)=decide (F<0):=by
  by_cases h:F<0
  ·have:F.natAbs≠0:=by omega
   simp [h,beq0 this]
  simp [h]
 rw [e]
theorem sg_one (F:Int):sg (decide (F<0)) F.natAbs=F:=by
 unfold sg
 by_cases h:F<0<;>simp [h]<;>omega
theorem cmp_int {a:Q} (ha:a.Ok) (F:Int):(cmpQ (newQ F 1) a≤0↔F*a.d≤sg a.neg a.n)∧(cmpQ a (newQ F 1)<0↔sg a.neg a.n<F*a.d):=by
 have hx:(newQ F 1).Ok:=newQ_ok (by decide)
 have h1:=cmpQ_lt hx ha
 have h2:=cmpQ_lt ha hx
 rw [val_lt hx ha,val_lt ha hx] at h1
 rw [val_lt hx ha,val_lt ha hx] at h2
 have e1:sg (newQ F 1).neg (newQ F 1).n=F:=by rw [newQ_one];exact sg_one F
 have e2:((newQ F 1).d:Int)=1:=by rw [newQ_one];rfl
 rw [e1,e2,Int.mul_one] at h1 h2
 omega

def lowQ (q:Q):Q:=low q.neg q.n q.d
def addP (a b:Q):Option Q:=
 if fits (a.n*b.d)∧fits (b.n*a.d) then
  if fits (a.d*b.d) then
   if a.neg=b.neg then
    if fits (a.n*b.d+b.n*a.d) then some ⟨a.neg,a.n*b.d+b.n*a.d,a.d*b.d⟩ else none
   else if a.n*b.d<b.n*a.d then some ⟨b.neg,b.n*a.d - a.n*b.d,a.d*b.d⟩
   else some ⟨a.neg,a.n*b.d - b.n*a.d,a.d*b.d⟩
  else none
 else none
def mulP (a b:Q):Option Q:=if fits (a.n*b.n) then if fits (a.d*b.d) then some ⟨a.neg != b.neg,a.n*b.n,a.d*b.d⟩ else none else none
theorem mulL_map (a b:Q):mulL a b=(mulP a b).map lowQ:=by
 unfold mulL mulP
 by_cases h1:fits (a.n*b.n)
 ·by_cases h2:fits (a.d*b.d)
  ·rw [if_pos ⟨h1,h2⟩,if_pos h1,if_pos h2];rfl
  rw [if_neg (fun h=>h2 h.2),if_pos h1,if_neg h2];rfl
 rw [if_neg (fun h=>h1 h.1),if_neg h1];rfl
theorem mulP_d {a b c:Q} (h:mulP a b=some c):c.d=a.d*b.d∧fits c.n∧fits c.d:=by
 unfold mulP at h
 split at h
 ·next h1=>
  split at h
  ·next h2=>cases h;exact ⟨rfl,h1,h2⟩
  cases h
 cases h
end Go.RatM

namespace Go.Proofs.YtofjdbmcloemnaaGreatDoor
open Go Go.Fw Go.NatM Go.RatM
set_option maxRecDepth 100000
set_option maxHeartbeats 99999999
def lim:List PanicEntry:=[{v:=.iface 179 (.agg #[.int .i64 2]),recovered:=false}]
theorem built_number (b:Bool) (s u:ByteArray):(Tryz.prog).built 156 [(0,.bool b),(1,.string s),(2,.string u)]=some #[.bool b,.string s,.string u]:=by rfl
theorem built_ratio (b:Bool) (s u:ByteArray):(Tryz.prog).built 57 [(0,.bool b),(1,.string s),(2,.string u)]=some #[.bool b,.string s,.string u]:=by rfl
theorem built_failure (e:Int):(Tryz.prog).built 179 [(0,.int .i64 e)]=some #[.int .i64 e]:=by rfl
theorem must_ok {h:Array Obj} (s:ByteArray):FnO Tryz.prog lim 120 #[.string s,.int .i64 0] h (some (.string s)):=by
 refine Fn.of (args:=[.string s,.int .i64 0]) Tryz.func120 (by kernel_rfl) rfl Tryz.ntmps120 rfl fun w0 cs=>?_
 refine gO ?_;conv=>whnf
 refine And.intro (fun _=>?_) (fun hn=>absurd (rfl) hn)
 conv=>whnf
 try refine gO ?_;conv=>whnf
 refine Runs.ret Tryz.func120 rfl rfl ⟨rfl,?_⟩
 exact Keeps.refl _ _
theorem must_no {h:Array Obj} (s:ByteArray):FnO Tryz.prog lim 120 #[.string s,.int .i64 2] h none:=by
 refine Fn.of (args:=[.string s,.int .i64 2]) Tryz.func120 (by kernel_rfl) rfl Tryz.ntmps120 rfl fun w0 cs=>?_
 refine gO ?_;conv=>whnf
 refine And.intro (fun hp=>absurd hp (by decide)) (fun _=>?_)
 conv=>whnf
 refine Runs.eff (eff_buildA (built_failure 2)) ?_
 rintro _ _ ⟨rfl,rfl⟩
 try refine gO ?_;conv=>whnf
 refine Runs.panicU (t:=179) (v:=.agg #[.int .i64 2]) ?_
 exact Unw.fail Tryz.func120 (Keeps.refl _ _)
theorem reason_fn {h:Array Obj}:FnV Tryz.prog 101 #[.iface 179 (.agg #[.int .i64 2])] h fun r h'=>r=.int .i64 2∧Keeps h.size h h':=by
 refine Fn.of (args:=[.iface 179 (.agg #[.int .i64 2])]) Tryz.func101 (by kernel_rfl) rfl Tryz.ntmps101 rfl fun w0 cs=>?_
 refine gO ?_;conv=>whnf
 refine Runs.eff (eff_assert Tryz.underlying179 (by simp)) ?_
 rintro _ _ ⟨rfl,rfl⟩
 try refine gO ?_;conv=>whnf
 refine Runs.eff (eff_allocN tab) ?_
 rintro _ h1 ⟨rfl,N1⟩
 try refine gO ?_;conv=>whnf
 refine Runs.eff (eff_storeS tab N1.blk) ?_
 rintro _ h2 P2
 try refine gO ?_;conv=>whnf
 refine ⟨_,(by rw [P2.blk.cell];rfl),?_⟩;conv=>whnf
 refine Runs.ret Tryz.func101 rfl rfl ⟨_,rfl,?_⟩
 exact ⟨rfl,N1.keeps.trans P2.keeps⟩
theorem sign_fn {h:Array Obj} {A C:Nat} (hA:fits A) (hC:fits C):FnV Tryz.prog 173 #[.string (enc A),.string (enc C)] h fun r h'=>r=.int .i64 (cmpN A C)∧Keeps h.size h h':=by
 refine Fn.of (args:=[.string (enc A),.string (enc C)]) Tryz.func173 (by kernel_rfl) rfl Tryz.ntmps173 rfl fun w0 cs=>?_
 refine gO ?_;conv=>whnf
 refine Runs.callV (Compare_fn (enc A) (enc C)) ?_
 rintro _ h1 ⟨rfl,k1⟩
 rw [cmp_e hA hC]
 try refine gO ?_;conv=>whnf
 refine Runs.callS (must_ok NatM.mt) ?_
 rintro h2 k2
 try refine gO ?_;conv=>whnf
 refine Runs.ret Tryz.func173 rfl rfl ⟨_,rfl,?_⟩
 exact ⟨rfl,k1.trans (k2.mono k1.size)⟩
def nv (q:Q):Value:=(encQ q).v
theorem lowest_fn {h:Array Obj} (q:Q) (hd:q.d≠0) (f1:nb q.n≤256) (f2:nb q.d≤256) (hT:TabH h):FnV Tryz.prog 103 #[nv q] h fun r h'=>r=nv (lowQ q)∧Keeps h.size h h':=by
 obtain ⟨s,n,d⟩:=q
 dsimp only at hd f1 f2
 refine Fn.of (args:=[.agg #[.bool s,.string (enc n),.string (enc d)]]) Tryz.func103 (by kernel_rfl) rfl Tryz.ntmps103 rfl fun w0 cs=>?_
 refine gO ?_;conv=>whnf
 refine Runs.eff (eff_boxN rfl) ?_
 rintro _ h1 ⟨rfl,N1⟩
 try refine gO ?_;conv=>whnf
 refine Runs.eff (eff_allocN tab) ?_
 rintro _ h2 ⟨rfl,N2⟩
 try refine gO ?_;conv=>whnf
 have A1:=N2.at N1.blk
 have s1:=N1.size
 have s2:=N2.size
 have k2:=N1.keeps.trans (N2.keeps.mono (by omega))
 have cc:∀h',Keeps h2.size h2 h'→cellH h' h.size 0=some (.bool s)∧cellH h' h.size (0+1)=some (.string (enc n))∧cellH h' h.size (0+2)=some (.string (enc d)):=fun h' hk=>by
  have A2:=hk.at A1 A1.lt
  exact ⟨by rw [A2.cell];rfl,by rw [A2.cell];rfl,by rw [A2.cell];rfl⟩
 have hg:0<Nat.gcd n d:=Nat.gcd_pos_of_pos_right _ (Nat.pos_of_ne_zero hd)
 have hgf:nb (Nat.gcd n d)≤256:=Nat.le_trans (nb_mono (Nat.gcd_le_right _ (Nat.pos_of_ne_zero hd))) f2
 have b0:=cc h2 (Keeps.refl _ _)
 refine ⟨_,b0.2.1,?_⟩;conv=>whnf
 refine ⟨_,b0.2.2,?_⟩;conv=>whnf
 refine Runs.callV (Gcd_fn (enc n) (enc d) (hT.keeps k2)) ?_
 rintro _ h3 ⟨rfl,k3⟩
 rw [gcd_e f1 f2]
 have kk3:=k3
 try refine gO ?_;conv=>whnf
 refine Runs.callS (must_ok (enc (Nat.gcd n d))) ?_
 rintro h4 k4
 have kk4:=kk3.trans (k4.mono kk3.size)
 try refine gO ?_;conv=>whnf
 refine ⟨_,(cc h4 kk4).2.1,?_⟩;conv=>whnf
 refine Runs.callV (Div_fn (enc n) (enc (Nat.gcd n d))) ?_
 rintro _ h5 ⟨rfl,k5⟩
 rw [div_e f1 hgf,if_neg (by omega)]
 have kk5:=kk4.trans (k5.mono kk4.size)
 try refine gO ?_;conv=>whnf
 refine Runs.callS (must_ok NatM.mt) ?_
 rintro h6 k6
 have kk6:=kk5.trans (k6.mono kk5.size)
 try refine gO ?_;conv=>whnf
 refine ⟨_,(cc h6 kk6).2.2,?_⟩;conv=>whnf
 refine Runs.callV (Div_fn (enc d) (enc (Nat.gcd n d))) ?_
 rintro _ h7 ⟨rfl,k7⟩
 rw [div_e f2 hgf,if_neg (by omega)]
 have kk7:=kk6.trans (k7.mono kk6.size)
 try refine gO ?_;conv=>whnf
 refine Runs.callS (must_ok NatM.mt) ?_
 rintro h8 k8
 have kk8:=kk7.trans (k8.mono kk7.size)
 try refine gO ?_;conv=>whnf
 refine ⟨_,(cc h8 kk8).1,?_⟩;conv=>whnf
 have fin:∀b:Bool,b=(s && !Nat.beq n 0) → ∀h9,Put h8 h9 h1.size #[.bool b,.string (enc (n/Nat.gcd n d)),.string (enc (d/Nat.gcd n d))] 57 →
   ∃v,Ending.returned (tup [Value.agg #[.bool b,.string (enc (n/Nat.gcd n d)),.string (enc (d/Nat.gcd n d))]])=Ending.returned v∧v=nv (lowQ ⟨s,n,d⟩)∧Keeps h.size h h9:=fun b hb h9 P9=>by
  subst hb
  exact ⟨_,rfl,rfl,(k2.trans (kk8.mono (by omega))).trans (P9.keeps.mono (by omega))⟩
 have A8:=kk8.at N2.blk N2.blk.lt
 have hz:(!decide (enc (n/Nat.gcd n d)=NatM.mt)) = !Nat.beq n 0:=by
  by_cases hn:n=0
  ·subst hn;simp [enc_mt]
  have h1:n/Nat.gcd n d≠0:=Nat.ne_of_gt (Nat.div_pos (Nat.le_of_dvd (Nat.pos_of_ne_zero hn) (Nat.gcd_dvd_left _ _)) hg)
  rw [beq0 hn,decide_eq_false (fun e=>h1 (enc_mt.1 e))]
 cases s
 ·conv=>whnf
  refine Runs.eff (eff_buildA (built_ratio _ _ _)) ?_
  rintro _ _ ⟨rfl,rfl⟩
  try refine gO ?_;conv=>whnf
  refine Runs.eff (eff_storeS tab A8) ?_
  rintro _ h9 P9
  try refine gO ?_;conv=>whnf
  refine Runs.retA tab Tryz.func103 (vs:=[.agg #[.bool false,.string (enc (n/Nat.gcd n d)),.string (enc (d/Nat.gcd n d))]]) (⟨⟨_,_,rfl,.inr ⟨_,_,rfl,rfl,rfl,cellsH_of_at P9.blk,rfl⟩⟩,trivial⟩) ?_
  exact fin _ rfl h9 P9
 conv=>whnf
 refine Runs.eff (eff_buildA (built_ratio _ _ _)) ?_
 rintro _ _ ⟨rfl,rfl⟩
 try refine gO ?_;conv=>whnf
 refine Runs.eff (eff_storeS tab A8) ?_
 rintro _ h9 P9
 try refine gO ?_;conv=>whnf
 refine Runs.retA tab Tryz.func103 (vs:=[.agg #[.bool (!decide (enc (n/Nat.gcd n d)=NatM.mt)),.string (enc (n/Nat.gcd n d)),.string (enc (d/Nat.gcd n d))]]) (⟨⟨_,_,rfl,.inr ⟨_,_,rfl,rfl,rfl,cellsH_of_at P9.blk,rfl⟩⟩,trivial⟩) ?_
 refine fin _ ?_ h9 P9
 rw [hz];rfl

def crossV (a b:Q):Option Value:=if fits (a.n*b.d)∧fits (b.n*a.d) then some (.tuple #[.string (enc (a.n*b.d)),.string (enc (b.n*a.d))]) else none
theorem crossed_fn {h:Array Obj} (a b:Q) (la:a.le 256) (lb:b.le 256):FnO Tryz.prog lim 171 #[nv a,nv b] h (crossV a b):=by
 obtain ⟨r,hr⟩:∃r,r=crossV a b:=⟨_,rfl⟩
 rw [←hr]
 obtain ⟨s,n,d⟩:=a
 obtain ⟨t,m,e⟩:=b
 unfold crossV at hr
 dsimp only at hr
 have ln:nb n≤256:=la.1
 have ld:nb d≤256:=la.2
 have lm:nb m≤256:=lb.1
 have le:nb e≤256:=lb.2
 refine Fn.of (args:=[.agg #[.bool s,.string (enc n),.string (enc d)],.agg #[.bool t,.string (enc m),.string (enc e)]]) Tryz.func171 (by kernel_rfl) rfl Tryz.ntmps171 rfl fun w0 cs=>?_
 refine gO ?_;conv=>whnf
 refine Runs.eff (eff_boxN rfl) ?_
 rintro _ h1 ⟨rfl,N1⟩
 try refine gO ?_;conv=>whnf
 refine Runs.eff (eff_boxN rfl) ?_
 rintro _ h2 ⟨rfl,N2⟩
 try refine gO ?_;conv=>whnf
 have s1:=N1.size
 have s2:=N2.size
 have A1:=N2.at N1.blk
 have k2:=N1.keeps.trans (N2.keeps.mono (by omega))
 have a1:cellH h2 h.size (0+1)=some (.string (enc n)):=by rw [A1.cell];rfl
 have a2:cellH h2 h.size (0+2)=some (.string (enc d)):=by rw [A1.cell];rfl
 have b1:cellH h2 h1.size (0+1)=some (.string (enc m)):=by rw [N2.blk.cell];rfl
 have b2:cellH h2 h1.size (0+2)=some (.string (enc e)):=by rw [N2.blk.cell];rfl
 refine Runs.heldP tab [(0,[]),(1,[]),(2,[]),(3,[]),(8,[]),(9,[]),(10,[]),(11,[]),(4,[9,11]),(5,[]),(6,[]),(7,[9,11]),(12,[]),(13,[]),(14,[]),(15,[]),(16,[]),(17,[])] (by kernel_rfl) ?_;conv=>whnf
 refine ⟨_,a1,?_⟩;conv=>whnf
 refine ⟨_,b2,?_⟩;conv=>whnf
 refine ⟨_,b1,?_⟩;conv=>whnf
 refine ⟨_,a2,?_⟩;conv=>whnf
 refine ⟨rfl,_,_,EffP.of_eff (Eff.call (Mul_fn (enc n) (enc e))),fun _ _ h=>h.elim,?_⟩
 rintro _ h3 ⟨rfl,k3⟩
 refine And.intro (by conv=>whnf
                      repeat (first|(refine And.intro (fun e=>(Keeps.cell (k3) (by omega)).trans e) ?_;conv=>whnf)|(refine And.intro (fun e=>Keeps.cells (k3) (by omega) e) ?_;conv=>whnf))
                      exact trivial) ?_
 conv=>whnf
 rw [mul_e ln le]
 have q3:=k3.size
 by_cases f1:fits (n*e)
 ·rw [short_e f1]
  conv=>whnf
  refine ⟨rfl,_,_,EffP.callS (must_ok (enc (n*e))),fun _ _ h=>h.elim,?_⟩
  rintro _ h4 ⟨rfl,k4⟩
  refine And.intro (by conv=>whnf
                       repeat (first|(refine And.intro (fun e=>(Keeps.cell (k4) (by omega)).trans e) ?_;conv=>whnf)|(refine And.intro (fun e=>Keeps.cells (k4) (by omega) e) ?_;conv=>whnf))
                       exact trivial) ?_
  conv=>whnf
  have q4:=k4.size
  refine ⟨rfl,_,_,EffP.of_eff (Eff.call (Mul_fn (enc m) (enc d))),fun _ _ h=>h.elim,?_⟩
  rintro _ h5 ⟨rfl,k5⟩
  refine And.intro (by conv=>whnf
                       repeat (refine And.intro (fun e=>e) ?_;conv=>whnf)
                       exact trivial) ?_
  conv=>whnf
  rw [mul_e lm ld]
  have q5:=k5.size
  have kk5:=((k2.trans (k3.mono (by omega))).trans (k4.mono (by omega))).trans (k5.mono (by omega))
  by_cases f2:fits (m*d)
  ·rw [short_e f2]
   conv=>whnf
   refine ⟨rfl,_,_,EffP.callS (must_ok (enc (m*d))),fun _ _ h=>h.elim,?_⟩
   rintro _ h6 ⟨rfl,k6⟩
   refine And.intro (by conv=>whnf
                        repeat (refine And.intro (fun e=>e) ?_;conv=>whnf)
                        exact trivial) ?_
   conv=>whnf
   rw [if_pos ⟨f1,f2⟩] at hr
   subst hr
   try refine gO ?_;conv=>whnf
   refine Runs.ret Tryz.func171 rfl rfl ⟨rfl,?_⟩
   exact kk5.trans (k6.mono (by omega))
  rw [short_big f2]
  conv=>whnf
  refine ⟨rfl,_,_,EffP.callF (must_no NatM.mt),?_,fun _ _ h0=>h0.elim⟩
  rintro _ h0 ⟨rfl,k0⟩
  rw [if_neg (fun h=>f2 h.2)] at hr
  subst hr
  exact Unw.fail Tryz.func171 (kk5.trans (k0.mono (by omega)))
 rw [short_big f1]
 conv=>whnf
 refine ⟨rfl,_,_,EffP.callF (must_no NatM.mt),?_,fun _ _ h0=>h0.elim⟩
 rintro _ h0 ⟨rfl,k0⟩
 rw [if_neg (fun h=>f1 h.1)] at hr
 subst hr
 exact Unw.fail Tryz.func171 ((k2.trans (k3.mono (by omega))).trans (k0.mono (by omega)))
theorem qtimes_fn {h:Array Obj} (a b:Q) (la:a.le 256) (lb:b.le 256):FnO Tryz.prog lim 153 #[nv a,nv b] h ((mulP a b).map nv):=by
 obtain ⟨r,hr⟩:∃r,r=(mulP a b).map nv:=⟨_,rfl⟩
 rw [←hr]
 obtain ⟨s,n,d⟩:=a
 obtain ⟨t,m,e⟩:=b
 unfold mulP at hr
 dsimp only at hr
 have ln:nb n≤256:=la.1
 have ld:nb d≤256:=la.2
 have lm:nb m≤256:=lb.1
 have le:nb e≤256:=lb.2
 refine Fn.of (args:=[.agg #[.bool s,.string (enc n),.string (enc d)],.agg #[.bool t,.string (enc m),.string (enc e)]]) Tryz.func153 (by kernel_rfl) rfl Tryz.ntmps153 rfl fun w0 cs=>?_
 refine gO ?_;conv=>whnf
 refine Runs.eff (eff_boxN rfl) ?_
 rintro _ h1 ⟨rfl,N1⟩
 try refine gO ?_;conv=>whnf
 refine Runs.eff (eff_boxN rfl) ?_
 rintro _ h2 ⟨rfl,N2⟩
 try refine gO ?_;conv=>whnf
 refine Runs.eff (eff_allocN tab) ?_
 rintro _ h2b ⟨rfl,N3⟩
 try refine gO ?_;conv=>whnf
 have s1:=N1.size
 have s2:=N2.size
 have s3:=N3.size
 have A1:=N3.at (N2.at N1.blk)
 have A2:=N3.at N2.blk
 have k2:=(N1.keeps.trans (N2.keeps.mono (by omega))).trans (N3.keeps.mono (by omega))
 have a0:cellH h2b h.size 0=some (.bool s):=by rw [A1.cell];rfl
 have a1:cellH h2b h.size (0+1)=some (.string (enc n)):=by rw [A1.cell];rfl
 have a2:cellH h2b h.size (0+2)=some (.string (enc d)):=by rw [A1.cell];rfl
 have b0:cellH h2b h1.size 0=some (.bool t):=by rw [A2.cell];rfl
 have b1:cellH h2b h1.size (0+1)=some (.string (enc m)):=by rw [A2.cell];rfl
 have b2:cellH h2b h1.size (0+2)=some (.string (enc e)):=by rw [A2.cell];rfl
 refine Runs.heldP tab [(0,[]),(1,[]),(2,[]),(3,[]),(4,[]),(5,[]),(6,[]),(7,[]),(8,[]),(13,[]),(14,[]),(15,[]),(16,[]),(9,[1,3,14,16]),(10,[]),(11,[]),(12,[1,3,14,16]),(17,[1,3]),(18,[]),(19,[]),(20,[1,3]),(21,[]),(22,[])] (by kernel_rfl) ?_;conv=>whnf
 refine ⟨_,a0,?_⟩;conv=>whnf
 refine ⟨_,b0,?_⟩;conv=>whnf
 refine ⟨_,a1,?_⟩;conv=>whnf
 refine ⟨_,b1,?_⟩;conv=>whnf
 refine ⟨_,a2,?_⟩;conv=>whnf
 refine ⟨_,b2,?_⟩;conv=>whnf
 refine ⟨rfl,_,_,EffP.of_eff (Eff.call (Mul_fn (enc n) (enc m))),fun _ _ h=>h.elim,?_⟩
 rintro _ h3 ⟨rfl,k3⟩
 refine And.intro (by conv=>whnf
                      repeat (first|(refine And.intro (fun e=>(Keeps.cell (k3) (by omega)).trans e) ?_;conv=>whnf)|(refine And.intro (fun e=>Keeps.cells (k3) (by omega) e) ?_;conv=>whnf))
                      exact trivial) ?_
 conv=>whnf
 rw [mul_e ln lm]
 have q3:=k3.size
 by_cases f1:fits (n*m)
 ·rw [short_e f1]
  conv=>whnf
  refine ⟨rfl,_,_,EffP.callS (must_ok (enc (n*m))),fun _ _ h=>h.elim,?_⟩
  rintro _ h4 ⟨rfl,k4⟩
  refine And.intro (by conv=>whnf
                       repeat (first|(refine And.intro (fun e=>(Keeps.cell (k4) (by omega)).trans e) ?_;conv=>whnf)|(refine And.intro (fun e=>Keeps.cells (k4) (by omega) e) ?_;conv=>whnf))
                       exact trivial) ?_
  conv=>whnf
  have q4:=k4.size
  refine ⟨rfl,_,_,EffP.of_eff (Eff.call (Mul_fn (enc d) (enc e))),fun _ _ h=>h.elim,?_⟩
  rintro _ h5 ⟨rfl,k5⟩
  refine And.intro (by conv=>whnf
                       repeat (first|(refine And.intro (fun e=>(Keeps.cell (k5) (by omega)).trans e) ?_;conv=>whnf)|(refine And.intro (fun e=>Keeps.cells (k5) (by omega) e) ?_;conv=>whnf))
                       exact trivial) ?_
  conv=>whnf
  rw [mul_e ld le]
  have q5:=k5.size
  have kk5:=(k3.trans (k4.mono (by omega))).trans (k5.mono (by omega))
  by_cases f2:fits (d*e)
  ·rw [short_e f2]
   conv=>whnf
   refine ⟨rfl,_,_,EffP.callS (must_ok (enc (d*e))),fun _ _ h=>h.elim,?_⟩
   rintro _ h6 ⟨rfl,k6⟩
   refine And.intro (by conv=>whnf
                        repeat (first|(refine And.intro (fun e=>(Keeps.cell (k6) (by omega)).trans e) ?_;conv=>whnf)|(refine And.intro (fun e=>Keeps.cells (k6) (by omega) e) ?_;conv=>whnf))
                        exact trivial) ?_
   conv=>whnf
   have q6:=k6.size
   have kk6:=kk5.trans (k6.mono (by omega))
   rw [if_pos f1,if_pos f2] at hr
   subst hr
   refine ⟨rfl,_,plain_build (built_number _ _ _),?_⟩;conv=>whnf
   refine ⟨rfl,_,_,EffP.of_eff (eff_storeS tab (kk6.at N3.blk N3.blk.lt)),fun _ _ h=>h.elim,?_⟩
   rintro _ h7 P7
   refine And.intro (by conv=>whnf
                        repeat (refine And.intro (fun e=>e) ?_;conv=>whnf)
                        exact trivial) ?_
   conv=>whnf
   try refine gO ?_;conv=>whnf
   refine Runs.retA tab Tryz.func153 (vs:=[.agg #[.bool (s != t),.string (enc (n*m)),.string (enc (d*e))]]) (⟨⟨_,_,rfl,.inr ⟨_,_,rfl,rfl,rfl,cellsH_of_at P7.blk,?_⟩⟩,trivial⟩) ?_
   ·cases s<;>cases t<;>rfl
   exact ⟨rfl,(k2.trans (kk6.mono (by omega))).trans (P7.keeps.mono (by omega))⟩
  rw [short_big f2]
  conv=>whnf
  refine ⟨rfl,_,_,EffP.callF (must_no NatM.mt),?_,fun _ _ h0=>h0.elim⟩
  rintro _ h0 ⟨rfl,k0⟩
  rw [if_pos f1,if_neg f2] at hr
  subst hr
  exact Unw.fail Tryz.func153 ((k2.trans (kk5.mono (by omega))).trans (k0.mono (by omega)))
 rw [short_big f1]
 conv=>whnf
 refine ⟨rfl,_,_,EffP.callF (must_no NatM.mt),?_,fun _ _ h0=>h0.elim⟩
 rintro _ h0 ⟨rfl,k0⟩
 rw [if_neg f1] at hr
 subst hr
 exact Unw.fail Tryz.func153 ((k2.trans (k3.mono (by omega))).trans (k0.mono (by omega)))

theorem qplus_fn {h:Array Obj} (a b:Q) (la:a.le 256) (lb:b.le 256):FnO Tryz.prog lim 149 #[nv a,nv b] h ((addP a b).map nv):=by
 obtain ⟨r,hr⟩:∃r,r=(addP a b).map nv:=⟨_,rfl⟩
 rw [←hr]
 obtain ⟨s,n,d⟩:=a
 obtain ⟨t,m,e⟩:=b
 unfold addP at hr
 dsimp only at hr
 have ln:nb n≤256:=la.1
 have ld:nb d≤256:=la.2
 have lm:nb m≤256:=lb.1
 have le:nb e≤256:=lb.2
 refine Fn.of (args:=[.agg #[.bool s,.string (enc n),.string (enc d)],.agg #[.bool t,.string (enc m),.string (enc e)]]) Tryz.func149 (by kernel_rfl) rfl Tryz.ntmps149 rfl fun w0 cs=>?_
 refine gO ?_;conv=>whnf
 refine Runs.eff (eff_boxN rfl) ?_
 rintro _ h1 ⟨rfl,N1⟩
 try refine gO ?_;conv=>whnf
 refine Runs.eff (eff_boxN rfl) ?_
 rintro _ h2 ⟨rfl,N2⟩
 try refine gO ?_;conv=>whnf
 refine Runs.eff (eff_allocN tab) ?_
 rintro _ h2b ⟨rfl,N3⟩
 try refine gO ?_;conv=>whnf
 have s1:=N1.size
 have s2:=N2.size
 have s3:=N3.size
 have A1:=N3.at (N2.at N1.blk)
 have A2:=N3.at N2.blk
 have k2:=(N1.keeps.trans (N2.keeps.mono (by omega))).trans (N3.keeps.mono (by omega))
 have ca:∀h',Keeps h2b.size h2b h'→cellH h' h.size 0=some (.bool s)∧cellH h' h.size (0+1)=some (.string (enc n))∧cellH h' h.size (0+2)=some (.string (enc d)):=fun h' hk=>by
  have A:=hk.at A1 A1.lt
  exact ⟨by rw [A.cell];rfl,by rw [A.cell];rfl,by rw [A.cell];rfl⟩
 have cb:∀h',Keeps h2b.size h2b h'→cellH h' h1.size 0=some (.bool t)∧cellH h' h1.size (0+1)=some (.string (enc m))∧cellH h' h1.size (0+2)=some (.string (enc e)):=fun h' hk=>by
  have A:=hk.at A2 A2.lt
  exact ⟨by rw [A.cell];rfl,by rw [A.cell];rfl,by rw [A.cell];rfl⟩
 refine Runs.eff (eff_loadAgg tab (vs:=[.bool s,.string (enc n),.string (enc d)]) (cellsH_of_at A1) rfl) ?_
 rintro _ h2b ⟨rfl,rfl⟩
 try refine gO ?_;conv=>whnf
 refine Runs.eff (eff_loadAgg tab (vs:=[.bool t,.string (enc m),.string (enc e)]) (cellsH_of_at A2) rfl) ?_
 rintro _ h2b ⟨rfl,rfl⟩
 try refine gO ?_;conv=>whnf
 by_cases f1:fits (n*e)∧fits (m*d)
 ·rw [if_pos f1] at hr
  have hcr:FnO Tryz.prog lim 171 #[nv ⟨s,n,d⟩,nv ⟨t,m,e⟩] h2b (some (.tuple #[.string (enc (n*e)),.string (enc (m*d))])):=by
   have:=crossed_fn (h:=h2b) ⟨s,n,d⟩ ⟨t,m,e⟩ la lb
   unfold crossV at this
   rw [if_pos f1] at this
   exact this
  refine Runs.callS (hcr) ?_
  rintro h3 k3
  have q3:=k3.size
  try refine gO ?_;conv=>whnf
  refine ⟨_,(ca h3 k3).2.2,?_⟩;conv=>whnf
  refine ⟨_,(cb h3 k3).2.2,?_⟩;conv=>whnf
  refine Runs.callV (Mul_fn (enc d) (enc e)) ?_
  rintro _ h4 ⟨rfl,k4⟩
  have q4:=k4.size
  rw [mul_e ld le]
  have kk4:=k3.trans (k4.mono (by omega))
  by_cases f2:fits (d*e)
  ·rw [short_e f2]
   rw [if_pos f2] at hr
   try refine gO ?_;conv=>whnf
   refine Runs.callS (must_ok (enc (d*e))) ?_
   rintro h5 k5
   have q5:=k5.size
   have kk5:=kk4.trans (k5.mono (by omega))
   try refine gO ?_;conv=>whnf
   refine ⟨_,(ca h5 kk5).1,?_⟩;conv=>whnf
   refine ⟨_,(cb h5 kk5).1,?_⟩;conv=>whnf
   have hst:(s==t)=decide (s=t):=by cases s<;>cases t<;>rfl
   rw [hst]
   by_cases hs:s=t
   ·rw [decide_eq_true hs]
    rw [if_pos hs] at hr
    try refine gO ?_;conv=>whnf
    refine Runs.heldP tab [(0,[]),(1,[]),(2,[]),(3,[]),(8,[]),(4,[1]),(5,[]),(6,[]),(7,[1]),(9,[]),(10,[])] (by kernel_rfl) ?_;conv=>whnf
    refine ⟨_,(ca h5 kk5).1,?_⟩;conv=>whnf
    refine ⟨rfl,_,_,EffP.of_eff (Eff.call (Add_fn (enc (n*e)) (enc (m*d)))),fun _ _ h=>h.elim,?_⟩
    rintro _ h6 ⟨rfl,k6⟩
    refine And.intro (by conv=>whnf
                         repeat (first|(refine And.intro (fun e=>(Keeps.cell (k6) (by omega)).trans e) ?_;conv=>whnf)|(refine And.intro (fun e=>Keeps.cells (k6) (by omega) e) ?_;conv=>whnf))
                         exact trivial) ?_
    conv=>whnf
    have q6:=k6.size
    rw [add_e f1.1 f1.2]
    have kk6:=kk5.trans (k6.mono (by omega))
    by_cases f3:fits (n*e+m*d)
    ·rw [short_e f3]
     rw [if_pos f3] at hr
     subst hr
     conv=>whnf
     refine ⟨rfl,_,_,EffP.callS (must_ok (enc (n*e+m*d))),fun _ _ h=>h.elim,?_⟩
     rintro _ h7 ⟨rfl,k7⟩
     refine And.intro (by conv=>whnf
                          repeat (first|(refine And.intro (fun e=>(Keeps.cell (k7) (by omega)).trans e) ?_;conv=>whnf)|(refine And.intro (fun e=>Keeps.cells (k7) (by omega) e) ?_;conv=>whnf))
                          exact trivial) ?_
     conv=>whnf
     have q7:=k7.size
     have kk7:=kk6.trans (k7.mono (by omega))
     refine ⟨rfl,_,plain_build (built_number _ _ _),?_⟩;conv=>whnf
     refine ⟨rfl,_,_,EffP.of_eff (eff_storeS tab (kk7.at N3.blk N3.blk.lt)),fun _ _ h=>h.elim,?_⟩
     rintro _ h8 P8
     refine And.intro (by conv=>whnf
                          repeat (refine And.intro (fun e=>e) ?_;conv=>whnf)
                          exact trivial) ?_
     conv=>whnf
     try refine gO ?_;conv=>whnf
     refine Runs.retA tab Tryz.func149 (vs:=[.agg #[.bool s,.string (enc (n*e+m*d)),.string (enc (d*e))]]) (⟨⟨_,_,rfl,.inr ⟨_,_,rfl,rfl,rfl,cellsH_of_at P8.blk,rfl⟩⟩,trivial⟩) ?_
     exact ⟨rfl,(k2.trans (kk7.mono (by omega))).trans (P8.keeps.mono (by omega))⟩
    rw [short_big f3]
    rw [if_neg f3] at hr
    subst hr
    conv=>whnf
    refine ⟨rfl,_,_,EffP.callF (must_no NatM.mt),?_,fun _ _ h0=>h0.elim⟩
    rintro _ h0 ⟨rfl,k0⟩
    exact Unw.fail Tryz.func149 ((k2.trans (kk6.mono (by omega))).trans (k0.mono (by omega)))
   rw [decide_eq_false hs]
   rw [if_neg hs] at hr
   try refine gO ?_;conv=>whnf
   refine Runs.callV (sign_fn f1.1 f1.2) ?_
   rintro _ h6 ⟨rfl,k6⟩
   have q6:=k6.size
   have kk6:=kk5.trans (k6.mono (by omega))
   try refine gO ?_;conv=>whnf
   refine ⟨fun hlt=>?_,fun hlt=>?_⟩<;>conv=>whnf
   ·have hlt:=cmpN_neg.1 hlt
    rw [if_pos hlt] at hr
    subst hr
    try refine gO ?_;conv=>whnf
    refine Runs.heldP tab [(0,[]),(1,[]),(2,[]),(3,[]),(8,[]),(4,[1]),(5,[]),(6,[]),(7,[1]),(9,[]),(10,[])] (by kernel_rfl) ?_;conv=>whnf
    refine ⟨_,(cb h6 kk6).1,?_⟩;conv=>whnf
    refine ⟨rfl,_,_,EffP.of_eff (Eff.call (Sub_fn (enc (m*d)) (enc (n*e)))),fun _ _ h=>h.elim,?_⟩
    rintro _ h7 ⟨rfl,k7⟩
    refine And.intro (by conv=>whnf
                         repeat (first|(refine And.intro (fun e=>(Keeps.cell (k7) (by omega)).trans e) ?_;conv=>whnf)|(refine And.intro (fun e=>Keeps.cells (k7) (by omega) e) ?_;conv=>whnf))
                         exact trivial) ?_
    conv=>whnf
    have q7:=k7.size
    rw [sub_e f1.2 f1.1,if_neg (by omega)]
    conv=>whnf
    refine ⟨rfl,_,_,EffP.callS (must_ok (enc (m*d - n*e))),fun _ _ h=>h.elim,?_⟩
    rintro _ h8 ⟨rfl,k8⟩
    refine And.intro (by conv=>whnf
                         repeat (first|(refine And.intro (fun e=>(Keeps.cell (k8) (by omega)).trans e) ?_;conv=>whnf)|(refine And.intro (fun e=>Keeps.cells (k8) (by omega) e) ?_;conv=>whnf))
                         exact trivial) ?_
    conv=>whnf
    have q8:=k8.size
    have kk8:=(kk6.trans (k7.mono (by omega))).trans (k8.mono (by omega))
    refine ⟨rfl,_,plain_build (built_number _ _ _),?_⟩;conv=>whnf
    refine ⟨rfl,_,_,EffP.of_eff (eff_storeS tab (kk8.at N3.blk N3.blk.lt)),fun _ _ h=>h.elim,?_⟩
    rintro _ h9 P9
    refine And.intro (by conv=>whnf
                         repeat (refine And.intro (fun e=>e) ?_;conv=>whnf)
                         exact trivial) ?_
    conv=>whnf
    try refine gO ?_;conv=>whnf
    refine Runs.retA tab Tryz.func149 (vs:=[.agg #[.bool t,.string (enc (m*d - n*e)),.string (enc (d*e))]]) (⟨⟨_,_,rfl,.inr ⟨_,_,rfl,rfl,rfl,cellsH_of_at P9.blk,rfl⟩⟩,trivial⟩) ?_
    exact ⟨rfl,(k2.trans (kk8.mono (by omega))).trans (P9.keeps.mono (by omega))⟩
   have hlt:¬n*e<m*d:=fun h=>hlt (cmpN_neg.2 h)
   rw [if_neg hlt] at hr
   subst hr
   try refine gO ?_;conv=>whnf
   refine Runs.heldP tab [(0,[]),(1,[]),(2,[]),(3,[]),(8,[]),(4,[1]),(5,[]),(6,[]),(7,[1]),(9,[]),(10,[])] (by kernel_rfl) ?_;conv=>whnf
   refine ⟨_,(ca h6 kk6).1,?_⟩;conv=>whnf
   refine ⟨rfl,_,_,EffP.of_eff (Eff.call (Sub_fn (enc (n*e)) (enc (m*d)))),fun _ _ h=>h.elim,?_⟩
   rintro _ h7 ⟨rfl,k7⟩
   refine And.intro (by conv=>whnf
                        repeat (first|(refine And.intro (fun e=>(Keeps.cell (k7) (by omega)).trans e) ?_;conv=>whnf)|(refine And.intro (fun e=>Keeps.cells (k7) (by omega) e) ?_;conv=>whnf))
                        exact trivial) ?_
   conv=>whnf
   have q7:=k7.size
   rw [sub_e f1.1 f1.2,if_neg hlt]
   conv=>whnf
   refine ⟨rfl,_,_,EffP.callS (must_ok (enc (n*e - m*d))),fun _ _ h=>h.elim,?_⟩
   rintro _ h8 ⟨rfl,k8⟩
   refine And.intro (by conv=>whnf
                        repeat (first|(refine And.intro (fun e=>(Keeps.cell (k8) (by omega)).trans e) ?_;conv=>whnf)|(refine And.intro (fun e=>Keeps.cells (k8) (by omega) e) ?_;conv=>whnf))
                        exact trivial) ?_
   conv=>whnf
   have q8:=k8.size
   have kk8:=(kk6.trans (k7.mono (by omega))).trans (k8.mono (by omega))
   refine ⟨rfl,_,plain_build (built_number _ _ _),?_⟩;conv=>whnf
   refine ⟨rfl,_,_,EffP.of_eff (eff_storeS tab (kk8.at N3.blk N3.blk.lt)),fun _ _ h=>h.elim,?_⟩
   rintro _ h9 P9
   refine And.intro (by conv=>whnf
                        repeat (refine And.intro (fun e=>e) ?_;conv=>whnf)
                        exact trivial) ?_
   conv=>whnf
   try refine gO ?_;conv=>whnf
   refine Runs.retA tab Tryz.func149 (vs:=[.agg #[.bool s,.string (enc (n*e - m*d)),.string (enc (d*e))]]) (⟨⟨_,_,rfl,.inr ⟨_,_,rfl,rfl,rfl,cellsH_of_at P9.blk,rfl⟩⟩,trivial⟩) ?_
   exact ⟨rfl,(k2.trans (kk8.mono (by omega))).trans (P9.keeps.mono (by omega))⟩
  rw [short_big f2]
  rw [if_neg f2] at hr
  subst hr
  try refine gO ?_;conv=>whnf
  refine Runs.callF (must_no NatM.mt) ?_
  rintro h0 k0
  exact Unw.fail Tryz.func149 ((k2.trans (kk4.mono (by omega))).trans (k0.mono (by omega)))
 rw [if_neg f1] at hr
 subst hr
 have hcr:FnO Tryz.prog lim 171 #[nv ⟨s,n,d⟩,nv ⟨t,m,e⟩] h2b none:=by
  have:=crossed_fn (h:=h2b) ⟨s,n,d⟩ ⟨t,m,e⟩ la lb
  unfold crossV at this
  rw [if_neg f1] at this
  exact this
 refine Runs.callF (hcr) ?_
 rintro h0 k0
 exact Unw.fail Tryz.func149 (k2.trans (k0.mono (by omega)))

theorem op1_fn {h:Array Obj} (a b:Q) (la:a.le 256) (lb:b.le 256):FnO Tryz.prog lim 148 #[nv a,nv b] h ((addP a b).map nv):=by
 obtain ⟨r,hr⟩:∃r,r=(addP a b).map nv:=⟨_,rfl⟩
 rw [←hr]
 refine Fn.of (args:=[.agg #[.bool a.neg,.string (enc a.n),.string (enc a.d)],.agg #[.bool b.neg,.string (enc b.n),.string (enc b.d)]]) Tryz.func148 (by kernel_rfl) rfl Tryz.ntmps148 rfl fun w0 cs=>?_
 refine gO ?_;conv=>whnf
 refine Runs.eff (eff_boxN rfl) ?_
 rintro _ h1 ⟨rfl,N1⟩
 try refine gO ?_;conv=>whnf
 refine Runs.eff (eff_boxN rfl) ?_
 rintro _ h2 ⟨rfl,N2⟩
 try refine gO ?_;conv=>whnf
 refine Runs.eff (eff_allocN tab) ?_
 rintro _ h3 ⟨rfl,N3⟩
 try refine gO ?_;conv=>whnf
 have s1:=N1.size
 have s2:=N2.size
 have s3:=N3.size
 have A1:=N3.at (N2.at N1.blk)
 have A2:=N3.at N2.blk
 have k2:=(N1.keeps.trans (N2.keeps.mono (by omega))).trans (N3.keeps.mono (by omega))
 refine Runs.eff (eff_loadAgg tab (vs:=[.bool a.neg,.string (enc a.n),.string (enc a.d)]) (cellsH_of_at A1) rfl) ?_
 rintro _ h3 ⟨rfl,rfl⟩
 try refine gO ?_;conv=>whnf
 refine Runs.eff (eff_loadAgg tab (vs:=[.bool b.neg,.string (enc b.n),.string (enc b.d)]) (cellsH_of_at A2) rfl) ?_
 rintro _ h3 ⟨rfl,rfl⟩
 try refine gO ?_;conv=>whnf
 have hc:=qplus_fn (h:=h3) a b la lb
 cases hq:addP a b with
 |none=>
  rw [hq] at hc hr
  subst hr
  refine Runs.callF (hc) ?_
  rintro h0 k0
  exact Unw.fail Tryz.func148 (k2.trans (k0.mono (by omega)))
 |some q=>
  rw [hq] at hc hr
  subst hr
  refine Runs.callS (hc) ?_
  rintro h4 k4
  have q4:=k4.size
  try refine gO ?_;conv=>whnf
  refine Runs.eff (eff_storeS tab (k4.at N3.blk N3.blk.lt)) ?_
  rintro _ h5 P5
  try refine gO ?_;conv=>whnf
  refine Runs.retA tab Tryz.func148 (vs:=[.agg #[.bool q.neg,.string (enc q.n),.string (enc q.d)]]) (⟨⟨_,_,rfl,.inr ⟨_,_,rfl,rfl,rfl,cellsH_of_at P5.blk,rfl⟩⟩,trivial⟩) ?_
  exact ⟨rfl,(k2.trans (k4.mono (by omega))).trans (P5.keeps.mono (by omega))⟩
theorem op3_fn {h:Array Obj} (a b:Q) (la:a.le 256) (lb:b.le 256):FnO Tryz.prog lim 152 #[nv a,nv b] h ((mulP a b).map nv):=by
 obtain ⟨r,hr⟩:∃r,r=(mulP a b).map nv:=⟨_,rfl⟩
 rw [←hr]
 refine Fn.of (args:=[.agg #[.bool a.neg,.string (enc a.n),.string (enc a.d)],.agg #[.bool b.neg,.string (enc b.n),.string (enc b.d)]]) Tryz.func152 (by kernel_rfl) rfl Tryz.ntmps152 rfl fun w0 cs=>?_
 refine gO ?_;conv=>whnf
 refine Runs.eff (eff_boxN rfl) ?_
 rintro _ h1 ⟨rfl,N1⟩
 try refine gO ?_;conv=>whnf
 refine Runs.eff (eff_boxN rfl) ?_
 rintro _ h2 ⟨rfl,N2⟩
 try refine gO ?_;conv=>whnf
 refine Runs.eff (eff_allocN tab) ?_
 rintro _ h3 ⟨rfl,N3⟩
 try refine gO ?_;conv=>whnf
 have s1:=N1.size
 have s2:=N2.size
 have s3:=N3.size
 have A1:=N3.at (N2.at N1.blk)
 have A2:=N3.at N2.blk
 have k2:=(N1.keeps.trans (N2.keeps.mono (by omega))).trans (N3.keeps.mono (by omega))
 refine Runs.eff (eff_loadAgg tab (vs:=[.bool a.neg,.string (enc a.n),.string (enc a.d)]) (cellsH_of_at A1) rfl) ?_
 rintro _ h3 ⟨rfl,rfl⟩
 try refine gO ?_;conv=>whnf
 refine Runs.eff (eff_loadAgg tab (vs:=[.bool b.neg,.string (enc b.n),.string (enc b.d)]) (cellsH_of_at A2) rfl) ?_
 rintro _ h3 ⟨rfl,rfl⟩
 try refine gO ?_;conv=>whnf
 have hc:=qtimes_fn (h:=h3) a b la lb
 cases hq:mulP a b with
 |none=>
  rw [hq] at hc hr
  subst hr
  refine Runs.callF (hc) ?_
  rintro h0 k0
  exact Unw.fail Tryz.func152 (k2.trans (k0.mono (by omega)))
 |some q=>
  rw [hq] at hc hr
  subst hr
  refine Runs.callS (hc) ?_
  rintro h4 k4
  have q4:=k4.size
  try refine gO ?_;conv=>whnf
  refine Runs.eff (eff_storeS tab (k4.at N3.blk N3.blk.lt)) ?_
  rintro _ h5 P5
  try refine gO ?_;conv=>whnf
  refine Runs.retA tab Tryz.func152 (vs:=[.agg #[.bool q.neg,.string (enc q.n),.string (enc q.d)]]) (⟨⟨_,_,rfl,.inr ⟨_,_,rfl,rfl,rfl,cellsH_of_at P5.blk,rfl⟩⟩,trivial⟩) ?_
  exact ⟨rfl,(k2.trans (k4.mono (by omega))).trans (P5.keeps.mono (by omega))⟩
def opsMap:Array MapEntry:=#[⟨.int .u8 43,.func (.func 148) #[] #[],0⟩,⟨.int .u8 45,.func (.func 150) #[] #[],1⟩,⟨.int .u8 42,.func (.func 152) #[] #[],2⟩,⟨.int .u8 47,.func (.func 154) #[] #[],3⟩]
theorem operations_fn {h:Array Obj}:FnV Tryz.prog 127 #[] h fun r h'=>r=.map (some h.size)∧h'[h.size]? = some (.map opsMap 4)∧Keeps h.size h h':=by
 refine Fn.of (args:=[]) Tryz.func127 (by kernel_rfl) rfl Tryz.ntmps127 rfl fun w0 cs=>?_
 refine gO ?_;conv=>whnf
 refine Runs.eff (eff_makeMap) ?_
 rintro _ _ ⟨rfl,rfl⟩
 try refine gO ?_;conv=>whnf
 have set:∀(g g':Array Obj) (o:Obj),g'=g.setIfInBounds h.size o→h.size<g.size→g'[h.size]? = some o:=fun g g' o e hg=>by rw [e];exact Array.getElem?_setIfInBounds_self_of_lt hg
 have u1:=Tryz.underlying186
 have u2:=Tryz.underlying5
 refine Runs.eff (eff_insert u1 u2 (r:=h.size) (es:=#[]) (clock:=0) (key:=.int .u8 43) (by simp) rfl) ?_
 rintro _ h1 ⟨rfl,e1⟩
 have z1:h1.size=h.size+1:=by rw [e1];simp
 have m1:=set _ _ _ e1 (by simp)
 have k1:Keeps h.size h h1:=by rw [e1];exact ((Keeps.refl _ _).push (Nat.le_refl _) _).put (Nat.le_refl _) _
 try refine gO ?_;conv=>whnf
 refine Runs.eff (eff_insert u1 u2 (key:=.int .u8 45) m1 rfl) ?_
 rintro _ h2 ⟨rfl,e2⟩
 have z2:h2.size=h1.size:=by rw [e2];simp
 have m2:=set _ _ _ e2 (by omega)
 have k2:Keeps h.size h h2:=by rw [e2];exact k1.put (Nat.le_refl _) _
 try refine gO ?_;conv=>whnf
 refine Runs.eff (eff_insert u1 u2 (key:=.int .u8 42) m2 rfl) ?_
 rintro _ h3 ⟨rfl,e3⟩
 have z3:h3.size=h2.size:=by rw [e3];simp
 have m3:=set _ _ _ e3 (by omega)
 have k3:Keeps h.size h h3:=by rw [e3];exact k2.put (Nat.le_refl _) _
 try refine gO ?_;conv=>whnf
 refine Runs.eff (eff_insert u1 u2 (key:=.int .u8 47) m3 rfl) ?_
 rintro _ h4 ⟨rfl,e4⟩
 have m4:=set _ _ _ e4 (by omega)
 have k4:Keeps h.size h h4:=by rw [e4];exact k3.put (Nat.le_refl _) _
 try refine gO ?_;conv=>whnf
 refine Runs.ret Tryz.func127 rfl rfl ⟨_,rfl,?_⟩
 exact ⟨rfl,m4,k4⟩

def limR:List PanicEntry:=[{v:=.iface 179 (.agg #[.int .i64 2]),recovered:=true}]
def zcells:Array Value:=#[.bool false,.string NatM.mt,.string NatM.mt]
theorem built_zero:(Tryz.prog).built 57 []=some zcells:=by rfl
theorem eff_neNil {P:Program} {n:Nat} {l:Fr} {h:Array Obj} {o:Oper} {t yt:TypeId} {x:Operand} {ms:Array (String×TypeId)} (ht:P.underlying t=some (.interface ms))
  (hop:o.op=.binOp .neq t x (.const .nilIface) yt:=by rfl) (hx:ev l x=some .nilIface:=by rfl):Eff P n l h o (fun v' h'=>v'=.bool false∧h'=h):=by
 refine Eff.of_val1 fun a w ha hh=>⟨w,?_,Like.refl w,hh⟩
 have e1:(Op.equalIn 10000 t .nilIface .nilIface).run P w=.ok true w:=by
  obtain ⟨m,hm⟩:∃m,10000=m+1:=⟨9999,rfl⟩
  rw [hm]
  simp [Op.equalIn,run_underlying ht]
 have hc:a.eval (.const .nilIface)=.nilIface:=rfl
 simp [execOp,hop,ha.ev hx,hc,eqGuard,binOp,Op.equal,Op.maxDepth,e1]
theorem calcDN {h:Array Obj} {p q:Value}:FnD Tryz.prog 126 #[p,q] .returning h fun e u' h'=>e=.returned (tup [])∧u'=.returning∧h'=h:=by
 refine FnD.of (args:=[p,q]) Tryz.func126 (by kernel_rfl) rfl Tryz.ntmps126 rfl fun w0 c0 cs=>?_
 refine gO ?_;conv=>whnf
 refine Runs.recoverN ?_
 try refine gO ?_;conv=>whnf
 refine Runs.eff (eff_neNil Tryz.underlying20) ?_
 rintro _ h ⟨rfl,rfl⟩
 try refine gO ?_;conv=>whnf
 exact Runs.finU (Unw.retD tab Tryz.func126 (vs:=[]) trivial ⟨rfl,rfl,rfl⟩)
theorem calcDP {h:Array Obj} {B b6 b7:Nat} {cs6 cs7:Array Value} {e7:TypeId} (A6:At h b6 cs6 57) (h6:cs6.size=3) (A7:At h b7 cs7 e7) (h7:cs7.size=1) (hne:b6≠b7) (hB6:B≤b6) (hB7:B≤b7):
  FnD Tryz.prog 126 #[.pointer (some ⟨b6,0,none⟩),.pointer (some ⟨b7,0,none⟩)] (.panicking lim) h fun e u' h'=>
   e=.returned (tup [])∧u'=.panicking limR∧At h' b6 zcells 57∧At h' b7 #[.int .i64 2] e7∧Keeps B h h':=by
 refine FnD.of (args:=[.pointer (some ⟨b6,0,none⟩),.pointer (some ⟨b7,0,none⟩)]) Tryz.func126 (by kernel_rfl) rfl Tryz.ntmps126 rfl fun w0 c0 cs=>?_
 refine gO ?_;conv=>whnf
 refine Runs.recoverP ?_
 try refine gO ?_;conv=>whnf
 refine Runs.eff (eff_buildA built_zero) ?_
 rintro _ h ⟨rfl,rfl⟩
 try refine gO ?_;conv=>whnf
 refine Runs.callV (reason_fn) ?_
 rintro _ h1 ⟨rfl,k1⟩
 try refine gO ?_;conv=>whnf
 have B6:=k1.at A6 A6.lt
 have B7:=k1.at A7 A7.lt
 have l6:=A6.lt
 have l7:=A7.lt
 refine Runs.eff (eff_storeS tab B6 (us:=zcells) (hlt:=h6)) ?_
 rintro _ h2 P2
 try refine gO ?_;conv=>whnf
 have C7:=P2.at B7 (Ne.symm hne)
 obtain ⟨v7,hv7⟩:∃v7,cs7 = #[v7]:=by
  obtain ⟨l⟩:=cs7
  match l,h7 with
  | [v],_=>exact ⟨v,rfl⟩
 subst hv7
 refine Runs.eff (eff_storeB tab C7) ?_
 rintro _ h3 P3
 try refine gO ?_;conv=>whnf
 refine Runs.finU (Unw.retD tab Tryz.func126 (vs:=[]) trivial ⟨rfl,rfl,P3.at P2.blk hne,P3.blk,?_⟩)
 exact ((k1.mono (by omega)).trans (P2.keeps.mono hB6)).trans (P3.keeps.mono hB7)

theorem enc_one:enc 1=⟨#[1]⟩:=by decide +kernel
theorem rtCheck_fn {h:Array Obj} (a:Rt) (hT:TabH h):FnV Tryz.prog 125 #[a.v] h fun r h'=>r=.int .i64 (chkR a)∧Keeps h.size h h':=by
 obtain ⟨s,n,d⟩:=a
 refine Fn.of (args:=[.agg #[.bool s,.string n,.string d]]) Tryz.func125 (by kernel_rfl) rfl Tryz.ntmps125 rfl fun w0 cs=>?_
 refine gO ?_;conv=>whnf
 refine Runs.eff (eff_boxN rfl) ?_
 rintro _ h1 ⟨rfl,N1⟩
 try refine gO ?_;conv=>whnf
 have s1:=N1.size
 have ca:∀h',Keeps h1.size h1 h'→cellH h' h.size 0=some (.bool s)∧cellH h' h.size (0+1)=some (.string n)∧cellH h' h.size (0+2)=some (.string d):=fun h' hk=>by
  have A:=hk.at N1.blk N1.blk.lt
  exact ⟨by rw [A.cell];rfl,by rw [A.cell];rfl,by rw [A.cell];rfl⟩
 refine ⟨_,(ca h1 (Keeps.refl _ _)).2.1,?_⟩;conv=>whnf
 refine Runs.callV (Check_fn n) ?_
 rintro _ h2 ⟨rfl,k2⟩
 have q2:=k2.size
 try refine gO ?_;conv=>whnf
 refine ⟨fun e1=>?_,fun e1=>?_⟩<;>conv=>whnf
 rotate_left
 ·conv=>whnf
  refine Runs.ret Tryz.func125 rfl rfl ⟨_,rfl,?_⟩
  exact ⟨by unfold chkR;rw [if_neg (fun o=>e1 o.1)];rfl,N1.keeps.trans (k2.mono (by omega))⟩
 conv=>whnf
 refine ⟨_,(ca h2 k2).2.2,?_⟩;conv=>whnf
 refine Runs.callV (Check_fn d) ?_
 rintro _ h3 ⟨rfl,k3⟩
 have q3:=k3.size
 have kk3:=k2.trans (k3.mono (by omega))
 try refine gO ?_;conv=>whnf
 refine ⟨fun e2=>?_,fun e2=>?_⟩<;>conv=>whnf
 rotate_left
 ·conv=>whnf
  refine Runs.ret Tryz.func125 rfl rfl ⟨_,rfl,?_⟩
  exact ⟨by unfold chkR;rw [if_neg (fun o=>e2 o.2.1)];rfl,N1.keeps.trans (kk3.mono (by omega))⟩
 conv=>whnf
 refine ⟨_,(ca h3 kk3).2.2,?_⟩;conv=>whnf
 refine ⟨fun e3=>?_,fun e3=>?_⟩<;>conv=>whnf
 ·conv=>whnf
  refine Runs.ret Tryz.func125 rfl rfl ⟨_,rfl,?_⟩
  exact ⟨by unfold chkR;rw [if_neg (fun o=>o.2.2.1 (by show natv d=0;rw [e3];rfl))];rfl,N1.keeps.trans (kk3.mono (by omega))⟩
 try refine gO ?_;conv=>whnf
 have c1:=chk_zero e1 (s:=n) (by simp)
 have c2:=chk_zero e2 (s:=d) (by simp)
 have hd:natv d≠0:=natv_ne c2.1 (fun e=>e3 (size_mt.2 e))
 refine ⟨_,(ca h3 kk3).2.1,?_⟩;conv=>whnf
 refine ⟨_,(ca h3 kk3).2.2,?_⟩;conv=>whnf
 refine Runs.callV (Gcd_fn n d (hT.keeps (N1.keeps.trans (kk3.mono (by omega))))) ?_
 rintro _ h4 ⟨rfl,k4⟩
 have q4:=k4.size
 have kk4:=kk3.trans (k4.mono (by omega))
 have eg:gcdS n d=(enc (Nat.gcd (natv n) (natv d)),0):=by
  have:=gcd_e (A:=natv n) (C:=natv d) (by rw [nb_natv c1.1];exact c1.2) (by rw [nb_natv c2.1];exact c2.2)
  rw [enc_natv c1.1,enc_natv c2.1] at this
  exact this
 rw [eg]
 try refine gO ?_;conv=>whnf
 have hge:(enc (Nat.gcd (natv n) (natv d))=⟨#[1]⟩)↔Nat.gcd (natv n) (natv d)=1:=by rw [←enc_one,enc_eq]
 have kk:Keeps h.size h h4:=N1.keeps.trans (kk4.mono (by omega))
 refine ⟨fun e4=>?_,fun e4=>?_⟩<;>conv=>whnf
 rotate_left
 ·conv=>whnf
  refine Runs.ret Tryz.func125 rfl rfl ⟨_,rfl,?_⟩
  exact ⟨by unfold chkR;rw [if_neg (fun o=>e4 (hge.2 o.2.2.2.1))];rfl,kk⟩
 have e4:=hge.1 e4
 conv=>whnf
 refine ⟨_,(ca h4 kk4).1,?_⟩;conv=>whnf
 cases s
 ·conv=>whnf
  refine Runs.ret Tryz.func125 rfl rfl ⟨_,rfl,?_⟩
  exact ⟨by unfold chkR;rw [if_pos ⟨e1,e2,hd,e4,fun o=>by cases o.1⟩];rfl,kk⟩
 conv=>whnf
 refine ⟨_,(ca h4 kk4).2.1,?_⟩;conv=>whnf
 refine ⟨fun e5=>?_,fun e5=>?_⟩<;>conv=>whnf
 ·conv=>whnf
  refine Runs.ret Tryz.func125 rfl rfl ⟨_,rfl,?_⟩
  exact ⟨by unfold chkR;rw [if_neg (fun o=>o.2.2.2.2 ⟨rfl,by show natv n=0;rw [e5];rfl⟩)];rfl,kk⟩
 conv=>whnf
 refine Runs.ret Tryz.func125 rfl rfl ⟨_,rfl,?_⟩
 exact ⟨by unfold chkR;rw [if_pos ⟨e1,e2,hd,e4,fun o=>natv_ne c1.1 (fun e=>e5 (size_mt.2 e)) o.2⟩];rfl,kk⟩

def resC (k:Int) (f:Q→Q→Option Q) (a b:Rt):Rt×Int:=
 if okR a∧okR b then (if k=47∧natv b.n=0 then (zr,71) else resR ((f (decQ a) (decQ b)).map lowQ)) else (zr,70)
def rev (p:Rt×Int):Value:=.tuple #[p.1.v,.int .i64 p.2]
theorem calculate_fn {h:Array Obj} {k:Int} {i:Nat} {g:FuncId} {f:Q→Q→Option Q} (a b:Rt) (hT:TabH h)
  (hf:Instr.findNow (.int .u8) (.int .u8 k) opsMap.toList 0=some (some (i,.func (.func g) #[] #[])))
  (hg:∀(h:Array Obj) (a b:Q),a.le 256→b.le 256→FnO Tryz.prog lim g #[nv a,nv b] h ((f a b).map nv))
  (hd:∀a b c:Q,a.Ok→b.Ok → ¬(k=47∧b.n=0)→f a b=some c→c.d≠0∧fits c.n∧fits c.d):
  FnV Tryz.prog 104 #[.int .u8 k,a.v,b.v] h fun r h'=>r=rev (resC k f a b)∧Keeps h.size h h':=by
 obtain ⟨r,hr⟩:∃r,r=resC k f a b:=⟨_,rfl⟩
 rw [←hr]
 obtain ⟨s,n,d⟩:=a
 obtain ⟨t,m,e⟩:=b
 unfold resC at hr
 refine Fn.of (args:=[.int .u8 k,.agg #[.bool s,.string n,.string d],.agg #[.bool t,.string m,.string e]]) Tryz.func104 (by kernel_rfl) rfl Tryz.ntmps104 rfl fun w0 cs=>?_
 refine gO ?_;conv=>whnf
 refine Runs.eff (eff_boxN rfl) ?_
 rintro _ h1 ⟨rfl,N1⟩
 try refine gO ?_;conv=>whnf
 refine Runs.eff (eff_boxN rfl) ?_
 rintro _ h2 ⟨rfl,N2⟩
 try refine gO ?_;conv=>whnf
 refine Runs.eff (eff_allocN tab) ?_
 rintro _ h3 ⟨rfl,N3⟩
 try refine gO ?_;conv=>whnf
 refine Runs.eff (eff_allocN tab) ?_
 rintro _ h4 ⟨rfl,N4⟩
 try refine gO ?_;conv=>whnf
 have s1:=N1.size
 have s2:=N2.size
 have s3:=N3.size
 have s4:=N4.size
 have A1:=N4.at (N3.at (N2.at N1.blk))
 have A2:=N4.at (N3.at N2.blk)
 have A3:=N4.at N3.blk
 have A4:=N4.blk
 have k4:=((N1.keeps.trans (N2.keeps.mono (by omega))).trans (N3.keeps.mono (by omega))).trans (N4.keeps.mono (by omega))
 refine Runs.eff (eff_loadAgg tab (vs:=[.bool s,.string n,.string d]) (cellsH_of_at A1) rfl) ?_
 rintro _ h4 ⟨rfl,rfl⟩
 try refine gO ?_;conv=>whnf
 refine Runs.callV (rtCheck_fn ⟨s,n,d⟩ (hT.keeps k4)) ?_
 rintro _ h5 ⟨rfl,k5⟩
 have q5:=k5.size
 try refine gO ?_;conv=>whnf
 refine ⟨fun o1=>?_,fun o1=>?_⟩<;>conv=>whnf
 rotate_left
 ·conv=>whnf
  refine Runs.eff (eff_buildA built_zero) ?_
  rintro _ h5 ⟨rfl,rfl⟩
  try refine gO ?_;conv=>whnf
  refine Runs.eff (eff_storeS tab (us:=zcells) (k5.at A3 A3.lt)) ?_
  rintro _ h16 P6
  try refine gO ?_;conv=>whnf
  refine Runs.eff (eff_storeB tab (P6.at (k5.at A4 A4.lt) (by omega))) ?_
  rintro _ h17 P7
  try refine gO ?_;conv=>whnf
  rw [if_neg (fun o=>o1 (chkR_zero.2 o.1))] at hr
  subst hr
  refine Runs.retA tab Tryz.func104 (vs:=[.agg zcells,.int .i64 70]) (⟨⟨_,_,rfl,.inr ⟨_,_,rfl,rfl,rfl,cellsH_of_at (P7.at P6.blk (by omega)),rfl⟩⟩,⟨_,_,rfl,.inl ⟨rfl,by rw [P7.blk.cell];rfl⟩⟩,trivial⟩) ?_
  exact ⟨_,rfl,rfl,((k4.trans (k5.mono (by omega))).trans (P6.keeps.mono (by omega))).trans (P7.keeps.mono (by omega))⟩
 have o1:=chkR_zero.1 o1
 conv=>whnf
 refine Runs.eff (eff_loadAgg tab (vs:=[.bool t,.string m,.string e]) (cellsH_of_at (k5.at A2 A2.lt)) rfl) ?_
 rintro _ h5 ⟨rfl,rfl⟩
 try refine gO ?_;conv=>whnf
 refine Runs.callV (rtCheck_fn ⟨t,m,e⟩ ((hT.keeps k4).keeps k5)) ?_
 rintro _ h6 ⟨rfl,k6⟩
 have q6:=k6.size
 have kk6:=k5.trans (k6.mono (by omega))
 try refine gO ?_;conv=>whnf
 refine ⟨fun o2=>?_,fun o2=>?_⟩<;>conv=>whnf
 rotate_left
 ·conv=>whnf
  refine Runs.eff (eff_buildA built_zero) ?_
  rintro _ h6 ⟨rfl,rfl⟩
  try refine gO ?_;conv=>whnf
  refine Runs.eff (eff_storeS tab (us:=zcells) (kk6.at A3 A3.lt)) ?_
  rintro _ h16 P6
  try refine gO ?_;conv=>whnf
  refine Runs.eff (eff_storeB tab (P6.at (kk6.at A4 A4.lt) (by omega))) ?_
  rintro _ h17 P7
  try refine gO ?_;conv=>whnf
  rw [if_neg (fun o=>o2 (chkR_zero.2 o.2))] at hr
  subst hr
  refine Runs.retA tab Tryz.func104 (vs:=[.agg zcells,.int .i64 70]) (⟨⟨_,_,rfl,.inr ⟨_,_,rfl,rfl,rfl,cellsH_of_at (P7.at P6.blk (by omega)),rfl⟩⟩,⟨_,_,rfl,.inl ⟨rfl,by rw [P7.blk.cell];rfl⟩⟩,trivial⟩) ?_
  exact ⟨_,rfl,rfl,((k4.trans (kk6.mono (by omega))).trans (P6.keeps.mono (by omega))).trans (P7.keeps.mono (by omega))⟩
 have o2:=chkR_zero.1 o2
 rw [if_pos ⟨o1,o2⟩] at hr
 conv=>whnf
 have ca:∀h',Keeps h4.size h4 h'→cellH h' h.size 0=some (.bool s)∧cellH h' h.size (0+1)=some (.string n)∧cellH h' h.size (0+2)=some (.string d):=fun h' hk=>by
  have A:=hk.at A1 A1.lt
  exact ⟨by rw [A.cell];rfl,by rw [A.cell];rfl,by rw [A.cell];rfl⟩
 have cb:∀h',Keeps h4.size h4 h'→cellH h' h1.size 0=some (.bool t)∧cellH h' h1.size (0+1)=some (.string m)∧cellH h' h1.size (0+2)=some (.string e):=fun h' hk=>by
  have A:=hk.at A2 A2.lt
  exact ⟨by rw [A.cell];rfl,by rw [A.cell];rfl,by rw [A.cell];rfl⟩
 have cm:=chk_zero o2.1 (s:=m) (by simp)
 have qa:=okR_q o1
 have qb:=okR_q o2
 have na:nv (decQ ⟨s,n,d⟩)=.agg #[.bool s,.string n,.string d]:=by rw [nv,←qa.1];rfl
 have nb:nv (decQ ⟨t,m,e⟩)=.agg #[.bool t,.string m,.string e]:=by rw [nv,←qb.1];rfl
 have u1:=Tryz.underlying186
 have u2:=Tryz.underlying5
 refine ⟨fun z1=>?_,fun z1=>?_⟩<;>conv=>whnf
 conv=>whnf
 refine ⟨_,(cb h6 kk6).2.1,?_⟩;conv=>whnf
 refine ⟨fun z2=>?_,fun z2=>?_⟩<;>conv=>whnf
 ·conv=>whnf
  refine Runs.eff (eff_buildA built_zero) ?_
  rintro _ h6 ⟨rfl,rfl⟩
  try refine gO ?_;conv=>whnf
  refine Runs.eff (eff_storeS tab (us:=zcells) (kk6.at A3 A3.lt)) ?_
  rintro _ h16 P6
  try refine gO ?_;conv=>whnf
  refine Runs.eff (eff_storeB tab (P6.at (kk6.at A4 A4.lt) (by omega))) ?_
  rintro _ h17 P7
  try refine gO ?_;conv=>whnf
  rw [if_pos ⟨z1,by show natv m=0;rw [z2];rfl⟩] at hr
  subst hr
  refine Runs.retA tab Tryz.func104 (vs:=[.agg zcells,.int .i64 71]) (⟨⟨_,_,rfl,.inr ⟨_,_,rfl,rfl,rfl,cellsH_of_at (P7.at P6.blk (by omega)),rfl⟩⟩,⟨_,_,rfl,.inl ⟨rfl,by rw [P7.blk.cell];rfl⟩⟩,trivial⟩) ?_
  exact ⟨_,rfl,rfl,((k4.trans (kk6.mono (by omega))).trans (P6.keeps.mono (by omega))).trans (P7.keeps.mono (by omega))⟩
 all_goals first
  |(have hz:¬(k=47∧natv m=0):=fun o=>natv_ne cm.1 (fun e=>z2 (size_mt.2 e)) o.2
    rw [if_neg hz] at hr)
  |(have hz:¬(k=47∧natv m=0):=fun o=>z1 o.1
    rw [if_neg hz] at hr)
 all_goals try refine gO ?_
 all_goals conv=>whnf
 all_goals refine Runs.deferU ?_
 all_goals try refine gO ?_
 all_goals conv=>whnf
 all_goals
  refine Runs.heldP tab [(1,[]),(3,[]),(4,[]),(5,[]),(6,[]),(7,[]),(8,[]),(9,[]),(10,[]),(11,[]),(12,[]),(13,[]),(14,[]),(15,[]),(16,[]),(0,[4,6,8,9,11,13,15,16]),(2,[4,6,8,9,11,13,15,16]),(17,[]),(18,[]),(19,[]),(20,[])] (by kernel_rfl) ?_;conv=>whnf
  refine ⟨_,(ca h6 kk6).1,?_⟩;conv=>whnf
  refine ⟨_,(ca h6 kk6).2.1,?_⟩;conv=>whnf
  refine ⟨_,(ca h6 kk6).2.2,?_⟩;conv=>whnf
  refine ⟨rfl,_,plain_build (built_number _ _ _),?_⟩;conv=>whnf
  refine ⟨_,(cb h6 kk6).1,?_⟩;conv=>whnf
  refine ⟨_,(cb h6 kk6).2.1,?_⟩;conv=>whnf
  refine ⟨_,(cb h6 kk6).2.2,?_⟩;conv=>whnf
  refine ⟨rfl,_,plain_build (built_number _ _ _),?_⟩;conv=>whnf
  refine ⟨rfl,_,_,EffP.of_eff (Eff.call operations_fn),fun _ _ h=>h.elim,?_⟩
  rintro _ h7 ⟨rfl,hm,k7⟩
  refine And.intro (by conv=>whnf
                       repeat (first|(refine And.intro (fun e=>(Keeps.cell (k7) (by omega)).trans e) ?_;conv=>whnf)|(refine And.intro (fun e=>Keeps.cells (k7) (by omega) e) ?_;conv=>whnf))
                       exact trivial) ?_
  conv=>whnf
  have q7:=k7.size
  have kk7:=kk6.trans (k7.mono (by omega))
  refine ⟨rfl,_,_,EffP.of_eff (eff_lookup u1 u2 hm hf),fun _ _ h=>h.elim,?_⟩
  rintro _ h7 ⟨rfl,rfl⟩
  refine And.intro (by conv=>whnf
                       repeat (refine And.intro (fun e=>e) ?_;conv=>whnf)
                       exact trivial) ?_
  conv=>whnf
  have hc:=hg h7 (decQ ⟨s,n,d⟩) (decQ ⟨t,m,e⟩) qa.2.2 qb.2.2
  rw [na,nb] at hc
  cases hq:f (decQ ⟨s,n,d⟩) (decQ ⟨t,m,e⟩) with
  |none=>
   rw [hq] at hc hr
   subst hr
   refine ⟨rfl,_,_,EffP.callF (hc),?_,fun _ _ h0=>h0.elim⟩
   rintro _ h0 ⟨rfl,k0⟩
   have kk0:=kk7.trans (k0.mono (by omega))
   refine Unw.defer (args:=#[]) (calcDP (B:=h.size) (kk0.at A3 A3.lt) rfl (kk0.at A4 A4.lt) rfl (by omega) (by omega) (by omega)) (by simp) (fun _ _ hh=>by cases hh.1) ?_ (fun _ _ _ hh=>by cases hh.1)
   rintro v u' h8 ⟨_,rfl,B6,B7,k8⟩
   show Unw _ _ .returning _ _
   exact Unw.retA tab Tryz.func104 (vs:=[.agg zcells,.int .i64 2]) ⟨⟨_,_,rfl,.inr ⟨_,_,rfl,rfl,rfl,cellsH_of_at B6,rfl⟩⟩,⟨_,_,rfl,.inl ⟨rfl,by rw [B7.cell];rfl⟩⟩,trivial⟩ ⟨_,rfl,rfl,(k4.trans (kk0.mono (by omega))).trans k8⟩
  |some c=>
   have hcd:=hd _ _ c qa.2.1 qb.2.1 hz hq
   rw [hq] at hc hr
   subst hr
   refine ⟨rfl,_,_,EffP.callS (hc),fun _ _ h=>h.elim,?_⟩
   rintro _ h8 ⟨rfl,k8⟩
   refine And.intro (by conv=>whnf
                        repeat (refine And.intro (fun e=>e) ?_;conv=>whnf)
                        exact trivial) ?_
   conv=>whnf
   have q8:=k8.size
   have kk8:=kk7.trans (k8.mono (by omega))
   refine ⟨rfl,_,_,EffP.of_eff (Eff.call (lowest_fn c hcd.1 hcd.2.1 hcd.2.2 ((hT.keeps k4).keeps kk8))),fun _ _ h=>h.elim,?_⟩
   rintro _ h9 ⟨rfl,k9⟩
   refine And.intro (by conv=>whnf
                        repeat (refine And.intro (fun e=>e) ?_;conv=>whnf)
                        exact trivial) ?_
   conv=>whnf
   have q9:=k9.size
   have kk9:=kk8.trans (k9.mono (by omega))
   refine ⟨rfl,_,_,EffP.of_eff (eff_storeS tab (us:=#[.bool (lowQ c).neg,.string (enc (lowQ c).n),.string (enc (lowQ c).d)]) (kk9.at A3 A3.lt)),fun _ _ h=>h.elim,?_⟩
   rintro _ h10 P10
   refine And.intro (by conv=>whnf
                        repeat (refine And.intro (fun e=>e) ?_;conv=>whnf)
                        exact trivial) ?_
   conv=>whnf
   refine ⟨rfl,_,_,EffP.of_eff (eff_storeB tab (P10.at (kk9.at A4 A4.lt) (by omega))),fun _ _ h=>h.elim,?_⟩
   rintro _ h11 P11
   refine And.intro (by conv=>whnf
                        repeat (refine And.intro (fun e=>e) ?_;conv=>whnf)
                        exact trivial) ?_
   conv=>whnf
   try refine gO ?_;conv=>whnf
   refine Runs.retU ?_
   refine Unw.defer (args:=#[]) calcDN (by simp) (fun _ _ hh=>by cases hh.1) ?_ (fun _ _ _ hh=>by cases hh.1)
   rintro v u' h12 ⟨_,rfl,rfl⟩
   show Unw _ _ .returning _ _
   exact Unw.retA tab Tryz.func104 (vs:=[.agg #[.bool (lowQ c).neg,.string (enc (lowQ c).n),.string (enc (lowQ c).d)],.int .i64 0]) ⟨⟨_,_,rfl,.inr ⟨_,_,rfl,rfl,rfl,cellsH_of_at (P11.at P10.blk (by omega)),rfl⟩⟩,⟨_,_,rfl,.inl ⟨rfl,by rw [P11.blk.cell];rfl⟩⟩,trivial⟩ ⟨_,rfl,rfl,((k4.trans (kk9.mono (by omega))).trans (P10.keeps.mono (by omega))).trans (P11.keeps.mono (by omega))⟩

theorem qMul_fn {h:Array Obj} (a b:Rt) (hT:TabH h):FnV Tryz.prog 65 #[a.v,b.v] h fun r h'=>r=rev (mulR a b)∧Keeps h.size h h':=by
 obtain ⟨r,hr⟩:∃r,r=mulR a b:=⟨_,rfl⟩
 rw [←hr]
 have heq:resC 42 (fun a b=>mulP a b) a b=mulR a b:=by unfold resC mulR opR;simp [←mulL_map]
 rw [←heq] at hr
 refine Fn.of (args:=[.agg #[.bool a.neg,.string a.n,.string a.d],.agg #[.bool b.neg,.string b.n,.string b.d]]) Tryz.func65 (by kernel_rfl) rfl Tryz.ntmps65 rfl fun w0 cs=>?_
 refine gO ?_;conv=>whnf
 refine Runs.eff (eff_boxN rfl) ?_
 rintro _ h1 ⟨rfl,N1⟩
 try refine gO ?_;conv=>whnf
 refine Runs.eff (eff_boxN rfl) ?_
 rintro _ h2 ⟨rfl,N2⟩
 try refine gO ?_;conv=>whnf
 refine Runs.eff (eff_allocN tab) ?_
 rintro _ h3 ⟨rfl,N3⟩
 try refine gO ?_;conv=>whnf
 have s1:=N1.size
 have s2:=N2.size
 have s3:=N3.size
 have A1:=N3.at (N2.at N1.blk)
 have A2:=N3.at N2.blk
 have k2:=(N1.keeps.trans (N2.keeps.mono (by omega))).trans (N3.keeps.mono (by omega))
 refine Runs.eff (eff_loadAgg tab (vs:=[.bool a.neg,.string a.n,.string a.d]) (cellsH_of_at A1) rfl) ?_
 rintro _ h3 ⟨rfl,rfl⟩
 try refine gO ?_;conv=>whnf
 refine Runs.eff (eff_loadAgg tab (vs:=[.bool b.neg,.string b.n,.string b.d]) (cellsH_of_at A2) rfl) ?_
 rintro _ h3 ⟨rfl,rfl⟩
 try refine gO ?_;conv=>whnf
 refine Runs.callV (calculate_fn (k:=42) (i:=2) (g:=152) (f:=fun a b=>mulP a b) a b (hT.keeps k2) (by rfl) (fun h a b la lb=>op3_fn a b la lb) (fun a b c ha hb _ e=>⟨by rw [(mulP_d e).1];exact Nat.mul_ne_zero ha.1 hb.1,(mulP_d e).2⟩)) ?_
 rintro _ h4 ⟨rfl,k4⟩
 rw [←hr]
 have q4:=k4.size
 try refine gO ?_;conv=>whnf
 refine Runs.eff (eff_storeS tab (us:=#[.bool r.1.neg,.string r.1.n,.string r.1.d]) (k4.at N3.blk N3.blk.lt)) ?_
 rintro _ h5 P5
 try refine gO ?_;conv=>whnf
 refine Runs.retA tab Tryz.func65 (vs:=[.agg #[.bool r.1.neg,.string r.1.n,.string r.1.d],.int .i64 r.2]) (⟨⟨_,_,rfl,.inr ⟨_,_,rfl,rfl,rfl,cellsH_of_at P5.blk,rfl⟩⟩,rfl,trivial⟩) ?_
 exact ⟨_,rfl,rfl,(k2.trans (k4.mono (by omega))).trans (P5.keeps.mono (by omega))⟩

theorem amount_fn {h:Array Obj} (n:Int) (hn: -9223372036854775808≤n∧n≤9223372036854775807):FnV Tryz.prog 102 #[.int .i64 n] h fun r h'=>r=.string (enc n.natAbs)∧Keeps h.size h h':=by
 refine Fn.of (args:=[.int .i64 n]) Tryz.func102 (by kernel_rfl) rfl Tryz.ntmps102 rfl fun w0 cs=>?_
 refine gO ?_;conv=>whnf
 have fit1:∀V:Nat,V≤9223372036854775808→nb V≤8:=fun V hV=>nb_le (by have:(256:Nat)^8=18446744073709551616:=by decide
                                                                    omega)
 refine ⟨fun h0=>?_,fun h0=>?_⟩<;>conv=>whnf
 ·try refine gO ?_
  conv=>whnf
  refine Runs.callV (Of_fn n hn.2) ?_
  rintro _ h1 ⟨rfl,k1⟩
  have q1:=k1.size
  rw [show ofS n=(enc n.natAbs,0) by unfold ofS;rw [if_neg (by omega),show n.toNat=n.natAbs by omega]]
  try refine gO ?_;conv=>whnf
  refine Runs.callS (must_ok (enc n.natAbs)) ?_
  rintro h2 k2
  try refine gO ?_;conv=>whnf
  refine Runs.ret Tryz.func102 rfl rfl ⟨_,rfl,?_⟩
  exact ⟨rfl,k1.trans (k2.mono (by omega))⟩
 try refine gO ?_;conv=>whnf
 repeat (refine oL ?_;conv=>whnf)
 refine Runs.callV (Of_fn (0 - (n+1)) (by omega)) ?_
 rintro _ h1 ⟨rfl,k1⟩
 have q1:=k1.size
 have e1:ofS (0 - (n+1))=(enc (n.natAbs - 1),0):=by unfold ofS;rw [if_neg (by omega),show (0 - (n+1)).toNat=n.natAbs - 1 by omega]
 rw [e1]
 try refine gO ?_;conv=>whnf
 refine Runs.callS (must_ok (enc (n.natAbs - 1))) ?_
 rintro h2 k2
 have q2:=k2.size
 try refine gO ?_;conv=>whnf
 rw [←enc_one]
 refine Runs.callV (Add_fn (enc (n.natAbs - 1)) (enc 1)) ?_
 rintro _ h3 ⟨rfl,k3⟩
 have q3:=k3.size
 have f1:=fit1 (n.natAbs - 1) (by omega)
 have f2:=fit1 1 (by omega)
 have f3:=fit1 (n.natAbs - 1+1) (by omega)
 rw [add_e (by omega) (by omega),short_e (by omega)]
 try refine gO ?_;conv=>whnf
 refine Runs.callS (must_ok (enc (n.natAbs - 1+1))) ?_
 rintro h4 k4
 try refine gO ?_;conv=>whnf
 refine Runs.ret Tryz.func102 rfl rfl ⟨_,rfl,?_⟩
 exact ⟨by rw [show n.natAbs - 1+1=n.natAbs by omega];rfl,((k1.trans (k2.mono (by omega))).trans (k3.mono (by omega))).trans (k4.mono (by omega))⟩

theorem newDN {h:Array Obj} {p q:Value}:FnD Tryz.prog 100 #[p,q] .returning h fun e u' h'=>e=.returned (tup [])∧u'=.returning∧h'=h:=by
 refine FnD.of (args:=[p,q]) Tryz.func100 (by kernel_rfl) rfl Tryz.ntmps100 rfl fun w0 c0 cs=>?_
 refine gO ?_;conv=>whnf
 refine Runs.recoverN ?_
 try refine gO ?_;conv=>whnf
 refine Runs.eff (eff_neNil Tryz.underlying20) ?_
 rintro _ h ⟨rfl,rfl⟩
 try refine gO ?_;conv=>whnf
 exact Runs.finU (Unw.retD tab Tryz.func100 (vs:=[]) trivial ⟨rfl,rfl,rfl⟩)
theorem qNew_fn {h:Array Obj} (n d:Int) (hn: -9223372036854775808≤n∧n≤9223372036854775807) (hd: -9223372036854775808≤d∧d≤9223372036854775807) (hT:TabH h):
  FnV Tryz.prog 59 #[.int .i64 n,.int .i64 d] h fun r h'=>r=rev (newR n d)∧Keeps h.size h h':=by
 have fit1:∀V:Nat,V≤9223372036854775808→nb V≤8:=fun V hV=>nb_le (by have:(256:Nat)^8=18446744073709551616:=by decide
                                                                    omega)
 refine Fn.of (args:=[.int .i64 n,.int .i64 d]) Tryz.func59 (by kernel_rfl) rfl Tryz.ntmps59 rfl fun w0 cs=>?_
 refine gO ?_;conv=>whnf
 refine Runs.eff (eff_allocN tab) ?_
 rintro _ h1 ⟨rfl,N1⟩
 try refine gO ?_;conv=>whnf
 refine Runs.eff (eff_allocN tab) ?_
 rintro _ h2 ⟨rfl,N2⟩
 try refine gO ?_;conv=>whnf
 have s1:=N1.size
 have s2:=N2.size
 have A1:=N2.at N1.blk
 have A2:=N2.blk
 have k2:=N1.keeps.trans (N2.keeps.mono (by omega))
 refine ⟨fun z=>?_,fun z=>?_⟩<;>conv=>whnf
 ·conv=>whnf
  refine Runs.eff (eff_buildA built_zero) ?_
  rintro _ h2 ⟨rfl,rfl⟩
  try refine gO ?_;conv=>whnf
  refine Runs.eff (eff_storeS tab (us:=zcells) A1) ?_
  rintro _ h3 P3
  try refine gO ?_;conv=>whnf
  refine Runs.eff (eff_storeB tab (P3.at A2 (by omega))) ?_
  rintro _ h4 P4
  try refine gO ?_;conv=>whnf
  refine Runs.retA tab Tryz.func59 (vs:=[.agg zcells,.int .i64 71]) (⟨⟨_,_,rfl,.inr ⟨_,_,rfl,rfl,rfl,cellsH_of_at (P4.at P3.blk (by omega)),rfl⟩⟩,⟨_,_,rfl,.inl ⟨rfl,by rw [P4.blk.cell];rfl⟩⟩,trivial⟩) ?_
  exact ⟨_,rfl,by unfold newR;rw [if_pos z];rfl,(k2.trans (P3.keeps.mono (by omega))).trans (P4.keeps.mono (by omega))⟩
 try refine gO ?_;conv=>whnf
 refine Runs.deferU ?_
 try refine gO ?_;conv=>whnf
 refine Runs.callV (amount_fn n hn) ?_
 rintro _ h3 ⟨rfl,k3⟩
 have q3:=k3.size
 try refine gO ?_;conv=>whnf
 refine Runs.callV (amount_fn d hd) ?_
 rintro _ h4 ⟨rfl,k4⟩
 have q4:=k4.size
 have kk4:=k3.trans (k4.mono (by omega))
 try refine gO ?_;conv=>whnf
 refine Runs.eff (eff_buildA (built_number _ _ _)) ?_
 rintro _ h4 ⟨rfl,rfl⟩
 try refine gO ?_;conv=>whnf
 have f1:=fit1 n.natAbs (by omega)
 have f2:=fit1 d.natAbs (by omega)
 have hl:FnV Tryz.prog 103 #[.agg #[.bool (!(decide (n<0)==decide (d<0))),.string (enc n.natAbs),.string (enc d.natAbs)]] h4 fun r h'=>r=nv (newQ n d)∧Keeps h4.size h4 h':=
  lowest_fn ⟨decide (n<0) != decide (d<0),n.natAbs,d.natAbs⟩ (by show d.natAbs≠0;omega) (by show nb n.natAbs≤256;omega) (by show nb d.natAbs≤256;omega) ((hT.keeps k2).keeps kk4)
 refine Runs.callV (hl) ?_
 rintro _ h5 ⟨rfl,k5⟩
 have q5:=k5.size
 have kk5:=kk4.trans (k5.mono (by omega))
 try refine gO ?_;conv=>whnf
 refine Runs.eff (eff_storeS tab (us:=#[.bool (newQ n d).neg,.string (enc (newQ n d).n),.string (enc (newQ n d).d)]) (kk5.at A1 A1.lt)) ?_
 rintro _ h6 P6
 try refine gO ?_;conv=>whnf
 refine Runs.eff (eff_storeB tab (P6.at (kk5.at A2 A2.lt) (by omega))) ?_
 rintro _ h7 P7
 try refine gO ?_;conv=>whnf
 refine Runs.retU ?_
 refine Unw.defer (args:=#[]) newDN (by simp) (fun _ _ hh=>by cases hh.1) ?_ (fun _ _ _ hh=>by cases hh.1)
 rintro v u' h12 ⟨_,rfl,rfl⟩
 show Unw _ _ .returning _ _
 exact Unw.retA tab Tryz.func59 (vs:=[.agg #[.bool (newQ n d).neg,.string (enc (newQ n d).n),.string (enc (newQ n d).d)],.int .i64 0]) ⟨⟨_,_,rfl,.inr ⟨_,_,rfl,rfl,rfl,cellsH_of_at (P7.at P6.blk (by omega)),rfl⟩⟩,⟨_,_,rfl,.inl ⟨rfl,by rw [P7.blk.cell];rfl⟩⟩,trivial⟩ ⟨_,rfl,by rw [newR_ok z];rfl,((k2.trans (kk5.mono (by omega))).trans (P6.keeps.mono (by omega))).trans (P7.keeps.mono (by omega))⟩



def rcells (a:Rt):List Value:=[.bool a.neg,.string a.n,.string a.d]
def rowsR (l:List Rt):List (List Value):=l.map rcells
theorem rowsR_len (l:List Rt):(rowsR l).length=l.length:=by simp [rowsR]
theorem rowsR_get {l:List Rt} {k:Nat} (hk:k<l.length):(rowsR l)[((k:Int)).toNat]? = some (rcells l[k]):=by simp [rowsR,hk]



deriving instance DecidableEq for Go.RatM.Rt

theorem p8:(256:Nat)^8=18446744073709551616:=by decide
end Go.Proofs.YtofjdbmcloemnaaGreatDoor

namespace Go.Fw
open Go Go.RowKit Go.WideShapes Go.ChangeShapes
section
variable {H:Type} {enc:TypeId×Value→H} {P:Program}
theorem trodAll_stays (hl:laidOutB P=true) {W W':World} {sp:Nat→Bool}:∀ {ts:List TypeId} {vs:List Value} {ds:List (DataW H)} {ps:List MemPlace},
  (∀t∈ts,P.readableRec t=true∧t<P.types.size)→DataW.TrodAll enc P W 0 (fun _=>true) true ts vs ds ps→(∀p∈ps,W.sameAt W' p)→(∀p∈ps,sp p.block=true)→DataW.TrodAll enc P W' 0 sp true ts vs ds ps
 | [],vs,ds,ps,_,h,_,_=>by
  obtain ⟨rfl,rfl,rfl⟩:=trodAll_nil h
  exact trodAll_mk0
 |t::ts,vs,ds,ps,hr,h,hs,hsp=>by
  obtain ⟨v,vs',d,ds',p,q,rfl,rfl,rfl,h1,h2⟩:=trodAll_cons h
  have h0:=hr t (List.mem_cons_self ..)
  exact trodAll_cons_mk (WideElems.Trod_stays hl h0.1 h0.2 h1 (fun x hx=>hs x (List.mem_append_left _ hx)) (fun x hx=>hsp x (List.mem_append_left _ hx)))
   (trodAll_stays hl (fun x hx=>hr x (List.mem_cons_of_mem _ hx)) h2 (fun x hx=>hs x (List.mem_append_right _ hx)) (fun x hx=>hsp x (List.mem_append_right _ hx)))
def readTs (P:Program) (ts:List TypeId):Bool:=ts.all fun t=>P.readableRec t&&decide (t<P.types.size)
theorem readTs_ok {ts:List TypeId} (h:readTs P ts=true):∀t∈ts,P.readableRec t=true∧t<P.types.size:=fun t ht=>by
 have:=List.all_eq_true.1 h t ht
 simpa using this
theorem post_true {f:Func} {s:ChangeSpec} {apart fresh handsOn again:Bool} {W W':World} {args:Array Value} {ds gs:List (DataW H)} {before:List MemPlace} {tb:TypeId}
  (hl:laidOutB P=true) (hr:readTs P f.params.toList=true) (ht:P.underlying tb=some .bool) (hres:f.resultTypes = #[tb])
  (hW:DataW.Whole enc P f.params.toList s.vars apart W args.toList ds gs before) (hv:s.vars=[])
  (hs:∀n,ds.length=n→(s.fn H (ds++[])).results=[.lit (.bool true)]∧(s.fn H (ds++[])).args=ds∧(s.fn H (ds++[])).vars=[]) (hb:Below W.heap.size W W'):
  s.post enc P f apart fresh handsOn again W args (.bool true) W':=by
 have hW':=hW
 obtain ⟨p,q,hA,hV,rfl,_,_⟩:=hW
 rw [hv] at hV
 obtain ⟨rfl,rfl⟩:=trodVars_none hV
 obtain ⟨h1,h2,h3⟩:=hs _ rfl
 have hlt:∀x∈p,x.block<W.heap.size:=fun x hx=>hW'.lt x (List.mem_append_left _ hx)
 refine post_of_below (pa:=p) (pv:=[]) hW' (fun _ _ _=>?_) (fun sp hsp=>?_) (fun _ _=>?_) rfl hb ?_
 ·rw [h1,hres]
  exact trodAll_cons_mk (shut_bool ht _) trodAll_mk0
 ·rw [h2]
  exact trodAll_stays hl (readTs_ok hr) hA (fun x hx=>hb.same (hlt x hx)) (fun x hx=>hsp x (by simpa using hx))
 ·rw [h3,hv];rfl
 exact ok_one hres rfl (okWide_bool_mk ht _)
theorem cellsH_flat {h:Array Obj} {g sz:Nat}:∀ {rows:List (List Value)} {o:Nat},(∀r∈rows,r.length=sz)→(∀i r,rows[i]? = some r→CellsH h g (o+i*sz) r)→CellsH h g o rows.flatten
 | [],o,_,_=>fun j v hv=>by simp at hv
 |r::rs,o,hl,H=>fun j v hv=>by
  rw [List.flatten_cons] at hv
  have hr:=hl r (List.mem_cons_self ..)
  by_cases hj:j<r.length
  ·rw [List.getElem?_append_left hj] at hv
   have:=H 0 r rfl
   rw [Nat.zero_mul] at this
   exact this j v hv
  rw [List.getElem?_append_right (by omega)] at hv
  have:=cellsH_flat (rows:=rs) (o:=o+sz) (fun x hx=>hl x (List.mem_cons_of_mem _ hx)) (fun i x hx=>by
   have:=H (i+1) x hx
   rw [Nat.add_mul,Nat.one_mul] at this
   rw [show o+sz+i*sz=o+(i*sz+sz) by omega]
   exact this) (j - r.length) v hv
  rw [show o+j=o+sz+(j - r.length) by omega]
  exact this
theorem list_lt {α:Type} {p:Nat→α→Prop}:∀ {n:Nat},(∀i,i<n → ∃a,p i a) → ∃l:List α,l.length=n ∧ ∀i (h:i<l.length),p i l[i]
 |0,_=>⟨[],rfl,fun _ h=>absurd h (Nat.not_lt_zero _)⟩
 |n+1,H=>by
  obtain ⟨l,hl,hp⟩:=list_lt (n:=n) (fun i hi=>H i (by omega))
  obtain ⟨a,ha⟩:=H n (by omega)
  refine ⟨l++[a],by simp [hl],fun i hi=>?_⟩
  by_cases h:i<l.length
  ·rw [List.getElem_append_left h];exact hp i h
  have:i=n:=by simp at hi;omega
  subst this
  rw [List.getElem_append_right (by omega)]
  simpa [hl] using ha
end
end Go.Fw

namespace Go.Fw
open Go Go.RowKit Go.WideShapes Go.ChangeShapes
section
variable {H:Type} {enc:TypeId×Value→H} {P:Program} {w:World} {base:Nat} {sp:Nat→Bool} {held:Bool}
inductive Sc where
 |b
 |s
 |i (k:IntKind)
def Sc.ok:Sc→Value→Prop
 | .b,v=>∃x,v=.bool x
 | .s,v=>∃x:ByteArray,v=.string x∧x.size≤maxLen
 | .i k,v=>∃n,v=.int k n∧(Lit.int k n).wf=true
def Sc.und:Sc→TypeDesc
 | .b=>.bool
 | .s=>.string
 | .i k=>.int k
theorem trod_sc {t:TypeId} {k:Sc} (ht:P.underlying t=some k.und) {fuel:Nat} {cs:List Value} {x:DataW H×List MemPlace} (h:DataW.trod enc P w base sp held fuel t cs=some x):∃v,cs=[v]∧k.ok v:=by
 cases k with
 |b=>obtain ⟨b,e,_⟩:=DataW.trod_bool ht h;exact ⟨_,e,b,rfl⟩
 |s=>obtain ⟨s,e,_,m⟩:=DataW.trod_string ht h;exact ⟨_,e,s,rfl,m⟩
 |i k=>obtain ⟨n,e,_,m⟩:=DataW.trod_int ht h;exact ⟨_,e,n,rfl,m⟩
end
end Go.Fw

namespace Go.RatM
open Go Go.Fw Go.NatM
structure Un where
 name:ByteArray
 of_:ByteArray
 n:Int
 d:Int
 base:Int
 scale:Rt
def Un.row (u:Un):List Value:=[.string u.name,.string u.of_,.int .i64 u.n,.int .i64 u.d,.int .i64 u.base,.bool u.scale.neg,.string u.scale.n,.string u.scale.d]
def Un.v (u:Un):Value:=.agg u.row.toArray
theorem Un.ext8 {u v:Un} (h:u.name=v.name∧u.of_=v.of_∧u.n=v.n∧u.d=v.d∧u.base=v.base∧u.scale.neg=v.scale.neg∧u.scale.n=v.scale.n∧u.scale.d=v.scale.d):u=v:=by
 obtain ⟨a,b,c,d,e,⟨f,g,i⟩⟩:=u
 obtain ⟨a',b',c',d',e',⟨f',g',i'⟩⟩:=v
 obtain ⟨rfl,rfl,rfl,rfl,rfl,rfl,rfl,rfl⟩:=h
 rfl
theorem Un.ext8_iff {u v:Un}:u=v↔(u.name=v.name∧u.of_=v.of_∧u.n=v.n∧u.d=v.d∧u.base=v.base∧u.scale.neg=v.scale.neg∧u.scale.n=v.scale.n∧u.scale.d=v.scale.d):=
 ⟨fun e=>by subst e;simp,Un.ext8⟩
instance:DecidableEq Un:=fun _ _=>decidable_of_iff _ Un.ext8_iff.symm
def rowsU (l:List Un):List (List Value):=l.map Un.row
theorem rowsU_len (l:List Un):(rowsU l).length=l.length:=by simp [rowsU]
theorem rowsU_get {l:List Un} {k:Nat} (hk:k<l.length):(rowsU l)[k]? = some l[k].row:=by simp [rowsU,hk]
def findI (l:List Un) (nm:ByteArray):Int:=match l.findIdx? (fun u=>decide (u.name=nm)) with
 |some k=>k
 |none=> -1
theorem findI_none {l:List Un} {nm:ByteArray}:findI l nm = -1 ↔ ∀u∈l,u.name≠nm:=by
 unfold findI
 cases h:l.findIdx? (fun u=>decide (u.name=nm)) with
 |none=>
  rw [List.findIdx?_eq_none_iff] at h
  simpa using h
 |some k=>
  rw [List.findIdx?_eq_some_iff_getElem] at h
  obtain ⟨hk,h1,_⟩:=h
  constructor
  ·intro e;dsimp only at e;omega
  intro e
  exact absurd (by simpa using h1) (e _ (List.getElem_mem hk))
theorem findI_some {l:List Un} {nm:ByteArray} {k:Nat}:findI l nm=k ↔ ∃hk:k<l.length,l[k].name=nm ∧ ∀j (hj:j<k),l[j].name≠nm:=by
 unfold findI
 cases h:l.findIdx? (fun u=>decide (u.name=nm)) with
 |none=>
  rw [List.findIdx?_eq_none_iff] at h
  constructor
  ·intro e;dsimp only at e;omega
  rintro ⟨hk,h1,_⟩
  have:=h _ (List.getElem_mem hk)
  simp [h1] at this
 |some m=>
  rw [List.findIdx?_eq_some_iff_getElem] at h
  obtain ⟨hm,h1,h2⟩:=h
  simp only [decide_eq_true_eq] at h1
  constructor
  ·intro e
   dsimp only at e
   obtain rfl:m=k:=by omega
   refine ⟨hm,h1,fun j hj=>?_⟩
   have:=h2 j hj
   simpa using this
  rintro ⟨hk,g1,g2⟩
  dsimp only
  rcases Nat.lt_trichotomy m k with h|h|h
  ·exact absurd h1 (g2 m h)
  ·omega
  have:=h2 k h
  simp [g1] at this
def one1:Rt:=encQ oq
abbrev btw (n:Int):Prop:=1≤n∧n≤1000000
def Un.re (u:Un) (b:Int) (s:Rt):Un:=⟨u.name,u.of_,u.n,u.d,b,s⟩
def stepU (x:List Un) (u:Un):Un ⊕ Int:=
 if u.of_=NatM.mt then (if u.n=0∧u.d=0 then .inl (u.re x.length one1) else .inr 90)
 else if btw u.n∧btw u.d then
  match x[(findI x u.of_).toNat]? with
  |some v=>if findI x u.of_<0 then .inr 110 else .inl (u.re v.base (mulR v.scale (newR u.n u.d).1).1)
  |none=>.inr 110
 else .inr 90
def resU:List Un→List Un→List Un ⊕ Int
 | [],x=>.inl x
 |u::l,x=>match stepU x u with
  | .inl v=>resU l (x++[v])
  | .inr e=>.inr e
def resolveU (l:List Un):List Un ⊕ Int:=
 if 32<l.length then .inr 90 else if ¬(l.map Un.name).Nodup then .inr 111 else resU l []
def checkU (l:List Un):Int:=match resolveU l with
 | .inr e=>e
 | .inl x=>if x=l then 0 else 90
def convU (l:List Un) (a b:Int) (r:Rt):Rt×Int:=
 if checkU l≠0 then (zr',checkU l) else
 match l[a.toNat]?,l[b.toNat]? with
 |some u,some v=>if a<0∨b<0∨u.base≠v.base then (zr',90) else
   if (mulR r u.scale).2≠0 then (zr',(mulR r u.scale).2) else divR (mulR r u.scale).1 v.scale
 |_,_=>(zr',90)
where zr':Rt:=⟨false,NatM.mt,NatM.mt⟩
def Sc1 (k:Nat) (u:Un):Prop:=∃q:Q,u.scale=encQ q∧q.Ok∧q.le k∧0<q.val
theorem Sc1.mono {k m:Nat} {u:Un} (h:Sc1 k u) (hk:k≤m):Sc1 m u:=by
 obtain ⟨q,h1,h2,h3,h4⟩:=h
 exact ⟨q,h1,h2,h3.mono hk,h4⟩
theorem newQ_pos {n d:Int} (hn:btw n) (hd:btw d):(newQ n d).Ok∧(newQ n d).le 3∧0<(newQ n d).val:=by
 refine ⟨newQ_ok (by omega),newQ_le (by have:(256:Nat)^3=16777216:=by decide
                                        omega) (by have:(256:Nat)^3=16777216:=by decide
                                                   omega),?_⟩
 rw [newQ_val (by omega)]
 have h1:(0:Rat)<(n:Rat):=by
  have:=(Rat.intCast_lt_intCast (a:=0) (b:=n)).2 (by omega)
  simpa using this
 have h2:(0:Rat)<(d:Rat):=by
  have:=(Rat.intCast_lt_intCast (a:=0) (b:=d)).2 (by omega)
  simpa using this
 exact Rat.mul_pos h1 (Rat.inv_pos.2 h2)
theorem stepU_sc {x:List Un} {u v:Un} {k:Nat} (hk:k+3≤256) (hk1:1≤k) (hx:∀w∈x,Sc1 k w) (h:stepU x u=.inl v):Sc1 (k+3) v:=by
 unfold stepU at h
 split at h
 ·split at h
  ·cases h
   exact ⟨oq,rfl,oq_ok,oq_le.mono (by omega),by rw [oq_val];decide⟩
  cases h
 split at h
 ·rename_i hb
  split at h
  ·rename_i w hw
   split at h
   ·cases h
   cases h
   obtain ⟨q,h1,h2,h3,h4⟩:=hx w (List.mem_of_getElem? hw)
   obtain ⟨n1,n2,n3⟩:=newQ_pos hb.1 hb.2
   obtain ⟨c,c1,c2,c3,c4⟩:=mulR_ok h2 n1 h3 n2 hk
   refine ⟨c,?_,c2,c3,by rw [c4];exact Rat.mul_pos h4 n3⟩
   show (mulR w.scale (newR u.n u.d).1).1=_
   rw [h1,newR_ok (by omega),c1]
  cases h
 cases h
end Go.RatM

namespace Go.Proofs.YtofjdbmcloemnaaGreatDoor
open Go Go.Fw Go.RatM
set_option maxRecDepth 100000
set_option maxHeartbeats 99999999
theorem between_fn {h:Array Obj} (n:Int):FnV Tryz.prog 63 #[.int .i64 n] h fun r h'=>r=.bool (decide (btw n))∧Keeps h.size h h':=by
 refine Fn.ofS (args:=[.int .i64 n]) Tryz.func63 (by kernel_rfl) rfl Tryz.ntmps63 rfl fun w0 cs=>?_
 conv=>whnf
 refine gS ?_;conv=>whnf
 repeat' (refine And.intro (fun hs=>?_) (fun hs=>?_)<;>(conv=>whnf))
 all_goals (
  refine RunsS.retU (UnwS.ret tab Tryz.func63 rfl fun Ez Hz Az Sz K=>⟨_,rfl,?_,K.keeps⟩)
  first|exact congrArg Value.bool (decide_eq_true (by omega)).symm|exact congrArg Value.bool (decide_eq_false (by omega)).symm|exact congrArg Value.bool (decide_eq_decide.2 (by omega))
 )
def unB (b:Nat) (u:Un):Nat×Fw.Blk:=(b,.cells 59 (toV u.row))
theorem twins1_fn (v u:Un):FnS Tryz.prog 99 1 [.agg (toV v.row),.ptr 0 0] [unB 0 u] (fun _:Unit=>True) (fun _=>.ret (.v (.bool (decide (v.name=u.name)))) 1 [unB 0 u]):=by
 refine FnS.of Tryz.func99 (by kernel_rfl) rfl Tryz.ntmps99 rfl fun E0 F h w0 cs=>?_
 conv=>whnf
 refine gS ?_;conv=>whnf
 try refine RunsS.retU ?_
 exact UnwS.ret tab Tryz.func99 rfl (eN () trivial)
abbrev strB (b:Nat) (s:ByteArray):Nat×Fw.Blk:=(b,.cells 9 [.v (.string s)])
theorem meant1_fn (v:Un) (s:ByteArray):FnS Tryz.prog 62 1 [.agg (toV v.row),.ptr 0 0] [strB 0 s] (fun _:Unit=>True) (fun _=>.ret (.v (.bool (decide (v.name=s)))) 1 [strB 0 s]):=by
 refine FnS.of Tryz.func62 (by kernel_rfl) rfl Tryz.ntmps62 rfl fun E0 F h w0 cs=>?_
 conv=>whnf
 refine gS ?_;conv=>whnf
 try refine RunsS.retU ?_
 exact UnwS.ret tab Tryz.func62 rfl (eN () trivial)
theorem idxT_fn (l:List Un) (hl:l.length≤9223372036854775807) (u:Un):FnS Tryz.prog 61 2 [.buf 0,.fn (.func 99) [] [.ptr 1 0]] [(0,.ro 8 (rowsU l)),unB 1 u] (fun _:Unit=>True)
  (fun _=>.ret (.v (.int .i64 (findI l u.name))) 2 [unB 1 u]):=by
 have hlr:=rowsU_len l
 obtain ⟨r,hr⟩:∃r,r=findI l u.name:=⟨_,rfl⟩
 rw [←hr]
 refine FnS.of Tryz.func61 (by kernel_rfl) rfl Tryz.ntmps61 rfl fun E0 F h w0 cs=>?_
 conv=>whnf
 refine gS ?_;conv=>whnf
 refine RunsS.subR [] (RunsS.loop (fun (k:Nat)=>[(8,.v (.int .i64 k)),(7,.v (.int .i64 (rowsU l).length)),(0,.buf 0),(1,.fn (.func 99) [] [.ptr 1 0])]) (fun (k:Nat)=>[(0,.ro 8 (rowsU l)),unB 1 u]) 2 (fun (k:Nat)=>k≤l.length ∧ ∀j (hj:j<k) (hjl:j<l.length),l[j].name≠u.name) (fun (k:Nat)=>l.length - k) ?round1 (0) ?J01) sH sH
 case J01=>exact (⟨Nat.zero_le _,fun j hj=>absurd hj (Nat.not_lt_zero _)⟩)
 rintro k hJ back
 conv=>whnf
 refine gS ?_;conv=>whnf
 refine ⟨fun hk=>?_,fun hk=>?_⟩<;>conv=>whnf
 ·have hk:k<l.length:=by omega
  conv=>whnf
  repeat ((first|refine oM ?_|refine oL ?_|refine oR ?_);(try intro _);conv=>whnf)
  refine ⟨_,rowsU_get hk,?_⟩;conv=>whnf
  try (refine oN ?_;conv=>whnf)
  have C:=twins1_fn l[k] u
  by_cases hn:l[k].name=u.name
  ·rw [decide_eq_true hn] at C
   refine RunsS.callN (C) [1] ?_ sH ?CNa2
   case CNa2=>rfl
   intro _ _
   conv=>whnf
   try refine gS ?_;conv=>whnf
   have:r=k:=by rw [hr];exact findI_some.2 ⟨hk,hn,fun j hj=>hJ.2 j hj (by omega)⟩
   rw [this]
   try refine RunsS.retU ?_
   exact UnwS.ret tab Tryz.func61 rfl (eN () trivial)
  rw [decide_eq_false hn] at C
  refine RunsS.callN (C) [1] ?_ sH ?CNa3
  case CNa3=>rfl
  intro _ _
  conv=>whnf
  try refine gS ?_;conv=>whnf
  repeat ((first|refine oM ?_|refine oL ?_|refine oR ?_);(try intro _);conv=>whnf)
  refine RunsS.subR [] (back (k+1) (by exact (⟨hk,fun j hj hjl=>(Nat.lt_succ_iff_lt_or_eq.1 hj).elim (fun hj=>hJ.2 j hj hjl) (fun e=>by subst e;exact hn)⟩)) (by (try dsimp only);omega)) sH sH
 conv=>whnf
 have:r = -1:=by
  rw [hr,findI_none]
  intro w hw
  obtain ⟨j,hj,rfl⟩:=List.getElem_of_mem hw
  exact hJ.2 j (by omega) hj
 rw [this]
 try refine RunsS.retU ?_
 exact UnwS.ret tab Tryz.func61 rfl (eN () trivial)

theorem contT_fn (l:List Un) (hl:l.length≤9223372036854775807) (u:Un):FnS Tryz.prog 98 2 [.buf 0,.fn (.func 99) [] [.ptr 1 0]] [(0,.ro 8 (rowsU l)),unB 1 u] (fun _:Unit=>True)
  (fun _=>.ret (.v (.bool (decide (0≤findI l u.name)))) 2 [unB 1 u]):=by
 have C:=idxT_fn l hl u
 obtain ⟨r,hr⟩:∃r,r=findI l u.name:=⟨_,rfl⟩
 rw [←hr] at C ⊢
 refine FnS.of Tryz.func98 (by kernel_rfl) rfl Tryz.ntmps98 rfl fun E0 F h w0 cs=>?_
 conv=>whnf
 refine gS ?_;conv=>whnf
 refine RunsS.callN (C) [0,1] ?_ sH ?CNa1
 case CNa1=>rfl
 intro _ _
 conv=>whnf
 refine gS ?_;conv=>whnf
 refine RunsS.retU ?_
 exact UnwS.ret tab Tryz.func98 rfl (eN () trivial)
theorem rowsU_take (l:List Un) (k:Nat):rowsU (l.take k)=(rowsU l).take k:=by simp [rowsU,List.map_take]
theorem findI_neg {l:List Un} {nm:ByteArray} (h:findI l nm<0):∀u∈l,u.name≠nm:=by
 refine findI_none.1 ?_
 unfold findI at h ⊢
 split at h
 ·omega
 rfl
theorem findI_nonneg {l:List Un} {nm:ByteArray} (h:0≤findI l nm):∃k:Nat,findI l nm=k ∧ ∃hk:k<l.length,l[k].name=nm ∧ ∀j (hj:j<k),l[j].name≠nm:=by
 obtain ⟨k,hk⟩:∃k:Nat,findI l nm=k:=⟨(findI l nm).toNat,by omega⟩
 exact ⟨k,hk,findI_some.1 hk⟩
theorem nodup_succ {l:List Un} {k:Nat} (hk:k<l.length) (h:((l.take k).map Un.name).Nodup) (hn:findI (l.take k) l[k].name<0):((l.take (k+1)).map Un.name).Nodup:=by
 rw [List.take_add_one,List.getElem?_eq_getElem hk,List.map_append]
 refine List.nodup_append.2 ⟨h,by simp,?_⟩
 intro a ha b hb e
 obtain ⟨u,hu,rfl⟩:=List.mem_map.1 ha
 simp only [Option.toList,List.map_cons,List.map_nil,List.mem_singleton] at hb
 exact findI_neg hn u hu (e.trans hb)
theorem not_nodup {l:List Un} {k:Nat} (hk:k<l.length) (hn:0≤findI (l.take k) l[k].name):¬(l.map Un.name).Nodup:=by
 intro h
 obtain ⟨j,_,hj,hnm,_⟩:=findI_nonneg hn
 rw [List.length_take] at hj
 rw [List.getElem_take] at hnm
 have h1:=(List.pairwise_iff_getElem.1 h) j k (by rw [List.length_map];omega) (by rw [List.length_map];omega) (by omega)
 simp only [List.getElem_map] at h1
 exact h1 hnm
theorem twins_fn {h:Array Obj} (l:List Un) {v:Value} (hv:Ro h v 8 (rowsU l)):FnV Tryz.prog 58 #[v] h fun r h'=>r=.bool (decide (¬(l.map Un.name).Nodup))∧Keeps h.size h h':=by
 have hl:=rowsU_len l
 have hm:=hv.len
 obtain ⟨r,hr⟩:∃r,r=decide (¬(l.map Un.name).Nodup):=⟨_,rfl⟩
 rw [←hr]
 refine Fn.ofG (envL [v]) 1 [.buf 0] [(0,.ro (8) (rowsU l))] (fun k=>k<_) Tryz.func58 (by kernel_rfl) rfl Tryz.ntmps58 rfl (fun _ hk=>hk) (Sat.ros (vs:=[v]) (l:=[(8,rowsU l)]) ⟨hv,trivial⟩) fun w0 cs=>?_
 conv=>whnf
 refine gS ?_;conv=>whnf
 refine RunsS.subR [] (RunsS.loop (fun (k:Nat)=>[(7,.v (.int .i64 k)),(6,.v (.int .i64 (rowsU l).length)),(5,.buf 0),(0,.buf 0)]) (fun (k:Nat)=>[(0,.ro 8 (rowsU l))]) 1 (fun (k:Nat)=>k≤l.length∧((l.take k).map Un.name).Nodup) (fun (k:Nat)=>l.length - k) ?round2 (0) ?J02) sH sH
 case J02=>exact (⟨Nat.zero_le _,by simp⟩)
 rintro k hJ back
 try dsimp only at hJ back
 conv=>whnf
 try dsimp only
 refine gS ?_;conv=>whnf
 refine ⟨fun hk=>?_,fun hk=>?_⟩<;>conv=>whnf
 ·have hk:k<l.length:=by omega
  conv=>whnf
  repeat ((first|refine oM ?_|refine oL ?_|refine oR ?_);(try intro _);conv=>whnf)
  refine ⟨_,rowsU_get hk,?_⟩;conv=>whnf
  try (refine oN ?_;conv=>whnf)
  repeat ((first|refine oM ?_|refine oL ?_|refine oR ?_);(try intro _);conv=>whnf)
  refine gS ?_;conv=>whnf
  have C:=contT_fn (l.take k) (by rw [List.length_take];omega) l[k]
  rw [rowsU_take] at C
  by_cases hn:0≤findI (l.take k) l[k].name
  ·rw [decide_eq_true hn] at C
   refine RunsS.callN (C) [2,1] ?_ sH ?CNa3
   case CNa3=>rfl
   intro _ _
   conv=>whnf
   refine gS ?_;conv=>whnf
   have:r=true:=by rw [hr];exact decide_eq_true (not_nodup hk hn)
   rw [this]
   refine RunsS.retU (UnwS.ret tab Tryz.func58 rfl fun _ _ _ _ K=>⟨_,rfl,rfl,K.keeps⟩)
  rw [decide_eq_false hn] at C
  refine RunsS.callN (C) [2,1] ?_ sH ?CNa4
  case CNa4=>rfl
  intro _ _
  conv=>whnf
  refine gS ?_;conv=>whnf
  repeat ((first|refine oM ?_|refine oL ?_|refine oR ?_);(try intro _);conv=>whnf)
  refine RunsS.subR [] (back (k+1) (by exact (⟨hk,nodup_succ hk hJ.2 (by omega)⟩)) (by (try dsimp only);omega)) sH sH
 conv=>whnf
 have hk:k=l.length:=by omega
 have hnd:=hJ.2
 rw [hk,List.take_length] at hnd
 have:r=false:=by rw [hr];exact decide_eq_false (fun h=>h hnd)
 rw [this]
 refine RunsS.retU (UnwS.ret tab Tryz.func58 rfl fun _ _ _ _ K=>⟨_,rfl,rfl,K.keeps⟩)

abbrev ownU (b:Nat) (l:List Un):Nat×Fw.Blk:=(b,.own 59 8 (rowsU l))
abbrev cellU (b:Nat) (x:SV):Nat×Fw.Blk:=(b,.cells 22 [x])
theorem idxM_fn (l:List Un) (hl:l.length≤9223372036854775807) (s:ByteArray):FnS Tryz.prog 61 2 [.buf 0,.fn (.func 62) [] [.ptr 1 0]] [ownU 0 l,strB 1 s] (fun _:Unit=>True)
  (fun _=>.ret (.v (.int .i64 (findI l s))) 2 [ownU 0 l,strB 1 s]):=by
 have hlr:=rowsU_len l
 obtain ⟨r,hr⟩:∃r,r=findI l s:=⟨_,rfl⟩
 rw [←hr]
 refine FnS.of Tryz.func61 (by kernel_rfl) rfl Tryz.ntmps61 rfl fun E0 F h w0 cs=>?_
 conv=>whnf
 refine gS ?_;conv=>whnf
 refine RunsS.subR [] (RunsS.loop (fun (k:Nat)=>[(8,.v (.int .i64 k)),(7,.v (.int .i64 (rowsU l).length)),(0,.buf 0),(1,.fn (.func 62) [] [.ptr 1 0])]) (fun (k:Nat)=>[ownU 0 l,strB 1 s]) 2 (fun (k:Nat)=>k≤l.length ∧ ∀j (hj:j<k) (hjl:j<l.length),l[j].name≠s) (fun (k:Nat)=>l.length - k) ?round1 (0) ?J01) sH sH
 case J01=>exact (⟨Nat.zero_le _,fun j hj=>absurd hj (Nat.not_lt_zero _)⟩)
 rintro k hJ back
 conv=>whnf
 refine gS ?_;conv=>whnf
 refine ⟨fun hk=>?_,fun hk=>?_⟩<;>conv=>whnf
 ·have hk:k<l.length:=by omega
  conv=>whnf
  repeat ((first|refine oM ?_|refine oL ?_|refine oR ?_);(try intro _);conv=>whnf)
  refine ⟨_,rowsU_get hk,?_⟩;conv=>whnf
  try (refine oN ?_;conv=>whnf)
  have C:=meant1_fn l[k] s
  by_cases hn:l[k].name=s
  ·rw [decide_eq_true hn] at C
   refine RunsS.callN (C) [1] ?_ sH ?CNa2
   case CNa2=>rfl
   intro _ _
   conv=>whnf
   refine gS ?_;conv=>whnf
   have:r=k:=by rw [hr];exact findI_some.2 ⟨hk,hn,fun j hj=>hJ.2 j hj (by omega)⟩
   rw [this]
   refine RunsS.retU ?_
   exact UnwS.ret tab Tryz.func61 rfl (eN () trivial)
  rw [decide_eq_false hn] at C
  refine RunsS.callN (C) [1] ?_ sH ?CNa3
  case CNa3=>rfl
  intro _ _
  conv=>whnf
  refine gS ?_;conv=>whnf
  repeat ((first|refine oM ?_|refine oL ?_|refine oR ?_);(try intro _);conv=>whnf)
  refine RunsS.subR [] (back (k+1) (by exact (⟨hk,fun j hj hjl=>(Nat.lt_succ_iff_lt_or_eq.1 hj).elim (fun hj=>hJ.2 j hj hjl) (fun e=>by subst e;exact hn)⟩)) (by (try dsimp only);omega)) sH sH
 conv=>whnf
 have:r = -1:=by
  rw [hr,findI_none]
  intro w hw
  obtain ⟨j,hj,rfl⟩:=List.getElem_of_mem hw
  exact hJ.2 j (by omega) hj
 rw [this]
 refine RunsS.retU ?_
 exact UnwS.ret tab Tryz.func61 rfl (eN () trivial)
theorem meant_fn (l:List Un) (hl:l.length≤9223372036854775807) (s:ByteArray):FnS Tryz.prog 60 2 [.v (.string s),.ptr 0 0] [cellU 0 (.buf 1),ownU 1 l] (fun _:Unit=>True)
  (fun _=>.ret (.v (.int .i64 (findI l s))) 2 [cellU 0 (.buf 1),ownU 1 l]):=by
 have C:=idxM_fn l hl s
 refine FnS.of Tryz.func60 (by kernel_rfl) rfl Tryz.ntmps60 rfl fun E0 F h w0 cs=>?_
 conv=>whnf
 refine gS ?_;conv=>whnf
 refine RunsS.callN (C) [1,2] ?_ sH ?CNa5
 case CNa5=>rfl
 intro _ _
 conv=>whnf
 refine gS ?_;conv=>whnf
 refine RunsS.retU ?_
 exact UnwS.ret tab Tryz.func60 rfl (eN () trivial)
end Go.Proofs.YtofjdbmcloemnaaGreatDoor

namespace Go.Proofs.YtofjdbmcloemnaaGreatDoor
open Go Go.Fw Go.NatM Go.RatM
set_option maxRecDepth 100000
set_option maxHeartbeats 99999999
def TabT (F:Nat→Prop) (h:Array Obj):Prop:=TabH h∧F 2
theorem tabOk:TOk TabT:=by
 refine ⟨fun F F' h hs hT=>⟨hT.1,hs _ hT.2⟩,fun F h h' hT K=>⟨fun j hj=>?_,hT.2⟩⟩
 rw [←hT.1 j hj]
 unfold cellH
 rw [K.same _ hT.2]
theorem TabH.t {h:Array Obj} (hT:TabH h):TabT (fun k=>k<h.size) h:=⟨hT,cellH_lt (hT 0 (by decide))⟩
def foldM:List Rt→Rt→Rt×Int
 | [],a=>(a,0)
 |b::l,a=>if (mulR a b).2=0 then foldM l (mulR a b).1 else mulR a b
theorem fold_fn {h:Array Obj} (l:List Rt) (a:Rt) {v:Value} (hv:Ro h v 3 (rowsR l)) (hT:TabH h):FnV Tryz.prog 64 #[v,a.v,.func (.func 65) #[] #[]] h fun r h'=>r=rev (foldM l a)∧Keeps h.size h h':=by
 have hl:=rowsR_len l
 have hm:=hv.len
 obtain ⟨r,hr⟩:∃r,r=foldM l a:=⟨_,rfl⟩
 rw [←hr]
 refine Fn.ofG (envL [v]) 1 [.buf 0,.agg [.v (.bool a.neg),.v (.string a.n),.v (.string a.d)],.fn (.func 65) [] []] [(0,.ro (3) (rowsR l))] (fun k=>k<_) Tryz.func64 (by kernel_rfl) rfl Tryz.ntmps64 rfl (fun _ hk=>hk) (Sat.ros (vs:=[v]) (l:=[(3,rowsR l)]) ⟨hv,trivial⟩) fun w0 cs=>?_
 conv=>whnf
 refine gS ?_;conv=>whnf
 refine RunsS.subR [] (RunsS.loop (fun (⟨k,acc⟩:Nat×Rt)=>[(13,.v (.int .i64 k)),(12,.v (.int .i64 (rowsR l).length)),(11,.buf 0),(6,.ptr 2 0),(4,.ptr 1 0),(2,.fn (.func 65) [] [])]) (fun (⟨k,acc⟩:Nat×Rt)=>[(2,.cells 57 [.v (.bool false),.v (.string ⟨#[]⟩),.v (.string ⟨#[]⟩)]),(1,.cells 57 [.v (.bool acc.neg),.v (.string acc.n),.v (.string acc.d)]),(0,.ro 3 (rowsR l))]) 3 (fun (⟨k,acc⟩:Nat×Rt)=>k≤l.length∧r=foldM (l.drop k) acc) (fun (⟨k,acc⟩:Nat×Rt)=>l.length - k) ?round1 ((0,a)) ?J01) sH sH
 case J01=>exact (⟨Nat.zero_le _,hr⟩)
 rintro ⟨k,acc⟩ hJ back
 try dsimp only at hJ back
 conv=>whnf
 try dsimp only
 refine gS ?_;conv=>whnf
 refine ⟨fun hk=>?_,fun hk=>?_⟩<;>conv=>whnf
 ·have hk:k<l.length:=by omega
  have hd:l.drop k=l[k]::l.drop (k+1):=List.drop_eq_getElem_cons hk
  have hJ2:=hJ.2
  rw [hd] at hJ2
  unfold foldM at hJ2
  conv=>whnf
  repeat ((first|refine oM ?_|refine oL ?_|refine oR ?_);(try intro _);conv=>whnf)
  refine ⟨_,rowsR_get hk,?_⟩;conv=>whnf
  try (refine oN ?_;conv=>whnf)
  refine RunsS.callV (fun Ez Hz Az Sz K=>qMul_fn acc l[k] (hT.keeps ⟨K.size,K.same⟩)) ?_
  conv=>whnf
  refine gS ?_;conv=>whnf
  refine ⟨fun o1=>?_,fun o1=>?_⟩<;>conv=>whnf
  ·conv=>whnf
   repeat ((first|refine oM ?_|refine oL ?_|refine oR ?_);(try intro _);conv=>whnf)
   rw [if_pos o1] at hJ2
   refine RunsS.subR [] (back ((k+1,(mulR acc l[k]).1)) (by exact (⟨hk,hJ2⟩)) (by (try dsimp only);omega)) sH sH
  conv=>whnf
  rw [if_neg o1] at hJ2
  rw [hJ2]
  refine RunsS.retU (UnwS.ret tab Tryz.func64 rfl fun _ _ _ _ K=>⟨_,rfl,rfl,K.keeps⟩)
 have hk:k=l.length:=by omega
 have hJ2:=hJ.2
 rw [hk,List.drop_length] at hJ2
 conv=>whnf
 rw [hJ2]
 refine RunsS.retU (UnwS.ret tab Tryz.func64 rfl fun _ _ _ _ K=>⟨_,rfl,rfl,K.keeps⟩)
end Go.Proofs.YtofjdbmcloemnaaGreatDoor

namespace Go.RatM
open Go Go.Fw Go.NatM
theorem stepU_fields {x:List Un} {u v:Un} (h:stepU x u=.inl v):v.name=u.name∧v.of_=u.of_∧v.n=u.n∧v.d=u.d:=by
 unfold stepU at h
 split at h
 ·split at h
  ·cases h;exact ⟨rfl,rfl,rfl,rfl⟩
  cases h
 split at h
 ·split at h
  ·split at h
   ·cases h
   cases h;exact ⟨rfl,rfl,rfl,rfl⟩
  cases h
 cases h
theorem resU_iff:∀ {l x y:List Un},resU l x=.inl y ↔ ∃z,y=x++z∧z.length=l.length ∧ ∀i (h:i<l.length) (h':i<z.length),stepU (x++z.take i) l[i]=.inl z[i]
 | [],x,y=>by
  constructor
  ·intro h
   cases h
   exact ⟨[],by simp,rfl,fun i h=>absurd h (by simp)⟩
  rintro ⟨z,rfl,hz,_⟩
  have:z=[]:=List.eq_nil_of_length_eq_zero hz
  subst this
  simp [resU]
 |u::l,x,y=>by
  constructor
  ·intro h
   simp only [resU] at h
   split at h
   ·rename_i v hv
    obtain ⟨z,rfl,hz,hs⟩:=resU_iff.1 h
    refine ⟨v::z,by simp,by simp [hz],?_⟩
    intro i hi hi'
    cases i with
    |zero=>simpa using hv
    |succ i=>
     have:=hs i (by simpa using hi) (by simpa using hi')
     simpa using this
   cases h
  rintro ⟨z,rfl,hz,hs⟩
  cases z with
  |nil=>simp at hz
  |cons v z=>
   have h0:=hs 0 (by simp) (by simp)
   simp only [List.take_zero,List.append_nil,List.getElem_cons_zero] at h0
   simp only [resU,h0]
   refine resU_iff.2 ⟨z,by simp,by simpa using hz,?_⟩
   intro i hi hi'
   have:=hs (i+1) (by simpa using hi) (by simpa using hi')
   simpa using this
def ResP (l x:List Un):Prop:=x.length=l.length ∧ ∀i (h:i<l.length) (h':i<x.length),stepU (x.take i) l[i]=.inl x[i]
theorem resU_nil {l x:List Un}:resU l []=.inl x↔ResP l x:=by
 rw [resU_iff]
 constructor
 ·rintro ⟨z,e,h1,h2⟩
  rw [List.nil_append] at e
  subst e
  exact ⟨h1,by simpa using h2⟩
 rintro ⟨h1,h2⟩
 exact ⟨x,rfl,h1,by simpa using h2⟩
theorem ResP.names {l x:List Un} (h:ResP l x):x.map Un.name=l.map Un.name:=by
 refine List.ext_getElem (by rw [List.length_map,List.length_map,h.1]) fun i h1 h2=>?_
 rw [List.length_map] at h1 h2
 rw [List.getElem_map,List.getElem_map]
 exact (stepU_fields (h.2 i h2 h1)).1
theorem resolveU_inl {l x:List Un}:resolveU l=.inl x↔l.length≤32∧(l.map Un.name).Nodup∧ResP l x:=by
 unfold resolveU
 by_cases h1:32<l.length
 ·rw [if_pos h1]
  exact ⟨(fun h=>by cases h),fun h=>absurd h.1 (by omega)⟩
 rw [if_neg h1]
 by_cases h2:(l.map Un.name).Nodup
 ·rw [if_neg (fun h=>h h2),resU_nil]
  exact ⟨fun h=>⟨by omega,h2,h⟩,fun h=>h.2.2⟩
 rw [if_pos h2]
 exact ⟨(fun h=>by cases h),fun h=>absurd h.2.1 h2⟩
theorem ResP.base {l x:List Un} (h:ResP l x) {i:Nat} (hi:i<x.length) (he:x[i].of_=NatM.mt):x[i].base=i∧x[i].scale=one1:=by
 have hi':i<l.length:=by rw [←h.1];exact hi
 have hs:=h.2 i hi' hi
 have e1:=(stepU_fields hs).2.1
 unfold stepU at hs
 rw [if_pos (e1▸he)] at hs
 split at hs
 ·have hs:=Sum.inl.inj hs
  rw [←hs]
  refine ⟨?_,rfl⟩
  show ((x.take i).length:Int)=i
  rw [List.length_take]
  omega
 cases hs
end Go.RatM

namespace Go.Proofs.YtofjdbmcloemnaaGreatDoor
open Go Go.Fw Go.NatM Go.RatM
set_option maxRecDepth 100000
set_option maxHeartbeats 99999999
def resO:List Un ⊕ Int→OutS
 | .inl x=>.ret (.tup [.buf 1,.v (.int .i64 0)]) 2 [ownU 1 x]
 | .inr e=>.ret (.tup [.v (.slice none 0 0),.v (.int .i64 e)]) 1 []
def scOk (x:List Un):Prop:=∀w∈x,Sc1 (1+3*x.length) w
theorem scOk.nil:scOk []:=fun w hw=>by cases hw
theorem scOk.step {x:List Un} {u v:Un} (hx:scOk x) (hl:x.length<32) (h:stepU x u=.inl v):scOk (x++[v]):=by
 intro w hw
 have hs:=stepU_sc (k:=1+3*x.length) (by omega) (by omega) hx h
 have hle:(x++[v]).length=x.length+1:=by simp
 rw [hle]
 rcases List.mem_append.1 hw with hw|hw
 ·exact (hx w hw).mono (by omega)
 rw [List.mem_singleton.1 hw];exact hs.mono (by omega)
theorem mulR_one {q:Q} {k:Nat} (ok:q.Ok) (hk:q.le k) (h:k≤255):mulR one1 (encQ q)=(encQ q,0):=by
 obtain ⟨c,c1,c2,c3,c4⟩:=mulR_ok oq_ok ok oq_le hk (by omega)
 have:c=q:=Q.inj c2 ok (by rw [c4,oq_val];grind)
 subst this
 exact c1
theorem mulR_new {q:Q} {k:Nat} {n d:Int} (ok:q.Ok) (hk:q.le k) (h:k+3≤256) (hn:btw n) (hd:btw d):(mulR (encQ q) (newR n d).1).2=0:=by
 obtain ⟨n1,n2,n3⟩:=newQ_pos hn hd
 obtain ⟨c,c1,c2,c3,c4⟩:=mulR_ok ok n1 hk n2 h
 rw [newR_ok (by omega),c1]
theorem foldM_two {q:Q} {k:Nat} {n d:Int} (ok:q.Ok) (hk:q.le k) (h:k+3≤256) (hn:btw n) (hd:btw d):foldM [encQ q,(newR n d).1] one1=((mulR (encQ q) (newR n d).1).1,0):=by
 have h1:=mulR_new ok hk h hn hd
 unfold foldM
 rw [mulR_one ok hk (by omega),if_pos rfl]
 unfold foldM
 rw [if_pos h1]
 rfl
abbrev rtB (b:Nat) (a:Rt):Nat×Fw.Blk:=(b,.cells 57 [.v (.bool a.neg),.v (.string a.n),.v (.string a.d)])
theorem rowsU_app (x:List Un) (v:Un):rowsU x++[v.row]=rowsU (x++[v]):=by simp [rowsU]
theorem foldM_nil:foldM [] one1=(one1,0):=rfl
theorem newR_one:newR 1 1=(one1,0):=(newR_ok (by decide)).trans (by rw [show newQ 1 1=oq from rfl];rfl)
theorem resolve_fn (l:List Un) (hl:l.length≤9223372036854775807) (hi:∀u∈l,(-9223372036854775808≤u.n∧u.n≤9223372036854775807)∧(-9223372036854775808≤u.d∧u.d≤9223372036854775807)):
  FnT Tryz.prog TabT 28 1 [.buf 0] [(0,.ro 8 (rowsU l))] (fun _:Unit=>True) (fun _=>resO (resolveU l)):=by
 have hlr:=rowsU_len l
 obtain ⟨r,hr⟩:∃r,r=resolveU l:=⟨_,rfl⟩
 rw [←hr]
 unfold resolveU at hr
 refine FnT.of Tryz.func28 (by kernel_rfl) rfl Tryz.ntmps28 rfl fun E0 F h hT w0 cs=>?_
 conv=>whnf
 refine gS ?_;conv=>whnf
 refine ⟨fun h1=>?_,fun h1=>?_⟩<;>conv=>whnf
 ·rw [if_pos (by omega)] at hr
  subst hr
  conv=>whnf
  refine RunsS.retU ?_
  exact UnwS.ret tab Tryz.func28 rfl (eN () trivial)
 rw [if_neg (by omega)] at hr
 have h1:l.length≤32:=by omega
 conv=>whnf
 by_cases hn:(l.map Un.name).Nodup
 ·rw [if_neg (fun h=>h hn)] at hr
  refine RunsS.callV (fun Ez Hz Az Sz K=>twins_fn l (Sz.ro (b:=0) rfl)) ?_
  conv=>whnf
  rw [decide_eq_false (fun h=>h hn)]
  try dsimp only
  refine gS ?_;conv=>whnf
  refine RunsS.callV (fun Ez Hz Az Sz K=>qNew_fn 1 1 (by omega) (by omega) (tabOk.at hT K).1) ?_
  conv=>whnf
  rw [newR_one]
  refine gS ?_;conv=>whnf
  refine RunsS.subR (nx':=3) (l':=[(25,.v (.int .i64 0)),(24,.v (.int .i64 (rowsU l).length)),(23,.buf 0),(6,.fn (.func 60) [] [.ptr 1 0]),(4,.ptr 2 0),(3,.v (.int .i64 0)),(2,.ptr 1 0)]) (H':=[rtB 2 one1,cellU 1 (.v (.slice none 0 0)),(0,.ro 8 (rowsU l))]) [] ?_ sH sH
  refine RunsS.nilOwn (l':=[(25,.v (.int .i64 0)),(24,.v (.int .i64 (rowsU l).length)),(23,.buf 0),(6,.fn (.func 60) [] [.ptr 1 0]),(4,.ptr 2 0),(3,.v (.int .i64 0)),(2,.ptr 1 0)]) (H':=[rtB 2 one1,cellU 1 (.buf 3),(0,.ro 8 (rowsU l))]) 59 8 ?_ (by rfl) (by rfl) (by rfl)
  refine RunsS.subR [] (RunsS.loop (fun (⟨k,x⟩:Nat×List Un)=>[(25,.v (.int .i64 k)),(24,.v (.int .i64 (rowsU l).length)),(23,.buf 0),(6,.fn (.func 60) [] [.ptr 1 0]),(4,.ptr 2 0),(3,.v (.int .i64 0)),(2,.ptr 1 0)]) (fun (⟨k,x⟩:Nat×List Un)=>[ownU 3 x,rtB 2 one1,cellU 1 (.buf 3),(0,.ro 8 (rowsU l))]) 4 (fun (⟨k,x⟩:Nat×List Un)=>k≤l.length∧x.length=k∧scOk x∧r=resU (l.drop k) x) (fun (⟨k,x⟩:Nat×List Un)=>l.length - k) ?round1 ((0,[])) ?J01) sH sH
  case J01=>exact (⟨Nat.zero_le _,rfl,scOk.nil,hr⟩)
  rintro ⟨k,x⟩ hJ back
  try dsimp only at hJ back
  conv=>whnf
  try dsimp only
  refine gS ?_;conv=>whnf
  refine ⟨fun hk=>?_,fun hk=>?_⟩<;>conv=>whnf
  ·have hk:k<l.length:=by omega
   have hd:l.drop k=l[k]::l.drop (k+1):=List.drop_eq_getElem_cons hk
   obtain ⟨hJ1,hJ2,hJ3,hJ4⟩:=hJ
   rw [hd] at hJ4
   simp only [resU] at hJ4
   conv=>whnf
   repeat ((first|refine oM ?_|refine oL ?_|refine oR ?_);(try intro _);conv=>whnf)
   refine ⟨_,rowsU_get hk,?_⟩;conv=>whnf
   try (refine oN ?_;conv=>whnf)
   refine ⟨fun e0=>?_,fun e0=>?_⟩<;>conv=>whnf
   ·have st:stepU x l[k]=if l[k].n=0∧l[k].d=0 then .inl (l[k].re k one1) else .inr 90:=by
     unfold stepU
     rw [if_pos e0,hJ2]
    by_cases hz:l[k].n=0∧l[k].d=0
    ·rw [if_pos hz] at st
     rw [st] at hJ4
     conv=>whnf
     repeat ((first|refine oM ?_|refine oL ?_|refine oR ?_);(try intro _);conv=>whnf)
     refine RunsS.callV (fun Ez Hz Az Sz K=>fold_fn [] one1 Ro.nil (tabOk.at hT K).1) ?_
     conv=>whnf
     rw [foldM_nil]
     try dsimp only
     refine gS ?_;conv=>whnf
     repeat ((first|refine oM ?_|refine oL ?_|refine oR ?_);(try intro _);conv=>whnf)
     refine And.intro (appOb (by rw [rowsU_len];omega)) ?_;conv=>whnf
     conv=>whnf
     repeat ((first|refine oM ?_|refine oL ?_|refine oR ?_);(try intro _);conv=>whnf)
     refine RunsS.rowsEq (6) (rowsU_app x (l[k].re k one1)) ?_;conv=>whnf
     refine RunsS.subR [(3,6)] (back ((k+1,x++[(l[k].re k one1)])) (by exact (⟨hk,by rw [List.length_append,hJ2];rfl,hJ3.step (by omega) st,hJ4⟩)) (by (try dsimp only);omega)) sH sH
    rw [if_neg hz] at st
    rw [st] at hJ4
    subst hJ4
    by_cases hz1:l[k].n=0
    ·have hz2:l[k].d≠0:=fun e=>hz ⟨hz1,e⟩
     conv=>whnf
     repeat ((first|refine oM ?_|refine oL ?_|refine oR ?_);(try intro _);conv=>whnf)
     refine RunsS.retU ?_
     exact UnwS.ret tab Tryz.func28 rfl (eN () trivial)
    conv=>whnf
    repeat ((first|refine oM ?_|refine oL ?_|refine oR ?_);(try intro _);conv=>whnf)
    refine RunsS.retU ?_
    exact UnwS.ret tab Tryz.func28 rfl (eN () trivial)
   conv=>whnf
   have hi':=hi l[k] (List.getElem_mem hk)
   by_cases b1:btw l[k].n
   ·refine RunsS.callV (fun Ez Hz Az Sz K=>between_fn l[k].n) ?_
    conv=>whnf
    rw [decide_eq_true b1]
    try dsimp only
    refine gS ?_;conv=>whnf
    by_cases b2:btw l[k].d
    ·refine RunsS.callV (fun Ez Hz Az Sz K=>between_fn l[k].d) ?_
     conv=>whnf
     rw [decide_eq_true b2]
     try dsimp only
     refine gS ?_;conv=>whnf
     by_cases hf:findI x l[k].of_<0
     ·have st:stepU x l[k]=.inr 110:=by
       unfold stepU
       rw [if_neg e0,if_pos ⟨b1,b2⟩]
       split
       ·rw [if_pos hf]
       rfl
      rw [st] at hJ4
      subst hJ4
      refine RunsS.callN (meant_fn x (by omega) l[k].of_) [1,3] ?_ sH ?CNa3
      case CNa3=>rfl
      intro _ _
      conv=>whnf
      refine gS ?_;conv=>whnf
      repeat ((first|refine oM ?_|refine oL ?_|refine oR ?_);(try intro _);conv=>whnf)
      refine RunsS.retU ?_
      exact UnwS.ret tab Tryz.func28 rfl (eN () trivial)
     obtain ⟨j,hj,hj1,hj2⟩:=findI_nonneg (l:=x) (nm:=l[k].of_) (by omega)
     have st:stepU x l[k]=.inl (l[k].re x[j].base (mulR x[j].scale (newR l[k].n l[k].d).1).1):=by
      unfold stepU
      rw [if_neg e0,if_pos ⟨b1,b2⟩,hj,Int.toNat_natCast,List.getElem?_eq_getElem hj1]
      exact if_neg (by omega)
     rw [st] at hJ4
     obtain ⟨q,q1,q2,q3,q4⟩:=hJ3 x[j] (List.getElem_mem hj1)
     have fm:foldM [x[j].scale,(newR l[k].n l[k].d).1] one1=((mulR x[j].scale (newR l[k].n l[k].d).1).1,0):=by rw [q1];exact foldM_two q2 q3 (by omega) b1 b2
     have nm:newR l[k].n l[k].d=((newR l[k].n l[k].d).1,0):=by rw [newR_ok (by omega)]
     have C:=meant_fn x (by omega) l[k].of_
     rw [hj] at C
     have hxr:=rowsU_len x
     refine RunsS.callN (C) [1,3] ?_ sH ?CNa4
     case CNa4=>rfl
     intro _ _
     conv=>whnf
     refine gS ?_;conv=>whnf
     repeat ((first|refine oM ?_|refine oL ?_|refine oR ?_);(try intro _);conv=>whnf)
     refine RunsS.callV (fun Ez Hz Az Sz K=>qNew_fn l[k].n l[k].d hi'.1 hi'.2 (tabOk.at hT K).1) ?_
     conv=>whnf
     rw [nm]
     try dsimp only
     refine gS ?_;conv=>whnf
     repeat ((first|refine oM ?_|refine oL ?_|refine oR ?_);(try intro _);conv=>whnf)
     refine ⟨_,rowsU_get hj1,?_⟩;conv=>whnf
     refine RunsS.held tab (.fl 0 (.fl 1 (.fl 2 (.fl 3 (.fl 4 (.fl 5 (.e1 6 [] (.fl 7 .done)))))))) (by kernel_rfl) ?_;conv=>whnf
     try refine gR ?_;conv=>whnf
     repeat ((first|refine oM ?_|refine oL ?_|refine oR ?_|refine oB ?_);(try intro _);conv=>whnf)
     conv=>whnf
     refine ⟨_,rowsU_get hj1,?_⟩;conv=>whnf
     try (refine oN ?_;conv=>whnf)
     conv=>whnf
     repeat ((first|refine oM ?_|refine oL ?_|refine oR ?_|refine oB ?_);(try intro _);conv=>whnf)
     refine gS ?_;conv=>whnf
     refine RunsS.callV (fun Ez Hz Az Sz K=>fold_fn [x[j].scale,(newR l[k].n l[k].d).1] one1 (Sz.ro (b:=6) rfl) (tabOk.at hT K).1) ?_
     conv=>whnf
     rw [fm]
     try dsimp only
     refine gS ?_;conv=>whnf
     repeat ((first|refine oM ?_|refine oL ?_|refine oR ?_);(try intro _);conv=>whnf)
     refine And.intro (appOb (by rw [rowsU_len];omega)) ?_;conv=>whnf
     conv=>whnf
     repeat ((first|refine oM ?_|refine oL ?_|refine oR ?_);(try intro _);conv=>whnf)
     refine RunsS.rowsEq (8) (rowsU_app x (l[k].re x[j].base (mulR x[j].scale (newR l[k].n l[k].d).1).1)) ?_;conv=>whnf
     refine RunsS.subR [(3,8)] (back ((k+1,x++[l[k].re x[j].base (mulR x[j].scale (newR l[k].n l[k].d).1).1])) (by exact (⟨hk,by rw [List.length_append,hJ2];rfl,hJ3.step (by omega) st,hJ4⟩)) (by (try dsimp only);omega)) sH sH
    have st:stepU x l[k]=.inr 90:=by
     unfold stepU
     rw [if_neg e0,if_neg fun h=>b2 h.2]
    rw [st] at hJ4
    subst hJ4
    refine RunsS.callV (fun Ez Hz Az Sz K=>between_fn l[k].d) ?_
    conv=>whnf
    rw [decide_eq_false b2]
    try dsimp only
    refine gS ?_;conv=>whnf
    refine RunsS.retU ?_
    exact UnwS.ret tab Tryz.func28 rfl (eN () trivial)
   have st:stepU x l[k]=.inr 90:=by
    unfold stepU
    rw [if_neg e0,if_neg fun h=>b1 h.1]
   rw [st] at hJ4
   subst hJ4
   refine RunsS.callV (fun Ez Hz Az Sz K=>between_fn l[k].n) ?_
   conv=>whnf
   rw [decide_eq_false b1]
   try dsimp only
   refine gS ?_;conv=>whnf
   refine RunsS.retU ?_
   exact UnwS.ret tab Tryz.func28 rfl (eN () trivial)
  have hk:k=l.length:=by omega
  have hJ4:=hJ.2.2.2
  rw [hk,List.drop_length] at hJ4
  have hJ4:r=.inl x:=hJ4
  conv=>whnf
  rw [hJ4]
  refine RunsS.retU ?_
  exact UnwS.ret tab Tryz.func28 rfl (EndS.mk (()) (trivial) [(1,3)] sH rfl rfl (okRet rfl rfl))
 rw [if_pos hn] at hr
 subst hr
 refine RunsS.callV (fun Ez Hz Az Sz K=>twins_fn l (Sz.ro (b:=0) rfl)) ?_
 conv=>whnf
 rw [decide_eq_true hn]
 try dsimp only
 refine gS ?_;conv=>whnf
 refine RunsS.retU ?_
 exact UnwS.ret tab Tryz.func28 rfl (eN () trivial)

def UnOk (l:List Un):Prop:=∀u∈l,(-9223372036854775808≤u.n∧u.n≤9223372036854775807)∧(-9223372036854775808≤u.d∧u.d≤9223372036854775807)


abbrev FewS (a:Rt):Prop:=(a.n.size:Int)≤40∧(a.d.size:Int)≤40
def FewU (l:List Un):Prop:=(∀u∈l,FewS u.scale)∧l.length≤8
instance (l:List Un):Decidable (FewU l):=by unfold FewU;infer_instance

def sM:ByteArray:=⟨#[109]⟩
instance decRtU:DecidableEq Go.RatM.Rt:=fun a b=>decidable_of_iff (a.neg=b.neg∧a.n=b.n∧a.d=b.d) ⟨fun h=>by cases a;cases b;obtain ⟨rfl,rfl,rfl⟩:=h;rfl,fun h=>by subst h;exact ⟨rfl,rfl,rfl⟩⟩
instance (l:List Un):Decidable (UnOk l):=by unfold UnOk;infer_instance


def FitU (u:Un):Prop:=if u.of_=NatM.mt then u.n=0∧u.d=0 else btw u.n∧btw u.d
instance (u:Un):Decidable (FitU u):=by unfold FitU;infer_instance

end Go.Proofs.YtofjdbmcloemnaaGreatDoor

namespace Go.SrcM
open Go Go.Fw Go.RatM
abbrev rws {α:Type} (f:α→List Value) (l:List α):List (List Value):=l.map f
theorem rws_len {α:Type} (f:α→List Value) (l:List α):(rws f l).length=l.length:=by simp [rws]
theorem rws_get {α:Type} {f:α→List Value} {l:List α} {k:Nat} (hk:k<l.length):(rws f l)[k]? = some (f l[k]):=by simp [rws,hk]
abbrev rwsB (l:List ByteArray):List (List Value):=rws (fun s=>[Value.string s]) l
theorem rwsB_len (l:List ByteArray):(rwsB l).length=l.length:=rws_len _ l
structure It where
 name:ByteArray
 unit:ByteArray
 mn:Int
 md:Int
 shelf:Int
 un:Int
def It.row (i:It):List Value:=[.string i.name,.string i.unit,.int .i64 i.mn,.int .i64 i.md,.int .i64 i.shelf,.int .i64 i.un]
structure Mc where
 name:ByteArray
 plant:ByteArray
 clean:Int
 pn:Int
def Mc.row (i:Mc):List Value:=[.string i.name,.string i.plant,.int .i64 i.clean,.int .i64 i.pn]
structure Cd where
 opt:ByteArray
 ch:ByteArray
 on:Int
 cn:Int
def Cd.row (i:Cd):List Value:=[.string i.opt,.string i.ch,.int .i64 i.on,.int .i64 i.cn]
structure Am where
 n:Int
 d:Int
 unit:ByteArray
 item:ByteArray
 back:Bool
 un:Int
 inn:Int
def Am.row (i:Am):List Value:=[.int .i64 i.n,.int .i64 i.d,.string i.unit,.string i.item,.bool i.back,.int .i64 i.un,.int .i64 i.inn]
structure Rn where
 mach:ByteArray
 slots:Int
 mn:Int
def Rn.row (i:Rn):List Value:=[.string i.mach,.int .i64 i.slots,.int .i64 i.mn]
structure Sw where
 a:ByteArray
 b:ByteArray
 an:Int
 bn:Int
def Sw.row (i:Sw):List Value:=[.string i.a,.string i.b,.int .i64 i.an,.int .i64 i.bn]
structure Hd where
 a:Option Addr
 c:Nat
abbrev Hd.v (h:Hd) (n:Nat):Value:=.slice h.a n h.c
structure OpV where
 name:ByteArray
 hd:Hd
 ch:List ByteArray
def OpV.row (i:OpV):List Value:=[.string i.name,.slice i.hd.a i.ch.length i.hd.c]
structure FbV where
 hd:Hd
 cs:List Cd
def FbV.row (i:FbV):List Value:=[.slice i.hd.a i.cs.length i.hd.c]
structure RcV where
 item:ByteArray
 plant:ByteArray
 fr:Int
 to:Int
 hc:Hd
 cs:List Cd
 hi:Hd
 inn:List Am
 ho:Hd
 out:List Am
 rwN:Int
 rwD:Int
 yN:Int
 yD:Int
 tN:Int
 tD:Int
 lead:Int
 hr:Hd
 runs:List Rn
 inum:Int
 pnum:Int
def RcV.row (r:RcV):List Value:=[.string r.item,.string r.plant,.int .i64 r.fr,.int .i64 r.to,.slice r.hc.a r.cs.length r.hc.c,.slice r.hi.a r.inn.length r.hi.c,.slice r.ho.a r.out.length r.ho.c,.int .i64 r.rwN,.int .i64 r.rwD,.int .i64 r.yN,.int .i64 r.yD,.int .i64 r.tN,.int .i64 r.tD,.int .i64 r.lead,.slice r.hr.a r.runs.length r.hr.c,.int .i64 r.inum,.int .i64 r.pnum]
structure SrcV where
 units:List Un
 items:List It
 plants:List ByteArray
 machines:List Mc
 options:List OpV
 forbids:List FbV
 recipes:List RcV
 swaps:List Sw
abbrev srcV (vU vI vP vM vO vF vR vS:Value):Value:=.agg #[vU,vI,vP,vM,vO,vF,vR,vS]
section
variable (G:Nat→Prop) (h:Array Obj)
def OpV.ok (o:OpV):Prop:=RoF G h (o.hd.v o.ch.length) 1 (rwsB o.ch)
def FbV.ok (o:FbV):Prop:=RoF G h (o.hd.v o.cs.length) 4 (rws Cd.row o.cs)
structure RcV.ok (r:RcV):Prop where
 c:RoF G h (r.hc.v r.cs.length) 4 (rws Cd.row r.cs)
 i:RoF G h (r.hi.v r.inn.length) 7 (rws Am.row r.inn)
 o:RoF G h (r.ho.v r.out.length) 7 (rws Am.row r.out)
 rn:RoF G h (r.hr.v r.runs.length) 3 (rws Rn.row r.runs)
structure SrcV.sub (s:SrcV):Prop where
 o:∀o∈s.options,o.ok G h
 f:∀o∈s.forbids,o.ok G h
 r:∀o∈s.recipes,o.ok G h
end
section
variable {G G':Nat→Prop} {h h':Array Obj}
theorem OpV.ok.up {o:OpV} (H:o.ok G h) (U:Up G h G' h'):o.ok G' h':=RoF.up U H
theorem FbV.ok.up {o:FbV} (H:o.ok G h) (U:Up G h G' h'):o.ok G' h':=RoF.up U H
theorem RcV.ok.up {o:RcV} (H:o.ok G h) (U:Up G h G' h'):o.ok G' h':=⟨RoF.up U H.c,RoF.up U H.i,RoF.up U H.o,RoF.up U H.rn⟩
theorem SrcV.sub.up {s:SrcV} (H:s.sub G h) (U:Up G h G' h'):s.sub G' h':=⟨fun o ho=>(H.o o ho).up U,fun o ho=>(H.f o ho).up U,fun o ho=>(H.r o ho).up U⟩
theorem Up.kp {F:Nat→Prop} (K:Kp F h h'):Up F h (fun k=>k<h'.size) h':=⟨fun i hi=>Nat.lt_of_lt_of_le (K.lt i hi) K.size,K.same⟩
structure Top (h:Array Obj) (vU vI vP vM vO vF vR vS:Value) (s:SrcV):Prop where
 U:Ro h vU 8 (rowsU s.units)
 I:Ro h vI 6 (rws It.row s.items)
 P:Ro h vP 1 (rwsB s.plants)
 M:Ro h vM 4 (rws Mc.row s.machines)
 O:Ro h vO 2 (rws OpV.row s.options)
 F:Ro h vF 1 (rws FbV.row s.forbids)
 R:Ro h vR 17 (rws RcV.row s.recipes)
 S:Ro h vS 4 (rws Sw.row s.swaps)
 below:s.sub (fun k=>k<h.size) h
theorem RoF.tok (v:Value) (sz:Nat) (rows:List (List Value)):TOk (fun F h=>RoF F h v sz rows):=⟨fun _ _ _ hs H=>RoF.up ⟨hs,fun _ _=>rfl⟩ H,fun _ _ _ H K=>RoF.up ⟨fun _ x=>x,K.same⟩ H⟩
end
abbrev i64 (n:Int):Prop:= -9223372036854775808≤n∧n≤9223372036854775807
def Cd.wf (c:Cd):Prop:=i64 c.on∧i64 c.cn
def Am.wf (a:Am):Prop:=i64 a.n∧i64 a.d∧i64 a.un∧i64 a.inn
def Rn.wf (r:Rn):Prop:=i64 r.slots∧i64 r.mn
def Sw.wf (r:Sw):Prop:=i64 r.an∧i64 r.bn
def It.wf (i:It):Prop:=i64 i.mn∧i64 i.md∧i64 i.shelf∧i64 i.un
def Mc.wf (i:Mc):Prop:=i64 i.clean∧i64 i.pn
structure RcV.wf (r:RcV):Prop where
 c:∀c∈r.cs,c.wf
 i:∀c∈r.inn,c.wf
 o:∀c∈r.out,c.wf
 rn:∀c∈r.runs,c.wf
 n:i64 r.fr∧i64 r.to∧i64 r.rwN∧i64 r.rwD∧i64 r.yN∧i64 r.yD∧i64 r.tN∧i64 r.tD∧i64 r.lead∧i64 r.inum∧i64 r.pnum
structure SrcV.wf (s:SrcV):Prop where
 U:∀u∈s.units,i64 u.n∧i64 u.d
 I:∀u∈s.items,u.wf
 M:∀u∈s.machines,u.wf
 F:∀u∈s.forbids,∀c∈u.cs,c.wf
 R:∀u∈s.recipes,u.wf
 S:∀u∈s.swaps,u.wf
end Go.SrcM

namespace Go.SrcM
open Go Go.Fw Go.RatM
def findN (l:List ByteArray) (nm:ByteArray):Option Nat:=l.findIdx? fun x=>decide (x=nm)
theorem findN_none {l:List ByteArray} {nm:ByteArray}:findN l nm=none↔nm∉l:=by
 unfold findN
 rw [List.findIdx?_eq_none_iff]
 exact ⟨fun h hm=>by simpa using h nm hm,fun h x hx=>by simp only [decide_eq_false_iff_not];exact fun e=>h (e▸hx)⟩
theorem findN_some {l:List ByteArray} {nm:ByteArray} {k:Nat}:findN l nm=some k ↔ ∃hk:k<l.length,l[k]=nm ∧ ∀j (hj:j<k),l[j]≠nm:=by
 unfold findN
 rw [List.findIdx?_eq_some_iff_getElem]
 constructor
 ·rintro ⟨hk,h1,h2⟩
  exact ⟨hk,by simpa using h1,fun j hj=>by simpa using h2 j hj⟩
 rintro ⟨hk,h1,h2⟩
 exact ⟨hk,by simpa using h1,fun j hj=>by simpa using h2 j hj⟩
theorem findN_snoc {l:List ByteArray} {x nm:ByteArray}:findN (l++[x]) nm=match findN l nm with
  |some k=>some k
  |none=>if x=nm then some l.length else none:=by
 unfold findN
 rw [List.findIdx?_append]
 cases List.findIdx? (fun x=>decide (x=nm)) l with
 |some k=>rfl
 |none=>
  by_cases e:x=nm
  ·simp [e]
  simp [e]
theorem take_snoc {α:Type} {l:List α} {k:Nat} (hk:k<l.length):l.take (k+1)=l.take k++[l[k]]:=by
 rw [List.take_add_one,List.getElem?_eq_getElem hk];rfl
def firstsK (l:List ByteArray):Nat→List (Value×Value)
 |0=>[]
 |k+1=>match l[k]? with
  |some x=>match findN (l.take k) x with
   |some _=>firstsK l k
   |none=>firstsK l k++[(.string x,.int .i64 k)]
  |none=>firstsK l k
def firsts (l:List ByteArray):List (Value×Value):=firstsK l l.length
theorem firstsK_old {l:List ByteArray} {k:Nat} (hk:k<l.length) (h:l[k]∈l.take k):firstsK l (k+1)=firstsK l k:=by
 simp only [firstsK,List.getElem?_eq_getElem hk]
 cases hf:findN (l.take k) l[k] with
 |some j=>rfl
 |none=>exact absurd h (findN_none.1 hf)
theorem firstsK_new {l:List ByteArray} {k:Nat} (hk:k<l.length) (h:l[k]∉l.take k):firstsK l k++[(.string l[k],.int .i64 k)]=firstsK l (k+1):=by
 simp only [firstsK,List.getElem?_eq_getElem hk,findN_none.2 h]
abbrev intO (o:Option Nat):Option Value:=o.map fun (k:Nat)=>Value.int .i64 (k:Int)
theorem firsts_get {l:List ByteArray} (nm:ByteArray):∀ {k:Nat},k≤l.length→MapGet (firstsK l k) (.string nm) (intO (findN (l.take k) nm))
 |0,_=>fun p hp=>by cases hp
 |k+1,hk=>by
  have ih:=firsts_get (l:=l) nm (k:=k) (by omega)
  have hk:k<l.length:=hk
  rw [take_snoc hk,findN_snoc]
  by_cases hm:l[k]∈l.take k
  ·rw [firstsK_old hk hm]
   cases hf:findN (l.take k) nm with
   |some j=>rw [hf] at ih;exact ih
   |none=>
    rw [hf] at ih
    dsimp only
    have hne:l[k]≠nm:=fun e=>findN_none.1 hf (by rw [←e];exact hm)
    rw [if_neg hne]
    exact ih
  rw [←firstsK_new hk hm]
  cases hf:findN (l.take k) nm with
  |some j=>
   rw [hf] at ih
   have hne:l[k]≠nm:=fun e=>by
    have:=findN_some.1 hf
    obtain ⟨hj,h1,_⟩:=this
    exact hm (by rw [e,←h1];exact List.getElem_mem _)
   refine ⟨?_,fun p hp h1=>?_⟩
   ·obtain ⟨p,hp,h1⟩:=ih.1
    exact ⟨p,List.mem_append.2 (.inl hp),h1⟩
   rcases List.mem_append.1 hp with hp|hp
   ·exact ih.2 p hp h1
   rw [List.mem_singleton.1 hp] at h1
   injection h1 with h1
   exact absurd h1 hne
  |none=>
   rw [hf] at ih
   dsimp only
   by_cases e:l[k]=nm
   ·rw [if_pos e]
    refine ⟨⟨_,List.mem_append.2 (.inr (List.mem_singleton.2 rfl)),by rw [e]⟩,fun p hp h1=>?_⟩
    rcases List.mem_append.1 hp with hp|hp
    ·exact absurd h1 (ih p hp)
    rw [List.mem_singleton.1 hp]
    rw [List.length_take,Nat.min_eq_left (by omega)]
   rw [if_neg e]
   intro p hp h1
   rcases List.mem_append.1 hp with hp|hp
   ·exact ih p hp h1
   rw [List.mem_singleton.1 hp] at h1
   injection h1 with h1
   exact e h1
theorem firsts_all {l:List ByteArray} (nm:ByteArray):MapGet (firsts l) (.string nm) (intO (findN l nm)):=by
 have:=firsts_get (l:=l) nm (Nat.le_refl _)
 rwa [List.take_length] at this
theorem firsts_new {l:List ByteArray} {k:Nat} (hk:k<l.length) (h:l[k]∉l.take k):MapGet (firstsK l k) (.string l[k]) none:=by
 have:=firsts_get (l:=l) l[k] (Nat.le_of_lt hk)
 rwa [findN_none.2 h] at this
theorem firsts_old {l:List ByteArray} {k:Nat} (hk:k<l.length) (h:l[k]∈l.take k):∃j:Nat,MapGet (firstsK l k) (.string l[k]) (some (.int .i64 j)):=by
 have:=firsts_get (l:=l) l[k] (Nat.le_of_lt hk)
 cases hf:findN (l.take k) l[k] with
 |some j=>rw [hf] at this;exact ⟨j,this⟩
 |none=>exact absurd h (findN_none.1 hf)
theorem nodup_snoc {l:List ByteArray} {k:Nat} (hk:k<l.length):(l.take (k+1)).Nodup↔(l.take k).Nodup∧l[k]∉l.take k:=by
 rw [take_snoc hk,List.nodup_append]
 constructor
 ·exact fun ⟨h1,_,h2⟩=>⟨h1,fun hm=>h2 _ hm _ (List.mem_singleton.2 rfl) rfl⟩
 exact fun ⟨h1,h2⟩=>⟨h1,by simp,fun a ha b hb e=>by rw [List.mem_singleton.1 hb] at e;exact h2 (e▸ha)⟩
def dupB (l:List ByteArray):Bool:=decide (¬l.Nodup)
theorem dup_old {l:List ByteArray} {k:Nat} (hk:k<l.length) (hm:l[k]∈l.take k):true=dupB (l.take (k+1)):=by
 unfold dupB
 exact (decide_eq_true (show ¬(l.take (k+1)).Nodup from fun h=>((nodup_snoc hk).1 h).2 hm)).symm
theorem dup_new {l:List ByteArray} {k:Nat} (hk:k<l.length) (hm:l[k]∉l.take k):dupB (l.take k)=dupB (l.take (k+1)):=by
 unfold dupB
 exact decide_eq_decide.2 (not_congr ⟨fun h=>(nodup_snoc hk).2 ⟨h,hm⟩,fun h=>((nodup_snoc hk).1 h).1⟩)
section
variable {α:Type} {f:α→List Value} {g:α→α} {l:List α}
def mixN (g:α→α) (l:List α) (k:Nat):List α:=(l.take k).map g++l.drop k
theorem mixN_len {k:Nat} (hk:k≤l.length):(rws f (mixN g l k)).length=l.length:=by
 unfold mixN
 rw [rws_len,List.length_append,List.length_map,List.length_take,List.length_drop];omega
theorem mixN_get {k:Nat} (hk:k<l.length):(rws f (mixN g l k))[k]? = some (f l[k]):=by
 unfold mixN
 rw [rws,List.map_append,List.getElem?_append_right (by simp;omega)]
 simp [hk,Nat.min_eq_left (Nat.le_of_lt hk)]
theorem mixN_step {k:Nat} (hk:k<l.length) {r:List Value} (hr:r=f (g l[k])):(rws f (mixN g l k)).set k r=rws f (mixN g l (k+1)):=by
 have e:l.drop k=l[k]::l.drop (k+1):=(List.getElem_cons_drop ..).symm
 unfold mixN rws
 rw [e,take_snoc hk]
 simp only [List.map_append,List.map_cons,List.map_nil]
 rw [List.set_append_right _ _ (by simp;omega)]
 simp [Nat.min_eq_left (Nat.le_of_lt hk),hr]
theorem mixN_all:mixN g l l.length=l.map g:=by
 unfold mixN
 rw [List.take_length,List.drop_length,List.append_nil]
end
/-! numbers of names -/
def resIt (s:SrcV) (i:It):Option It:=(findN (s.units.map Un.name) i.unit).map fun (u:Nat)=>{i with un:=u}
def resMc (s:SrcV) (m:Mc):Option Mc:=(findN s.plants m.plant).map fun (p:Nat)=>{m with pn:=p}
def resCd (s:SrcV) (c:Cd):Option Cd:=match findN (s.options.map OpV.name) c.opt with
 |some o=>match s.options[o]? with
  |some q=>(findN q.ch c.ch).map fun (k:Nat)=>{c with on:=o,cn:=k}
  |none=>none
 |none=>none
def resAm (s:SrcV) (a:Am):Option Am:=match findN (s.units.map Un.name) a.unit with
 |some u=>(findN (s.items.map It.name) a.item).map fun (i:Nat)=>{a with un:=u,inn:=i}
 |none=>none
def resRn (s:SrcV) (r:Rn):Option Rn:=(findN (s.machines.map Mc.name) r.mach).map fun (m:Nat)=>{r with mn:=m}
def resSw (s:SrcV) (x:Sw):Option Sw:=match findN (s.items.map It.name) x.a with
 |some a=>(findN (s.items.map It.name) x.b).map fun (b:Nat)=>{x with an:=a,bn:=b}
 |none=>none
def allO {α β:Type} (f:α→Option β):List α→Option (List β)
 | []=>some []
 |a::l=>match f a with
  |some b=>match allO f l with
   |some m=>some (b::m)
   |none=>none
  |none=>none
theorem allO_some {α β:Type} {f:α→Option β}:∀ {l:List α} {m:List β},allO f l=some m↔m.length=l.length ∧ ∀i (h:i<l.length) (h':i<m.length),f l[i]=some m[i]
 | [],m=>by
  simp only [allO,Option.some.injEq,List.length_nil]
  constructor
  ·rintro rfl;exact ⟨rfl,fun i h=>absurd h (Nat.not_lt_zero _)⟩
  rintro ⟨h,_⟩;exact (List.eq_nil_of_length_eq_zero h).symm
 |a::l,m=>by
  simp only [allO]
  constructor
  ·intro h
   cases ha:f a with
   |none=>simp [ha] at h
   |some b=>
    cases hl:allO f l with
    |none=>simp [ha,hl] at h
    |some m'=>
     simp only [ha,hl,Option.some.injEq] at h
     subst h
     obtain ⟨h1,h2⟩:=allO_some.1 hl
     refine ⟨by simp [h1],fun i h h'=>?_⟩
     cases i with
     |zero=>exact ha
     |succ i=>exact h2 i (by simpa using h) (by simpa using h')
  rintro ⟨h1,h2⟩
  cases m with
  |nil=>simp at h1
  |cons b m=>
   have h0:=h2 0 (by simp) (by simp)
   simp only [List.getElem_cons_zero] at h0
   have hl:allO f l=some m:=allO_some.2 ⟨by simpa using h1,fun i h h'=>by have:=h2 (i+1) (by simpa using h) (by simpa using h');simpa using this⟩
   rw [h0,hl]
theorem allO_none {α β:Type} {f:α→Option β}:∀ {l:List α},allO f l=none ↔ ∃a∈l,f a=none
 | []=>by simp [allO]
 |a::l=>by
  simp only [allO]
  cases ha:f a with
  |none=>simp [ha]
  |some b=>
   cases hl:allO f l with
   |none=>
    obtain ⟨x,hx,e⟩:=allO_none.1 hl
    simp only [true_iff]
    exact ⟨x,List.mem_cons_of_mem _ hx,e⟩
   |some m=>
    simp only [false_iff,reduceCtorEq]
    rintro ⟨x,hx,e⟩
    rcases List.mem_cons.1 hx with rfl|hx
    ·rw [ha] at e;cases e
    have:=allO_none.2 ⟨x,hx,e⟩
    rw [hl] at this;cases this
theorem allO_getD {α:Type} {f:α→Option α} {l:List α} (h:∀i (hi:i<l.length),f l[i]≠none):allO f l=some (l.map fun a=>(f a).getD a):=by
 refine allO_some.2 ⟨List.length_map _,fun i h1 h2=>?_⟩
 rw [List.getElem_map]
 cases hf:f l[i] with
 |none=>exact absurd hf (h i h1)
 |some b=>rfl
def resRc (s:SrcV) (r:RcV):Option RcV:=match findN (s.items.map It.name) r.item with
 |some i=>match findN s.plants r.plant with
  |some p=>match allO (resCd s) r.cs with
   |some cs=>match allO (resAm s) r.inn with
    |some inn=>match allO (resAm s) r.out with
     |some out=>match allO (resRn s) r.runs with
      |some runs=>some {r with inum:=i,pnum:=p,cs:=cs,inn:=inn,out:=out,runs:=runs}
      |none=>none
     |none=>none
    |none=>none
   |none=>none
  |none=>none
 |none=>none
def resFb (s:SrcV) (f:FbV):Option FbV:=(allO (resCd s) f.cs).map fun l=>{f with cs:=l}
def twiceN (s:SrcV):Prop:=¬(s.units.map Un.name).Nodup ∨ ¬(s.items.map It.name).Nodup ∨ ¬s.plants.Nodup ∨ ¬(s.machines.map Mc.name).Nodup ∨ ¬(s.options.map OpV.name).Nodup ∨ ¬ ∀o∈s.options,o.ch.Nodup
instance (s:SrcV):Decidable (twiceN s):=by unfold twiceN;infer_instance
def resS (s:SrcV):Option SrcV:=match allO (resIt s) s.items with
 |some items=>match allO (resMc s) s.machines with
  |some machines=>match allO (resFb s) s.forbids with
   |some forbids=>match allO (resRc s) s.recipes with
    |some recipes=>(allO (resSw s) s.swaps).map fun swaps=>{s with items:=items,machines:=machines,forbids:=forbids,recipes:=recipes,swaps:=swaps}
    |none=>none
   |none=>none
  |none=>none
 |none=>none
def noSrc:SrcV:=⟨[],[],[],[],[],[],[],[]⟩
def resolveN (s:SrcV):SrcV×Int:=if twiceN s then (noSrc,111) else match resolveU s.units with
 | .inr e=>(noSrc,e)
 | .inl u=>match resS s with
  |some t=>({t with units:=u},0)
  |none=>(noSrc,110)
/-! where lists lie does not matter -/
def OpV.bare (o:OpV):OpV:={o with hd:=⟨none,0⟩}
def FbV.bare (o:FbV):FbV:={o with hd:=⟨none,0⟩}
def RcV.bare (r:RcV):RcV:={r with hc:=⟨none,0⟩,hi:=⟨none,0⟩,ho:=⟨none,0⟩,hr:=⟨none,0⟩}
def SrcV.bare (s:SrcV):SrcV:={s with options:=s.options.map OpV.bare,forbids:=s.forbids.map FbV.bare,recipes:=s.recipes.map RcV.bare}
end Go.SrcM

namespace Go.SrcM
open Go Go.Fw Go.RatM
/-! without numbers -/
def b0U (u:Un):Un:=u.re 0 zr
def b0I (i:It):It:={i with un:=0}
def b0M (i:Mc):Mc:={i with pn:=0}
theorem allO_inv {α β γ:Type} {f:α→Option β} {p:α→γ} {q:β→γ} (h:∀a b,f a=some b→q b=p a):∀ {l:List α} {m:List β},allO f l=some m→m.map q=l.map p
 | [],m,hm=>by cases hm;rfl
 |a::l,m,hm=>by
  simp only [allO] at hm
  cases ha:f a with
  |none=>simp [ha] at hm
  |some b=>
   cases hl:allO f l with
   |none=>simp [ha,hl] at hm
   |some m'=>
    simp only [ha,hl,Option.some.injEq] at hm
    subst hm
    simp only [List.map_cons,h a b ha,allO_inv h hl]
theorem allO_congr {α β:Type} {f g:α→Option β} (h:∀a,f a=g a) (l:List α):allO f l=allO g l:=by
 rw [show f=g from funext h]
structure Same0 (s t:SrcV):Prop where
 u:t.units.map Un.name=s.units.map Un.name
 i:t.items.map It.name=s.items.map It.name
 p:t.plants=s.plants
 m:t.machines.map Mc.name=s.machines.map Mc.name
 o:t.options=s.options
theorem opt_map {α β:Type} {f:α→β} {o:Option α} {b:β} (h:o.map f=some b):∃a,o=some a∧f a=b:=Option.map_eq_some_iff.1 h
theorem resIt_inv {s:SrcV} {i j:It} (h:resIt s i=some j):b0I j=b0I i:=by obtain ⟨_,_,rfl⟩:=opt_map h;rfl
theorem resMc_inv {s:SrcV} {i j:Mc} (h:resMc s i=some j):b0M j=b0M i:=by obtain ⟨_,_,rfl⟩:=opt_map h;rfl
theorem resU_nz':∀ {l x:List Un} {e:Int},resU l x=.inr e→e≠0
 | [],_,_,h=>by cases h
 |u::l,x,e,h=>by
  simp only [resU] at h
  split at h
  ·exact resU_nz' h
  rename_i e' he
  cases h
  unfold stepU at he
  split at he
  ·split at he
   ·cases he
   cases he;decide
  split at he
  ·split at he
   ·split at he
    ·cases he;decide
    cases he
   cases he;decide
  cases he;decide
theorem resolveU_nz' {l:List Un} {e:Int} (h:resolveU l=.inr e):e≠0:=by
 unfold resolveU at h
 split at h
 ·cases h;decide
 split at h
 ·cases h;decide
 exact resU_nz' h
structure ResOf (s t:SrcV):Prop where
 tw:¬twiceN s
 u:resolveU s.units=.inl t.units
 p:t.plants=s.plants
 o:t.options=s.options
 i:allO (resIt s) s.items=some t.items
 m:allO (resMc s) s.machines=some t.machines
 f:allO (resFb s) s.forbids=some t.forbids
 r:allO (resRc s) s.recipes=some t.recipes
 x:allO (resSw s) s.swaps=some t.swaps
theorem ResOf.same {s t:SrcV} (h:ResOf s t):Same0 s t:=by
 obtain ⟨_,_,hr⟩:=resolveU_inl.1 h.u
 refine ⟨hr.names,?_,h.p,?_,h.o⟩
 ·have:=allO_inv (fun a b=>resIt_inv) h.i
  have:=congrArg (List.map It.name) this
  rw [List.map_map,List.map_map] at this
  exact this
 have:=allO_inv (fun a b=>resMc_inv) h.m
 have:=congrArg (List.map Mc.name) this
 rw [List.map_map,List.map_map] at this
 exact this
theorem ResOf.units {s t:SrcV} (h:ResOf s t):t.units.map b0U=s.units.map b0U:=by
 obtain ⟨_,_,h1,h2⟩:=resolveU_inl.1 h.u
 refine List.ext_getElem (by rw [List.length_map,List.length_map,h1]) fun i g1 g2=>?_
 rw [List.length_map] at g1 g2
 rw [List.getElem_map,List.getElem_map]
 obtain ⟨e1,e2,e3,e4⟩:=stepU_fields (h2 i g2 g1)
 unfold b0U Un.re
 rw [e1,e2,e3,e4]
end Go.SrcM

namespace Go.Proofs.YtofjdbmcloemnaaGreatDoor
open Go Go.Fw Go.NatM Go.RatM Go.SrcM
set_option maxRecDepth 100000
set_option maxHeartbeats 99999999
theorem siU:Tryz.prog.underlying 72=some (.map 9 3):=by kernel_rfl
theorem failU:Tryz.prog.underlying 161=some (.struct #[]):=by kernel_rfl
theorem strU:Tryz.prog.underlying 9=some .string:=by kernel_rfl
theorem intZ (w:World):(zeroValue 3).run Tryz.prog w=.ok (.int .i64 0) w:=by kernel_rfl
theorem itself_fn {h:Array Obj} (s:ByteArray):FnV Tryz.prog 47 #[.string s] h fun r h'=>r=.string s∧Keeps h.size h h':=by
 refine Fn.ofS (args:=[.string s]) Tryz.func47 (by kernel_rfl) rfl Tryz.ntmps47 rfl fun w0 cs=>?_
 conv=>whnf
 refine gS ?_;conv=>whnf
 refine RunsS.retU (UnwS.ret tab Tryz.func47 rfl fun _ _ _ _ K=>⟨_,rfl,rfl,K.keeps⟩)
theorem unitName_fn {h:Array Obj} (u:Un):FnV Tryz.prog 50 #[.agg u.row.toArray] h fun r h'=>r=.string u.name∧Keeps h.size h h':=by
 refine Fn.ofS (args:=[.agg u.row.toArray]) Tryz.func50 (by kernel_rfl) rfl Tryz.ntmps50 rfl fun w0 cs=>?_
 conv=>whnf
 refine gS ?_;conv=>whnf
 refine RunsS.retU (UnwS.ret tab Tryz.func50 rfl fun _ _ _ _ K=>⟨_,rfl,rfl,K.keeps⟩)
theorem itemName_fn {h:Array Obj} (u:It):FnV Tryz.prog 44 #[.agg u.row.toArray] h fun r h'=>r=.string u.name∧Keeps h.size h h':=by
 refine Fn.ofS (args:=[.agg u.row.toArray]) Tryz.func44 (by kernel_rfl) rfl Tryz.ntmps44 rfl fun w0 cs=>?_
 conv=>whnf
 refine gS ?_;conv=>whnf
 refine RunsS.retU (UnwS.ret tab Tryz.func44 rfl fun _ _ _ _ K=>⟨_,rfl,rfl,K.keeps⟩)
theorem machineName_fn {h:Array Obj} (u:Mc):FnV Tryz.prog 54 #[.agg u.row.toArray] h fun r h'=>r=.string u.name∧Keeps h.size h h':=by
 refine Fn.ofS (args:=[.agg u.row.toArray]) Tryz.func54 (by kernel_rfl) rfl Tryz.ntmps54 rfl fun w0 cs=>?_
 conv=>whnf
 refine gS ?_;conv=>whnf
 refine RunsS.retU (UnwS.ret tab Tryz.func54 rfl fun _ _ _ _ K=>⟨_,rfl,rfl,K.keeps⟩)
theorem optionName_fn {h:Array Obj} (u:OpV):FnV Tryz.prog 56 #[.agg u.row.toArray] h fun r h'=>r=.string u.name∧Keeps h.size h h':=by
 refine Fn.ofS (args:=[.agg u.row.toArray]) Tryz.func56 (by kernel_rfl) rfl Tryz.ntmps56 rfl fun w0 cs=>?_
 conv=>whnf
 refine gS ?_;conv=>whnf
 refine RunsS.retU (UnwS.ret tab Tryz.func56 rfl fun _ _ _ _ K=>⟨_,rfl,rfl,K.keeps⟩)
theorem collectUnit_fn (l:List Un):FnX Tryz.prog 49 1 [.buf 0,.v (.func (.func 50) #[] #[])] [(0,.ro 8 (rowsU l))] (fun _ _=>True) (fun (r:Nat) G h=>MapF G h (.map (some r)) .string (firsts (l.map Un.name)))
  (fun r=>.ret (.tup [.v (.map (some r)),.v (.bool (dupB (l.map Un.name)))]) 1 []):=by
 have hl:=rowsU_len l
 have hn:(l.map Un.name).length=l.length:=List.length_map _
 refine FnX.of Tryz.func49 (by kernel_rfl) rfl Tryz.ntmps49 rfl fun E0 F G h N hP w0 cs=>?_
 conv=>whnf
 refine gS ?_;conv=>whnf
 refine RunsS.lenB 0 (fun m0=>?_)
 refine RunsS.makeMap .string ?_
 refine gS ?_;conv=>whnf
 refine RunsS.subR [] (RunsS.loop (fun (⟨k,b⟩:Nat×Bool)=>[(13,.v (.int .i64 k)),(12,.v (.int .i64 (rowsU l).length)),(11,.buf 0),(4,.buf 1),(5,.v (.bool b)),(1,.v (.func (.func 50) #[] #[]))]) (fun (⟨k,b⟩:Nat×Bool)=>[(1,.map .string (firstsK (l.map Un.name) k)),(0,.ro 8 (rowsU l))]) 2 (fun (⟨k,b⟩:Nat×Bool)=>k≤l.length∧b=dupB ((l.map Un.name).take k)) (fun (⟨k,b⟩:Nat×Bool)=>l.length - k) ?round1 ((0,false)) ?J01) sH sH
 case J01=>exact (⟨Nat.zero_le _,rfl⟩)
 rintro ⟨k,b⟩ hJ back
 try dsimp only at hJ back
 conv=>whnf
 try dsimp only
 refine gS ?_;conv=>whnf
 refine ⟨fun hk=>?_,fun hk=>?_⟩<;>conv=>whnf
 ·have hk:k<l.length:=by omega
  have hk2:k<(l.map Un.name).length:=by rw [hn];exact hk
  have e:(l.map Un.name)[k]=l[k].name:=List.getElem_map ..
  conv=>whnf
  repeat ((first|refine oL ?_|refine oR ?_);(try intro _);conv=>whnf)
  refine ⟨_,rowsU_get hk,?_⟩;conv=>whnf
  try (refine oN ?_;conv=>whnf)
  refine RunsS.callV (fun Ez Hz Az Sz K=>unitName_fn l[k]) ?_
  conv=>whnf
  refine gS ?_;conv=>whnf
  by_cases hm:(l.map Un.name)[k]∈(l.map Un.name).take k
  ·obtain ⟨j,hj⟩:=firsts_old hk2 hm
   rw [e] at hj
   refine RunsS.lookup (some (.int .i64 j)) siU strU intZ hj ?_
   refine gS ?_;conv=>whnf
   repeat ((first|refine oL ?_|refine oR ?_);(try intro _);conv=>whnf)
   refine RunsS.mapEq 1 (firstsK_old hk2 hm).symm ?_;conv=>whnf
   refine RunsS.subR [] (back ((k+1,true)) (by exact (⟨hk,dup_old hk2 hm⟩)) (by (try dsimp only);omega)) sH sH
  have hj:=firsts_new hk2 hm
  rw [e] at hj
  have hs:=firstsK_new hk2 hm
  rw [e] at hs
  refine RunsS.lookup none siU strU intZ hj ?_
  refine gS ?_;conv=>whnf
  refine RunsS.callV (fun Ez Hz Az Sz K=>unitName_fn l[k]) ?_
  conv=>whnf
  refine gS ?_;conv=>whnf
  refine RunsS.insert siU strU hj hs ?_
  refine gS ?_;conv=>whnf
  repeat ((first|refine oL ?_|refine oR ?_);(try intro _);conv=>whnf)
  refine RunsS.subR [] (back ((k+1,b)) (by exact (⟨hk,hJ.2.trans (dup_new hk2 hm)⟩)) (by (try dsimp only);omega)) sH sH
 have hk:k=l.length:=by omega
 have hb:=hJ.2
 rw [hk,←hn,List.take_length] at hb
 clear back hJ
 subst hk hb
 conv=>whnf
 refine RunsS.concM N.gsub 1 (fun r G' h' N' R=>?_)
 conv=>whnf
 refine RunsS.retU ?_
 exact UnwS.ret tab Tryz.func49 rfl (eX (N.trans N') (r) (fun h U=>by unfold firsts;rw [hn];exact R.up U))
theorem collectItem_fn (l:List It):FnX Tryz.prog 51 1 [.buf 0,.v (.func (.func 44) #[] #[])] [(0,.ro 6 (rws It.row l))] (fun _ _=>True) (fun (r:Nat) G h=>MapF G h (.map (some r)) .string (firsts (l.map It.name)))
  (fun r=>.ret (.tup [.v (.map (some r)),.v (.bool (dupB (l.map It.name)))]) 1 []):=by
 have hl:=rws_len It.row l
 have hn:(l.map It.name).length=l.length:=List.length_map _
 refine FnX.of Tryz.func51 (by kernel_rfl) rfl Tryz.ntmps51 rfl fun E0 F G h N hP w0 cs=>?_
 conv=>whnf
 refine gS ?_;conv=>whnf
 refine RunsS.lenB 0 (fun m0=>?_)
 refine RunsS.makeMap .string ?_
 refine gS ?_;conv=>whnf
 refine RunsS.subR [] (RunsS.loop (fun (⟨k,b⟩:Nat×Bool)=>[(13,.v (.int .i64 k)),(12,.v (.int .i64 (rws It.row l).length)),(11,.buf 0),(4,.buf 1),(5,.v (.bool b)),(1,.v (.func (.func 44) #[] #[]))]) (fun (⟨k,b⟩:Nat×Bool)=>[(1,.map .string (firstsK (l.map It.name) k)),(0,.ro 6 (rws It.row l))]) 2 (fun (⟨k,b⟩:Nat×Bool)=>k≤l.length∧b=dupB ((l.map It.name).take k)) (fun (⟨k,b⟩:Nat×Bool)=>l.length - k) ?round4 ((0,false)) ?J04) sH sH
 case J04=>exact (⟨Nat.zero_le _,rfl⟩)
 rintro ⟨k,b⟩ hJ back
 try dsimp only at hJ back
 conv=>whnf
 try dsimp only
 refine gS ?_;conv=>whnf
 refine ⟨fun hk=>?_,fun hk=>?_⟩<;>conv=>whnf
 ·have hk:k<l.length:=by omega
  have hk2:k<(l.map It.name).length:=by rw [hn];exact hk
  have e:(l.map It.name)[k]=l[k].name:=List.getElem_map ..
  conv=>whnf
  repeat ((first|refine oL ?_|refine oR ?_);(try intro _);conv=>whnf)
  refine ⟨_,rws_get hk,?_⟩;conv=>whnf
  try (refine oN ?_;conv=>whnf)
  refine RunsS.callV (fun Ez Hz Az Sz K=>itemName_fn l[k]) ?_
  conv=>whnf
  refine gS ?_;conv=>whnf
  by_cases hm:(l.map It.name)[k]∈(l.map It.name).take k
  ·obtain ⟨j,hj⟩:=firsts_old hk2 hm
   rw [e] at hj
   refine RunsS.lookup (some (.int .i64 j)) siU strU intZ hj ?_
   refine gS ?_;conv=>whnf
   repeat ((first|refine oL ?_|refine oR ?_);(try intro _);conv=>whnf)
   refine RunsS.mapEq 1 (firstsK_old hk2 hm).symm ?_;conv=>whnf
   refine RunsS.subR [] (back ((k+1,true)) (by exact (⟨hk,dup_old hk2 hm⟩)) (by (try dsimp only);omega)) sH sH
  have hj:=firsts_new hk2 hm
  rw [e] at hj
  have hs:=firstsK_new hk2 hm
  rw [e] at hs
  refine RunsS.lookup none siU strU intZ hj ?_
  refine gS ?_;conv=>whnf
  refine RunsS.callV (fun Ez Hz Az Sz K=>itemName_fn l[k]) ?_
  conv=>whnf
  refine gS ?_;conv=>whnf
  refine RunsS.insert siU strU hj hs ?_
  refine gS ?_;conv=>whnf
  repeat ((first|refine oL ?_|refine oR ?_);(try intro _);conv=>whnf)
  refine RunsS.subR [] (back ((k+1,b)) (by exact (⟨hk,hJ.2.trans (dup_new hk2 hm)⟩)) (by (try dsimp only);omega)) sH sH
 have hk:k=l.length:=by omega
 have hb:=hJ.2
 rw [hk,←hn,List.take_length] at hb
 clear back hJ
 subst hk hb
 conv=>whnf
 refine RunsS.concM N.gsub 1 (fun r G' h' N' R=>?_)
 conv=>whnf
 refine RunsS.retU ?_
 exact UnwS.ret tab Tryz.func51 rfl (eX (N.trans N') (r) (fun h U=>by unfold firsts;rw [hn];exact R.up U))
theorem collectMachine_fn (l:List Mc):FnX Tryz.prog 53 1 [.buf 0,.v (.func (.func 54) #[] #[])] [(0,.ro 4 (rws Mc.row l))] (fun _ _=>True) (fun (r:Nat) G h=>MapF G h (.map (some r)) .string (firsts (l.map Mc.name)))
  (fun r=>.ret (.tup [.v (.map (some r)),.v (.bool (dupB (l.map Mc.name)))]) 1 []):=by
 have hl:=rws_len Mc.row l
 have hn:(l.map Mc.name).length=l.length:=List.length_map _
 refine FnX.of Tryz.func53 (by kernel_rfl) rfl Tryz.ntmps53 rfl fun E0 F G h N hP w0 cs=>?_
 conv=>whnf
 refine gS ?_;conv=>whnf
 refine RunsS.lenB 0 (fun m0=>?_)
 refine RunsS.makeMap .string ?_
 refine gS ?_;conv=>whnf
 refine RunsS.subR [] (RunsS.loop (fun (⟨k,b⟩:Nat×Bool)=>[(13,.v (.int .i64 k)),(12,.v (.int .i64 (rws Mc.row l).length)),(11,.buf 0),(4,.buf 1),(5,.v (.bool b)),(1,.v (.func (.func 54) #[] #[]))]) (fun (⟨k,b⟩:Nat×Bool)=>[(1,.map .string (firstsK (l.map Mc.name) k)),(0,.ro 4 (rws Mc.row l))]) 2 (fun (⟨k,b⟩:Nat×Bool)=>k≤l.length∧b=dupB ((l.map Mc.name).take k)) (fun (⟨k,b⟩:Nat×Bool)=>l.length - k) ?round7 ((0,false)) ?J07) sH sH
 case J07=>exact (⟨Nat.zero_le _,rfl⟩)
 rintro ⟨k,b⟩ hJ back
 try dsimp only at hJ back
 conv=>whnf
 try dsimp only
 refine gS ?_;conv=>whnf
 refine ⟨fun hk=>?_,fun hk=>?_⟩<;>conv=>whnf
 ·have hk:k<l.length:=by omega
  have hk2:k<(l.map Mc.name).length:=by rw [hn];exact hk
  have e:(l.map Mc.name)[k]=l[k].name:=List.getElem_map ..
  conv=>whnf
  repeat ((first|refine oL ?_|refine oR ?_);(try intro _);conv=>whnf)
  refine ⟨_,rws_get hk,?_⟩;conv=>whnf
  try (refine oN ?_;conv=>whnf)
  refine RunsS.callV (fun Ez Hz Az Sz K=>machineName_fn l[k]) ?_
  conv=>whnf
  refine gS ?_;conv=>whnf
  by_cases hm:(l.map Mc.name)[k]∈(l.map Mc.name).take k
  ·obtain ⟨j,hj⟩:=firsts_old hk2 hm
   rw [e] at hj
   refine RunsS.lookup (some (.int .i64 j)) siU strU intZ hj ?_
   refine gS ?_;conv=>whnf
   repeat ((first|refine oL ?_|refine oR ?_);(try intro _);conv=>whnf)
   refine RunsS.mapEq 1 (firstsK_old hk2 hm).symm ?_;conv=>whnf
   refine RunsS.subR [] (back ((k+1,true)) (by exact (⟨hk,dup_old hk2 hm⟩)) (by (try dsimp only);omega)) sH sH
  have hj:=firsts_new hk2 hm
  rw [e] at hj
  have hs:=firstsK_new hk2 hm
  rw [e] at hs
  refine RunsS.lookup none siU strU intZ hj ?_
  refine gS ?_;conv=>whnf
  refine RunsS.callV (fun Ez Hz Az Sz K=>machineName_fn l[k]) ?_
  conv=>whnf
  refine gS ?_;conv=>whnf
  refine RunsS.insert siU strU hj hs ?_
  refine gS ?_;conv=>whnf
  repeat ((first|refine oL ?_|refine oR ?_);(try intro _);conv=>whnf)
  refine RunsS.subR [] (back ((k+1,b)) (by exact (⟨hk,hJ.2.trans (dup_new hk2 hm)⟩)) (by (try dsimp only);omega)) sH sH
 have hk:k=l.length:=by omega
 have hb:=hJ.2
 rw [hk,←hn,List.take_length] at hb
 clear back hJ
 subst hk hb
 conv=>whnf
 refine RunsS.concM N.gsub 1 (fun r G' h' N' R=>?_)
 conv=>whnf
 refine RunsS.retU ?_
 exact UnwS.ret tab Tryz.func53 rfl (eX (N.trans N') (r) (fun h U=>by unfold firsts;rw [hn];exact R.up U))
theorem collectOption_fn (l:List OpV):FnX Tryz.prog 55 1 [.buf 0,.v (.func (.func 56) #[] #[])] [(0,.ro 2 (rws OpV.row l))] (fun _ _=>True) (fun (r:Nat) G h=>MapF G h (.map (some r)) .string (firsts (l.map OpV.name)))
  (fun r=>.ret (.tup [.v (.map (some r)),.v (.bool (dupB (l.map OpV.name)))]) 1 []):=by
 have hl:=rws_len OpV.row l
 have hn:(l.map OpV.name).length=l.length:=List.length_map _
 refine FnX.of Tryz.func55 (by kernel_rfl) rfl Tryz.ntmps55 rfl fun E0 F G h N hP w0 cs=>?_
 conv=>whnf
 refine gS ?_;conv=>whnf
 refine RunsS.lenB 0 (fun m0=>?_)
 refine RunsS.makeMap .string ?_
 refine gS ?_;conv=>whnf
 refine RunsS.subR [] (RunsS.loop (fun (⟨k,b⟩:Nat×Bool)=>[(13,.v (.int .i64 k)),(12,.v (.int .i64 (rws OpV.row l).length)),(11,.buf 0),(4,.buf 1),(5,.v (.bool b)),(1,.v (.func (.func 56) #[] #[]))]) (fun (⟨k,b⟩:Nat×Bool)=>[(1,.map .string (firstsK (l.map OpV.name) k)),(0,.ro 2 (rws OpV.row l))]) 2 (fun (⟨k,b⟩:Nat×Bool)=>k≤l.length∧b=dupB ((l.map OpV.name).take k)) (fun (⟨k,b⟩:Nat×Bool)=>l.length - k) ?round10 ((0,false)) ?J010) sH sH
 case J010=>exact (⟨Nat.zero_le _,rfl⟩)
 rintro ⟨k,b⟩ hJ back
 try dsimp only at hJ back
 conv=>whnf
 try dsimp only
 refine gS ?_;conv=>whnf
 refine ⟨fun hk=>?_,fun hk=>?_⟩<;>conv=>whnf
 ·have hk:k<l.length:=by omega
  have hk2:k<(l.map OpV.name).length:=by rw [hn];exact hk
  have e:(l.map OpV.name)[k]=l[k].name:=List.getElem_map ..
  conv=>whnf
  repeat ((first|refine oL ?_|refine oR ?_);(try intro _);conv=>whnf)
  refine ⟨_,rws_get hk,?_⟩;conv=>whnf
  try (refine oN ?_;conv=>whnf)
  refine RunsS.callV (fun Ez Hz Az Sz K=>optionName_fn l[k]) ?_
  conv=>whnf
  refine gS ?_;conv=>whnf
  by_cases hm:(l.map OpV.name)[k]∈(l.map OpV.name).take k
  ·obtain ⟨j,hj⟩:=firsts_old hk2 hm
   rw [e] at hj
   refine RunsS.lookup (some (.int .i64 j)) siU strU intZ hj ?_
   refine gS ?_;conv=>whnf
   repeat ((first|refine oL ?_|refine oR ?_);(try intro _);conv=>whnf)
   refine RunsS.mapEq 1 (firstsK_old hk2 hm).symm ?_;conv=>whnf
   refine RunsS.subR [] (back ((k+1,true)) (by exact (⟨hk,dup_old hk2 hm⟩)) (by (try dsimp only);omega)) sH sH
  have hj:=firsts_new hk2 hm
  rw [e] at hj
  have hs:=firstsK_new hk2 hm
  rw [e] at hs
  refine RunsS.lookup none siU strU intZ hj ?_
  refine gS ?_;conv=>whnf
  refine RunsS.callV (fun Ez Hz Az Sz K=>optionName_fn l[k]) ?_
  conv=>whnf
  refine gS ?_;conv=>whnf
  refine RunsS.insert siU strU hj hs ?_
  refine gS ?_;conv=>whnf
  repeat ((first|refine oL ?_|refine oR ?_);(try intro _);conv=>whnf)
  refine RunsS.subR [] (back ((k+1,b)) (by exact (⟨hk,hJ.2.trans (dup_new hk2 hm)⟩)) (by (try dsimp only);omega)) sH sH
 have hk:k=l.length:=by omega
 have hb:=hJ.2
 rw [hk,←hn,List.take_length] at hb
 clear back hJ
 subst hk hb
 conv=>whnf
 refine RunsS.concM N.gsub 1 (fun r G' h' N' R=>?_)
 conv=>whnf
 refine RunsS.retU ?_
 exact UnwS.ret tab Tryz.func55 rfl (eX (N.trans N') (r) (fun h U=>by unfold firsts;rw [hn];exact R.up U))
theorem collectstring_fn (l:List ByteArray):FnX Tryz.prog 52 1 [.buf 0,.v (.func (.func 47) #[] #[])] [(0,.ro 1 (rwsB l))] (fun _ _=>True) (fun (r:Nat) G h=>MapF G h (.map (some r)) .string (firsts l))
  (fun r=>.ret (.tup [.v (.map (some r)),.v (.bool (dupB l))]) 1 []):=by
 have hl:=rwsB_len l
 have hn:l.length=l.length:=rfl
 refine FnX.of Tryz.func52 (by kernel_rfl) rfl Tryz.ntmps52 rfl fun E0 F G h N hP w0 cs=>?_
 conv=>whnf
 refine gS ?_;conv=>whnf
 refine RunsS.lenB 0 (fun m0=>?_)
 refine RunsS.makeMap .string ?_
 refine gS ?_;conv=>whnf
 refine RunsS.subR [] (RunsS.loop (fun (⟨k,b⟩:Nat×Bool)=>[(13,.v (.int .i64 k)),(12,.v (.int .i64 (rwsB l).length)),(11,.buf 0),(4,.buf 1),(5,.v (.bool b)),(1,.v (.func (.func 47) #[] #[]))]) (fun (⟨k,b⟩:Nat×Bool)=>[(1,.map .string (firstsK l k)),(0,.ro 1 (rwsB l))]) 2 (fun (⟨k,b⟩:Nat×Bool)=>k≤l.length∧b=dupB (l.take k)) (fun (⟨k,b⟩:Nat×Bool)=>l.length - k) ?round13 ((0,false)) ?J013) sH sH
 case J013=>exact (⟨Nat.zero_le _,rfl⟩)
 rintro ⟨k,b⟩ hJ back
 try dsimp only at hJ back
 conv=>whnf
 try dsimp only
 refine gS ?_;conv=>whnf
 refine ⟨fun hk=>?_,fun hk=>?_⟩<;>conv=>whnf
 ·have hk:k<l.length:=by omega
  have hk2:k<l.length:=by rw [hn];exact hk
  have e:l[k]=l[k]:=rfl
  conv=>whnf
  repeat ((first|refine oL ?_|refine oR ?_);(try intro _);conv=>whnf)
  refine ⟨_,rws_get hk,?_⟩;conv=>whnf
  refine RunsS.callV (fun Ez Hz Az Sz K=>itself_fn l[k]) ?_
  conv=>whnf
  refine gS ?_;conv=>whnf
  by_cases hm:l[k]∈l.take k
  ·obtain ⟨j,hj⟩:=firsts_old hk2 hm
   rw [e] at hj
   refine RunsS.lookup (some (.int .i64 j)) siU strU intZ hj ?_
   refine gS ?_;conv=>whnf
   repeat ((first|refine oL ?_|refine oR ?_);(try intro _);conv=>whnf)
   refine RunsS.mapEq 1 (firstsK_old hk2 hm).symm ?_;conv=>whnf
   refine RunsS.subR [] (back ((k+1,true)) (by exact (⟨hk,dup_old hk2 hm⟩)) (by (try dsimp only);omega)) sH sH
  have hj:=firsts_new hk2 hm
  rw [e] at hj
  have hs:=firstsK_new hk2 hm
  rw [e] at hs
  refine RunsS.lookup none siU strU intZ hj ?_
  refine gS ?_;conv=>whnf
  refine RunsS.callV (fun Ez Hz Az Sz K=>itself_fn l[k]) ?_
  conv=>whnf
  refine gS ?_;conv=>whnf
  refine RunsS.insert siU strU hj hs ?_
  refine gS ?_;conv=>whnf
  repeat ((first|refine oL ?_|refine oR ?_);(try intro _);conv=>whnf)
  refine RunsS.subR [] (back ((k+1,b)) (by exact (⟨hk,hJ.2.trans (dup_new hk2 hm)⟩)) (by (try dsimp only);omega)) sH sH
 have hk:k=l.length:=by omega
 have hb:=hJ.2
 rw [hk,←hn,List.take_length] at hb
 clear back hJ
 subst hk hb
 conv=>whnf
 refine RunsS.concM N.gsub 1 (fun r G' h' N' R=>?_)
 conv=>whnf
 refine RunsS.retU ?_
 exact UnwS.ret tab Tryz.func52 rfl (eX (N.trans N') (r) (fun h U=>by unfold firsts;rw [hn];exact R.up U))
def failCh:List PanicEntry:=[{v:=.iface 161 (.agg #[]),recovered:=false}]
theorem find_fn {h:Array Obj} {v:Value} {l:List ByteArray} (hv:MapF (fun k=>k<h.size) h v .string (firsts l)) (nm:ByteArray):FnO Tryz.prog failCh 68 #[v,.string nm] h (intO (findN l nm)):=by
 have hg:=firsts_all (l:=l) nm
 refine Fn.ofS (args:=[v,.string nm]) Tryz.func68 (by kernel_rfl) rfl Tryz.ntmps68 rfl fun w0 cs=>?_
 conv=>whnf
 refine gS ?_;conv=>whnf
 cases hf:findN l nm with
 |some k=>
  rw [hf] at hg
  refine RunsS.lookupF hv (some (.int .i64 k)) siU strU intZ hg ?_
  refine gS ?_;conv=>whnf
  refine RunsS.retU (UnwS.ret tab Tryz.func68 rfl fun Ez Hz Az Sz K=>⟨rfl,K.keeps⟩)
 |none=>
  rw [hf] at hg
  refine RunsS.lookupF hv none siU strU intZ hg ?_
  refine gS ?_;conv=>whnf
  refine RunsS.build0 ?_
  refine gS ?_;conv=>whnf
  refine RunsS.iface0 ?_ failU
  refine gS ?_;conv=>whnf
  refine RunsS.panicX (v:=.agg #[]) ?_ (fun E=>rfl)
  refine UnwS.pan Tryz.func68 fun Ez Hz Az Sz K=>⟨rfl,K.keeps⟩
end Go.Proofs.YtofjdbmcloemnaaGreatDoor

namespace Go.Proofs.YtofjdbmcloemnaaGreatDoor
open Go Go.Fw Go.NatM Go.RatM Go.SrcM
set_option maxRecDepth 100000
set_option maxHeartbeats 99999999
theorem cloneIt_fn (rows:List (List Value)) (hb:rows.length≤1000000):FnS Tryz.prog 105 1 [.buf 0] [(0,.ro 6 rows)] (fun _:Unit=>True) (fun _=>.ret (.buf 1) 2 [(1,.own 41 6 rows)]):=by
 refine FnS.of Tryz.func105 (by kernel_rfl) rfl Tryz.ntmps105 rfl fun E0 F h w0 cs=>?_
 conv=>whnf
 refine gS ?_;conv=>whnf
 refine RunsS.isNil tab (k:=3) (fun hr=>?_) ?_ rfl<;>conv=>whnf
 ·refine gS ?_
  conv=>whnf
  refine RunsS.subR (nx':=1) (l':=[(2,.v (.slice none 0 0))]) (H':=[(0,.ro 6 rows)]) [] ?_ sH sH
  refine RunsS.nilOwn (l':=[(2,.buf 1)]) (H':=[(0,.ro 6 rows)]) 41 6 ?_ (by rfl) (by rfl) (by rfl)
  refine RunsS.rowsEq 1 hr.symm ?_;conv=>whnf
  refine RunsS.retU ?_
  exact UnwS.ret tab Tryz.func105 rfl (eN () trivial)
 refine gS ?_;conv=>whnf
 refine And.intro (appOb2 (show 0+rows.length≤1000000 by omega)) ?_
 conv=>whnf
 refine gS ?_;conv=>whnf
 refine RunsS.retU ?_
 exact UnwS.ret tab Tryz.func105 rfl (EndS.mk (()) (trivial) [(1,2)] sH rfl rfl (okRet rfl rfl))
theorem cloneMc_fn (rows:List (List Value)) (hb:rows.length≤1000000):FnS Tryz.prog 106 1 [.buf 0] [(0,.ro 4 rows)] (fun _:Unit=>True) (fun _=>.ret (.buf 1) 2 [(1,.own 43 4 rows)]):=by
 refine FnS.of Tryz.func106 (by kernel_rfl) rfl Tryz.ntmps106 rfl fun E0 F h w0 cs=>?_
 conv=>whnf
 refine gS ?_;conv=>whnf
 refine RunsS.isNil tab (k:=3) (fun hr=>?_) ?_ rfl<;>conv=>whnf
 ·refine gS ?_
  conv=>whnf
  refine RunsS.subR (nx':=1) (l':=[(2,.v (.slice none 0 0))]) (H':=[(0,.ro 4 rows)]) [] ?_ sH sH
  refine RunsS.nilOwn (l':=[(2,.buf 1)]) (H':=[(0,.ro 4 rows)]) 43 4 ?_ (by rfl) (by rfl) (by rfl)
  refine RunsS.rowsEq 1 hr.symm ?_;conv=>whnf
  refine RunsS.retU ?_
  exact UnwS.ret tab Tryz.func106 rfl (eN () trivial)
 refine gS ?_;conv=>whnf
 refine And.intro (appOb2 (show 0+rows.length≤1000000 by omega)) ?_
 conv=>whnf
 refine gS ?_;conv=>whnf
 refine RunsS.retU ?_
 exact UnwS.ret tab Tryz.func106 rfl (EndS.mk (()) (trivial) [(1,2)] sH rfl rfl (okRet rfl rfl))
theorem cloneOp_fn (rows:List (List Value)) (hb:rows.length≤1000000):FnS Tryz.prog 107 1 [.buf 0] [(0,.ro 2 rows)] (fun _:Unit=>True) (fun _=>.ret (.buf 1) 2 [(1,.own 61 2 rows)]):=by
 refine FnS.of Tryz.func107 (by kernel_rfl) rfl Tryz.ntmps107 rfl fun E0 F h w0 cs=>?_
 conv=>whnf
 refine gS ?_;conv=>whnf
 refine RunsS.isNil tab (k:=3) (fun hr=>?_) ?_ rfl<;>conv=>whnf
 ·refine gS ?_
  conv=>whnf
  refine RunsS.subR (nx':=1) (l':=[(2,.v (.slice none 0 0))]) (H':=[(0,.ro 2 rows)]) [] ?_ sH sH
  refine RunsS.nilOwn (l':=[(2,.buf 1)]) (H':=[(0,.ro 2 rows)]) 61 2 ?_ (by rfl) (by rfl) (by rfl)
  refine RunsS.rowsEq 1 hr.symm ?_;conv=>whnf
  refine RunsS.retU ?_
  exact UnwS.ret tab Tryz.func107 rfl (eN () trivial)
 refine gS ?_;conv=>whnf
 refine And.intro (appOb2 (show 0+rows.length≤1000000 by omega)) ?_
 conv=>whnf
 refine gS ?_;conv=>whnf
 refine RunsS.retU ?_
 exact UnwS.ret tab Tryz.func107 rfl (EndS.mk (()) (trivial) [(1,2)] sH rfl rfl (okRet rfl rfl))
theorem cloneFb_fn (rows:List (List Value)) (hb:rows.length≤1000000):FnS Tryz.prog 108 1 [.buf 0] [(0,.ro 1 rows)] (fun _:Unit=>True) (fun _=>.ret (.buf 1) 2 [(1,.own 45 1 rows)]):=by
 refine FnS.of Tryz.func108 (by kernel_rfl) rfl Tryz.ntmps108 rfl fun E0 F h w0 cs=>?_
 conv=>whnf
 refine gS ?_;conv=>whnf
 refine RunsS.isNil tab (k:=3) (fun hr=>?_) ?_ rfl<;>conv=>whnf
 ·refine gS ?_
  conv=>whnf
  refine RunsS.subR (nx':=1) (l':=[(2,.v (.slice none 0 0))]) (H':=[(0,.ro 1 rows)]) [] ?_ sH sH
  refine RunsS.nilOwn (l':=[(2,.buf 1)]) (H':=[(0,.ro 1 rows)]) 45 1 ?_ (by rfl) (by rfl) (by rfl)
  refine RunsS.rowsEq 1 hr.symm ?_;conv=>whnf
  refine RunsS.retU ?_
  exact UnwS.ret tab Tryz.func108 rfl (eN () trivial)
 refine gS ?_;conv=>whnf
 refine And.intro (appOb2 (show 0+rows.length≤1000000 by omega)) ?_
 conv=>whnf
 refine gS ?_;conv=>whnf
 refine RunsS.retU ?_
 exact UnwS.ret tab Tryz.func108 rfl (EndS.mk (()) (trivial) [(1,2)] sH rfl rfl (okRet rfl rfl))
theorem cloneRc_fn (rows:List (List Value)) (hb:rows.length≤1000000):FnS Tryz.prog 111 1 [.buf 0] [(0,.ro 17 rows)] (fun _:Unit=>True) (fun _=>.ret (.buf 1) 2 [(1,.own 49 17 rows)]):=by
 refine FnS.of Tryz.func111 (by kernel_rfl) rfl Tryz.ntmps111 rfl fun E0 F h w0 cs=>?_
 conv=>whnf
 refine gS ?_;conv=>whnf
 refine RunsS.isNil tab (k:=3) (fun hr=>?_) ?_ rfl<;>conv=>whnf
 ·refine gS ?_
  conv=>whnf
  refine RunsS.subR (nx':=1) (l':=[(2,.v (.slice none 0 0))]) (H':=[(0,.ro 17 rows)]) [] ?_ sH sH
  refine RunsS.nilOwn (l':=[(2,.buf 1)]) (H':=[(0,.ro 17 rows)]) 49 17 ?_ (by rfl) (by rfl) (by rfl)
  refine RunsS.rowsEq 1 hr.symm ?_;conv=>whnf
  refine RunsS.retU ?_
  exact UnwS.ret tab Tryz.func111 rfl (eN () trivial)
 refine gS ?_;conv=>whnf
 refine And.intro (appOb2 (show 0+rows.length≤1000000 by omega)) ?_
 conv=>whnf
 refine gS ?_;conv=>whnf
 refine RunsS.retU ?_
 exact UnwS.ret tab Tryz.func111 rfl (EndS.mk (()) (trivial) [(1,2)] sH rfl rfl (okRet rfl rfl))
theorem cloneRn_fn (rows:List (List Value)) (hb:rows.length≤1000000):FnS Tryz.prog 114 1 [.buf 0] [(0,.ro 3 rows)] (fun _:Unit=>True) (fun _=>.ret (.buf 1) 2 [(1,.own 52 3 rows)]):=by
 refine FnS.of Tryz.func114 (by kernel_rfl) rfl Tryz.ntmps114 rfl fun E0 F h w0 cs=>?_
 conv=>whnf
 refine gS ?_;conv=>whnf
 refine RunsS.isNil tab (k:=3) (fun hr=>?_) ?_ rfl<;>conv=>whnf
 ·refine gS ?_
  conv=>whnf
  refine RunsS.subR (nx':=1) (l':=[(2,.v (.slice none 0 0))]) (H':=[(0,.ro 3 rows)]) [] ?_ sH sH
  refine RunsS.nilOwn (l':=[(2,.buf 1)]) (H':=[(0,.ro 3 rows)]) 52 3 ?_ (by rfl) (by rfl) (by rfl)
  refine RunsS.rowsEq 1 hr.symm ?_;conv=>whnf
  refine RunsS.retU ?_
  exact UnwS.ret tab Tryz.func114 rfl (eN () trivial)
 refine gS ?_;conv=>whnf
 refine And.intro (appOb2 (show 0+rows.length≤1000000 by omega)) ?_
 conv=>whnf
 refine gS ?_;conv=>whnf
 refine RunsS.retU ?_
 exact UnwS.ret tab Tryz.func114 rfl (EndS.mk (()) (trivial) [(1,2)] sH rfl rfl (okRet rfl rfl))
theorem cloneSw_fn (rows:List (List Value)) (hb:rows.length≤1000000):FnS Tryz.prog 115 1 [.buf 0] [(0,.ro 4 rows)] (fun _:Unit=>True) (fun _=>.ret (.buf 1) 2 [(1,.own 54 4 rows)]):=by
 refine FnS.of Tryz.func115 (by kernel_rfl) rfl Tryz.ntmps115 rfl fun E0 F h w0 cs=>?_
 conv=>whnf
 refine gS ?_;conv=>whnf
 refine RunsS.isNil tab (k:=3) (fun hr=>?_) ?_ rfl<;>conv=>whnf
 ·refine gS ?_
  conv=>whnf
  refine RunsS.subR (nx':=1) (l':=[(2,.v (.slice none 0 0))]) (H':=[(0,.ro 4 rows)]) [] ?_ sH sH
  refine RunsS.nilOwn (l':=[(2,.buf 1)]) (H':=[(0,.ro 4 rows)]) 54 4 ?_ (by rfl) (by rfl) (by rfl)
  refine RunsS.rowsEq 1 hr.symm ?_;conv=>whnf
  refine RunsS.retU ?_
  exact UnwS.ret tab Tryz.func115 rfl (eN () trivial)
 refine gS ?_;conv=>whnf
 refine And.intro (appOb2 (show 0+rows.length≤1000000 by omega)) ?_
 conv=>whnf
 refine gS ?_;conv=>whnf
 refine RunsS.retU ?_
 exact UnwS.ret tab Tryz.func115 rfl (EndS.mk (()) (trivial) [(1,2)] sH rfl rfl (okRet rfl rfl))
theorem cloneCd_fn (rows:List (List Value)) (hb:rows.length≤1000000):FnS Tryz.prog 128 1 [.buf 0] [(0,.ro 4 rows)] (fun _:Unit=>True) (fun _=>.ret (.buf 1) 2 [(1,.own 64 4 rows)]):=by
 refine FnS.of Tryz.func128 (by kernel_rfl) rfl Tryz.ntmps128 rfl fun E0 F h w0 cs=>?_
 conv=>whnf
 refine gS ?_;conv=>whnf
 refine RunsS.isNil tab (k:=3) (fun hr=>?_) ?_ rfl<;>conv=>whnf
 ·refine gS ?_
  conv=>whnf
  refine RunsS.subR (nx':=1) (l':=[(2,.v (.slice none 0 0))]) (H':=[(0,.ro 4 rows)]) [] ?_ sH sH
  refine RunsS.nilOwn (l':=[(2,.buf 1)]) (H':=[(0,.ro 4 rows)]) 64 4 ?_ (by rfl) (by rfl) (by rfl)
  refine RunsS.rowsEq 1 hr.symm ?_;conv=>whnf
  refine RunsS.retU ?_
  exact UnwS.ret tab Tryz.func128 rfl (eN () trivial)
 refine gS ?_;conv=>whnf
 refine And.intro (appOb2 (show 0+rows.length≤1000000 by omega)) ?_
 conv=>whnf
 refine gS ?_;conv=>whnf
 refine RunsS.retU ?_
 exact UnwS.ret tab Tryz.func128 rfl (EndS.mk (()) (trivial) [(1,2)] sH rfl rfl (okRet rfl rfl))
theorem cloneAm_fn (rows:List (List Value)) (hb:rows.length≤1000000):FnS Tryz.prog 129 1 [.buf 0] [(0,.ro 7 rows)] (fun _:Unit=>True) (fun _=>.ret (.buf 1) 2 [(1,.own 71 7 rows)]):=by
 refine FnS.of Tryz.func129 (by kernel_rfl) rfl Tryz.ntmps129 rfl fun E0 F h w0 cs=>?_
 conv=>whnf
 refine gS ?_;conv=>whnf
 refine RunsS.isNil tab (k:=3) (fun hr=>?_) ?_ rfl<;>conv=>whnf
 ·refine gS ?_
  conv=>whnf
  refine RunsS.subR (nx':=1) (l':=[(2,.v (.slice none 0 0))]) (H':=[(0,.ro 7 rows)]) [] ?_ sH sH
  refine RunsS.nilOwn (l':=[(2,.buf 1)]) (H':=[(0,.ro 7 rows)]) 71 7 ?_ (by rfl) (by rfl) (by rfl)
  refine RunsS.rowsEq 1 hr.symm ?_;conv=>whnf
  refine RunsS.retU ?_
  exact UnwS.ret tab Tryz.func129 rfl (eN () trivial)
 refine gS ?_;conv=>whnf
 refine And.intro (appOb2 (show 0+rows.length≤1000000 by omega)) ?_
 conv=>whnf
 refine gS ?_;conv=>whnf
 refine RunsS.retU ?_
 exact UnwS.ret tab Tryz.func129 rfl (EndS.mk (()) (trivial) [(1,2)] sH rfl rfl (okRet rfl rfl))
theorem cloneSt_fn (rows:List (List Value)) (hb:rows.length≤1000000):FnS Tryz.prog 69 1 [.buf 0] [(0,.ro 1 rows)] (fun _:Unit=>True) (fun _=>.ret (.buf 1) 2 [(1,.own 9 1 rows)]):=by
 refine FnS.of Tryz.func69 (by kernel_rfl) rfl Tryz.ntmps69 rfl fun E0 F h w0 cs=>?_
 conv=>whnf
 refine gS ?_;conv=>whnf
 refine RunsS.isNil tab (k:=3) (fun hr=>?_) ?_ rfl<;>conv=>whnf
 ·refine gS ?_
  conv=>whnf
  refine RunsS.subR (nx':=1) (l':=[(2,.v (.slice none 0 0))]) (H':=[(0,.ro 1 rows)]) [] ?_ sH sH
  refine RunsS.nilOwn (l':=[(2,.buf 1)]) (H':=[(0,.ro 1 rows)]) 9 1 ?_ (by rfl) (by rfl) (by rfl)
  refine RunsS.rowsEq 1 hr.symm ?_;conv=>whnf
  refine RunsS.retU ?_
  exact UnwS.ret tab Tryz.func69 rfl (eN () trivial)
 refine gS ?_;conv=>whnf
 refine And.intro (appOb2 (show 0+rows.length≤1000000 by omega)) ?_
 conv=>whnf
 refine gS ?_;conv=>whnf
 refine RunsS.retU ?_
 exact UnwS.ret tab Tryz.func69 rfl (EndS.mk (()) (trivial) [(1,2)] sH rfl rfl (okRet rfl rfl))
structure ResF (G:Nat→Prop) (h:Array Obj) (s:SrcV) (mU mI mP mM mO vC:Value):Prop where
 u:MapF G h mU .string (firsts (s.units.map Un.name))
 i:MapF G h mI .string (firsts (s.items.map It.name))
 p:MapF G h mP .string (firsts s.plants)
 m:MapF G h mM .string (firsts (s.machines.map Mc.name))
 o:MapF G h mO .string (firsts (s.options.map OpV.name))
 c:∃ms:List Value,RoF G h vC 1 (ms.map fun m=>[m])∧ms.length=s.options.length ∧ ∀k (h1:k<ms.length) (h2:k<s.options.length),MapF G h ms[k] .string (firsts s.options[k].ch)
theorem ResF.up {G G':Nat→Prop} {h h':Array Obj} {s:SrcV} {mU mI mP mM mO vC:Value} (H:ResF G h s mU mI mP mM mO vC) (U:Up G h G' h'):ResF G' h' s mU mI mP mM mO vC:=by
 obtain ⟨ms,c1,c2,c3⟩:=H.c
 exact ⟨H.u.up U,H.i.up U,H.p.up U,H.m.up U,H.o.up U,ms,RoF.up U c1,c2,fun k h1 h2=>(c3 k h1 h2).up U⟩
theorem ResF.tok (s:SrcV) (mU mI mP mM mO vC:Value):TOk (fun F h=>ResF F h s mU mI mP mM mO vC):=⟨fun _ _ _ hs H=>H.up ⟨hs,fun _ _=>rfl⟩,fun _ _ _ H K=>H.up ⟨fun _ x=>x,K.same⟩⟩
abbrev rsvC (b:Nat) (mU mI mP mM mO vC:Value):Nat×Fw.Blk:=(b,.cells 75 [.v mU,.v mI,.v mP,.v mM,.v mO,.v vC])
theorem find_some {h:Array Obj} {v:Value} {l:List ByteArray} (hv:MapF (fun k=>k<h.size) h v .string (firsts l)) {nm:ByteArray} {k:Nat} (hf:findN l nm=some k):FnO Tryz.prog failCh 68 #[v,.string nm] h (some (.int .i64 k)):=by
 have:=find_fn hv nm
 rw [hf] at this
 exact this
theorem find_no {h:Array Obj} {v:Value} {l:List ByteArray} (hv:MapF (fun k=>k<h.size) h v .string (firsts l)) {nm:ByteArray} (hf:findN l nm=none):FnO Tryz.prog failCh 68 #[v,.string nm] h none:=by
 have:=find_fn hv nm
 rw [hf] at this
 exact this
section
variable {s:SrcV} {mU mI mP mM mO vC:Value}
abbrev ResT (s:SrcV) (mU mI mP mM mO vC:Value) (F:Nat→Prop) (h:Array Obj):Prop:=ResF F h s mU mI mP mM mO vC
abbrev clOut (e sz:Nat) (rows:List (List Value)) (k:Nat) (mU mI mP mM mO vC:Value):Option (List Value)→OutS
 |some r=>.ret (.tup []) 2 [(0,.own e sz (rows.set k r)),rsvC 1 mU mI mP mM mO vC]
 |none=>.pan failCh 2 [(0,.own e sz rows),rsvC 1 mU mI mP mM mO vC]
theorem clIt_fn (rows:List (List Value)) (k:Nat) (i:It) (hrow:rows[k]? = some i.row):FnT Tryz.prog (ResT s mU mI mP mM mO vC) 67 2 [.row 0 k 0 6,.ptr 1 0] [(0,.own 41 6 rows),rsvC 1 mU mI mP mM mO vC] (fun x=>x=(resIt s i).map It.row) (clOut 41 6 rows k mU mI mP mM mO vC):=by
 have hr':rows[((k:Nat):Int).toNat]? = some i.row:=hrow
 refine FnT.of Tryz.func67 (by kernel_rfl) rfl Tryz.ntmps67 rfl fun E0 F h hT w0 cs=>?_
 conv=>whnf
 refine gS ?_;conv=>whnf
 refine RunsS.held tab (.fl 0 (.fl 1 (.fl 2 (.fl 3 (.fl 4 (.fl 5 (.fl 6 (.e1 7 [] (.fl 8 (.fl 9 (.e1 10 [] .done))))))))))) (by kernel_rfl) ?_;conv=>whnf
 try refine gR ?_;conv=>whnf
 conv=>whnf
 refine ⟨_,hr',?_⟩;conv=>whnf
 conv=>whnf
 cases hf:findN (s.units.map Un.name) i.unit with
 |none=>
  refine EffR.callF (fun Ez Hz Az Sz K=>find_no (hT.u.up (Up.kp K)) hf) (by (conv=>whnf);(repeat (guard_target=_∧_;refine And.intro (by (conv=>whnf);first|rfl|exact trivial) ?_;conv=>whnf));exact trivial) ?_
  exact UnwS.pan Tryz.func67 (EndS.mk (none) ((by unfold resIt;rw [hf];rfl)) [] sH rfl rfl (okPan rfl))
 |some u=>
  refine EffR.callS (fun Ez Hz Az Sz K=>find_some (hT.u.up (Up.kp K)) hf) (by (conv=>whnf);(repeat (guard_target=_∧_;refine And.intro (by (conv=>whnf);first|rfl|exact trivial) ?_;conv=>whnf));exact trivial) ?_
  conv=>whnf
  try refine gR ?_;conv=>whnf
  conv=>whnf
  refine EffR.rput tab (_) (hr') ?_;conv=>whnf
  try refine oB ?_
  try refine gR ?_;conv=>whnf
  refine gS ?_;conv=>whnf
  refine RunsS.finU ?_
  exact UnwS.ret tab Tryz.func67 rfl (EndS.mk (some (It.row {i with un:=(u:Nat)})) ((by unfold resIt;rw [hf];rfl)) [] sH rfl rfl (okRet rfl rfl))
theorem clMc_fn (rows:List (List Value)) (k:Nat) (i:Mc) (hrow:rows[k]? = some i.row):FnT Tryz.prog (ResT s mU mI mP mM mO vC) 71 2 [.row 0 k 0 4,.ptr 1 0] [(0,.own 43 4 rows),rsvC 1 mU mI mP mM mO vC] (fun x=>x=(resMc s i).map Mc.row) (clOut 43 4 rows k mU mI mP mM mO vC):=by
 have hr':rows[((k:Nat):Int).toNat]? = some i.row:=hrow
 refine FnT.of Tryz.func71 (by kernel_rfl) rfl Tryz.ntmps71 rfl fun E0 F h hT w0 cs=>?_
 conv=>whnf
 refine gS ?_;conv=>whnf
 refine RunsS.held tab (.fl 0 (.fl 1 (.fl 2 (.fl 3 (.fl 4 (.fl 5 (.fl 6 (.e1 7 [] (.fl 8 (.fl 9 (.e1 10 [] .done))))))))))) (by kernel_rfl) ?_;conv=>whnf
 try refine gR ?_;conv=>whnf
 conv=>whnf
 refine ⟨_,hr',?_⟩;conv=>whnf
 conv=>whnf
 cases hf:findN (s.plants) i.plant with
 |none=>
  refine EffR.callF (fun Ez Hz Az Sz K=>find_no (hT.p.up (Up.kp K)) hf) (by (conv=>whnf);(repeat (guard_target=_∧_;refine And.intro (by (conv=>whnf);first|rfl|exact trivial) ?_;conv=>whnf));exact trivial) ?_
  exact UnwS.pan Tryz.func71 (EndS.mk (none) ((by unfold resMc;rw [hf];rfl)) [] sH rfl rfl (okPan rfl))
 |some u=>
  refine EffR.callS (fun Ez Hz Az Sz K=>find_some (hT.p.up (Up.kp K)) hf) (by (conv=>whnf);(repeat (guard_target=_∧_;refine And.intro (by (conv=>whnf);first|rfl|exact trivial) ?_;conv=>whnf));exact trivial) ?_
  conv=>whnf
  try refine gR ?_;conv=>whnf
  conv=>whnf
  refine EffR.rput tab (_) (hr') ?_;conv=>whnf
  try refine oB ?_
  try refine gR ?_;conv=>whnf
  refine gS ?_;conv=>whnf
  refine RunsS.finU ?_
  exact UnwS.ret tab Tryz.func71 rfl (EndS.mk (some (Mc.row {i with pn:=(u:Nat)})) ((by unfold resMc;rw [hf];rfl)) [] sH rfl rfl (okRet rfl rfl))
theorem clRn_fn (rows:List (List Value)) (k:Nat) (i:Rn) (hrow:rows[k]? = some i.row):FnT Tryz.prog (ResT s mU mI mP mM mO vC) 81 2 [.row 0 k 0 3,.ptr 1 0] [(0,.own 52 3 rows),rsvC 1 mU mI mP mM mO vC] (fun x=>x=(resRn s i).map Rn.row) (clOut 52 3 rows k mU mI mP mM mO vC):=by
 have hr':rows[((k:Nat):Int).toNat]? = some i.row:=hrow
 refine FnT.of Tryz.func81 (by kernel_rfl) rfl Tryz.ntmps81 rfl fun E0 F h hT w0 cs=>?_
 conv=>whnf
 refine gS ?_;conv=>whnf
 refine RunsS.held tab (.fl 0 (.fl 1 (.fl 2 (.fl 3 (.fl 4 (.fl 5 (.fl 6 (.e1 7 [] (.fl 8 (.fl 9 (.e1 10 [] .done))))))))))) (by kernel_rfl) ?_;conv=>whnf
 try refine gR ?_;conv=>whnf
 conv=>whnf
 refine ⟨_,hr',?_⟩;conv=>whnf
 conv=>whnf
 cases hf:findN (s.machines.map Mc.name) i.mach with
 |none=>
  refine EffR.callF (fun Ez Hz Az Sz K=>find_no (hT.m.up (Up.kp K)) hf) (by (conv=>whnf);(repeat (guard_target=_∧_;refine And.intro (by (conv=>whnf);first|rfl|exact trivial) ?_;conv=>whnf));exact trivial) ?_
  exact UnwS.pan Tryz.func81 (EndS.mk (none) ((by unfold resRn;rw [hf];rfl)) [] sH rfl rfl (okPan rfl))
 |some u=>
  refine EffR.callS (fun Ez Hz Az Sz K=>find_some (hT.m.up (Up.kp K)) hf) (by (conv=>whnf);(repeat (guard_target=_∧_;refine And.intro (by (conv=>whnf);first|rfl|exact trivial) ?_;conv=>whnf));exact trivial) ?_
  conv=>whnf
  try refine gR ?_;conv=>whnf
  conv=>whnf
  refine EffR.rput tab (_) (hr') ?_;conv=>whnf
  try refine oB ?_
  try refine gR ?_;conv=>whnf
  refine gS ?_;conv=>whnf
  refine RunsS.finU ?_
  exact UnwS.ret tab Tryz.func81 rfl (EndS.mk (some (Rn.row {i with mn:=(u:Nat)})) ((by unfold resRn;rw [hf];rfl)) [] sH rfl rfl (okRet rfl rfl))
end
end Go.Proofs.YtofjdbmcloemnaaGreatDoor

namespace Go.Proofs.YtofjdbmcloemnaaGreatDoor
open Go Go.Fw Go.NatM Go.RatM Go.SrcM
set_option maxRecDepth 100000
set_option maxHeartbeats 99999999
section
variable {s:SrcV} {mU mI mP mM mO vC:Value}
theorem flat1 {α:Type}:∀l:List α,(l.map fun m=>[m]).flatten=l
 | []=>rfl
 |a::l=>congrArg (a :: ·) (flat1 l)
theorem set_at {α:Type} {l:List α} {k:Nat} {a b:α} (h:l[k]? = some a):(l.set k b)[k]? = some b:=by
 rw [List.getElem?_set_self (List.getElem?_eq_some_iff.1 h).1]
theorem clSw_fn (rows:List (List Value)) (k:Nat) (i:Sw) (hrow:rows[k]? = some i.row):FnT Tryz.prog (ResT s mU mI mP mM mO vC) 83 2 [.row 0 k 0 4,.ptr 1 0] [(0,.own 54 4 rows),rsvC 1 mU mI mP mM mO vC] (fun x=>x=(resSw s i).map Sw.row) (clOut 54 4 rows k mU mI mP mM mO vC):=by
 have hr':rows[((k:Nat):Int).toNat]? = some i.row:=hrow
 have hlt:k<rows.length:=(List.getElem?_eq_some_iff.1 hrow).1
 refine FnT.of Tryz.func83 (by kernel_rfl) rfl Tryz.ntmps83 rfl fun E0 F h hT w0 cs=>?_
 conv=>whnf
 refine gS ?_;conv=>whnf
 refine RunsS.held tab (.fl 0 (.fl 1 (.fl 2 (.fl 3 (.fl 4 (.fl 5 (.fl 6 (.fl 7 (.fl 9 (.fl 10 (.fl 11 (.fl 12 (.fl 13 (.fl 14 (.e1 8 [10,14] (.e1 15 [] (.fl 16 (.fl 17 (.e1 18 [] (.fl 19 (.fl 20 (.e1 21 [] .done)))))))))))))))))))))) (by kernel_rfl) ?_;conv=>whnf
 try refine gR ?_;conv=>whnf
 conv=>whnf
 refine ⟨_,hr',?_⟩;conv=>whnf
 conv=>whnf
 refine ⟨_,hr',?_⟩;conv=>whnf
 conv=>whnf
 cases hf:findN (s.items.map It.name) i.a with
 |none=>
  refine EffR.callF (fun Ez Hz Az Sz K=>find_no (hT.i.up (Up.kp K)) hf) (by (conv=>whnf);(repeat (guard_target=_∧_;refine And.intro (by (conv=>whnf);first|rfl|exact trivial) ?_;conv=>whnf));exact trivial) ?_
  exact UnwS.pan Tryz.func83 (EndS.mk (none) ((by unfold resSw;rw [hf];rfl)) [] sH rfl rfl (okPan rfl))
 |some u=>
  refine EffR.callS (fun Ez Hz Az Sz K=>find_some (hT.i.up (Up.kp K)) hf) (by (conv=>whnf);(repeat (guard_target=_∧_;refine And.intro (by (conv=>whnf);first|rfl|exact trivial) ?_;conv=>whnf));exact trivial) ?_
  conv=>whnf
  try refine gR ?_;conv=>whnf
  conv=>whnf
  cases hg:findN (s.items.map It.name) i.b with
  |none=>
   refine EffR.callF (fun Ez Hz Az Sz K=>find_no (hT.i.up (Up.kp K)) hg) (by (conv=>whnf);(repeat (guard_target=_∧_;refine And.intro (by (conv=>whnf);first|rfl|exact trivial) ?_;conv=>whnf));exact trivial) ?_
   exact UnwS.pan Tryz.func83 (EndS.mk (none) ((by unfold resSw;rw [hf];simp only [hg];rfl)) [] sH rfl rfl (okPan rfl))
  |some v=>
   have hl2:(rows.set ((k:Nat):Int).toNat (splV i.row 2 [.int .i64 u])).length=rows.length:=List.length_set
   refine EffR.callS (fun Ez Hz Az Sz K=>find_some (hT.i.up (Up.kp K)) hg) (by (conv=>whnf);(repeat (guard_target=_∧_;refine And.intro (by (conv=>whnf);first|rfl|exact trivial) ?_;conv=>whnf));exact trivial) ?_
   conv=>whnf
   try refine gR ?_;conv=>whnf
   conv=>whnf
   refine EffR.rput tab (_) (hr') ?_;conv=>whnf
   try refine oB ?_
   try refine gR ?_;conv=>whnf
   conv=>whnf
   refine EffR.rput tab (_) (set_at hr') ?_;conv=>whnf
   try refine oB ?_
   try refine gR ?_;conv=>whnf
   refine gS ?_;conv=>whnf
   refine RunsS.rowsEq 0 (show (rows.set k (splV i.row 2 [.int .i64 u])).set k (splV (splV i.row 2 [.int .i64 u]) 3 [.int .i64 v])=rows.set k (Sw.row {i with an:=(u:Nat),bn:=(v:Nat)}) by rw [List.set_set];rfl) ?_
   conv=>whnf
   refine RunsS.finU ?_
   exact UnwS.ret tab Tryz.func83 rfl (EndS.mk (some (Sw.row {i with an:=(u:Nat),bn:=(v:Nat)})) ((by unfold resSw;rw [hf];simp only [hg];rfl)) [] sH rfl rfl (okRet rfl rfl))
theorem clAm_fn (rows:List (List Value)) (k:Nat) (i:Am) (hrow:rows[k]? = some i.row):FnT Tryz.prog (ResT s mU mI mP mM mO vC) 113 2 [.row 0 k 0 7,.ptr 1 0] [(0,.own 71 7 rows),rsvC 1 mU mI mP mM mO vC] (fun x=>x=(resAm s i).map Am.row) (clOut 71 7 rows k mU mI mP mM mO vC):=by
 have hr':rows[((k:Nat):Int).toNat]? = some i.row:=hrow
 have hlt:k<rows.length:=(List.getElem?_eq_some_iff.1 hrow).1
 refine FnT.of Tryz.func113 (by kernel_rfl) rfl Tryz.ntmps113 rfl fun E0 F h hT w0 cs=>?_
 conv=>whnf
 refine gS ?_;conv=>whnf
 refine RunsS.held tab (.fl 0 (.fl 1 (.fl 2 (.fl 3 (.fl 4 (.fl 5 (.fl 6 (.fl 7 (.fl 9 (.fl 10 (.fl 11 (.fl 12 (.fl 13 (.fl 14 (.e1 8 [10,14] (.e1 15 [] (.fl 16 (.fl 17 (.e1 18 [] (.fl 19 (.fl 20 (.e1 21 [] .done)))))))))))))))))))))) (by kernel_rfl) ?_;conv=>whnf
 try refine gR ?_;conv=>whnf
 conv=>whnf
 refine ⟨_,hr',?_⟩;conv=>whnf
 conv=>whnf
 refine ⟨_,hr',?_⟩;conv=>whnf
 conv=>whnf
 cases hf:findN (s.units.map Un.name) i.unit with
 |none=>
  refine EffR.callF (fun Ez Hz Az Sz K=>find_no (hT.u.up (Up.kp K)) hf) (by (conv=>whnf);(repeat (guard_target=_∧_;refine And.intro (by (conv=>whnf);first|rfl|exact trivial) ?_;conv=>whnf));exact trivial) ?_
  exact UnwS.pan Tryz.func113 (EndS.mk (none) ((by unfold resAm;rw [hf];rfl)) [] sH rfl rfl (okPan rfl))
 |some u=>
  refine EffR.callS (fun Ez Hz Az Sz K=>find_some (hT.u.up (Up.kp K)) hf) (by (conv=>whnf);(repeat (guard_target=_∧_;refine And.intro (by (conv=>whnf);first|rfl|exact trivial) ?_;conv=>whnf));exact trivial) ?_
  conv=>whnf
  try refine gR ?_;conv=>whnf
  conv=>whnf
  cases hg:findN (s.items.map It.name) i.item with
  |none=>
   refine EffR.callF (fun Ez Hz Az Sz K=>find_no (hT.i.up (Up.kp K)) hg) (by (conv=>whnf);(repeat (guard_target=_∧_;refine And.intro (by (conv=>whnf);first|rfl|exact trivial) ?_;conv=>whnf));exact trivial) ?_
   exact UnwS.pan Tryz.func113 (EndS.mk (none) ((by unfold resAm;rw [hf];simp only [hg];rfl)) [] sH rfl rfl (okPan rfl))
  |some v=>
   have hl2:(rows.set ((k:Nat):Int).toNat (splV i.row 5 [.int .i64 u])).length=rows.length:=List.length_set
   refine EffR.callS (fun Ez Hz Az Sz K=>find_some (hT.i.up (Up.kp K)) hg) (by (conv=>whnf);(repeat (guard_target=_∧_;refine And.intro (by (conv=>whnf);first|rfl|exact trivial) ?_;conv=>whnf));exact trivial) ?_
   conv=>whnf
   try refine gR ?_;conv=>whnf
   conv=>whnf
   refine EffR.rput tab (_) (hr') ?_;conv=>whnf
   try refine oB ?_
   try refine gR ?_;conv=>whnf
   conv=>whnf
   refine EffR.rput tab (_) (set_at hr') ?_;conv=>whnf
   try refine oB ?_
   try refine gR ?_;conv=>whnf
   refine gS ?_;conv=>whnf
   refine RunsS.rowsEq 0 (show (rows.set k (splV i.row 5 [.int .i64 u])).set k (splV (splV i.row 5 [.int .i64 u]) 6 [.int .i64 v])=rows.set k (Am.row {i with un:=(u:Nat),inn:=(v:Nat)}) by rw [List.set_set];rfl) ?_
   conv=>whnf
   refine RunsS.finU ?_
   exact UnwS.ret tab Tryz.func113 rfl (EndS.mk (some (Am.row {i with un:=(u:Nat),inn:=(v:Nat)})) ((by unfold resAm;rw [hf];simp only [hg];rfl)) [] sH rfl rfl (okRet rfl rfl))
theorem clCd_fn (rows:List (List Value)) (k:Nat) (i:Cd) (hrow:rows[k]? = some i.row):FnT Tryz.prog (ResT s mU mI mP mM mO vC) 110 2 [.row 0 k 0 4,.ptr 1 0] [(0,.own 64 4 rows),rsvC 1 mU mI mP mM mO vC] (fun (x:Option Cd)=>x=resCd s i)
  (fun x=>match x with
   |some j=>.ret (.tup []) 2 [(0,.own 64 4 (rows.set k j.row)),rsvC 1 mU mI mP mM mO vC]
   |none=>.pan failCh 3 [rsvC 1 mU mI mP mM mO vC]):=by
 have hr':rows[((k:Nat):Int).toNat]? = some i.row:=hrow
 have hlt:k<rows.length:=(List.getElem?_eq_some_iff.1 hrow).1
 refine FnT.of Tryz.func110 (by kernel_rfl) rfl Tryz.ntmps110 rfl fun E0 F h hT w0 cs=>?_
 conv=>whnf
 refine gS ?_;conv=>whnf
 refine RunsS.held tab (.fl 0 (.fl 1 (.fl 2 (.fl 3 (.fl 4 (.fl 5 (.fl 6 (.e1 7 [] (.fl 8 (.fl 9 (.e1 10 [] .done))))))))))) (by kernel_rfl) ?_;conv=>whnf
 try refine gR ?_;conv=>whnf
 conv=>whnf
 refine ⟨_,hr',?_⟩;conv=>whnf
 conv=>whnf
 cases hf:findN (s.options.map OpV.name) i.opt with
 |none=>
  refine EffR.callF (fun Ez Hz Az Sz K=>find_no (hT.o.up (Up.kp K)) hf) (by (conv=>whnf);(repeat (guard_target=_∧_;refine And.intro (by (conv=>whnf);first|rfl|exact trivial) ?_;conv=>whnf));exact trivial) ?_
  exact UnwS.pan Tryz.func110 (EndS.mk (none) ((by unfold resCd;rw [hf])) [] sH rfl rfl (okPan rfl))
 |some u=>
  refine EffR.callS (fun Ez Hz Az Sz K=>find_some (hT.o.up (Up.kp K)) hf) (by (conv=>whnf);(repeat (guard_target=_∧_;refine And.intro (by (conv=>whnf);first|rfl|exact trivial) ?_;conv=>whnf));exact trivial) ?_
  conv=>whnf
  try refine gR ?_;conv=>whnf
  conv=>whnf
  refine EffR.rput tab (_) (hr') ?_;conv=>whnf
  try refine oB ?_
  try refine gR ?_;conv=>whnf
  refine gS ?_;conv=>whnf
  obtain ⟨hu,_,_⟩:=findN_some.1 hf
  rw [List.length_map] at hu
  obtain ⟨ms,⟨c1,c2,a,cap,rfl,c3⟩,c4,c5⟩:=hT.c
  have hms:u<ms.length:=by rw [c4];exact hu
  rcases c3 with c3|⟨g,o,rfl,c6,c7⟩
  ·have h0:ms=[]:=List.map_eq_nil_iff.1 c3
   rw [h0] at hms
   cases hms
  have hcell:cellH h g (o+u)=some ms[u]:=c7 u _ (by rw [flat1];exact List.getElem?_eq_getElem hms)
  have hl3:(ms.map fun m=>[m]).length=ms.length:=List.length_map _
  refine RunsS.held tab (.fl 0 (.fl 1 (.fl 2 (.fl 3 (.fl 4 (.fl 5 (.fl 6 (.fl 7 (.fl 8 (.fl 9 (.fl 10 (.fl 11 (.fl 12 (.e1 13 [] (.fl 14 (.fl 15 (.e1 16 [] .done))))))))))))))))) (by kernel_rfl) ?_;conv=>whnf
  try refine gR ?_;conv=>whnf
  conv=>whnf
  refine ⟨_,(set_at hr'),?_⟩;conv=>whnf
  try (refine oN ?_;conv=>whnf)
  conv=>whnf
  refine ⟨_,⟨c6,hcell⟩,?_⟩;conv=>whnf
  conv=>whnf
  have h2:u<s.options.length:=hu
  refine ⟨_,(set_at hr'),?_⟩;conv=>whnf
  conv=>whnf
  cases hg:findN s.options[u].ch i.ch with
  |none=>
   refine EffR.callF (fun Ez Hz Az Sz K=>find_no ((c5 u hms h2).up (Up.kp K)) hg) (by (conv=>whnf);(repeat (guard_target=_∧_;refine And.intro (by (conv=>whnf);first|rfl|exact trivial) ?_;conv=>whnf));exact trivial) ?_
   exact UnwS.pan Tryz.func110 (EndS.mk (none) ((by unfold resCd;rw [hf];simp only [List.getElem?_eq_getElem h2,hg];rfl)) [] sH rfl rfl (okPan rfl))
  |some v=>
   refine EffR.callS (fun Ez Hz Az Sz K=>find_some ((c5 u hms h2).up (Up.kp K)) hg) (by (conv=>whnf);(repeat (guard_target=_∧_;refine And.intro (by (conv=>whnf);first|rfl|exact trivial) ?_;conv=>whnf));exact trivial) ?_
   conv=>whnf
   try refine gR ?_;conv=>whnf
   conv=>whnf
   refine EffR.rput tab (_) (set_at hr') ?_;conv=>whnf
   try refine oB ?_
   try refine gR ?_;conv=>whnf
   refine gS ?_;conv=>whnf
   refine RunsS.rowsEq 0 (show (rows.set k (splV i.row 2 [.int .i64 u])).set k (splV (splV i.row 2 [.int .i64 u]) 3 [.int .i64 v])=rows.set k (Cd.row {i with on:=(u:Nat),cn:=(v:Nat)}) by rw [List.set_set];rfl) ?_
   conv=>whnf
   refine RunsS.finU ?_
   exact UnwS.ret tab Tryz.func110 rfl (EndS.mk (some {i with on:=(u:Nat),cn:=(v:Nat)}) ((by unfold resCd;rw [hf];simp only [List.getElem?_eq_getElem h2,hg];rfl)) [] sH rfl rfl (okRet rfl rfl))
end
end Go.Proofs.YtofjdbmcloemnaaGreatDoor

namespace Go.Proofs.YtofjdbmcloemnaaGreatDoor
open Go Go.Fw Go.NatM Go.RatM Go.SrcM
set_option maxRecDepth 100000
set_option maxHeartbeats 99999999
section
variable {s:SrcV} {mU mI mP mM mO vC:Value}
abbrev numOut {α:Type} (row:α→List Value) (e sz:Nat) (mU mI mP mM mO vC:Value):Option (List α)→OutS
 |some m=>.ret (.buf 1) 2 [(1,.own e sz (rws row m)),rsvC 0 mU mI mP mM mO vC]
 |none=>.pan failCh 1 [rsvC 0 mU mI mP mM mO vC]
abbrev NumT (v:Value) (sz:Nat) (rows:List (List Value)) (s:SrcV) (mU mI mP mM mO vC:Value) (F:Nat→Prop) (h:Array Obj):Prop:=RoF F h v sz rows∧ResF F h s mU mI mP mM mO vC
theorem NumT.tok (v:Value) (sz:Nat) (rows:List (List Value)) (s:SrcV) (mU mI mP mM mO vC:Value):TOk (NumT v sz rows s mU mI mP mM mO vC):=
 ⟨fun _ _ _ hs H=>⟨RoF.up ⟨hs,fun _ _=>rfl⟩ H.1,H.2.up ⟨hs,fun _ _=>rfl⟩⟩,fun _ _ _ H K=>⟨RoF.up ⟨fun _ x=>x,K.same⟩ H.1,H.2.up ⟨fun _ x=>x,K.same⟩⟩⟩
theorem len_at {α:Type} {f:α→List Value} {g:α→α} {l:List α} {k:Nat} (hk:k<l.length):(rws f (mixN g l k)).length=l.length:=mixN_len (Nat.le_of_lt hk)
theorem mix_next {α:Type} {f:α→List Value} {res:α→Option α} {l:List α} {k:Nat} (hk:k<l.length) {b:α} (hr:res l[k]=some b):(rws f (mixN (fun a=>(res a).getD a) l k)).set k (f b)=rws f (mixN (fun a=>(res a).getD a) l (k+1)):=
 mixN_step hk (show f b=f ((res l[k]).getD l[k]) by rw [hr];rfl)
theorem snoc_all {α:Type} {res:α→Option α} {l:List α} {k:Nat} (hk:k<l.length) {b:α} (hr:res l[k]=some b) (h:∀i (hi:i<l.length),i<k→res l[i]≠none):∀i (hi:i<l.length),i<k+1→res l[i]≠none:=by
 intro i hi h1
 rcases Nat.lt_or_eq_of_le (Nat.le_of_lt_succ h1) with h2|rfl
 ·exact h i hi h2
 rw [hr];exact Option.some_ne_none _
theorem all_done {α:Type} {res:α→Option α} {l:List α} {k:Nat} (h:∀i (hi:i<l.length),i<k→res l[i]≠none) (hk:k=l.length):allO res l=some (l.map fun a=>(res a).getD a):=
 allO_getD (fun i hi=>h i hi (hk▸hi))
theorem numIt_fn (v:Value) (l:List It) (hb:l.length≤1000000):FnT Tryz.prog (NumT v 6 (rws It.row l) s mU mI mP mM mO vC) 66 1 [.v v,.fn (.func 67) [] [.ptr 0 0]] [rsvC 0 mU mI mP mM mO vC] (fun x=>x=allO (resIt s) l) (numOut It.row 41 6 mU mI mP mM mO vC):=by
 have hl:=rws_len It.row l
 refine FnT.of Tryz.func66 (by kernel_rfl) rfl Tryz.ntmps66 rfl fun E0 F h hT w0 cs=>?_
 conv=>whnf
 refine gS ?_;conv=>whnf
 refine RunsS.nameAt (fun _ x=>x) 6 (by exact hT.1) ?_
 conv=>whnf
 refine gS ?_;conv=>whnf
 refine RunsS.callN (cloneIt_fn (rws It.row l) (by omega)) [1] ?_ sH ?CNa1
 case CNa1=>rfl
 intro _ _
 conv=>whnf
 refine gS ?_;conv=>whnf
 refine RunsS.subR [] (RunsS.loop (fun (k:Nat)=>[(10,.v (.int .i64 k)),(9,.v (.int .i64 (rws It.row l).length)),(0,.buf 2),(1,.fn (.func 67) [] [.ptr 0 0])]) (fun (k:Nat)=>[(2,.own 41 6 (rws It.row (mixN (fun a=>(resIt s a).getD a) l k))),rsvC 0 mU mI mP mM mO vC]) 3 (fun (k:Nat)=>k≤l.length ∧ ∀i (hi:i<l.length),i<k→resIt s l[i]≠none) (fun (k:Nat)=>l.length - k) ?round2 (0) ?J02) sH sH
 case J02=>exact (⟨Nat.zero_le _,fun _ _ h=>absurd h (Nat.not_lt_zero _)⟩)
 rintro k hJ back
 conv=>whnf
 refine gS ?_;conv=>whnf
 refine ⟨fun hk=>?_,fun hk=>?_⟩<;>conv=>whnf
 ·have hk:k<l.length:=by omega
  have hm:=len_at (f:=It.row) (g:=fun a=>(resIt s a).getD a) hk
  conv=>whnf
  repeat ((first|refine oL ?_|refine oR ?_);(try intro _);conv=>whnf)
  refine RunsS.callT (ResF.tok s mU mI mP mM mO vC) (hT.2) (clIt_fn _ k l[k] (mixN_get hk)) [2,0] sH ?CNa3 ?_
  case CNa3=>rfl
  rintro x hx
  cases hr:resIt s l[k] with
  |none=>
   rw [hr] at hx
   subst hx
   conv=>whnf
   exact UnwS.pan Tryz.func66 (EndS.mk (none) ((allO_none.2 ⟨l[k],List.getElem_mem hk,hr⟩).symm) [] sH rfl rfl (okPan rfl))
  |some i=>
   rw [hr] at hx
   subst hx
   conv=>whnf
   refine gS ?_;conv=>whnf
   repeat ((first|refine oL ?_|refine oR ?_);(try intro _);conv=>whnf)
   refine RunsS.rowsEq 2 (mix_next (f:=It.row) hk hr) ?_;conv=>whnf
   refine RunsS.subR [] (back (k+1) (by exact (⟨hk,snoc_all hk hr hJ.2⟩)) (by (try dsimp only);omega)) sH sH
 have hk:k=l.length:=by omega
 have h3:=all_done hJ.2 hk
 clear back hJ
 subst hk
 conv=>whnf
 refine RunsS.rowsEq 2 (congrArg (rws It.row) mixN_all) ?_;conv=>whnf
 refine RunsS.retU ?_
 exact UnwS.ret tab Tryz.func66 rfl (EndS.mk (some _) (h3.symm) [(1,2)] sH rfl rfl (okRet rfl rfl))
theorem numMc_fn (v:Value) (l:List Mc) (hb:l.length≤1000000):FnT Tryz.prog (NumT v 4 (rws Mc.row l) s mU mI mP mM mO vC) 70 1 [.v v,.fn (.func 71) [] [.ptr 0 0]] [rsvC 0 mU mI mP mM mO vC] (fun x=>x=allO (resMc s) l) (numOut Mc.row 43 4 mU mI mP mM mO vC):=by
 have hl:=rws_len Mc.row l
 refine FnT.of Tryz.func70 (by kernel_rfl) rfl Tryz.ntmps70 rfl fun E0 F h hT w0 cs=>?_
 conv=>whnf
 refine gS ?_;conv=>whnf
 refine RunsS.nameAt (fun _ x=>x) 6 (by exact hT.1) ?_
 conv=>whnf
 refine gS ?_;conv=>whnf
 refine RunsS.callN (cloneMc_fn (rws Mc.row l) (by omega)) [1] ?_ sH ?CNa5
 case CNa5=>rfl
 intro _ _
 conv=>whnf
 refine gS ?_;conv=>whnf
 refine RunsS.subR [] (RunsS.loop (fun (k:Nat)=>[(10,.v (.int .i64 k)),(9,.v (.int .i64 (rws Mc.row l).length)),(0,.buf 2),(1,.fn (.func 71) [] [.ptr 0 0])]) (fun (k:Nat)=>[(2,.own 43 4 (rws Mc.row (mixN (fun a=>(resMc s a).getD a) l k))),rsvC 0 mU mI mP mM mO vC]) 3 (fun (k:Nat)=>k≤l.length ∧ ∀i (hi:i<l.length),i<k→resMc s l[i]≠none) (fun (k:Nat)=>l.length - k) ?round6 (0) ?J06) sH sH
 case J06=>exact (⟨Nat.zero_le _,fun _ _ h=>absurd h (Nat.not_lt_zero _)⟩)
 rintro k hJ back
 conv=>whnf
 refine gS ?_;conv=>whnf
 refine ⟨fun hk=>?_,fun hk=>?_⟩<;>conv=>whnf
 ·have hk:k<l.length:=by omega
  have hm:=len_at (f:=Mc.row) (g:=fun a=>(resMc s a).getD a) hk
  conv=>whnf
  repeat ((first|refine oL ?_|refine oR ?_);(try intro _);conv=>whnf)
  refine RunsS.callT (ResF.tok s mU mI mP mM mO vC) (hT.2) (clMc_fn _ k l[k] (mixN_get hk)) [2,0] sH ?CNa7 ?_
  case CNa7=>rfl
  rintro x hx
  cases hr:resMc s l[k] with
  |none=>
   rw [hr] at hx
   subst hx
   conv=>whnf
   exact UnwS.pan Tryz.func70 (EndS.mk (none) ((allO_none.2 ⟨l[k],List.getElem_mem hk,hr⟩).symm) [] sH rfl rfl (okPan rfl))
  |some i=>
   rw [hr] at hx
   subst hx
   conv=>whnf
   refine gS ?_;conv=>whnf
   repeat ((first|refine oL ?_|refine oR ?_);(try intro _);conv=>whnf)
   refine RunsS.rowsEq 2 (mix_next (f:=Mc.row) hk hr) ?_;conv=>whnf
   refine RunsS.subR [] (back (k+1) (by exact (⟨hk,snoc_all hk hr hJ.2⟩)) (by (try dsimp only);omega)) sH sH
 have hk:k=l.length:=by omega
 have h3:=all_done hJ.2 hk
 clear back hJ
 subst hk
 conv=>whnf
 refine RunsS.rowsEq 2 (congrArg (rws Mc.row) mixN_all) ?_;conv=>whnf
 refine RunsS.retU ?_
 exact UnwS.ret tab Tryz.func70 rfl (EndS.mk (some _) (h3.symm) [(1,2)] sH rfl rfl (okRet rfl rfl))
theorem numRn_fn (v:Value) (l:List Rn) (hb:l.length≤1000000):FnT Tryz.prog (NumT v 3 (rws Rn.row l) s mU mI mP mM mO vC) 80 1 [.v v,.fn (.func 81) [] [.ptr 0 0]] [rsvC 0 mU mI mP mM mO vC] (fun x=>x=allO (resRn s) l) (numOut Rn.row 52 3 mU mI mP mM mO vC):=by
 have hl:=rws_len Rn.row l
 refine FnT.of Tryz.func80 (by kernel_rfl) rfl Tryz.ntmps80 rfl fun E0 F h hT w0 cs=>?_
 conv=>whnf
 refine gS ?_;conv=>whnf
 refine RunsS.nameAt (fun _ x=>x) 6 (by exact hT.1) ?_
 conv=>whnf
 refine gS ?_;conv=>whnf
 refine RunsS.callN (cloneRn_fn (rws Rn.row l) (by omega)) [1] ?_ sH ?CNa9
 case CNa9=>rfl
 intro _ _
 conv=>whnf
 refine gS ?_;conv=>whnf
 refine RunsS.subR [] (RunsS.loop (fun (k:Nat)=>[(10,.v (.int .i64 k)),(9,.v (.int .i64 (rws Rn.row l).length)),(0,.buf 2),(1,.fn (.func 81) [] [.ptr 0 0])]) (fun (k:Nat)=>[(2,.own 52 3 (rws Rn.row (mixN (fun a=>(resRn s a).getD a) l k))),rsvC 0 mU mI mP mM mO vC]) 3 (fun (k:Nat)=>k≤l.length ∧ ∀i (hi:i<l.length),i<k→resRn s l[i]≠none) (fun (k:Nat)=>l.length - k) ?round10 (0) ?J010) sH sH
 case J010=>exact (⟨Nat.zero_le _,fun _ _ h=>absurd h (Nat.not_lt_zero _)⟩)
 rintro k hJ back
 conv=>whnf
 refine gS ?_;conv=>whnf
 refine ⟨fun hk=>?_,fun hk=>?_⟩<;>conv=>whnf
 ·have hk:k<l.length:=by omega
  have hm:=len_at (f:=Rn.row) (g:=fun a=>(resRn s a).getD a) hk
  conv=>whnf
  repeat ((first|refine oL ?_|refine oR ?_);(try intro _);conv=>whnf)
  refine RunsS.callT (ResF.tok s mU mI mP mM mO vC) (hT.2) (clRn_fn _ k l[k] (mixN_get hk)) [2,0] sH ?CNa11 ?_
  case CNa11=>rfl
  rintro x hx
  cases hr:resRn s l[k] with
  |none=>
   rw [hr] at hx
   subst hx
   conv=>whnf
   exact UnwS.pan Tryz.func80 (EndS.mk (none) ((allO_none.2 ⟨l[k],List.getElem_mem hk,hr⟩).symm) [] sH rfl rfl (okPan rfl))
  |some i=>
   rw [hr] at hx
   subst hx
   conv=>whnf
   refine gS ?_;conv=>whnf
   repeat ((first|refine oL ?_|refine oR ?_);(try intro _);conv=>whnf)
   refine RunsS.rowsEq 2 (mix_next (f:=Rn.row) hk hr) ?_;conv=>whnf
   refine RunsS.subR [] (back (k+1) (by exact (⟨hk,snoc_all hk hr hJ.2⟩)) (by (try dsimp only);omega)) sH sH
 have hk:k=l.length:=by omega
 have h3:=all_done hJ.2 hk
 clear back hJ
 subst hk
 conv=>whnf
 refine RunsS.rowsEq 2 (congrArg (rws Rn.row) mixN_all) ?_;conv=>whnf
 refine RunsS.retU ?_
 exact UnwS.ret tab Tryz.func80 rfl (EndS.mk (some _) (h3.symm) [(1,2)] sH rfl rfl (okRet rfl rfl))
theorem numSw_fn (v:Value) (l:List Sw) (hb:l.length≤1000000):FnT Tryz.prog (NumT v 4 (rws Sw.row l) s mU mI mP mM mO vC) 82 1 [.v v,.fn (.func 83) [] [.ptr 0 0]] [rsvC 0 mU mI mP mM mO vC] (fun x=>x=allO (resSw s) l) (numOut Sw.row 54 4 mU mI mP mM mO vC):=by
 have hl:=rws_len Sw.row l
 refine FnT.of Tryz.func82 (by kernel_rfl) rfl Tryz.ntmps82 rfl fun E0 F h hT w0 cs=>?_
 conv=>whnf
 refine gS ?_;conv=>whnf
 refine RunsS.nameAt (fun _ x=>x) 6 (by exact hT.1) ?_
 conv=>whnf
 refine gS ?_;conv=>whnf
 refine RunsS.callN (cloneSw_fn (rws Sw.row l) (by omega)) [1] ?_ sH ?CNa13
 case CNa13=>rfl
 intro _ _
 conv=>whnf
 refine gS ?_;conv=>whnf
 refine RunsS.subR [] (RunsS.loop (fun (k:Nat)=>[(10,.v (.int .i64 k)),(9,.v (.int .i64 (rws Sw.row l).length)),(0,.buf 2),(1,.fn (.func 83) [] [.ptr 0 0])]) (fun (k:Nat)=>[(2,.own 54 4 (rws Sw.row (mixN (fun a=>(resSw s a).getD a) l k))),rsvC 0 mU mI mP mM mO vC]) 3 (fun (k:Nat)=>k≤l.length ∧ ∀i (hi:i<l.length),i<k→resSw s l[i]≠none) (fun (k:Nat)=>l.length - k) ?round14 (0) ?J014) sH sH
 case J014=>exact (⟨Nat.zero_le _,fun _ _ h=>absurd h (Nat.not_lt_zero _)⟩)
 rintro k hJ back
 conv=>whnf
 refine gS ?_;conv=>whnf
 refine ⟨fun hk=>?_,fun hk=>?_⟩<;>conv=>whnf
 ·have hk:k<l.length:=by omega
  have hm:=len_at (f:=Sw.row) (g:=fun a=>(resSw s a).getD a) hk
  conv=>whnf
  repeat ((first|refine oL ?_|refine oR ?_);(try intro _);conv=>whnf)
  refine RunsS.callT (ResF.tok s mU mI mP mM mO vC) (hT.2) (clSw_fn _ k l[k] (mixN_get hk)) [2,0] sH ?CNa15 ?_
  case CNa15=>rfl
  rintro x hx
  cases hr:resSw s l[k] with
  |none=>
   rw [hr] at hx
   subst hx
   conv=>whnf
   exact UnwS.pan Tryz.func82 (EndS.mk (none) ((allO_none.2 ⟨l[k],List.getElem_mem hk,hr⟩).symm) [] sH rfl rfl (okPan rfl))
  |some i=>
   rw [hr] at hx
   subst hx
   conv=>whnf
   refine gS ?_;conv=>whnf
   repeat ((first|refine oL ?_|refine oR ?_);(try intro _);conv=>whnf)
   refine RunsS.rowsEq 2 (mix_next (f:=Sw.row) hk hr) ?_;conv=>whnf
   refine RunsS.subR [] (back (k+1) (by exact (⟨hk,snoc_all hk hr hJ.2⟩)) (by (try dsimp only);omega)) sH sH
 have hk:k=l.length:=by omega
 have h3:=all_done hJ.2 hk
 clear back hJ
 subst hk
 conv=>whnf
 refine RunsS.rowsEq 2 (congrArg (rws Sw.row) mixN_all) ?_;conv=>whnf
 refine RunsS.retU ?_
 exact UnwS.ret tab Tryz.func82 rfl (EndS.mk (some _) (h3.symm) [(1,2)] sH rfl rfl (okRet rfl rfl))
theorem numAm_fn (v:Value) (l:List Am) (hb:l.length≤1000000):FnT Tryz.prog (NumT v 7 (rws Am.row l) s mU mI mP mM mO vC) 112 1 [.v v,.fn (.func 113) [] [.ptr 0 0]] [rsvC 0 mU mI mP mM mO vC] (fun x=>x=allO (resAm s) l) (numOut Am.row 71 7 mU mI mP mM mO vC):=by
 have hl:=rws_len Am.row l
 refine FnT.of Tryz.func112 (by kernel_rfl) rfl Tryz.ntmps112 rfl fun E0 F h hT w0 cs=>?_
 conv=>whnf
 refine gS ?_;conv=>whnf
 refine RunsS.nameAt (fun _ x=>x) 6 (by exact hT.1) ?_
 conv=>whnf
 refine gS ?_;conv=>whnf
 refine RunsS.callN (cloneAm_fn (rws Am.row l) (by omega)) [1] ?_ sH ?CNa17
 case CNa17=>rfl
 intro _ _
 conv=>whnf
 refine gS ?_;conv=>whnf
 refine RunsS.subR [] (RunsS.loop (fun (k:Nat)=>[(10,.v (.int .i64 k)),(9,.v (.int .i64 (rws Am.row l).length)),(0,.buf 2),(1,.fn (.func 113) [] [.ptr 0 0])]) (fun (k:Nat)=>[(2,.own 71 7 (rws Am.row (mixN (fun a=>(resAm s a).getD a) l k))),rsvC 0 mU mI mP mM mO vC]) 3 (fun (k:Nat)=>k≤l.length ∧ ∀i (hi:i<l.length),i<k→resAm s l[i]≠none) (fun (k:Nat)=>l.length - k) ?round18 (0) ?J018) sH sH
 case J018=>exact (⟨Nat.zero_le _,fun _ _ h=>absurd h (Nat.not_lt_zero _)⟩)
 rintro k hJ back
 conv=>whnf
 refine gS ?_;conv=>whnf
 refine ⟨fun hk=>?_,fun hk=>?_⟩<;>conv=>whnf
 ·have hk:k<l.length:=by omega
  have hm:=len_at (f:=Am.row) (g:=fun a=>(resAm s a).getD a) hk
  conv=>whnf
  repeat ((first|refine oL ?_|refine oR ?_);(try intro _);conv=>whnf)
  refine RunsS.callT (ResF.tok s mU mI mP mM mO vC) (hT.2) (clAm_fn _ k l[k] (mixN_get hk)) [2,0] sH ?CNa19 ?_
  case CNa19=>rfl
  rintro x hx
  cases hr:resAm s l[k] with
  |none=>
   rw [hr] at hx
   subst hx
   conv=>whnf
   exact UnwS.pan Tryz.func112 (EndS.mk (none) ((allO_none.2 ⟨l[k],List.getElem_mem hk,hr⟩).symm) [] sH rfl rfl (okPan rfl))
  |some i=>
   rw [hr] at hx
   subst hx
   conv=>whnf
   refine gS ?_;conv=>whnf
   repeat ((first|refine oL ?_|refine oR ?_);(try intro _);conv=>whnf)
   refine RunsS.rowsEq 2 (mix_next (f:=Am.row) hk hr) ?_;conv=>whnf
   refine RunsS.subR [] (back (k+1) (by exact (⟨hk,snoc_all hk hr hJ.2⟩)) (by (try dsimp only);omega)) sH sH
 have hk:k=l.length:=by omega
 have h3:=all_done hJ.2 hk
 clear back hJ
 subst hk
 conv=>whnf
 refine RunsS.rowsEq 2 (congrArg (rws Am.row) mixN_all) ?_;conv=>whnf
 refine RunsS.retU ?_
 exact UnwS.ret tab Tryz.func112 rfl (EndS.mk (some _) (h3.symm) [(1,2)] sH rfl rfl (okRet rfl rfl))
theorem numCd_fn (v:Value) (l:List Cd) (hb:l.length≤1000000):FnT Tryz.prog (NumT v 4 (rws Cd.row l) s mU mI mP mM mO vC) 109 1 [.v v,.fn (.func 110) [] [.ptr 0 0]] [rsvC 0 mU mI mP mM mO vC] (fun x=>x=allO (resCd s) l) (numOut Cd.row 64 4 mU mI mP mM mO vC):=by
 have hl:=rws_len Cd.row l
 refine FnT.of Tryz.func109 (by kernel_rfl) rfl Tryz.ntmps109 rfl fun E0 F h hT w0 cs=>?_
 conv=>whnf
 refine gS ?_;conv=>whnf
 refine RunsS.nameAt (fun _ x=>x) 6 (by exact hT.1) ?_
 conv=>whnf
 refine gS ?_;conv=>whnf
 refine RunsS.callN (cloneCd_fn (rws Cd.row l) (by omega)) [1] ?_ sH ?CNa21
 case CNa21=>rfl
 intro _ _
 conv=>whnf
 refine gS ?_;conv=>whnf
 refine RunsS.subR [] (RunsS.loop (fun (k:Nat)=>[(10,.v (.int .i64 k)),(9,.v (.int .i64 (rws Cd.row l).length)),(0,.buf 2),(1,.fn (.func 110) [] [.ptr 0 0])]) (fun (k:Nat)=>[(2,.own 64 4 (rws Cd.row (mixN (fun a=>(resCd s a).getD a) l k))),rsvC 0 mU mI mP mM mO vC]) 3 (fun (k:Nat)=>k≤l.length ∧ ∀i (hi:i<l.length),i<k→resCd s l[i]≠none) (fun (k:Nat)=>l.length - k) ?round22 (0) ?J022) sH sH
 case J022=>exact (⟨Nat.zero_le _,fun _ _ h=>absurd h (Nat.not_lt_zero _)⟩)
 rintro k hJ back
 conv=>whnf
 refine gS ?_;conv=>whnf
 refine ⟨fun hk=>?_,fun hk=>?_⟩<;>conv=>whnf
 ·have hk:k<l.length:=by omega
  have hm:=len_at (f:=Cd.row) (g:=fun a=>(resCd s a).getD a) hk
  conv=>whnf
  repeat ((first|refine oL ?_|refine oR ?_);(try intro _);conv=>whnf)
  refine RunsS.callT (ResF.tok s mU mI mP mM mO vC) (hT.2) (clCd_fn _ k l[k] (mixN_get hk)) [2,0] sH ?CNa23 ?_
  case CNa23=>rfl
  rintro x hx
  cases hr:resCd s l[k] with
  |none=>
   rw [hr] at hx
   subst hx
   conv=>whnf
   exact UnwS.pan Tryz.func109 (EndS.mk (none) ((allO_none.2 ⟨l[k],List.getElem_mem hk,hr⟩).symm) [] sH rfl rfl (okPan rfl))
  |some i=>
   rw [hr] at hx
   subst hx
   conv=>whnf
   refine gS ?_;conv=>whnf
   repeat ((first|refine oL ?_|refine oR ?_);(try intro _);conv=>whnf)
   refine RunsS.rowsEq 2 (mix_next (f:=Cd.row) hk hr) ?_;conv=>whnf
   refine RunsS.subR [] (back (k+1) (by exact (⟨hk,snoc_all hk hr hJ.2⟩)) (by (try dsimp only);omega)) sH sH
 have hk:k=l.length:=by omega
 have h3:=all_done hJ.2 hk
 clear back hJ
 subst hk
 conv=>whnf
 refine RunsS.rowsEq 2 (congrArg (rws Cd.row) mixN_all) ?_;conv=>whnf
 refine RunsS.retU ?_
 exact UnwS.ret tab Tryz.func109 rfl (EndS.mk (some _) (h3.symm) [(1,2)] sH rfl rfl (okRet rfl rfl))
end
end Go.Proofs.YtofjdbmcloemnaaGreatDoor

namespace Go.Proofs.YtofjdbmcloemnaaGreatDoor
open Go Go.Fw Go.NatM Go.RatM Go.SrcM
set_option maxRecDepth 100000
set_option maxHeartbeats 99999999
theorem NumT.up {v:Value} {sz:Nat} {rows:List (List Value)} {s:SrcV} {mU mI mP mM mO vC:Value} {G G':Nat→Prop} {h h':Array Obj} (H:NumT v sz rows s mU mI mP mM mO vC G h) (U:Up G h G' h'):NumT v sz rows s mU mI mP mM mO vC G' h':=
 ⟨RoF.up U H.1,H.2.up U⟩
abbrev SliJ {α β:Type} (row:β→List Value) (sz:Nat) (f:α→Option β) (l:List α) (x:Option Value) (G:Nat→Prop) (h:Array Obj):Prop:=match x with
 |some r=>∃m,allO f l=some m∧RoF G h r sz (rws row m)
 |none=>allO f l=none
abbrev sliOut:Option Value→OutS
 |some r=>.ret (.v r) 0 []
 |none=>.pan failCh 0 []
section
variable {s:SrcV} {mU mI mP mM mO vC:Value}
theorem conds_fn (v:Value) (l:List Cd) (hb:l.length≤1000000):FnX Tryz.prog 76 0 [.agg [.v mU,.v mI,.v mP,.v mM,.v mO,.v vC],.v v] [] (NumT v 4 (rws Cd.row l) s mU mI mP mM mO vC) (SliJ Cd.row 4 (resCd s) l) sliOut:=by
 refine FnX.of Tryz.func76 (by kernel_rfl) rfl Tryz.ntmps76 rfl fun E0 F G h N hP w0 cs=>?_
 conv=>whnf
 refine gS ?_;conv=>whnf
 refine RunsS.callT (NumT.tok _ _ _ _ _ _ _ _ _ _) (hP.up ⟨N.gsub,fun _ _=>rfl⟩) (numCd_fn v l hb) [0] sH ?CNa1 ?_
 case CNa1=>rfl
 rintro x hx
 cases hm:allO (resCd s) l with
 |none=>
  rw [hm] at hx
  subst hx
  conv=>whnf
  exact UnwS.pan Tryz.func76 (EndX.mk (N) (none) (fun h U=>hm) [] sH rfl rfl (okPan rfl))
 |some m=>
  rw [hm] at hx
  subst hx
  conv=>whnf
  refine gS ?_;conv=>whnf
  refine RunsS.conc (n:=m.length) (N.gsub) 1 ?_ (hlen:=rws_len Cd.row m)
  intro a1 c1 G1 h1 N1 R1
  conv=>whnf
  refine gS ?_;conv=>whnf
  refine RunsS.retU ?_
  exact UnwS.ret tab Tryz.func76 rfl (eX (N.trans N1) (some _) (fun h U=>⟨m,hm,RoF.up U R1⟩))
theorem amounts_fn (v:Value) (l:List Am) (hb:l.length≤1000000):FnX Tryz.prog 79 0 [.agg [.v mU,.v mI,.v mP,.v mM,.v mO,.v vC],.v v] [] (NumT v 7 (rws Am.row l) s mU mI mP mM mO vC) (SliJ Am.row 7 (resAm s) l) sliOut:=by
 refine FnX.of Tryz.func79 (by kernel_rfl) rfl Tryz.ntmps79 rfl fun E0 F G h N hP w0 cs=>?_
 conv=>whnf
 refine gS ?_;conv=>whnf
 refine RunsS.callT (NumT.tok _ _ _ _ _ _ _ _ _ _) (hP.up ⟨N.gsub,fun _ _=>rfl⟩) (numAm_fn v l hb) [0] sH ?CNa2 ?_
 case CNa2=>rfl
 rintro x hx
 cases hm:allO (resAm s) l with
 |none=>
  rw [hm] at hx
  subst hx
  conv=>whnf
  exact UnwS.pan Tryz.func79 (EndX.mk (N) (none) (fun h U=>hm) [] sH rfl rfl (okPan rfl))
 |some m=>
  rw [hm] at hx
  subst hx
  conv=>whnf
  refine gS ?_;conv=>whnf
  refine RunsS.conc (n:=m.length) (N.gsub) 1 ?_ (hlen:=rws_len Am.row m)
  intro a1 c1 G1 h1 N1 R1
  conv=>whnf
  refine gS ?_;conv=>whnf
  refine RunsS.retU ?_
  exact UnwS.ret tab Tryz.func79 rfl (eX (N.trans N1) (some _) (fun h U=>⟨m,hm,RoF.up U R1⟩))
end
end Go.Proofs.YtofjdbmcloemnaaGreatDoor

namespace Go.Proofs.YtofjdbmcloemnaaGreatDoor
open Go Go.Fw Go.NatM Go.RatM Go.SrcM
set_option maxRecDepth 100000
set_option maxHeartbeats 99999999
section
variable {s:SrcV} {mU mI mP mM mO vC:Value}
theorem RoF.sli {G:Nat→Prop} {h:Array Obj} {v:Value} {sz n:Nat} {rows:List (List Value)} (H:RoF G h v sz rows) (e:rows.length=n):∃a c,v=.slice a n c:=by
 obtain ⟨_,_,a,c,rfl,_⟩:=H
 exact ⟨a,c,by rw [e]⟩
theorem clOp_fn (rows:List (List Value)) (k:Nat) (i:OpV) (hrow:rows[k]? = some i.row) (hb:i.ch.length≤1000000):FnX Tryz.prog 73 1 [.row 0 k 0 2] [(0,.own 61 2 rows)] (fun G h=>i.ok G h) (fun (x:Hd) G h=>OpV.ok G h {i with hd:=x})
  (fun x=>.ret (.tup []) 1 [(0,.own 61 2 (rows.set k (OpV.row {i with hd:=x})))]):=by
 have hr':rows[((k:Nat):Int).toNat]? = some i.row:=hrow
 have hlt:k<rows.length:=(List.getElem?_eq_some_iff.1 hrow).1
 have hl:=rwsB_len i.ch
 refine FnX.of Tryz.func73 (by kernel_rfl) rfl Tryz.ntmps73 rfl fun E0 F G h N hP w0 cs=>?_
 conv=>whnf
 refine gS ?_;conv=>whnf
 refine ⟨_,hr',?_⟩;conv=>whnf
 refine RunsS.nameAt (fun _ x=>x) 6 (by exact OpV.ok.up hP ⟨N.gsub,fun _ _=>rfl⟩) ?_
 conv=>whnf
 refine gS ?_;conv=>whnf
 refine RunsS.callN (cloneSt_fn (rwsB i.ch) (by omega)) [1] ?_ sH ?CNa1
 case CNa1=>rfl
 intro _ _
 conv=>whnf
 refine gS ?_;conv=>whnf
 refine RunsS.conc (n:=i.ch.length) (N.gsub) 2 ?_ (hlen:=hl)
 intro a1 c1 G1 h1 N1 R1
 conv=>whnf
 refine gS ?_;conv=>whnf
 refine ⟨_,hr',?_⟩;conv=>whnf
 refine RunsS.finU ?_
 exact UnwS.ret tab Tryz.func73 rfl (eX (N.trans N1) (⟨a1,c1⟩) (fun h U=>RoF.up U R1))
abbrev fbOut (e sz:Nat) (rows:List (List Value)) (k:Nat) (mU mI mP mM mO vC:Value):Option FbV→OutS
 |some j=>.ret (.tup []) 2 [(0,.own e sz (rows.set k j.row)),rsvC 1 mU mI mP mM mO vC]
 |none=>.pan failCh 2 []
theorem clFb_fn (rows:List (List Value)) (k:Nat) (i:FbV) (hrow:rows[k]? = some i.row) (hb:i.cs.length≤1000000):FnX Tryz.prog 75 2 [.row 0 k 0 1,.ptr 1 0] [(0,.own 45 1 rows),rsvC 1 mU mI mP mM mO vC] (fun G h=>i.ok G h∧ResF G h s mU mI mP mM mO vC)
  (fun (x:Option FbV) G h=>match x with
   |some j=>allO (resCd s) i.cs=some j.cs∧j.ok G h
   |none=>allO (resCd s) i.cs=none) (fbOut 45 1 rows k mU mI mP mM mO vC):=by
 have hr':rows[((k:Nat):Int).toNat]? = some i.row:=hrow
 have hlt:k<rows.length:=(List.getElem?_eq_some_iff.1 hrow).1
 refine FnX.of Tryz.func75 (by kernel_rfl) rfl Tryz.ntmps75 rfl fun E0 F G h N hP w0 cs=>?_
 conv=>whnf
 refine gS ?_;conv=>whnf
 refine RunsS.held tab (.fl 0 (.fl 1 (.fl 2 (.fl 3 (.fl 4 (.e1 5 [] (.fl 6 (.e1 7 [] .done)))))))) (by kernel_rfl) ?_;conv=>whnf
 try refine gR ?_;conv=>whnf
 conv=>whnf
 refine ⟨_,hr',?_⟩;conv=>whnf
 conv=>whnf
 refine EffR.callX (N.gsub) (conds_fn _ i.cs hb) (fun h U=>⟨RoF.up U hP.1,hP.2.up U⟩) [] sH ?CNa2 ?_
 case CNa2=>rfl
 rintro (_|r) G1 h1 N1 J1
 ·conv=>whnf
  exact UnwS.pan Tryz.func75 (EndX.mk (N.trans N1) (none) (fun h U=>J1) [] sH rfl rfl (okPan rfl))
 obtain ⟨m,hm,R1⟩:=J1
 obtain ⟨a1,c1,rfl⟩:=RoF.sli R1 (rws_len Cd.row m)
 conv=>whnf
 try refine oB ?_
 try refine gR ?_;conv=>whnf
 conv=>whnf
 refine EffR.rput tab (_) (hr') ?_;conv=>whnf
 try refine oB ?_
 try refine gR ?_;conv=>whnf
 refine gS ?_;conv=>whnf
 refine RunsS.finU ?_
 exact UnwS.ret tab Tryz.func75 rfl (eX (N.trans N1) (some ⟨⟨a1,c1⟩,m⟩) (fun h U=>⟨hm,RoF.up U R1⟩))
end
end Go.Proofs.YtofjdbmcloemnaaGreatDoor

namespace Go.Proofs.YtofjdbmcloemnaaGreatDoor
open Go Go.Fw Go.NatM Go.RatM Go.SrcM
set_option maxRecDepth 100000
set_option maxHeartbeats 99999999
section
variable {s:SrcV} {mU mI mP mM mO vC:Value}
theorem set5 (l:List (List Value)) (k:Nat) (a b c d e:List Value):((((l.set k a).set k b).set k c).set k d).set k e=l.set k e:=by simp only [List.set_set]
abbrev rcOut (e sz:Nat) (rows:List (List Value)) (k:Nat) (mU mI mP mM mO vC:Value):Option RcV→OutS
 |some j=>.ret (.tup []) 2 [(0,.own e sz (rows.set k j.row)),rsvC 1 mU mI mP mM mO vC]
 |none=>.pan failCh 2 []
theorem clRc_fn (rows:List (List Value)) (k:Nat) (i:RcV) (hrow:rows[k]? = some i.row) (hc:i.cs.length≤1000000) (hi:i.inn.length≤1000000) (ho:i.out.length≤1000000) (hn:i.runs.length≤1000000):FnX Tryz.prog 78 2 [.row 0 k 0 17,.ptr 1 0] [(0,.own 49 17 rows),rsvC 1 mU mI mP mM mO vC] (fun G h=>i.ok G h∧ResF G h s mU mI mP mM mO vC)
  (fun (x:Option RcV) G h=>match x with
   |some j=>(resRc s i).map RcV.bare=some j.bare∧j.ok G h
   |none=>resRc s i=none) (rcOut 49 17 rows k mU mI mP mM mO vC):=by
 have hr':rows[((k:Nat):Int).toNat]? = some i.row:=hrow
 have hlt:k<rows.length:=(List.getElem?_eq_some_iff.1 hrow).1
 obtain ⟨y,hy⟩:∃y,y=resRc s i:=⟨_,rfl⟩
 rw [←hy]
 unfold resRc at hy
 refine FnX.of Tryz.func78 (by kernel_rfl) rfl Tryz.ntmps78 rfl fun E0 F G h N hP w0 cs=>?_
 conv=>whnf
 refine gS ?_;conv=>whnf
 refine RunsS.held tab (.fl 0 (.fl 1 (.fl 2 (.fl 3 (.fl 4 (.fl 5 (.fl 6 (.fl 7 (.fl 9 (.fl 10 (.fl 11 (.fl 12 (.fl 13 (.fl 14 (.e1 8 [10,14] (.e1 15 [] (.fl 16 (.fl 17 (.e1 18 [] (.fl 19 (.fl 20 (.e1 21 [] .done)))))))))))))))))))))) (by kernel_rfl) ?_;conv=>whnf
 try refine gR ?_;conv=>whnf
 conv=>whnf
 refine ⟨_,hr',?_⟩;conv=>whnf
 conv=>whnf
 refine ⟨_,hr',?_⟩;conv=>whnf
 conv=>whnf
 have hT:=hP.2.up (G':=F) (h':=h) ⟨N.gsub,fun _ _=>rfl⟩
 cases hf:findN (s.items.map It.name) i.item with
 |none=>
  rw [hf] at hy
  refine EffR.callF (fun Ez Hz Az Sz K=>find_no (hT.i.up (Up.kp K)) hf) (by (conv=>whnf);(repeat (guard_target=_∧_;refine And.intro (by (conv=>whnf);first|rfl|exact trivial) ?_;conv=>whnf));exact trivial) ?_
  exact UnwS.pan Tryz.func78 (EndX.mk (N) (none) (fun h U=>hy) [] sH rfl rfl (okPan rfl))
 |some u=>
  rw [hf] at hy
  refine EffR.callS (fun Ez Hz Az Sz K=>find_some (hT.i.up (Up.kp K)) hf) (by (conv=>whnf);(repeat (guard_target=_∧_;refine And.intro (by (conv=>whnf);first|rfl|exact trivial) ?_;conv=>whnf));exact trivial) ?_
  conv=>whnf
  try refine gR ?_;conv=>whnf
  conv=>whnf
  cases hg:findN s.plants i.plant with
  |none=>
   simp only [hg] at hy
   refine EffR.callF (fun Ez Hz Az Sz K=>find_no (hT.p.up (Up.kp K)) hg) (by (conv=>whnf);(repeat (guard_target=_∧_;refine And.intro (by (conv=>whnf);first|rfl|exact trivial) ?_;conv=>whnf));exact trivial) ?_
   exact UnwS.pan Tryz.func78 (EndX.mk (N) (none) (fun h U=>hy) [] sH rfl rfl (okPan rfl))
  |some p=>
   simp only [hg] at hy
   refine EffR.callS (fun Ez Hz Az Sz K=>find_some (hT.p.up (Up.kp K)) hg) (by (conv=>whnf);(repeat (guard_target=_∧_;refine And.intro (by (conv=>whnf);first|rfl|exact trivial) ?_;conv=>whnf));exact trivial) ?_
   conv=>whnf
   try refine gR ?_;conv=>whnf
   conv=>whnf
   refine EffR.rput tab (_) (hr') ?_;conv=>whnf
   try refine oB ?_
   try refine gR ?_;conv=>whnf
   conv=>whnf
   refine EffR.rput tab (_) (set_at hr') ?_;conv=>whnf
   try refine oB ?_
   try refine gR ?_;conv=>whnf
   refine gS ?_;conv=>whnf
   obtain ⟨i1,hi1⟩:∃i1:RcV,i1 = {i with inum:=(u:Nat),pnum:=(p:Nat)}:=⟨_,rfl⟩
   obtain ⟨rs,hrs⟩:∃rs,rs=rows.set k (RcV.row i1):=⟨_,rfl⟩
   have hr1:rs[((k:Nat):Int).toNat]? = some (RcV.row i1):=by rw [hrs];exact set_at hr'
   have hlt1:k<rs.length:=(List.getElem?_eq_some_iff.1 hr1).1
   refine RunsS.rowsEq 0 (show (rows.set k (splV i.row 15 [.int .i64 u])).set k (splV (splV i.row 15 [.int .i64 u]) 16 [.int .i64 p])=rs by rw [hrs,hi1,List.set_set];rfl) ?_
   have c1:i1.cs=i.cs:=by rw [hi1]
   have c2:i1.inn=i.inn:=by rw [hi1]
   have c3:i1.out=i.out:=by rw [hi1]
   have c4:i1.runs=i.runs:=by rw [hi1]
   have ok1:i1.ok G h:=by rw [hi1];exact ⟨hP.1.c,hP.1.i,hP.1.o,hP.1.rn⟩
   conv=>whnf
   refine gS ?_;conv=>whnf
   refine RunsS.held tab (.fl 0 (.fl 1 (.fl 2 (.fl 3 (.fl 4 (.fl 5 (.fl 6 (.fl 7 (.fl 9 (.fl 10 (.fl 11 (.fl 12 (.fl 13 (.fl 15 (.fl 16 (.fl 17 (.fl 18 (.fl 19 (.e1 8 [9,13,15,19] (.e1 14 [15,19] (.e1 20 [] (.fl 21 (.fl 22 (.e1 23 [] (.fl 24 (.fl 25 (.e1 26 [] (.fl 27 (.fl 28 (.e1 29 [] .done)))))))))))))))))))))))))))))) (by kernel_rfl) ?_;conv=>whnf
   try refine gR ?_;conv=>whnf
   conv=>whnf
   refine ⟨_,hr1,?_⟩;conv=>whnf
   conv=>whnf
   refine ⟨_,hr1,?_⟩;conv=>whnf
   conv=>whnf
   refine ⟨_,hr1,?_⟩;conv=>whnf
   conv=>whnf
   refine EffR.callX (N.gsub) (conds_fn _ i1.cs (by rw [c1];exact hc)) (fun h U=>⟨RoF.up U ok1.c,hP.2.up U⟩) [] sH ?CNa1 ?_
   case CNa1=>rfl
   rintro (_|v1) G1 h1 N1 J1
   ·conv=>whnf
    rw [c1] at J1
    simp only [J1] at hy
    exact UnwS.pan Tryz.func78 (EndX.mk (N.trans N1) (none) (fun h U=>hy) [] sH rfl rfl (okPan rfl))
   obtain ⟨m1,hm1,R1⟩:=J1
   have U1:=Now.step N.gsub N1
   obtain ⟨a1,d1,rfl⟩:=RoF.sli R1 (rws_len Cd.row m1)
   rw [c1] at hm1
   simp only [hm1] at hy
   conv=>whnf
   try refine oB ?_
   try refine gR ?_;conv=>whnf
   conv=>whnf
   refine EffR.callX (N1.gsub) (amounts_fn _ i1.inn (by rw [c2];exact hi)) (fun h U=>⟨RoF.up (U1.trans U) ok1.i,hP.2.up (U1.trans U)⟩) [] sH ?CNa2 ?_
   case CNa2=>rfl
   rintro (_|v2) G2 h2 N2 J2
   ·conv=>whnf
    rw [c2] at J2
    simp only [J2] at hy
    exact UnwS.pan Tryz.func78 (EndX.mk ((N.trans N1).trans N2) (none) (fun h U=>hy) [] sH rfl rfl (okPan rfl))
   obtain ⟨m2,hm2,R2⟩:=J2
   have U2:=Now.step N1.gsub N2
   obtain ⟨a2,d2,rfl⟩:=RoF.sli R2 (rws_len Am.row m2)
   rw [c2] at hm2
   simp only [hm2] at hy
   conv=>whnf
   try refine oB ?_
   try refine gR ?_;conv=>whnf
   conv=>whnf
   refine EffR.callX (N2.gsub) (amounts_fn _ i1.out (by rw [c3];exact ho)) (fun h U=>⟨RoF.up (U1.trans (U2.trans U)) ok1.o,hP.2.up (U1.trans (U2.trans U))⟩) [] sH ?CNa3 ?_
   case CNa3=>rfl
   rintro (_|v3) G3 h3 N3 J3
   ·conv=>whnf
    rw [c3] at J3
    simp only [J3] at hy
    exact UnwS.pan Tryz.func78 (EndX.mk (((N.trans N1).trans N2).trans N3) (none) (fun h U=>hy) [] sH rfl rfl (okPan rfl))
   obtain ⟨m3,hm3,R3⟩:=J3
   have U3:=Now.step N2.gsub N3
   obtain ⟨a3,d3,rfl⟩:=RoF.sli R3 (rws_len Am.row m3)
   rw [c3] at hm3
   simp only [hm3] at hy
   conv=>whnf
   try refine oB ?_
   try refine gR ?_;conv=>whnf
   conv=>whnf
   refine EffR.rput tab (_) (hr1) ?_;conv=>whnf
   try refine oB ?_
   try refine gR ?_;conv=>whnf
   conv=>whnf
   refine EffR.rput tab (_) (set_at hr1) ?_;conv=>whnf
   try refine oB ?_
   try refine gR ?_;conv=>whnf
   conv=>whnf
   refine EffR.rput tab (_) (set_at (set_at hr1)) ?_;conv=>whnf
   try refine oB ?_
   try refine gR ?_;conv=>whnf
   refine gS ?_;conv=>whnf
   refine ⟨_,set_at (set_at (set_at hr1)),?_⟩;conv=>whnf
   have U4:=U1.trans (U2.trans (U3.trans ⟨N3.gsub,fun _ _=>rfl⟩))
   refine RunsS.callT (NumT.tok _ _ _ _ _ _ _ _ _ _) (⟨RoF.up U4 ok1.rn,hP.2.up U4⟩) (numRn_fn _ i1.runs (by rw [c4];exact hn)) [1] sH ?CNa4 ?_
   case CNa4=>rfl
   rintro x hx
   rw [c4] at hx
   cases hm:allO (resRn s) i.runs with
   |none=>
    rw [hm] at hx
    subst hx
    simp only [hm] at hy
    conv=>whnf
    exact UnwS.pan Tryz.func78 (EndX.mk (((N.trans N1).trans N2).trans N3) (none) (fun h U=>hy) [] sH rfl rfl (okPan rfl))
   |some m4=>
    rw [hm] at hx
    subst hx
    simp only [hm] at hy
    conv=>whnf
    refine gS ?_;conv=>whnf
    refine RunsS.conc (n:=m4.length) (N3.gsub) 2 ?_ (hlen:=rws_len Rn.row m4)
    intro a4 d4 G4 h4 N4 R4
    conv=>whnf
    refine gS ?_;conv=>whnf
    have U5:=Now.step N3.gsub N4
    refine ⟨_,set_at (set_at (set_at hr1)),?_⟩;conv=>whnf
    subst hrs
    subst hi1
    refine RunsS.rowsEq 0 ((set5 rows k _ _ _ _ _).trans (show _=rows.set k (RcV.row {i with inum:=(u:Nat),pnum:=(p:Nat),hc:=⟨a1,d1⟩,cs:=m1,hi:=⟨a2,d2⟩,inn:=m2,ho:=⟨a3,d3⟩,out:=m3,hr:=⟨a4,d4⟩,runs:=m4}) from rfl)) ?_;conv=>whnf
    refine RunsS.finU ?_
    exact UnwS.ret tab Tryz.func78 rfl (eX ((((N.trans N1).trans N2).trans N3).trans N4) (some {i with inum:=(u:Nat),pnum:=(p:Nat),hc:=⟨a1,d1⟩,cs:=m1,hi:=⟨a2,d2⟩,inn:=m2,ho:=⟨a3,d3⟩,out:=m3,hr:=⟨a4,d4⟩,runs:=m4}) (fun h U=>⟨by rw [hy];rfl,RoF.up (U2.trans (U3.trans (U5.trans U))) R1,RoF.up (U3.trans (U5.trans U)) R2,RoF.up (U5.trans U) R3,RoF.up U R4⟩))
end
end Go.Proofs.YtofjdbmcloemnaaGreatDoor
