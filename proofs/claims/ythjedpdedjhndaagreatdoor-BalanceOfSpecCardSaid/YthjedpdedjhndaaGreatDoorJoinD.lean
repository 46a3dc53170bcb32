/- Texts of this seat, joined: The reference: minus, Add, Sub. The reference: Mul. The reference: Int. One digit of a long division; plain. LeadingZeros6 -/
import Derived.Test.YthjedpdedjhndaaGreatDoorJoinC
import Derived.Lib.TrailingZeros
set_option linter.unusedVariables false
set_option linter.unusedSimpArgs false
set_option maxRecDepth 100000
set_option maxHeartbeats 99999999
namespace Go.Proofs.YthjedpdedjhndaaGreatDoor
open Go Go.Fw Go.NatM
theorem aEK.shape {base:Nat} {h:Array Obj} {v:Value} {xs:List Int} (H:aEK base h v xs) {n:Nat} (hn:xs.length=n):∃a cap,v=.slice a n cap:=by
 subst hn;exact Own.shape H
theorem aZG {h:Array Obj} {a b:ByteArray} (ha:vX a) (hb:vX b) (hsa:a.size<=1000000) (hsb:b.size<=1000000) (hle:eJ b<=eJ a):
  FV 278 #[.string a,.string b] h (.string (enc (eJ a - eJ b))):=by
 have hba:b.size<=a.size:=by
  rcases Nat.lt_or_ge a.size b.size with h|h
  ·have:=bDF ha hb h;omega
  exact h
 refine Fn.of (args:=[.string a,.string b]) Tryz.func278 (by kernel_rfl) rfl Tryz.ntmps278 rfl fun w0 cs=>?_;refine gO ?_;conv=>whnf
 refine aD.callV (aES a (by omega)) ?_;rintro vx h1 ⟨ox,k1⟩
 (try refine gO ?_);conv=>whnf
 refine aD.callV (aES b (by omega)) ?_;rintro vy h2 ⟨oy,k2⟩
 (try refine gO ?_);conv=>whnf
 have ox2:=(ox.at_keeps k2 (Nat.le_refl _)).ir;have oy2:=oy.ir;obtain ⟨ax,cx,rfl⟩:=ox.shape (nU a a.size);obtain ⟨ay,cy,rfl⟩:=oy.shape (nU b b.size);rw [nU] at ox2 oy2;have kk2:aH h.size h h2:=k1.trans (k2.mono k1.size);refine aD.eff (iN tab [] (h1:=by simp)) ?_;rintro _ _ ⟨rfl,rfl⟩
 (try refine gO ?_);conv=>whnf
 obtain ⟨n,hn⟩:∃n,n=a.size:=⟨_,rfl⟩;have hf:∀i,-256<=dAt (dgs a a.size) i+(-1)*dAt (dgs b b.size) i/\dAt (dgs a a.size) i+(-1)*dAt (dgs b b.size) i<=512:=fun i=>by
  have e1:=aLN (aLO a a.size) i;have e2:=aLN (aLO b b.size) i;omega
 refine aD.loop (X:=Nat×Value) (fun q=>[(5,.slice ax a.size cx),(6,.slice ay b.size cy),(7,q.2),(8,.int .i64 (q.1:Nat))])
  (fun q h'=>q.1<=n/\aEK h2.size h' q.2 (mkL (fun i=>dAt (dgs a a.size) i+(-1)*dAt (dgs b b.size) i) q.1)/\aH h2.size h2 h') (fun q=>n - q.1) (0,.slice (some ⟨h2.size,0,none⟩) 0 0)
  ⟨Nat.zero_le _,⟨rfl,.inr ⟨h2.size,0,_,rfl,Nat.le_refl _,gH _ _ _,Nat.zero_le _,by unfold maxLen;omega,by simp,by simp [mkL]⟩⟩,(aH.refl _ _).push (Nat.le_refl _) _⟩ ⟨rfl,rfl,rfl,rfl,trivial⟩ ?_
 rintro ⟨i,buf⟩ h' ⟨hi,hbuf,hkp⟩ ih;dsimp only at hi hbuf ⊢;have hsz':=hkp.size;obtain ⟨ab,capb,rfl⟩:=hbuf.shape (aDR _ i);have hbuf':Own h2.size h' 3 1 (.slice ab i capb) i ((mkL (fun i=>dAt (dgs a a.size) i+(-1)*dAt (dgs b b.size) i) i).map fun (x:Int)=>Value.int .i64 x):=by
  unfold aEK at hbuf;rw [aDR] at hbuf;exact hbuf
 (try refine gO ?_);conv=>whnf
 refine ⟨fun h5=>?_,fun h5=>?_⟩<;>conv=>whnf
 ·refine aD.callV (bDC (ox2.keeps hkp) i) ?_;rintro _ h' ⟨rfl,rfl⟩
  (try refine gO ?_);conv=>whnf
  refine aD.callV (bDC (oy2.keeps hkp) i) ?_;rintro _ h' ⟨rfl,rfl⟩;have hfi:=hf i
  (try refine gO ?_);conv=>whnf
  repeat (refine oL ?_;conv=>whnf)
  obtain ⟨z,hz⟩:∃z,z=dAt (dgs a a.size) i+(-1)*dAt (dgs b b.size) i:=⟨_,rfl⟩;rw [show dAt (dgs a a.size) i - dAt (dgs b b.size) i=z by omega];refine aD.eff (iN tab [.int .i64 z] (h1:=by simp [Value.cells])) ?_;rintro _ _ ⟨rfl,rfl⟩
  (try refine gO ?_);conv=>whnf
  have hnews:∀j u,[Value.int .i64 z][j]? = some u->bL (h'.push (.cells #[Value.int .i64 z] 3 (0,0))) h'.size (0+j)=some u:=fun j u hu=>by
   rw [(gH _ _ _).cell,Nat.zero_add]
   cases j with
   |zero=>simpa using hu
   |succ j=>simp at hu
  refine aD.eff (xT tab (base:=h2.size) (m:=i) (m2:=1) (news:=[Value.int .i64 z]) (Own.push hbuf' _) rfl hnews (by simp [Value.oneCell']) (h63:=by unfold maxLen;omega) (hbytes:=by dsimp only;omega) (hbase:=by simp;omega)) ?_;rintro v' h3 ⟨H1,H2,H3,_⟩
  (try refine gO ?_);conv=>whnf
  repeat (refine oL ?_;conv=>whnf)
  refine ih (i+1,v') _ _ ⟨by dsimp only;omega,?_,(hkp.push hkp.size _).trans ((Own.push hbuf' _).keeps (by simp;omega) H2 H3)⟩ (by dsimp only;omega) ⟨rfl,rfl,rfl,rfl,trivial⟩;show aEK _ _ _ (mkL _ (i+1));unfold aEK;rw [aDR,mkL,List.map_append,<-hz];exact H1
 have hin:i=n:=by omega
 subst hin;have hlv:=bEZ (dgs a a.size) (dgs b b.size) (-1) i;rw [aED (by rw [nU];omega),aED (by rw [nU];omega),aQS,aQS] at hlv
 change lv (mkL (fun i=>dAt (dgs a a.size) i+(-1)*dAt (dgs b b.size) i) i)=(eJ a:Int)+(-1)*(eJ b:Int) at hlv
 refine aD.callV (aSE hbuf.ir (by rw [aDR];omega) (fun x hx=>by obtain ⟨j,_,rfl⟩:=bEG hx;have:=hf j;omega) (by omega)) ?_;rintro vc h4 ⟨ys,oc,hd,hys,hyl,k4⟩
 (try refine gO ?_);conv=>whnf
 refine aD.callV (aOV oc.ir hd hyl) ?_;rintro _ h5 ⟨rfl,k5⟩;rw [hys,hlv];rw [show ((eJ a:Int)+(-1)*(eJ b:Int)).toNat=eJ a - eJ b by omega]
 (try refine gO ?_);conv=>whnf
 refine aD.ret Tryz.func278 rfl rfl ⟨_,rfl,?_⟩;have s1:=k1.size;have s2:=k2.size;have s4:=k4.size;exact ⟨rfl,((kk2.trans (hkp.mono (by omega))).trans (k4.mono (by omega))).trans (k5.mono (by omega))⟩
theorem aPJ {h:Array Obj} (a b:ByteArray):FV 214 #[.string a,.string b] h (sev (bCC a b)):=by
 unfold bCC;refine Fn.of (args:=[.string a,.string b]) Tryz.func214 (by kernel_rfl) rfl Tryz.ntmps214 rfl fun w0 cs=>?_;refine gO ?_;conv=>whnf
 refine aD.callV (aJQ a b) ?_;rintro _ h ⟨rfl,rfl⟩
 (try refine gO ?_);conv=>whnf
 refine ⟨fun hc=>?_,fun hc=>?_⟩<;>conv=>whnf
 ·have c1:=eV hc (s:=a) (by simp);have c2:=eV hc (s:=b) (by simp);rw [if_pos hc];refine aD.callV (aES a (by omega)) ?_;rintro vx h1 ⟨ox,k1⟩
  (try refine gO ?_);conv=>whnf
  refine aD.callV (aES b (by omega)) ?_;rintro vy h2 ⟨oy,k2⟩
  (try refine gO ?_);conv=>whnf
  have ox2:=(ox.at_keeps k2 (Nat.le_refl _)).ir;have oy2:=oy.ir;obtain ⟨ax,cx,rfl⟩:=ox.shape (nU a a.size);obtain ⟨ay,cy,rfl⟩:=oy.shape (nU b b.size);rw [nU] at ox2 oy2;have kk2:aH h.size h h2:=k1.trans (k2.mono k1.size);refine aD.eff (iN tab [] (h1:=by simp)) ?_;rintro _ _ ⟨rfl,rfl⟩
  (try refine gO ?_);conv=>whnf
  obtain ⟨n,hn⟩:∃n,n=max a.size b.size:=⟨_,rfl⟩;have hf:∀i,-256<=dAt (dgs a a.size) i+1*dAt (dgs b b.size) i/\dAt (dgs a a.size) i+1*dAt (dgs b b.size) i<=512:=fun i=>by
   have e1:=aLN (aLO a a.size) i;have e2:=aLN (aLO b b.size) i;omega
  refine aD.loop (X:=Nat×Value) (fun q=>[(7,.slice ax a.size cx),(8,.slice ay b.size cy),(9,q.2),(10,.int .i64 (q.1:Nat))])
   (fun q h'=>q.1<=n/\aEK h2.size h' q.2 (mkL (fun i=>dAt (dgs a a.size) i+1*dAt (dgs b b.size) i) q.1)/\aH h2.size h2 h') (fun q=>n - q.1) (0,.slice (some ⟨h2.size,0,none⟩) 0 0)
   ⟨Nat.zero_le _,⟨rfl,.inr ⟨h2.size,0,_,rfl,Nat.le_refl _,gH _ _ _,Nat.zero_le _,by unfold maxLen;omega,by simp,by simp [mkL]⟩⟩,(aH.refl _ _).push (Nat.le_refl _) _⟩ ⟨rfl,rfl,rfl,rfl,trivial⟩ ?_
  rintro ⟨i,buf⟩ h' ⟨hi,hbuf,hkp⟩ ih;dsimp only at hi hbuf ⊢;have hsz':=hkp.size;obtain ⟨ab,capb,rfl⟩:=hbuf.shape (aDR _ i);have hbuf':Own h2.size h' 3 1 (.slice ab i capb) i ((mkL (fun i=>dAt (dgs a a.size) i+1*dAt (dgs b b.size) i) i).map fun (x:Int)=>Value.int .i64 x):=by
   unfold aEK at hbuf;rw [aDR] at hbuf;exact hbuf
  (try refine gO ?_);conv=>whnf
  refine ⟨fun h5=>?_,fun h5=>?_⟩<;>conv=>whnf
  ·refine aD.callV (bDC (ox2.keeps hkp) i) ?_;rintro _ h' ⟨rfl,rfl⟩
   (try refine gO ?_);conv=>whnf
   refine aD.callV (bDC (oy2.keeps hkp) i) ?_;rintro _ h' ⟨rfl,rfl⟩;have hfi:=hf i
   (try refine gO ?_);conv=>whnf
   repeat (refine oL ?_;conv=>whnf)
   obtain ⟨z,hz⟩:∃z,z=dAt (dgs a a.size) i+1*dAt (dgs b b.size) i:=⟨_,rfl⟩;rw [show dAt (dgs a a.size) i+dAt (dgs b b.size) i=z by omega];refine aD.eff (iN tab [.int .i64 z] (h1:=by simp [Value.cells])) ?_;rintro _ _ ⟨rfl,rfl⟩
   (try refine gO ?_);conv=>whnf
   have hnews:∀j u,[Value.int .i64 z][j]? = some u->bL (h'.push (.cells #[Value.int .i64 z] 3 (0,0))) h'.size (0+j)=some u:=fun j u hu=>by
    rw [(gH _ _ _).cell,Nat.zero_add]
    cases j with
    |zero=>simpa using hu
    |succ j=>simp at hu
   refine aD.eff (xT tab (base:=h2.size) (m:=i) (m2:=1) (news:=[Value.int .i64 z]) (Own.push hbuf' _) rfl hnews (by simp [Value.oneCell']) (h63:=by unfold maxLen;omega) (hbytes:=by dsimp only;omega) (hbase:=by simp;omega)) ?_;rintro v' h3 ⟨H1,H2,H3,_⟩
   (try refine gO ?_);conv=>whnf
   repeat (refine oL ?_;conv=>whnf)
   refine ih (i+1,v') _ _ ⟨by dsimp only;omega,?_,(hkp.push hkp.size _).trans ((Own.push hbuf' _).keeps (by simp;omega) H2 H3)⟩ (by dsimp only;omega) ⟨rfl,rfl,rfl,rfl,trivial⟩;show aEK _ _ _ (mkL _ (i+1));unfold aEK;rw [aDR,mkL,List.map_append,<-hz];exact H1
  have hin:i=n:=by omega
  subst hin;have hlv:=bEZ (dgs a a.size) (dgs b b.size) 1 i;rw [aED (by rw [nU];omega),aED (by rw [nU];omega),aQS,aQS] at hlv
  change lv (mkL (fun i=>dAt (dgs a a.size) i+1*dAt (dgs b b.size) i) i)=(eJ a:Int)+1*(eJ b:Int) at hlv
  refine aD.callV (aSE hbuf.ir (by rw [aDR];omega) (fun x hx=>by obtain ⟨j,_,rfl⟩:=bEG hx;have:=hf j;omega) (by omega)) ?_;rintro vc h4 ⟨ys,oc,hd,hys,hyl,k4⟩
  (try refine gO ?_);conv=>whnf
  refine aD.callV (aOV oc.ir hd hyl) ?_;rintro _ h5 ⟨rfl,k5⟩;rw [hys,hlv];rw [show ((eJ a:Int)+1*(eJ b:Int)).toNat=eJ a+eJ b by omega]
  (try refine gO ?_);conv=>whnf
  refine aD.callV (aZI (eJ a+eJ b)) ?_;rintro _ h5 ⟨rfl,rfl⟩
  (try refine gO ?_);conv=>whnf
  refine aD.ret Tryz.func214 rfl rfl ⟨_,rfl,?_⟩;have s1:=k1.size;have s2:=k2.size;have s4:=k4.size;exact ⟨rfl,((kk2.trans (hkp.mono (by omega))).trans (k4.mono (by omega))).trans (k5.mono (by omega))⟩
 refine aD.ret Tryz.func214 rfl rfl ⟨_,rfl,?_⟩;rw [if_neg hc];exact ⟨rfl,aH.refl _ _⟩
theorem aTC {h:Array Obj} (a b:ByteArray):FV 215 #[.string a,.string b] h (sev (bDV a b)):=by
 unfold bDV;refine Fn.of (args:=[.string a,.string b]) Tryz.func215 (by kernel_rfl) rfl Tryz.ntmps215 rfl fun w0 cs=>?_;refine gO ?_;conv=>whnf
 refine aD.callV (aJQ a b) ?_;rintro _ h ⟨rfl,rfl⟩
 (try refine gO ?_);conv=>whnf
 refine ⟨fun hc=>?_,fun hc=>?_⟩<;>conv=>whnf
 ·have c1:=eV hc (s:=a) (by simp);have c2:=eV hc (s:=b) (by simp);rw [if_pos hc];by_cases h1:eJ a<eJ b
  ·refine aD.callV (aZB c1.1 c2.1 (by omega) (by omega) (q:=true) (by simp [h1])) ?_;rintro _ h ⟨rfl,rfl⟩
   (try refine gO ?_);conv=>whnf
   refine aD.ret Tryz.func215 rfl rfl ⟨_,rfl,?_⟩;rw [if_pos h1];exact ⟨rfl,aH.refl _ _⟩
  refine aD.callV (aZB c1.1 c2.1 (by omega) (by omega) (q:=false) (by simp [h1])) ?_;rintro _ h ⟨rfl,rfl⟩
  (try refine gO ?_);conv=>whnf
  refine aD.callV (aZG c1.1 c2.1 (by omega) (by omega) (by omega)) ?_;rintro _ h2 ⟨rfl,k2⟩
  (try refine gO ?_);conv=>whnf
  refine aD.ret Tryz.func215 rfl rfl ⟨_,rfl,?_⟩;rw [if_neg h1];exact ⟨rfl,k2⟩
 refine aD.ret Tryz.func215 rfl rfl ⟨_,rfl,?_⟩;rw [if_neg hc];exact ⟨rfl,aH.refl _ _⟩

def IBlk (h0 h:Array Obj) (g:Nat) (L:List Int):Prop:=At h g (L.map fun (x:Int)=>Value.int .i64 x).toArray 3/\aH g h0 h
theorem IBlk.set {h0 h:Array Obj} {g:Nat} {L:List Int} (H:IBlk h0 h g L) (j:Nat) (z:Int):IBlk h0 (setB h g ((L.map fun (x:Int)=>Value.int .i64 x).toArray.setIfInBounds j (.int .i64 z)) 3) g (L.set j z):=by
 have e:(L.map fun (x:Int)=>Value.int .i64 x).toArray.setIfInBounds j (.int .i64 z)=((L.set j z).map fun (x:Int)=>Value.int .i64 x).toArray:=by
  rw [List.setIfInBounds_toArray,List.map_set]
 rw [e];exact ⟨fQ H.1.lt _ _,H.2.setB (Nat.le_refl _) _ _⟩
theorem IBlk.cell {h0 h:Array Obj} {g:Nat} {L:List Int} (H:IBlk h0 h g L) {j:Nat} (hj:j<L.length):bL h g j=some (.int .i64 (dAt L j)):=by
 rw [H.1.cell];unfold dAt;rw [List.getD_eq_getElem?_getD]
 simp [hj]
theorem kX {h:Array Obj} (a b:ByteArray):FV 110 #[.string a,.string b] h (sev (mulS a b)):=by
 unfold mulS;refine Fn.of (args:=[.string a,.string b]) Tryz.func110 (by kernel_rfl) rfl Tryz.ntmps110 rfl fun w0 cs=>?_;refine gO ?_;conv=>whnf
 refine aD.callV (aJQ a b) ?_;rintro _ h ⟨rfl,rfl⟩
 (try refine gO ?_);conv=>whnf
 refine ⟨fun hc=>?_,fun hc=>?_⟩<;>conv=>whnf
 ·have c1:=eV hc (s:=a) (by simp);have c2:=eV hc (s:=b) (by simp);rw [if_pos hc];refine aD.callV (aES a (by omega)) ?_;rintro vx h1 ⟨ox,k1⟩
  (try refine gO ?_);conv=>whnf
  refine aD.callV (aES b (by omega)) ?_;rintro vy h2 ⟨oy,k2⟩
  (try refine gO ?_);conv=>whnf
  have ox2:=(ox.at_keeps k2 (Nat.le_refl _)).ir;have oy2:=oy.ir;obtain ⟨ax,cx,rfl⟩:=ox.shape (nU a a.size);obtain ⟨ay,cy,rfl⟩:=oy.shape (nU b b.size);rw [nU] at ox2 oy2;have kk2:aH h.size h h2:=k1.trans (k2.mono k1.size);conv=>whnf
  repeat (refine oL ?_;conv=>whnf)
  refine aD.eff (qJ tab (a.size+b.size) (a.size+b.size) (hn:=⟨by omega,by omega,by omega,by dsimp only;omega,by omega⟩)) ?_;rintro _ _ ⟨rfl,rfl⟩
  (try refine gO ?_);conv=>whnf
  have hab:a.size*b.size<=65536:=Nat.mul_le_mul c1.2 c2.2
  refine aD.loop (X:=Nat) (fun i=>[(7,.slice ax a.size cx),(8,.slice ay b.size cy),(9,.slice (some ⟨h2.size,0,none⟩) (a.size+b.size) (a.size+b.size)),(10,.int .i64 (i:Nat))])
   (fun i h'=>i<=a.size /\ ∃L,IBlk h2 h' h2.size L/\L.length=a.size+b.size/\lv L=lv ((dgs a a.size).take i)*eJ b /\ ∀j,0<=dAt L j/\dAt L j<=65025*(i*b.size:Nat)) (fun i=>a.size - i) 0
   ⟨Nat.zero_le _,List.replicate (a.size+b.size) 0,⟨?_,(aH.refl _ _).push (Nat.le_refl _) _⟩,by simp,by rw [bFA];simp [lv],fun j=>?_⟩ ⟨rfl,rfl,rfl,rfl,trivial⟩ ?_
  ·rw [List.map_replicate,List.toArray_replicate];exact gH _ _ _
  ·have:dAt (List.replicate (a.size+b.size) 0) j=0:=by
    unfold dAt;rw [List.getD_eq_getElem?_getD,List.getElem?_replicate];split<;>rfl
   rw [this];omega
  rintro i h' ⟨hi,L0,hB0,hL0,hv0,hb0⟩ ih
  (try refine gO ?_);conv=>whnf
  refine ⟨fun h3=>?_,fun h3=>?_⟩<;>conv=>whnf
  ·have hX:=ox2.keeps hB0.2;obtain ⟨_,_,_,e1,hx1⟩:=hX;cases e1;obtain ⟨b1,off1,rfl,hrd1⟩:=hx1 (by omega);have hxi:(dgs a a.size)[i]? = some (dAt (dgs a a.size) i):=by
    unfold dAt;rw [List.getD_eq_getElem?_getD,List.getElem?_eq_getElem (by rw [nU];omega)];rfl
   have hdx:=aLN (aLO a a.size) i;have htk:=aPF (dgs a a.size) i
   generalize dAt (dgs a a.size) i=x at hxi hdx htk
   have him:(i+1)*b.size<=a.size*b.size:=Nat.mul_le_mul_right _ (by omega);rw [Nat.succ_mul] at him
   (try refine gO ?_);conv=>whnf
   refine aD.loop (X:=Nat) (fun k=>[(7,.slice (some ⟨b1,off1,none⟩) a.size cx),(8,.slice ay b.size cy),(9,.slice (some ⟨h2.size,0,none⟩) (a.size+b.size) (a.size+b.size)),(10,.int .i64 (i:Nat)),(11,.int .i64 (k:Nat))])
    (fun k h'=>k<=b.size /\ ∃L,IBlk h2 h' h2.size L/\L.length=a.size+b.size/\lv L=lv ((dgs a a.size).take i)*eJ b+(256^i:Nat)*(x*lv ((dgs b b.size).take k)) /\ ∀j,0<=dAt L j/\dAt L j<=65025*(i*b.size+k:Nat)) (fun k=>b.size - k) 0
    ⟨Nat.zero_le _,L0,hB0,hL0,by rw [hv0];simp [lv],by simpa using hb0⟩ ⟨rfl,rfl,rfl,rfl,rfl,trivial⟩ ?_
   clear hB0 hL0 hv0 hb0;rintro k h' ⟨hk,L,hB,hL,hv,hb⟩ ih2
   (try refine gO ?_);conv=>whnf
   refine ⟨fun h4=>?_,fun h4=>?_⟩<;>conv=>whnf
   ·have hY:=oy2.keeps hB.2;obtain ⟨_,_,_,e2,hy1⟩:=hY;cases e2;obtain ⟨b2,off2,rfl,hrd2⟩:=hy1 (by omega);obtain ⟨_,_,_,e3,hx3⟩:=ox2.keeps hB.2;cases e3;obtain ⟨_,_,e4,hrd3⟩:=hx3 (by omega);cases e4;have hyk:(dgs b b.size)[k]? = some (dAt (dgs b b.size) k):=by
     unfold dAt;rw [List.getD_eq_getElem?_getD,List.getElem?_eq_getElem (by rw [nU];omega)];rfl
    have hdy:=aLN (aLO b b.size) k;have hty:=aPF (dgs b b.size) k
    generalize dAt (dgs b b.size) k=y at hyk hdy hty
    have hcell:bL h' h2.size (0+(i+k))=some (.int .i64 (dAt L (i+k))):=by
     rw [Nat.zero_add];exact hB.cell (by omega)
    have hxy:0<=x*y/\x*y<=65025:=⟨Int.mul_nonneg hdx.1 hdy.1,(Int.mul_le_mul (a:=x) (b:=y) (c:=255) (d:=255) (by omega) (by omega) hdy.1 (by omega):x*y<=255*255)⟩;have hbik:=hb (i+k);have hset:=lv_set (xs:=L) (j:=i+k) (by omega) (dAt L (i+k)+x*y);refine aD.drawn tab [0,1,2,3,4,5,6,7,8,9,10,11,12,13,14,15,16,17,18,19,20] [21] (by kernel_rfl) ?_;conv=>whnf
    repeat (refine oL ?_;conv=>whnf)
    refine ⟨_,hcell,?_⟩;conv=>whnf
    repeat (refine oL ?_;conv=>whnf)
    refine ⟨_,hrd3 i x hxi,?_⟩;conv=>whnf
    repeat (refine oL ?_;conv=>whnf)
    refine ⟨_,hrd2 k y hyk,?_⟩;conv=>whnf
    repeat (refine oL ?_;conv=>whnf)
    obtain ⟨P,hP⟩:∃P,P=x*y:=⟨_,rfl⟩;rw [<-hP] at hset hxy ⊢;refine ⟨rfl,_,kN tab hB.1 (hlt:=by simp;omega),?_⟩;rintro _ _ rfl;conv=>whnf
    (try refine gO ?_);conv=>whnf
    repeat (refine oL ?_;conv=>whnf)
    rw [show 0+((i:Int)+(k:Int)).toNat=i+k by omega];refine ih2 (k+1) _ _ ⟨by omega,_,hB.set (i+k) _,by simpa using hL,?_,fun j=>?_⟩ (by omega) ⟨rfl,rfl,rfl,rfl,rfl,trivial⟩
    ·rw [hset,hv,hty,Nat.pow_add,Int.natCast_mul]
     grind
    rw [dAt_set (by omega)];have:=hb j;split<;>omega
   have hkb:k=b.size:=by omega
   subst hkb;rw [aED (xs:=dgs b b.size) (by rw [nU];omega),aQS b] at hv;conv=>whnf
   repeat (refine oL ?_;conv=>whnf)
   refine ih (i+1) _ _ ⟨by omega,L,hB,hL,?_,fun j=>?_⟩ (by omega) ⟨rfl,rfl,rfl,rfl,trivial⟩
   ·rw [hv,htk];show _+_*(x*(eJ b:Int))=_
    grind
   have:=hb j;rw [Nat.succ_mul];exact this
  have hia:i=a.size:=by omega
  subst hia;rw [aED (by rw [nU];omega),aQS] at hv0
  change lv L0=(eJ a:Int)*(eJ b:Int) at hv0
  have hir:Ir h' (.slice (some ⟨h2.size,0,none⟩) (a.size+b.size) (a.size+b.size)) (a.size+b.size) L0:=
   ⟨hL0,_,_,rfl,fun _=>⟨h2.size,0,rfl,fun j x hx=>by
    have hj:j<L0.length:=(List.getElem?_eq_some_iff.1 hx).1;rw [Nat.zero_add,hB0.cell hj];unfold dAt;rw [List.getD_eq_getElem?_getD,hx];rfl⟩⟩
  refine aD.callV (aSE hir (by omega) (fun x hx=>by obtain ⟨j,hj⟩:=List.mem_iff_getElem?.1 hx;have:=hb0 j;unfold dAt at this;rw [List.getD_eq_getElem?_getD,hj] at this;simp only [Option.getD_some] at this;omega) (by rw [hv0,<-Int.natCast_mul];omega)) ?_;rintro vc h4 ⟨ys,oc,hd,hys,hyl,k4⟩
  (try refine gO ?_);conv=>whnf
  refine aD.callV (aOV oc.ir hd hyl) ?_;rintro _ h5 ⟨rfl,k5⟩;rw [hys,hv0,<-Int.natCast_mul,Int.toNat_natCast]
  (try refine gO ?_);conv=>whnf
  refine aD.callV (aZI (eJ a*eJ b)) ?_;rintro _ h5 ⟨rfl,rfl⟩
  (try refine gO ?_);conv=>whnf
  refine aD.ret Tryz.func110 rfl rfl ⟨_,rfl,?_⟩;have s1:=k1.size;have s2:=k2.size;have s3:=hB0.2.size;have s4:=k4.size;exact ⟨rfl,((kk2.trans (hB0.2.mono (by omega))).trans (k4.mono (by omega))).trans (k5.mono (by omega))⟩
 refine aD.ret Tryz.func110 rfl rfl ⟨_,rfl,?_⟩;rw [if_neg hc];exact ⟨rfl,aH.refl _ _⟩

end Go.Proofs.YthjedpdedjhndaaGreatDoor

namespace Go.NatM
open Go Go.Fw
structure DI (u d y1 y0 q r:Nat):Prop where
 eq:q*y1+r=u
 ge:(u*4294967296+d)/(y1*4294967296+y0)<=q
 le:q<=4294967296+1
 rt:r<4294967296
structure DN (u d y1 y0:Nat):Prop where
 y1l:2147483648<=y1
 y1h:y1<4294967296
 y0h:y0<4294967296
 uh:u<y1*4294967296+y0
 dh:d<4294967296
theorem DI.init {u d y1 y0:Nat} (n:DN u d y1 y0):DI u d y1 y0 (u/y1) (u%y1):=by
 have hp:0<y1:=by have:=n.y1l;omega
 have hr:=Nat.mod_lt u hp;have he:u/y1*y1+u%y1=u:=by rw [Nat.mul_comm];exact Nat.div_add_mod u y1
 refine ⟨he,?_,?_,by have:=n.y1h;omega⟩
 ·rw [Nat.le_div_iff_mul_le hp];have h1:=Nat.div_mul_le_self (u*4294967296+d) (y1*4294967296+y0)
  generalize (u*4294967296+d)/(y1*4294967296+y0)=Q at *
  rw [Nat.mul_add,<-Nat.mul_assoc] at h1;have:=n.dh
  generalize Q*y1=P at *
  generalize Q*y0=P2 at *
  omega
 have h1:=n.uh;have h2:=n.y1l;have h3:=n.y0h;rw [<-Nat.lt_succ_iff,Nat.div_lt_iff_lt_mul hp];omega
theorem DN.q_lt {u d y1 y0:Nat} (n:DN u d y1 y0):(u*4294967296+d)/(y1*4294967296+y0)<4294967296:=by
 have h1:=n.uh;have h2:=n.dh;have hp:0<y1*4294967296+y0:=by omega
 rw [Nat.div_lt_iff_lt_mul hp];omega
theorem DI.mul {u d y1 y0 q r:Nat} (i:DI u d y1 y0 q r):q*(y1*4294967296+y0)+r*4294967296=u*4294967296+q*y0:=by
 have h:=i.eq;rw [Nat.mul_add,<-Nat.mul_assoc,<-h,Nat.add_mul];omega
theorem DI.exit {u d y1 y0 q r:Nat} (n:DN u d y1 y0) (i:DI u d y1 y0 q r) (h:q*y0<=4294967296*r+d):q=(u*4294967296+d)/(y1*4294967296+y0):=by
 have h1:=n.uh;have hp:0<y1*4294967296+y0:=by omega
 refine Nat.le_antisymm ?_ i.ge;rw [Nat.le_div_iff_mul_le hp];have:=i.mul;have:4294967296*r=r*4294967296:=Nat.mul_comm _ _;omega
theorem DI.dec {u d y1 y0 q r:Nat} (n:DN u d y1 y0) (i:DI u d y1 y0 q r) (h:4294967296<=q\/4294967296*r+d<q*y0):
  0<q/\(q - 1)*y1+(r+y1)=u/\(u*4294967296+d)/(y1*4294967296+y0)<=q - 1/\q - 1<=4294967296:=by
 have h1:=n.uh;have hp:0<y1*4294967296+y0:=by omega
 have hQ:=n.q_lt;have hq0:0<q:=by
  rcases h with h|h
  ·have hW:4294967296=4294967296:=rfl;omega
  rcases Nat.eq_zero_or_pos q with e|e
  ·subst e;simp at h
  exact e
 have heq:=i.eq;have hsucc:q*y1=(q - 1)*y1+y1:=by
  have:=Nat.succ_mul (q - 1) y1;rw [show (q - 1).succ=q by omega] at this;exact this
 refine ⟨hq0,by omega,?_,by have:=i.le;omega⟩;rcases h with h|h
 ·omega
 have hlt:(u*4294967296+d)/(y1*4294967296+y0)<q:=by
  rw [Nat.div_lt_iff_lt_mul hp];have:=i.mul;have:4294967296*r=r*4294967296:=Nat.mul_comm _ _;omega
 omega
theorem DI.out {u d y1 y0 q r:Nat} (n:DN u d y1 y0) (he:q*y1+r=u) (hge:(u*4294967296+d)/(y1*4294967296+y0)<=q) (hq:q<=4294967296) (hr:4294967296<=r):q=(u*4294967296+d)/(y1*4294967296+y0):=by
 have h1:=n.uh;have hp:0<y1*4294967296+y0:=by omega
 refine Nat.le_antisymm ?_ hge;rw [Nat.le_div_iff_mul_le hp,Nat.mul_add,<-Nat.mul_assoc,<-he];have h2:q*y0<=4294967296*y0:=Nat.mul_le_mul_right _ hq;have h3:4294967296*4294967296<=r*4294967296:=Nat.mul_le_mul_right _ hr;have h4:=n.y0h;rw [Nat.add_mul];omega
theorem div_two (u d1 d0 y:Nat) (hy:0<y):(u*18446744073709551616+(d1*4294967296+d0))/y=(u*4294967296+d1)/y*4294967296+((u*4294967296+d1)%y*4294967296+d0)/y /\
  (u*18446744073709551616+(d1*4294967296+d0))%y=((u*4294967296+d1)%y*4294967296+d0)%y:=by
 obtain ⟨M,hM⟩:∃M,M=u*4294967296+d1:=⟨_,rfl⟩;rw [<-hM];have h:=Nat.div_add_mod M y;obtain ⟨Q,hQ⟩:∃Q,Q=M/y:=⟨_,rfl⟩;obtain ⟨R,hR⟩:∃R,R=M%y:=⟨_,rfl⟩;rw [<-hQ,<-hR] at h ⊢;obtain ⟨T,hT⟩:∃T,T=Q*4294967296:=⟨_,rfl⟩;obtain ⟨S,hS⟩:∃S,S=R*4294967296+d0:=⟨_,rfl⟩;rw [<-hT,<-hS];have e:u*18446744073709551616+(d1*4294967296+d0)=y*T+S:=by
  rw [hT,<-Nat.mul_assoc]
  generalize y*Q=Z at *
  omega
 rw [e,Nat.mul_add_div hy,Nat.mul_add_mod];exact ⟨rfl,rfl⟩
theorem aFU {u d y Q:Nat} (hQ:Q=(u*4294967296+d)/y) (hy:0<y) (hyb:y<18446744073709551616):
  (((u:Int)*4294967296%18446744073709551616+d)%18446744073709551616 - (Q:Int)*y%18446744073709551616)%18446744073709551616=((u*4294967296+d)%y:Nat):=by
 obtain ⟨M,hM⟩:∃M,M=u*4294967296+d:=⟨_,rfl⟩;rw [<-hM] at hQ ⊢;have h:=Nat.div_add_mod M y;have hm:=Nat.mod_lt M hy;obtain ⟨R,hR⟩:∃R,R=M%y:=⟨_,rfl⟩;rw [<-hQ,<-hR] at h;rw [<-hR] at hm ⊢;have e:(Q:Int)*y=((y*Q:Nat):Int):=by rw [Nat.mul_comm];simp
 rw [e];obtain ⟨Z,hZ⟩:∃Z,Z=y*Q:=⟨_,rfl⟩;rw [<-hZ] at h ⊢;omega
end Go.NatM

namespace Go.Proofs.YthjedpdedjhndaaGreatDoor
open Go Go.Fw Go.NatM
theorem wC {x:Nat} (hx:x<B):bl x<=64:=by
 by_cases h:x=0
 ·subst h;decide
 have h1:=aNL h;rcases Nat.lt_or_ge 64 (bl x) with h2|h2
 ·have:=Nat.pow_le_pow_right (show 0<2 by decide) (show 64<=bl x - 1 by omega);have e:(2:Nat)^64=B:=rfl;omega
 exact h2
theorem lz64_fn (x:Nat) (hx:x<B) (h:Array Obj):FnV Tryz.prog 281 #[.int .u64 x] h fun v h'=>v=.int .i64 (64 - bl x:Nat)/\h'=h:=by
 have hb:=wC hx;refine Fn.of (args:=[.int .u64 x]) Tryz.func281 (by kernel_rfl) rfl Tryz.ntmps281 rfl fun w0 cs=>?_;refine gO ?_;conv=>whnf
 refine aD.callV (aNJ x hx h) ?_;rintro _ h ⟨rfl,rfl⟩
 (try refine gO ?_);conv=>whnf
 repeat (refine oL ?_;conv=>whnf)
 refine aD.ret Tryz.func281 rfl rfl ⟨_,rfl,?_⟩;refine ⟨?_,rfl⟩;show Value.int .i64 _=Value.int .i64 _
 congr 1
 omega
theorem aXG (hi lo s:Nat) (hs:s<=64):(hi*B+lo)*2^s/B=hi*2^s+lo/2^(64 - s):=by
 have e:B=2^(64 - s)*2^s:=by rw [<-Nat.pow_add,show 64 - s+s=64 by omega];rfl
 rw [Nat.add_mul,show hi*B*2^s=B*(hi*2^s) by rw [Nat.mul_comm hi B,Nat.mul_assoc],Nat.mul_add_div rN]
 congr 1
 rw [e,Nat.mul_div_mul_right _ _ (Nat.two_pow_pos s)]
theorem aYN (hi lo s:Nat):(hi*B+lo)*2^s%B=lo*2^s%B:=by
 rw [Nat.add_mul,show hi*B*2^s=B*(hi*2^s) by rw [Nat.mul_comm hi B,Nat.mul_assoc],Nat.mul_add_mod]
theorem norm_or (hi lo s:Nat) (hs:s<=64) (hlo:lo<B):(hi*2^s)|||(lo/2^(64 - s))=hi*2^s+lo/2^(64 - s):=by
 have e:B=2^(64 - s)*2^s:=by rw [<-Nat.pow_add,show 64 - s+s=64 by omega];rfl
 have hx:lo/2^(64 - s)<2^s:=Nat.div_lt_of_lt_mul (by rw [<-e];exact hlo);rw [Nat.mul_comm hi,Nat.two_pow_add_eq_or_of_lt hx]
theorem aIF {u y:Nat} (h1:2147483648<=y) (h2:y<4294967296) (_h3:u<18446744073709551616):(((u:Int) - u/y*y%18446744073709551616)%18446744073709551616)=(u%y:Nat):=by
 have h:=Nat.div_add_mod u y;have hm:=Nat.mod_lt u (show 0<y by omega);have e:(u:Int)/y*y=((y*(u/y):Nat):Int):=by rw [Nat.mul_comm];simp
 rw [e];obtain ⟨Z,hZ⟩:∃Z,Z=y*(u/y):=⟨_,rfl⟩;obtain ⟨R,hR⟩:∃R,R=u%y:=⟨_,rfl⟩;rw [<-hZ,<-hR] at h ⊢;omega
theorem bAV {h:Array Obj} (hi lo y:Nat) (hlo:lo<B) (hy:y<B) (hhi:hi<y):
  FnV Tryz.prog 228 #[.int .u64 hi,.int .u64 lo,.int .u64 y] h fun r h'=>(∃q r':Nat,r=.tuple #[.int .u64 q,.int .u64 r']/\q=(hi*B+lo)/y/\r'=(hi*B+lo)%y)/\h'=h:=by
 refine Fn.of (args:=[.int .u64 hi,.int .u64 lo,.int .u64 y]) Tryz.func228 (by kernel_rfl) rfl Tryz.ntmps228 rfl fun w0 cs=>?_;refine gO ?_;conv=>whnf
 refine ⟨fun h1=>?_,fun h1=>?_⟩<;>conv=>whnf
 ·omega
 refine ⟨fun h2=>?_,fun h2=>?_⟩<;>conv=>whnf
 ·omega
 refine ⟨fun h3=>?_,fun h3=>?_⟩<;>conv=>whnf
 ·refine aD.quiet tab (by kernel_rfl) ?_;conv=>whnf
  rw [mA] at *;repeat (refine oL ?_;conv=>whnf)
  (try refine gO ?_);conv=>whnf
  refine aD.ret Tryz.func228 rfl rfl ⟨_,rfl,?_⟩;have h0:hi=0:=by omega
  subst h0;exact ⟨⟨lo/y,lo%y,rfl,by rw [Nat.zero_mul,Nat.zero_add],by rw [Nat.zero_mul,Nat.zero_add]⟩,rfl⟩
 refine aD.callV (lz64_fn y hy h) ?_;rintro _ h ⟨rfl,rfl⟩;have hb64:=wC hy;have hy0:y≠0:=by omega
 have hbp:=aQP hy0;obtain ⟨s,hs⟩:∃s,s=64 - bl y:=⟨_,rfl⟩;rw [<-hs];have hsb:s+bl y=64:=by omega
 have hyl:=aNL hy0;have hyh:=aPN y;obtain ⟨yn,hyn⟩:∃yn,yn=y*2^s:=⟨_,rfl⟩;have hynl:9223372036854775808<=yn:=by
  have:=Nat.mul_le_mul_right (2^s) hyl;rw [<-Nat.pow_add,show bl y - 1+s=63 by omega] at this;rw [hyn];exact this
 have hynh:yn<18446744073709551616:=by
  have:=Nat.mul_lt_mul_of_pos_right hyh (Nat.two_pow_pos s);rw [<-Nat.pow_add,show bl y+s=64 by omega] at this;rw [hyn];exact this
 (try refine gO ?_);conv=>whnf
 rw [show ((s:Nat):Int)%18446744073709551616=(s:Nat) by omega];have c1:(y:Int)*2^((s:Nat):Int).toNat%18446744073709551616=(yn:Nat):=by
  rw [Int.toNat_natCast,hyn];rw [hyn] at hynh;have:(y:Int)*2^s=((y*2^s:Nat):Int):=by simp
  rw [this];omega
 rw [c1];repeat (refine oL ?_;conv=>whnf)
 have hN:=Nat.mul_lt_mul_of_pos_right hhi (Nat.two_pow_pos s);rw [<-hyn] at hN;have c2:(hi:Int)*2^((s:Nat):Int).toNat%18446744073709551616=(hi*2^s:Nat):=by
  rw [Int.toNat_natCast];have:(hi:Int)*2^s=((hi*2^s:Nat):Int):=by simp
  rw [this];omega
 have c3:(lo:Int)/2^((64 - ((s:Nat):Int))%18446744073709551616).toNat=(lo/2^(64 - s):Nat):=by
  rw [show ((64 - ((s:Nat):Int))%18446744073709551616).toNat=64 - s by omega];simp
 rw [c2,c3];have q1:=aXG hi lo s (by omega);have q2:=aYN hi lo s;have q3:=norm_or hi lo s (by omega) hlo;have q4:=Nat.div_le_self lo (2^(64 - s));obtain ⟨A,hA⟩:∃A,A=hi*2^s:=⟨_,rfl⟩;obtain ⟨L,hL⟩:∃L,L=lo/2^(64 - s):=⟨_,rfl⟩;rw [<-hA] at hN q1 q3 ⊢;rw [<-hL] at q1 q3 q4 ⊢;rw [mA] at hlo hy;repeat (refine oL ?_;conv=>whnf)
 have hor:(((fun a b=>a|||b) (A:Int).toNat (L:Int).toNat:Nat):Int)=(A+L:Nat):=by
  rw [Int.toNat_natCast,Int.toNat_natCast];exact congrArg _ q3
 rw [hor];have hu:A+L<yn:=by
  have e:B=2^(64 - s)*2^s:=by rw [<-Nat.pow_add,show 64 - s+s=64 by omega];rfl
  have hx:L<2^s:=by rw [hL];exact Nat.div_lt_of_lt_mul (by rw [<-e,mA];exact hlo)
  have:=Nat.mul_le_mul_right (2^s) (show hi+1<=y by omega);rw [Nat.succ_mul,<-hA,<-hyn] at this;omega
 obtain ⟨u,hu0⟩:∃u,u=A+L:=⟨_,rfl⟩;rw [<-hu0] at hu q1 ⊢;obtain ⟨w,hw⟩:∃w,w=lo*2^s%B:=⟨_,rfl⟩;rw [<-hw] at q2;have hwB:w<18446744073709551616:=by rw [hw,<-mA];exact Nat.mod_lt _ rN
 have c4:(lo:Int)*2^((s:Nat):Int).toNat%18446744073709551616=(w:Nat):=by
  rw [Int.toNat_natCast,hw,mA];simp
 rw [c4,vJ (z:=(yn:Int)) (by omega),vJ (z:=(w:Int)) (by omega)];obtain ⟨y1,hy1⟩:∃y1,y1=yn/4294967296:=⟨_,rfl⟩;obtain ⟨y0,hy0'⟩:∃y0,y0=yn%4294967296:=⟨_,rfl⟩;obtain ⟨d1,hd1⟩:∃d1,d1=w/4294967296:=⟨_,rfl⟩;obtain ⟨d0,hd0⟩:∃d0,d0=w%4294967296:=⟨_,rfl⟩;rw [show (yn:Int)/4294967296=(y1:Nat) by omega,show (yn:Int)%4294967296=(y0:Nat) by omega,show (w:Int)/4294967296=(d1:Nat) by omega,show (w:Int)%4294967296=(d0:Nat) by omega];have hy10:yn=y1*4294967296+y0:=by omega
 have hw10:w=d1*4294967296+d0:=by omega
 have N1:DN u d1 y1 y0:=⟨by omega,by omega,by omega,by omega,by omega⟩;repeat (refine oL ?_;conv=>whnf)
 have hu32:u<y1*4294967296+y0:=by omega
 refine aD.loopJ (X:=Nat×Nat) (Y:=Unit) (fun q=>[(2,.int .u64 yn),(8,.int .u64 s),(9,.int .u64 y1),(10,.int .u64 y0),(11,.int .u64 u),(13,.int .u64 d1),(14,.int .u64 d0),(15,.int .u64 (q.1:Nat)),(16,.int .u64 (q.2:Nat))])
  (fun q h'=>h'=h/\DI u d1 y1 y0 q.1 q.2) (fun q=>q.1) (u/y1,u%y1)
  (fun _=>[(2,.int .u64 yn),(8,.int .u64 s),(9,.int .u64 y1),(10,.int .u64 y0),(11,.int .u64 u),(13,.int .u64 d1),(14,.int .u64 d0),(15,.int .u64 ((u*4294967296+d1)/yn:Nat))]) (fun _ h'=>h'=h)
  ⟨rfl,DI.init N1⟩ ⟨rfl,rfl,rfl,rfl,rfl,rfl,rfl,rfl,?_,trivial⟩ ?_ ?_
 ·rw [aIF N1.y1l N1.y1h (by omega)];rfl
 ·rintro ⟨q,r⟩ h ⟨rfl,I⟩ ih hx;dsimp only at I ih ⊢;have I3:=I.le;have I4:=I.rt
  (try refine gO ?_);conv=>whnf
  refine ⟨fun h4=>?_,fun h4=>?_⟩<;>conv=>whnf
  ·obtain ⟨D1,D2,D3,D4⟩:=I.dec N1 (.inl (by omega));conv=>whnf
   rw [show ((q:Int) - 1)%18446744073709551616=(q - 1:Nat) by omega,show ((r:Int)+y1)%18446744073709551616=(r+y1:Nat) by omega];refine ⟨fun h6=>?_,fun h6=>?_⟩<;>conv=>whnf
   ·have hq:=DI.out N1 D2 D3 D4 (by omega);exact hx () _ _ rfl ⟨rfl,rfl,rfl,rfl,rfl,rfl,rfl,by rw [hy10,<-hq];rfl,trivial⟩
   exact ih (q - 1,r+y1) _ _ ⟨rfl,D2,D3,by dsimp only;omega,by dsimp only;omega⟩ (by dsimp only;omega) ⟨rfl,rfl,rfl,rfl,rfl,rfl,rfl,rfl,rfl,trivial⟩
  have hb:=oD (a:=q) (b:=y0) (by omega) (by omega) (by omega) (by omega);have hqy:(q:Int)*y0=((q*y0:Nat):Int):=by simp
  rw [hqy] at hb ⊢;refine ⟨fun h5=>?_,fun h5=>?_⟩<;>conv=>whnf
  ·have h5':4294967296*r+d1<q*y0:=by omega
   obtain ⟨D1,D2,D3,D4⟩:=I.dec N1 (.inr h5');rw [show ((q:Int) - 1)%18446744073709551616=(q - 1:Nat) by omega,show ((r:Int)+y1)%18446744073709551616=(r+y1:Nat) by omega];refine ⟨fun h6=>?_,fun h6=>?_⟩<;>conv=>whnf
   ·have hq:=DI.out N1 D2 D3 D4 (by omega);exact hx () _ _ rfl ⟨rfl,rfl,rfl,rfl,rfl,rfl,rfl,by rw [hy10,<-hq];rfl,trivial⟩
   exact ih (q - 1,r+y1) _ _ ⟨rfl,D2,D3,by dsimp only;omega,by dsimp only;omega⟩ (by dsimp only;omega) ⟨rfl,rfl,rfl,rfl,rfl,rfl,rfl,rfl,rfl,trivial⟩
  have hq:=DI.exit N1 I (by omega);exact hx () _ _ rfl ⟨rfl,rfl,rfl,rfl,rfl,rfl,rfl,by rw [hy10,<-hq];rfl,trivial⟩
 rintro _ h rfl
 (try refine gO ?_);conv=>whnf
 rw [aFU rfl (by omega) hynh];obtain ⟨R1,hR1⟩:∃R1,R1=(u*4294967296+d1)%yn:=⟨_,rfl⟩;have hR1b:R1<yn:=by rw [hR1];exact Nat.mod_lt _ (by omega)
 rw [<-hR1];have N2:DN R1 d0 y1 y0:=⟨by omega,by omega,by omega,by omega,by omega⟩;repeat (refine oL ?_;conv=>whnf)
 refine aD.loopJ (X:=Nat×Nat) (Y:=Unit) (fun q=>[(2,.int .u64 yn),(8,.int .u64 s),(9,.int .u64 y1),(10,.int .u64 y0),(14,.int .u64 d0),(15,.int .u64 ((u*4294967296+d1)/yn:Nat)),(17,.int .u64 R1),(18,.int .u64 (q.1:Nat)),(16,.int .u64 (q.2:Nat))])
  (fun q h'=>h'=h/\DI R1 d0 y1 y0 q.1 q.2) (fun q=>q.1) (R1/y1,R1%y1)
  (fun _=>[(2,.int .u64 yn),(8,.int .u64 s),(14,.int .u64 d0),(15,.int .u64 ((u*4294967296+d1)/yn:Nat)),(17,.int .u64 R1),(18,.int .u64 ((R1*4294967296+d0)/yn:Nat))]) (fun _ h'=>h'=h)
  ⟨rfl,DI.init N2⟩ ⟨rfl,rfl,rfl,rfl,rfl,rfl,rfl,rfl,?_,trivial⟩ ?_ ?_
 ·rw [aIF N2.y1l N2.y1h (by omega)];rfl
 ·rintro ⟨q,r⟩ h ⟨rfl,I⟩ ih hx;dsimp only at I ih ⊢;have I3:=I.le;have I4:=I.rt
  (try refine gO ?_);conv=>whnf
  refine ⟨fun h4=>?_,fun h4=>?_⟩<;>conv=>whnf
  ·obtain ⟨D1,D2,D3,D4⟩:=I.dec N2 (.inl (by omega));conv=>whnf
   rw [show ((q:Int) - 1)%18446744073709551616=(q - 1:Nat) by omega,show ((r:Int)+y1)%18446744073709551616=(r+y1:Nat) by omega];refine ⟨fun h6=>?_,fun h6=>?_⟩<;>conv=>whnf
   ·have hq:=DI.out N2 D2 D3 D4 (by omega);exact hx () _ _ rfl ⟨rfl,rfl,rfl,rfl,rfl,by rw [hy10,<-hq];rfl,trivial⟩
   exact ih (q - 1,r+y1) _ _ ⟨rfl,D2,D3,by dsimp only;omega,by dsimp only;omega⟩ (by dsimp only;omega) ⟨rfl,rfl,rfl,rfl,rfl,rfl,rfl,rfl,rfl,trivial⟩
  have hb:=oD (a:=q) (b:=y0) (by omega) (by omega) (by omega) (by omega);have hqy:(q:Int)*y0=((q*y0:Nat):Int):=by simp
  rw [hqy] at hb ⊢;refine ⟨fun h5=>?_,fun h5=>?_⟩<;>conv=>whnf
  ·have h5':4294967296*r+d0<q*y0:=by omega
   obtain ⟨D1,D2,D3,D4⟩:=I.dec N2 (.inr h5');rw [show ((q:Int) - 1)%18446744073709551616=(q - 1:Nat) by omega,show ((r:Int)+y1)%18446744073709551616=(r+y1:Nat) by omega];refine ⟨fun h6=>?_,fun h6=>?_⟩<;>conv=>whnf
   ·have hq:=DI.out N2 D2 D3 D4 (by omega);exact hx () _ _ rfl ⟨rfl,rfl,rfl,rfl,rfl,by rw [hy10,<-hq];rfl,trivial⟩
   exact ih (q - 1,r+y1) _ _ ⟨rfl,D2,D3,by dsimp only;omega,by dsimp only;omega⟩ (by dsimp only;omega) ⟨rfl,rfl,rfl,rfl,rfl,rfl,rfl,rfl,rfl,trivial⟩
  have hq:=DI.exit N2 I (by omega);exact hx () _ _ rfl ⟨rfl,rfl,rfl,rfl,rfl,by rw [hy10,<-hq];rfl,trivial⟩
 rintro _ h rfl
 (try refine gO ?_);conv=>whnf
 rw [aFU rfl (by omega) hynh];have T:=div_two u d1 d0 yn (by omega);rw [<-hR1] at T;have L1:=N1.q_lt;have L2:=N2.q_lt;rw [<-hy10] at L1 L2;obtain ⟨Q1,hQ1⟩:∃Q1,Q1=(u*4294967296+d1)/yn:=⟨_,rfl⟩;obtain ⟨Q0,hQ0⟩:∃Q0,Q0=(R1*4294967296+d0)/yn:=⟨_,rfl⟩;obtain ⟨R0,hR0⟩:∃R0,R0=(R1*4294967296+d0)%yn:=⟨_,rfl⟩;rw [<-hQ1,<-hQ0,<-hR0] at T;rw [<-hQ1] at L1 ⊢;rw [<-hQ0] at L2 ⊢;rw [<-hR0];repeat (refine oL ?_;conv=>whnf)
 refine aD.ret Tryz.func228 rfl rfl ⟨_,rfl,?_⟩;refine ⟨⟨Q1*4294967296+Q0,R0/2^s,?_,?_⟩,rfl⟩
 ·rw [Int.toNat_natCast,show ((Q1:Int)*4294967296%18446744073709551616+Q0)%18446744073709551616=(Q1*4294967296+Q0:Nat) by omega,show (R0:Int)/2^s=(R0/2^s:Nat) by simp];rfl
 have hN':=Nat.div_add_mod ((hi*B+lo)*2^s) B;rw [q1,q2,mA] at hN';rw [mA];have e:u*18446744073709551616+(d1*4294967296+d0)=(hi*18446744073709551616+lo)*2^s:=by omega
 rw [e,hyn,Nat.mul_div_mul_right _ _ (Nat.two_pow_pos s),Nat.mul_mod_mul_right] at T;refine ⟨T.1.symm,?_⟩;rw [<-T.2,Nat.mul_div_cancel _ (Nat.two_pow_pos s)]
end Go.Proofs.YthjedpdedjhndaaGreatDoor

namespace Go.NatM
open Go Go.Fw
theorem aXW {V1 V2 i:Nat} (hV2:0<V2):
  V1/B^i/V2=V1/B^(i+1)/V2*B+(V1/B^(i+1)%V2*B+wdc V1 i)/V2/\V1/B^i%V2=(V1/B^(i+1)%V2*B+wdc V1 i)%V2:=by
 have h1:=kB V1 i;obtain ⟨T,hT⟩:∃T,T=V1/B^(i+1):=⟨_,rfl⟩;rw [<-hT] at h1 ⊢;have h2:=Nat.div_add_mod T V2;have e:V1/B^i=V2*(T/V2*B)+(T%V2*B+wdc V1 i):=by
  rw [h1,<-Nat.mul_assoc,<-Nat.add_assoc,<-Nat.add_mul,h2,Nat.mul_comm,Nat.add_comm]
 rw [e,Nat.mul_add_div hV2,Nat.mul_add_mod];exact ⟨rfl,rfl⟩
theorem aHH {V2 r w:Nat} (hr:r<V2) (hw:w<B):(r*B+w)/V2<B:=by
 rw [Nat.div_lt_iff_lt_mul (by omega)];have:=Nat.mul_le_mul_right B (show r+1<=V2 by omega);rw [Nat.succ_mul,Nat.mul_comm V2] at this;omega
theorem aOK {A j i:Nat} (h:j<i):wdc (A*B^i) j=0:=by
 unfold wdc;rw [show B^i=B*B^(i - j - 1)*B^j by rw [<-Nat.pow_succ',<-Nat.pow_add];congr 1;omega,<-Nat.mul_assoc,Nat.mul_div_cancel _ (eD j),<-Nat.mul_assoc,Nat.mul_comm A B,Nat.mul_assoc,Nat.mul_mod_right]
theorem aXP {A x i:Nat}:aAV (A*B^(i+1)) i x=(A*B+x)*B^i:=by
 have h:=@aAN (A*B^(i+1)) i x;rw [aOK (Nat.lt_succ_self i),Nat.mul_zero,Nat.add_zero] at h;rw [h,Nat.add_mul,Nat.pow_succ,Nat.mul_comm (B^i) x,Nat.mul_assoc A B,Nat.mul_comm B (B^i)]
theorem bBI {V1 V2 i:Nat} (hV2:0<V2) (b:Nat) (hb:b=V1/2^i%2):
  (V2<=2*(V1/2^(i+1)%V2)+b->V1/2^i/V2=2*(V1/2^(i+1)/V2)+1/\V1/2^i%V2=2*(V1/2^(i+1)%V2)+b - V2) /\
  (2*(V1/2^(i+1)%V2)+b<V2->V1/2^i/V2=2*(V1/2^(i+1)/V2)/\V1/2^i%V2=2*(V1/2^(i+1)%V2)+b):=by
 have e0:V1/2^(i+1)=V1/2^i/2:=by rw [Nat.pow_succ,Nat.div_div_eq_div_mul]
 obtain ⟨U,hU⟩:∃U,U=V1/2^i:=⟨_,rfl⟩;obtain ⟨T,hT⟩:∃T,T=V1/2^(i+1):=⟨_,rfl⟩;rw [<-hU] at e0 hb ⊢;rw [<-hT] at e0 ⊢;have hTb:U=2*T+b:=by omega
 have h2:=Nat.div_add_mod T V2;have hm:=Nat.mod_lt T hV2;obtain ⟨q,hq⟩:∃q,q=T/V2:=⟨_,rfl⟩;obtain ⟨r,hr⟩:∃r,r=T%V2:=⟨_,rfl⟩;rw [<-hq,<-hr] at h2;rw [<-hr] at hm;rw [<-hq,<-hr];have e:U=V2*(2*q)+(2*r+b):=by
  rw [hTb,<-h2,show V2*(2*q)=2*(V2*q) by rw [<-Nat.mul_assoc,Nat.mul_comm V2 2,Nat.mul_assoc]];omega
 constructor
 ·intro h;have e2:U=V2*(2*q+1)+(2*r+b - V2):=by
   rw [Nat.mul_add,Nat.mul_one];omega
  rw [e2,Nat.mul_add_div hV2,Nat.mul_add_mod,Nat.div_eq_of_lt (by omega),Nat.mod_eq_of_lt (by omega)];exact ⟨rfl,rfl⟩
 intro h;rw [e,Nat.mul_add_div hV2,Nat.mul_add_mod,Nat.div_eq_of_lt h,Nat.mod_eq_of_lt h];exact ⟨rfl,rfl⟩
theorem qZ (i:Nat):(2:Nat)^i=B^(i/64)*2^(i%64):=by
 rw [xJ,<-Nat.pow_add];congr 1;omega
theorem set_bit (A i:Nat):wdc (A*2^(i+1)) (i/64)|||2^(i%64)=wdc (A*2^(i+1)) (i/64)+2^(i%64)/\wdc (A*2^(i+1)) (i/64)+2^(i%64)<B /\
  aAV (A*2^(i+1)) (i/64) (wdc (A*2^(i+1)) (i/64)+2^(i%64))=(2*A+1)*2^i:=by
 obtain ⟨q,hq⟩:∃q,q=i/64:=⟨_,rfl⟩;obtain ⟨t,ht⟩:∃t,t=i%64:=⟨_,rfl⟩;have ht64:t<64:=by omega
 have hB:B=2^(t+1)*2^(63 - t):=by rw [<-Nat.pow_add,show t+1+(63 - t)=64 by omega];rfl
 have e1:wdc (A*2^(i+1)) q=2^(t+1)*(A%2^(63 - t)):=by
  unfold wdc
  rw [Nat.pow_succ,qZ i,<-hq,<-ht,show A*(B^q*2^t*2)=A*2^(t+1)*B^q by rw [Nat.pow_succ];simp only [Nat.mul_comm,Nat.mul_left_comm],
   Nat.mul_div_cancel _ (eD q),Nat.mul_comm A,hB,Nat.mul_mod_mul_left]
 have hx:2^t<2^(t+1):=by rw [Nat.pow_succ];have:=Nat.two_pow_pos t;omega
 have hlt:2^(t+1)*(A%2^(63 - t))+2^t<B:=by
  have h1:=Nat.mod_lt A (Nat.two_pow_pos (63 - t));have h2:=Nat.mul_le_mul_left (2^(t+1)) (show A%2^(63 - t)+1<=2^(63 - t) by omega);rw [<-hB,Nat.mul_add,Nat.mul_one] at h2;omega
 rw [<-hq,<-ht];refine ⟨?_,by rw [e1];exact hlt,?_⟩
 ·rw [e1,Nat.two_pow_add_eq_or_of_lt hx]
 have h:=@aAN (A*2^(i+1)) q (wdc (A*2^(i+1)) q+2^t);rw [Nat.mul_add] at h;have e2:(2*A+1)*2^i=A*2^(i+1)+B^q*2^t:=by
  rw [Nat.add_mul,Nat.one_mul,hq,ht,<-qZ,Nat.pow_succ,Nat.mul_comm 2 A,Nat.mul_assoc,Nat.mul_comm 2 (2^i)]
 omega
def cdb (R b j:Nat):Nat:=(2*(R%B^j)+b)/B^j
theorem bBJ {R b j:Nat} (hb:b<=1):cdb R b j<=1:=by
 have h:=Nat.mod_lt R (eD j);have:cdb R b j<2:=by
  unfold cdb;rw [Nat.div_lt_iff_lt_mul (eD j)];omega
 omega
theorem bCQ (R b:Nat):cdb R b 0=b:=by simp [cdb,Nat.mod_one]
theorem aYO {R b j:Nat} (hb:b<=1):wdc (2*R+b) j=(wdc R j*2%B)|||cdb R b j/\cdb R b (j+1)=wdc R j/9223372036854775808:=by
 have hc:=@bBJ R b j hb;have hd:=Nat.div_add_mod R (B^j);have e:(2*R+b)/B^j=2*(R/B^j)+cdb R b j:=by
  have:2*R+b=B^j*(2*(R/B^j))+(2*(R%B^j)+b):=by
   rw [show B^j*(2*(R/B^j))=2*(B^j*(R/B^j)) by rw [<-Nat.mul_assoc,Nat.mul_comm _ 2,Nat.mul_assoc]];omega
  rw [this,Nat.mul_add_div (eD j)];rfl
 have hw:wdc R j=R/B^j%B:=rfl;have hwl:=iB R j
 constructor
 ·have hor:(wdc R j*2%B)|||cdb R b j=wdc R j*2%B+cdb R b j:=by
   have e2:wdc R j*2%B=2^1*(wdc R j%9223372036854775808):=by rw [mA] at *;omega
   rw [e2,Nat.two_pow_add_eq_or_of_lt (by omega)]
  rw [hor];unfold wdc at *;rw [e];rw [mA] at *;omega
 have h1:=iD R j;unfold cdb at *;rw [h1,Nat.pow_succ,<-Nat.div_div_eq_div_mul];have e3:2*(R%B^j+B^j*wdc R j)+b=B^j*(2*wdc R j)+(2*(R%B^j)+b):=by
  rw [show B^j*(2*wdc R j)=2*(B^j*wdc R j) by rw [<-Nat.mul_assoc,Nat.mul_comm _ 2,Nat.mul_assoc]];omega
 rw [e3,Nat.mul_add_div (eD j)];obtain ⟨cc,hcc⟩:∃cc,cc=(2*(R%B^j)+b)/B^j:=⟨_,rfl⟩;rw [<-hcc] at hc ⊢;rw [mA] at *;omega
end Go.NatM

namespace Go.Proofs.YthjedpdedjhndaaGreatDoor
open Go Go.Fw Go.NatM
theorem bBC (V i:Nat):wdc V (i/64)/2^(i%64)%2=V/2^i%2:=by
 unfold wdc;have h64:i%64<64:=Nat.mod_lt _ (by decide);rw [qZ i,<-Nat.div_div_eq_div_mul];obtain ⟨t,ht⟩:∃t,t=i%64:=⟨_,rfl⟩;rw [<-ht] at h64 ⊢
 generalize V/B^(i/64)=X
 rw [show B=2^t*2^(64 - t) by rw [<-Nat.pow_add,show t+(64 - t)=64 by omega];rfl,Nat.mod_mul_right_div_self];rw [show 2^(64 - t)=2*2^(63 - t) by rw [<-Nat.pow_succ'];congr 1;omega,Nat.mod_mul_right_mod]
theorem low1_fn {h:Array Obj} {y bm bw V m cap many:Nat} {a:Option Addr} (J:Nat->Array Obj->Prop) (h0:J many h)
  (hcells:∀i h',J i h'->bL h' bm 0=some (.int .i64 many)/\bL h' bw 0=some (.slice a m cap)/\Wr h' (.slice a m cap) m V) (hm:many<=64*m) (hmb:m<=1048576)
  (hY:∀i h',i<many->J (i+1) h'->lD Tryz.prog y #[.int .i64 (i:Nat),.int .u64 (V/2^i%2:Nat)] h' fun v h''=>v=.bool true/\J i h''):
  FnV Tryz.prog 283 #[.func (.yield y) #[] #[],.pointer (some ⟨bm,0,none⟩),.pointer (some ⟨bw,0,none⟩)] h fun r h'=>r=.tuple #[]/\J 0 h':=by
 refine Fn.of (args:=[.func (.yield y) #[] #[],.pointer (some ⟨bm,0,none⟩),.pointer (some ⟨bw,0,none⟩)]) Tryz.func283 (by kernel_rfl) rfl Tryz.ntmps283 rfl fun w0 cs=>?_;refine gO ?_;conv=>whnf
 refine ⟨_,(hcells _ _ h0).1,?_⟩;conv=>whnf
 repeat (refine oL ?_;conv=>whnf)
 refine aD.loop (X:=Nat) (fun i=>[(0,.func (.yield y) #[] #[]),(1,.pointer (some ⟨bm,0,none⟩)),(2,.pointer (some ⟨bw,0,none⟩)),(4,.int .i64 ((i:Int) - 1))]) (fun i h'=>i<=many/\J i h') (fun i=>i) many
  ⟨Nat.le_refl _,h0⟩ ⟨rfl,rfl,rfl,rfl,trivial⟩ ?_
 rintro i h' ⟨hi,hJ⟩ ih;obtain ⟨hc1,hc2,hw⟩:=hcells _ _ hJ
 (try refine gO ?_);conv=>whnf
 refine ⟨fun h1=>?_,fun h1=>?_⟩<;>conv=>whnf
 ·obtain ⟨k,rfl⟩:∃k,i=k+1:=⟨i - 1,by omega⟩;rw [show ((k+1:Nat):Int) - 1=(k:Nat) by omega];refine ⟨_,hc2,?_⟩;conv=>whnf
  rw [show ((k:Nat):Int)/64=(k/64:Nat) by omega];obtain ⟨b,off,rfl,hrd⟩:=hw.rd rfl (by omega);repeat (refine oL ?_;conv=>whnf)
  refine ⟨_,hrd (k/64) (by omega),?_⟩;conv=>whnf
  repeat (refine oL ?_;conv=>whnf)
  rw [show ((k:Nat):Int)%64=(k%64:Nat) by omega,aOO];have b1:=bCB (qA V (k/64)) (k%64);have b2:=bBC V k;obtain ⟨x,hx⟩:∃x,x=wdc V (k/64)/2^(k%64):=⟨_,rfl⟩;rw [<-hx] at b1 b2 ⊢;repeat (refine oL ?_;conv=>whnf)
  rw [show (((fun a b=>a&&&b) (x:Int).toNat (Int.toNat 1):Nat):Int)=(V/2^k%2:Nat) by rw [<-b2];exact congrArg _ (Nat.and_two_pow_sub_one_eq_mod x 1)];refine aD.callY (hY k h' (by omega) hJ) ?_;rintro _ h'' ⟨rfl,hJ'⟩
  (try refine gO ?_);conv=>whnf
  repeat (refine oL ?_;conv=>whnf)
  exact ih k _ _ ⟨by omega,hJ'⟩ (by omega) ⟨rfl,rfl,rfl,rfl,trivial⟩
 refine aD.fin Tryz.func283 rfl rfl ⟨_,rfl,?_⟩;have:i=0:=by omega
 subst this;exact ⟨rfl,hJ⟩
theorem low_fn {h:Array Obj} (v:Value) (many:Int) (hv:v.cells = #[v]):
  FnV Tryz.prog 230 #[v,.int .i64 many] h fun r h'=>r=.func (.func 283) #[] #[.pointer (some ⟨h.size+1,0,none⟩),.pointer (some ⟨h.size,0,none⟩)] /\
   h'=(h.push (.cells #[v] 174 (0,0))).push (.cells #[.int .i64 many] 3 (0,0)):=by
 refine Fn.of (args:=[v,.int .i64 many]) Tryz.func230 (by kernel_rfl) rfl Tryz.ntmps230 rfl fun w0 cs=>?_;refine gO ?_;conv=>whnf
 refine aD.eff (aDU) ?_;rintro _ _ ⟨rfl,rfl⟩
 (try refine gO ?_);conv=>whnf
 refine aD.eff (aDU) ?_;rintro _ _ ⟨rfl,rfl⟩
 (try refine gO ?_);conv=>whnf
 refine aD.ret Tryz.func230 rfl rfl ⟨_,rfl,?_⟩;rw [hv];refine ⟨?_,rfl⟩;show Value.func _ _ _=_
 simp
theorem uM {h:Array Obj} {a:Option Addr} {m cap V:Nat} (hw:Wr h (.slice a m cap) m V) (h0:0<m) (hm:m<=1048576):
  FnV Tryz.prog 225 #[.slice a m cap] h fun r h'=>lB h.size h' r m V/\aH h.size h h':=by
 obtain ⟨b,off,rfl,hrd⟩:=hw.rd rfl h0;have hV:V<B^m:=by obtain ⟨_,_,_,_,hV,_⟩:=hw;exact hV
 have hb:b<h.size:=tY (hrd 0 h0);refine Fn.of (args:=[.slice (some ⟨b,off,none⟩) m cap]) Tryz.func225 (by kernel_rfl) rfl Tryz.ntmps225 rfl fun w0 cs=>?_;refine gO ?_;conv=>whnf
 refine aD.eff (iN tab [] (h1:=by simp)) ?_;rintro _ _ ⟨rfl,rfl⟩
 (try refine gO ?_);conv=>whnf
 have hown:Own h.size (h.push (.cells #[] 173 (0,0))) 173 1 (.slice (some ⟨h.size,0,none⟩) 0 0) 0 []:=
  ⟨rfl,.inr ⟨h.size,0,#[],rfl,Nat.le_refl _,gH _ _ _,Nat.le_refl _,by unfold maxLen;omega,rfl,rfl⟩⟩
 have hk1:aH h.size h (h.push (.cells #[] 173 (0,0))):=(aH.refl _ _).push (Nat.le_refl _) _;refine aD.eff (xT tab (i:=⟨.int .u64 0,1,8⟩) (base:=h.size) (m:=0) (m2:=m) (news:=(List.range m).map fun j=>Value.int .u64 (wdc V j:Nat)) hown (by simp) (fun j u hu=>?_) (fun u hu=>?_) (h63:=by unfold maxLen;omega) (hbytes:=by dsimp only;omega) (hbase:=by simp)) ?_
 ·rw [List.getElem?_map] at hu;have hj:j<m:=by
   rcases Nat.lt_or_ge j m with h|h
   ·exact h
   rw [List.getElem?_eq_none (by simp;omega)] at hu;cases hu
  rw [List.getElem?_range hj] at hu;obtain rfl:=Option.some.inj hu;rw [hk1.cell hb];exact hrd j hj
 ·obtain ⟨j,_,rfl⟩:=List.mem_map.1 hu;rfl
 rintro v' h' ⟨H1,H2,H3,H4⟩
 (try refine gO ?_);conv=>whnf
 refine aD.ret Tryz.func225 rfl rfl ⟨_,rfl,?_⟩;have hkk:aH h.size h h':=hk1.trans (hown.keeps (by simp) H2 H3);refine ⟨?_,hkk⟩;rw [Nat.zero_add] at H1;obtain ⟨hl,H1⟩:=H1;rcases H1 with ⟨_,e⟩|⟨g,cap',cur,e1,e2,e3,e4,e5,e6,e7⟩
 ·omega
 dsimp only at e6 e7;refine ⟨g,cap',cur,e1,e2,e3,by omega,e4,hV,fun j hj=>?_⟩;have:(cur.toList.take (m*1))[j]? = some (.int .u64 (wdc V j:Nat)):=by
  rw [e7]
  simp [List.getElem?_range hj]
 rw [List.getElem?_take_of_lt (show j<m*1 by omega)] at this
 simpa using this

abbrev nilS:Value:=.slice none 0 0
theorem Wr.nil (h:Array Obj):Wr h nilS 0 0:=⟨none,0,rfl,Nat.le_refl _,by decide,fun h=>absurd h (Nat.lt_irrefl _)⟩
theorem kJ (x y:Nat):lC (x:Int) (y:Int)<0↔x<y:=by
 unfold lC
 constructor
 ·intro h;split at h
  ·omega
  split at h<;>omega
 intro h;rw [if_pos (by omega)];decide
theorem aVO {h:Array Obj} {g m V:Nat} {cur:Array Value} (hat:At h g cur 173) (hc:∀j,j<m->cur[j]? = some (.int .u64 (wdc V j:Nat))):
  ∀(j:Nat) (u:Value),((List.range m).map fun j=>Value.int .u64 (wdc V j:Nat))[j]? = some u->bL h g (0+j)=some u:=fun j u hu=>by
 rw [List.getElem?_map] at hu;have hj:j<m:=by
  rcases Nat.lt_or_ge j m with h|h
  ·exact h
  rw [List.getElem?_eq_none (by simp;omega)] at hu;cases hu
 rw [List.getElem?_range hj] at hu;obtain rfl:=Option.some.inj hu;rw [hat.cell,Nat.zero_add];exact hc j hj
theorem aWQ (m V:Nat):∀u∈(List.range m).map (fun j=>Value.int .u64 (wdc V j:Nat)),u.oneCell'=true:=fun u hu=>by
 obtain ⟨j,_,rfl⟩:=List.mem_map.1 hu;rfl
def DivR (h h':Array Obj) (r:Value) (V1 V2:Nat):Prop:=
 ∃vq vr mq mr,r=.tuple #[vq,vr]/\Wr h' vq mq (V1/V2)/\Wr h' vr mr (V1%V2)/\mq<=nw V1/\mr<=nw V1+nw V2+1/\aH h.size h h'
theorem aVJ {h:Array Obj} {a:Option Addr} {m cap V g:Nat} (hw:Wr h (.slice a m cap) m V) (hm:0<m) (hg:h.size<=g):(Value.slice a m cap).ownBlock≠some g:=by
 intro e;obtain ⟨b,off,rfl,hr⟩:=hw.rd rfl hm;have:=tY (hr 0 hm);have e:b=g:=by simpa [Value.ownBlock] using e
 omega
structure aMV (h:Array Obj) (v2:Value) (g1 g3:Nat) (V1 V2 i:Nat) (h':Array Obj):Prop where
 keeps:aH h.size h h'
 bb:At h' h.size #[v2] 174
 qq:At h' (h.size+1) #[.slice (some ⟨g1,0,none⟩) (nw V1) (nw V1)] 174
 rr:At h' (h.size+1+1) #[.slice (some ⟨g3,0,none⟩) (nw V2+1) (nw V2+1)] 174
 q:∃cur,At h' g1 cur 173/\cur.size=nw V1/\V1/2^i/V2*2^i<B^nw V1 /\ ∀j,j<nw V1->cur[j]? = some (.int .u64 (wdc (V1/2^i/V2*2^i) j:Nat))
 r:∃cur,At h' g3 cur 173/\cur.size=nw V2+1 /\ ∀j,j<nw V2+1->cur[j]? = some (.int .u64 (wdc (V1/2^i%V2) j:Nat))
theorem aMV.put {h:Array Obj} {v2:Value} {g1 g3 V1 V2 i:Nat} {h' h'':Array Obj} (H:aMV h v2 g1 g3 V1 V2 i h') {b:Nat} (P:nK h' h'' b) (hb:h.size+2<b) (h1:g1≠b) (h3:g3≠b):aMV h v2 g1 g3 V1 V2 i h'':=by
 obtain ⟨k,b1,b2,b3,⟨c1,q1,q2⟩,⟨c2,r1,r2⟩⟩:=H;exact ⟨k.trans (P.keeps.mono (by omega)),P.at b1 (by omega),P.at b2 (by omega),P.at b3 (by omega),⟨c1,P.at q1 h1,q2⟩,⟨c2,P.at r1 h3,r2⟩⟩
theorem aMV.kept {h:Array Obj} {v2:Value} {g1 g3 V1 V2 i:Nat} {h' h'':Array Obj} (H:aMV h v2 g1 g3 V1 V2 i h') {b:Nat} (P:aH b h' h'') (hb:h.size+2<b) (h1:g1<b) (h3:g3<b):aMV h v2 g1 g3 V1 V2 i h'':=by
 obtain ⟨k,b1,b2,b3,⟨c1,q1,q2⟩,⟨c2,r1,r2⟩⟩:=H;exact ⟨k.trans (P.mono (by omega)),P.at b1 (by omega),P.at b2 (by omega),P.at b3 (by omega),⟨c1,P.at q1 h1,q2⟩,⟨c2,P.at r1 h3,r2⟩⟩
theorem aWV {h:Array Obj} {v1 v2:Value} {V1 V2:Nat} (hw1:Wr h v1 (nw V1) V1) (hw2:Wr h v2 (nw V2) V2) (h0:V2≠0) (hm1:nw V1<=65536) (hm2:nw V2<=65536):
  FnV Tryz.prog 118 #[v1,v2] h fun r h'=>DivR h h' r V1 V2:=by
 obtain ⟨a1,cap1,rfl⟩:∃a cap,v1=.slice a (nw V1) cap:=let ⟨a,cap,e,_⟩:=hw1;⟨a,cap,e⟩;obtain ⟨a2,cap2,rfl⟩:∃a cap,v2=.slice a (nw V2) cap:=let ⟨a,cap,e,_⟩:=hw2;⟨a,cap,e⟩;refine Fn.of (args:=[.slice a1 (nw V1) cap1,.slice a2 (nw V2) cap2]) Tryz.func118 (by kernel_rfl) rfl Tryz.ntmps118 rfl fun w0 cs=>?_;refine gO ?_;conv=>whnf
 refine aD.eff (bAT (cs:=#[.slice a2 (nw V2) cap2]) rfl) ?_;rintro _ ha ⟨rfl,Na⟩
 (try refine gO ?_);conv=>whnf
 refine aD.eff (aGX (cs:=#[nilS]) tab) ?_;rintro _ hb ⟨rfl,Nb⟩
 (try refine gO ?_);conv=>whnf
 refine aD.eff (aGX (cs:=#[nilS]) tab) ?_;rintro _ h1 ⟨rfl,Nc⟩;have k1:aH h.size h h1:=(Na.keeps.trans (Nb.keeps.mono (by rw [Na.size];omega))).trans (Nc.keeps.mono (by rw [Nb.size,Na.size];omega));have B1:=Nc.at (Nb.at Na.blk);have Q1:=Nc.at Nb.blk;have R1:=Nc.blk;have s1:h1.size=h.size+3:=by rw [Nc.size,Nb.size,Na.size]
 rw [Na.size] at Q1;rw [Nb.size,Na.size] at R1;rw [Nb.size,Na.size];clear Na Nb Nc;have hw1':=hw1.keeps k1;have hw2':=hw2.keeps k1
 (try refine gO ?_);conv=>whnf
 refine ⟨_,B1.one,?_⟩;conv=>whnf
 refine aD.callV (mG hw1' hw2' (by omega)) ?_;rintro _ h1 ⟨rfl,rfl⟩
 (try refine gO ?_);conv=>whnf
 refine ⟨fun hlt=>?_,fun hlt=>?_⟩<;>conv=>whnf
 ·refine aD.eff (jG tab Q1) ?_;rintro _ h2 P2
  (try refine gO ?_);conv=>whnf
  refine aD.eff (jG tab (P2.at R1 (by omega))) ?_;rintro _ h3 P3
  (try refine gO ?_);conv=>whnf
  have hV:=(kJ V1 V2).1 hlt;have hk:aH h.size h h3:=(k1.trans (P2.keeps.mono (by omega))).trans (P3.keeps.mono (by omega));refine aD.retC tab Tryz.func118 rfl (vs:=[nilS,.slice a1 (nw V1) cap1]) ⟨⟨_,_,rfl,rfl,(P3.at P2.blk (by omega)).one⟩,⟨_,_,rfl,rfl,P3.blk.one⟩,trivial⟩ ⟨_,rfl,?_⟩;refine ⟨_,_,0,nw V1,rfl,by rw [Nat.div_eq_of_lt hV];exact Wr.nil _,by rw [Nat.mod_eq_of_lt hV];exact hw1.keeps hk,by omega,by omega,hk⟩
 have hge:V2<=V1:=by
  rcases Nat.lt_or_ge V1 V2 with h|h
  ·exact absurd ((kJ V1 V2).2 h) hlt
  exact h
 refine aD.eff (wY tab (nw V1) (nw V1) (hn:=⟨by omega,by omega,by omega,by dsimp only;omega,by omega⟩)) ?_;rintro _ h2 ⟨rfl,N2⟩;have B2:=N2.at B1;have Q2:=N2.at Q1;have R2:=N2.at R1
 (try refine gO ?_);conv=>whnf
 refine aD.eff (jG tab Q2) ?_;rintro _ h3 P3
 (try refine gO ?_);conv=>whnf
 refine ⟨_,(P3.at B2 (by omega)).one,?_⟩;conv=>whnf
 refine ⟨fun hone=>?_,fun hone=>?_⟩<;>conv=>whnf
 ·have hone:nw V2=1:=by omega
  have hV2B:V2<B:=by have:=mV V2;rw [hone,Nat.pow_one] at this;exact this
  have hV2w:wdc V2 0=V2:=by unfold wdc;rw [Nat.pow_zero,Nat.div_one];exact Nat.mod_eq_of_lt hV2B
  have hm1p:0<nw V1:=sO (by omega);repeat (refine oL ?_;conv=>whnf)
  have s2:=N2.size;have s3:=P3.size;have k3:aH h.size h h3:=(k1.trans (N2.keeps.mono (by omega))).trans (P3.keeps.mono (by omega))
  refine aD.loop (X:=Nat) (fun k=>[(0,.slice a1 (nw V1) cap1),(3,.pointer (some ⟨h.size,0,none⟩)),(4,.pointer (some ⟨h.size+1,0,none⟩)),(5,.pointer (some ⟨h.size+1+1,0,none⟩)),(6,.int .u64 (V1/B^k%V2:Nat)),(7,.int .i64 ((k:Nat) - 1))])
   (fun k h'=>k<=nw V1/\aH h.size h h'/\At h' h.size #[.slice a2 (nw V2) cap2] 174/\At h' (h.size+1) #[.slice (some ⟨h1.size,0,none⟩) (nw V1) (nw V1)] 174/\At h' (h.size+1+1) #[nilS] 174 /\
    ∃cur,At h' h1.size cur 173/\cur.size=nw V1/\V1/B^k/V2*B^k<B^nw V1 /\ ∀j,j<nw V1->cur[j]? = some (.int .u64 (wdc (V1/B^k/V2*B^k) j:Nat)))
   (fun k=>k) (nw V1)
   ⟨Nat.le_refl _,k3,P3.at B2 (by omega),P3.blk,P3.at R2 (by omega),_,P3.at N2.blk (by omega),by simp,?_,fun j hj=>?_⟩ ⟨rfl,rfl,rfl,rfl,?_,rfl,trivial⟩ ?_
  ·rw [Nat.div_eq_of_lt (mV V1),Nat.zero_div,Nat.zero_mul];exact eD _
  ·rw [Nat.div_eq_of_lt (mV V1),Nat.zero_div,Nat.zero_mul,aAG,Array.getElem?_replicate,if_pos hj];rfl
  ·rw [Nat.div_eq_of_lt (mV V1),Nat.zero_mod];rfl
  rintro k h4 ⟨hk,k4,B4,Q4,R4,cur,C4,hsz,hS,hc⟩ ih
  (try refine gO ?_);conv=>whnf
  refine ⟨fun hpos=>?_,fun hpos=>?_⟩<;>conv=>whnf
  ·obtain ⟨i,rfl⟩:∃i,k=i+1:=⟨k - 1,by omega⟩;rw [show ((i+1:Nat):Int) - 1=(i:Nat) by omega];have hwi:=hw1.keeps k4;obtain ⟨b1,off1,rfl,hrd1⟩:=hwi.rd rfl hm1p;obtain ⟨b2,off2,rfl,hrd2⟩:=(hw2.keeps k4).rd rfl (by omega);refine aD.held tab [(0,[]),(1,[]),(2,[]),(3,[]),(4,[]),(5,[]),(6,[]),(7,[]),(8,[]),(9,[]),(10,[0]),(11,[]),(12,[]),(13,[]),(14,[]),(15,[]),(16,[])] (by kernel_rfl) ?_;conv=>whnf
   refine ⟨_,Q4.one,?_⟩;conv=>whnf
   repeat (refine oL ?_;conv=>whnf)
   refine ⟨_,hrd1 i (by omega),?_⟩;conv=>whnf
   refine ⟨_,B4.one,?_⟩;conv=>whnf
   repeat (refine oL ?_;conv=>whnf)
   refine ⟨_,hrd2 0 (by omega),?_⟩;conv=>whnf
   refine ⟨rfl,_,Eff.call (bAV (V1/B^(i+1)%V2) (wdc V1 i) (wdc V2 0) (iB _ _) (iB _ _) (by rw [hV2w];exact Nat.mod_lt _ (by omega))),?_⟩;rintro _ h4 ⟨⟨q,r,rfl,hq,hr⟩,rfl⟩
   refine And.intro (by conv=>whnf
                        repeat (refine And.intro (fun e=>e) ?_;conv=>whnf)
                        exact trivial) ?_
   conv=>whnf
   repeat (refine oL ?_;conv=>whnf)
   refine ⟨rfl,_,lZ tab C4 (hlt:=by omega),?_⟩;rintro _ h5 P5
   refine And.intro (by conv=>whnf
                        repeat (refine And.intro (fun e=>e) ?_;conv=>whnf)
                        exact trivial) ?_
   conv=>whnf
   (try refine gO ?_);conv=>whnf
   repeat (refine oL ?_;conv=>whnf)
   rw [hV2w] at hq hr;obtain ⟨e1,e2⟩:=aXW (V1:=V1) (V2:=V2) (i:=i) (by omega);rw [<-hq] at e1;rw [<-hr] at e2;have hqB:q<B:=by rw [hq];exact aHH (Nat.mod_lt _ (by omega)) (iB _ _)
   have eS:V1/B^i/V2*B^i=aAV (V1/B^(i+1)/V2*B^(i+1)) i q:=by rw [aXP,e1]
   have z1:=k4.size
   refine ih i _ _ ⟨by omega,k4.trans (P5.keeps.mono (by omega)),P5.at B4 (by omega),P5.at Q4 (by omega),P5.at R4 (by omega),_,P5.blk,by simpa using hsz,by rw [eS];exact aAP hqB (by omega) hS,fun j hj=>?_⟩ (by omega)
    ⟨rfl,rfl,rfl,rfl,by rw [e2];rfl,rfl,trivial⟩
   rw [eS,rY hqB,show 0+((i:Int)).toNat=i by omega];by_cases e:j=i
   ·subst e;rw [Array.getElem?_setIfInBounds_self_of_lt (by omega),if_pos rfl]
   rw [Array.getElem?_setIfInBounds_ne (by omega),if_neg e];exact hc j hj
  have hk0:k=0:=by omega
  subst hk0;rw [Nat.pow_zero,Nat.div_one,Nat.mul_one] at hS hc;rw [Nat.pow_zero,Nat.div_one];refine ⟨_,Q4.one,?_⟩;conv=>whnf
  (try refine gO ?_);conv=>whnf
  refine aD.eff (sD tab [.int .u64 (V1%V2:Nat)] (h1:=by simp [Value.cells])) ?_;rintro _ h5 ⟨rfl,N5⟩
  (try refine gO ?_);conv=>whnf
  refine aD.eff (jG tab (N5.at Q4)) ?_;rintro _ h6 P6
  (try refine gO ?_);conv=>whnf
  refine aD.eff (jG tab (P6.at (N5.at R4) (by omega))) ?_;rintro _ h7 P7
  (try refine gO ?_);conv=>whnf
  have z1:=k4.size;have z5:=N5.size;have z6:=P6.size;have k7:aH h.size h h7:=((k4.trans (N5.keeps.mono (by omega))).trans (P6.keeps.mono (by omega))).trans (P7.keeps.mono (by omega));refine aD.retC tab Tryz.func118 rfl (vs:=[.slice (some ⟨h1.size,0,none⟩) (nw V1) (nw V1),.slice (some ⟨h4.size,0,none⟩) 1 1]) ⟨⟨_,_,rfl,rfl,(P7.at P6.blk (by omega)).one⟩,⟨_,_,rfl,rfl,P7.blk.one⟩,trivial⟩ ⟨_,rfl,?_⟩;have hlt4:=C4.lt;refine ⟨_,_,nw V1,1,rfl,Wr.of_at (P7.at (P6.at (N5.at C4) (by omega)) (by omega)) (Nat.le_refl _) hS hc,Wr.of_at (P7.at (P6.at N5.blk (by omega)) (by omega)) (Nat.le_refl _) ?_ (fun j hj=>?_),by omega,by omega,k7⟩
  ·rw [Nat.pow_one];exact Nat.lt_of_lt_of_le (Nat.mod_lt _ (by omega)) (by omega)
  have:j=0:=by omega
  subst this;rw [show wdc (V1%V2) 0=V1%V2 by unfold wdc;rw [Nat.pow_zero,Nat.div_one];exact Nat.mod_eq_of_lt (Nat.lt_of_lt_of_le (Nat.mod_lt _ (by omega)) (by omega))];rfl
 have hp2:0<nw V2:=sO h0;have hn2:2<=nw V2:=by omega
 have hm1p:0<nw V1:=sO (by omega);have hmono:=aJM hge;have s2:=N2.size;have s3:=P3.size;have k3:aH h.size h h3:=(k1.trans (N2.keeps.mono (by omega))).trans (P3.keeps.mono (by omega));have B3:=P3.at B2 (show h.size≠h.size+1 by omega);have R3:=P3.at R2 (show h.size+1+1≠h.size+1 by omega);have Q3:=P3.blk;have C3:=P3.at N2.blk (show h1.size≠h.size+1 by omega);clear N2 P3 B2 Q2 R2;have hbl1:bl V1<=4194304:=by
  have:=aAB (show V1≠0 by omega);have:=wC (iB V1 (nw V1 - 1));omega
 refine aD.held tab [(0,[]),(2,[]),(1,[2]),(3,[]),(4,[]),(5,[]),(6,[])] (by kernel_rfl) ?_;conv=>whnf
 refine ⟨_,B3.one,?_⟩;conv=>whnf
 refine ⟨rfl,_,Eff.call (aUO (hw1.keeps k3) (by omega)),?_⟩;rintro _ h3 ⟨rfl,rfl⟩
 refine And.intro (by conv=>whnf
                      repeat (refine And.intro (fun e=>e) ?_;conv=>whnf)
                      exact trivial) ?_
 conv=>whnf
 refine ⟨rfl,_,Eff.call (aUO (hw2.keeps k3) (by omega)),?_⟩;rintro _ h3 ⟨rfl,rfl⟩
 refine And.intro (by conv=>whnf
                      repeat (refine And.intro (fun e=>e) ?_;conv=>whnf)
                      exact trivial) ?_
 conv=>whnf
 repeat (refine oL ?_;conv=>whnf)
 obtain ⟨many,hmany⟩:∃many,many=bl V1 - bl V2+1:=⟨_,rfl⟩;have hbl2:=aQP h0;rw [show (bl V1:Int) - (bl V2:Int)+1=(many:Nat) by omega];have hXlt:V1/2^many<V2:=by
  have h1:=aPN V1;have h2:=aNL h0;refine Nat.lt_of_lt_of_le (Nat.div_lt_of_lt_mul ?_) h2;rw [<-Nat.pow_add,show many+(bl V2 - 1)=bl V1 by omega];exact h1
 have hnX:=fR (Nat.le_of_lt hXlt)
 (try refine gO ?_);conv=>whnf
 refine ⟨_,B3.one,?_⟩;conv=>whnf
 repeat (refine oL ?_;conv=>whnf)
 refine aD.eff (wY tab (nw V2+1) (nw V2+1) (hn:=⟨by omega,by omega,by omega,by dsimp only;omega,by omega⟩)) ?_;rintro _ h4 ⟨rfl,N4⟩
 (try refine gO ?_);conv=>whnf
 refine aD.eff (jG tab (N4.at R3)) ?_;rintro _ h5 P5;have s4:=N4.size;have s5:=P5.size;have k5:aH h.size h h5:=(k3.trans (N4.keeps.mono (by omega))).trans (P5.keeps.mono (by omega));have B5:=P5.at (N4.at B3) (show h.size≠h.size+1+1 by omega);have Q5:=P5.at (N4.at Q3) (show h.size+1≠h.size+1+1 by omega);have C5:=P5.at (N4.at C3) (show h1.size≠h.size+1+1 by omega);have R5:=P5.blk;have D5:=P5.at N4.blk (show h3.size≠h.size+1+1 by omega);clear N4 P5 B3 Q3 R3 C3
 (try refine gO ?_);conv=>whnf
 refine aD.held tab [(0,[]),(1,[]),(3,[]),(2,[0]),(4,[0]),(5,[])] (by kernel_rfl) ?_;conv=>whnf
 refine ⟨_,R5.one,?_⟩;conv=>whnf
 refine ⟨rfl,_,Eff.call (uM (hw1.keeps k5) hm1p (by omega)),?_⟩;rintro vc h6 ⟨O6,k6⟩
 refine And.intro (by conv=>whnf
                      repeat (first|(refine And.intro (fun e=>(aH.cell (k6) (by omega)).trans e) ?_;conv=>whnf)|(refine And.intro (fun e=>aH.cells (k6) (by omega) e) ?_;conv=>whnf))
                      exact trivial) ?_
 conv=>whnf
 obtain ⟨g6,cap6,cur6,rfl,hg6,C6,hsz6,hm6,hV6,hc6⟩:=O6;refine ⟨rfl,_,Eff.call (aOW C6 hsz6 hm6 hV6 hc6 (by omega) many (by omega)),?_⟩;rintro _ h7 ⟨rfl,cur7,hh7,hsz7,hc7⟩
 refine And.intro (by conv=>whnf
                      repeat (first|(refine And.intro (fun e=>(aH.cell ((hh7▸(aH.refl g6 h6).setB (Nat.le_refl _) _ _:aH g6 h6 h7)) (by omega)).trans e) ?_;conv=>whnf)|(refine And.intro (fun e=>aH.cells ((hh7▸(aH.refl g6 h6).setB (Nat.le_refl _) _ _:aH g6 h6 h7)) (by omega) e) ?_;conv=>whnf))
                      exact trivial) ?_
 conv=>whnf
 have k7:aH g6 h6 h7:=hh7▸(aH.refl g6 h6).setB (Nat.le_refl _) _ _;have C7:At h7 g6 cur7 173:=by rw [hh7];exact fQ C6.lt _ _
 have D7:=k7.at (k6.at D5 D5.lt) (show h3.size<g6 by omega);have hw7:=Wr.of_at C7 (m:=nw (V1/2^many)) (cap:=cap6) (V:=V1/2^many) (by have:=fR (Nat.div_le_self V1 (2^many));omega) (mV _) (fun j hj=>hc7 j (by have:=fR (Nat.div_le_self V1 (2^many));omega));refine ⟨rfl,_,aWK tab D7 (cs:=(List.range (nw (V1/2^many))).map fun j=>Value.int .u64 (wdc (V1/2^many) j:Nat)) (hn:=by rw [List.length_map,List.length_range];exact (Nat.min_eq_left (by omega)).symm) (hsrc:=aVO C7 (fun j hj=>hc7 j (by have:=fR (Nat.div_le_self V1 (2^many));omega))) (hfit:=by simp;omega) (h1:=aWQ _ _),?_⟩;rintro _ h8 ⟨rfl,P8⟩
 refine And.intro (by conv=>whnf
                      repeat (refine And.intro (fun e=>e) ?_;conv=>whnf)
                      exact trivial) ?_
 conv=>whnf
 have z6:=k6.size;have z7:=k7.size;have z8:=P8.size;have k8:aH h.size h h8:=((k5.trans (k6.mono (by omega))).trans (k7.mono (by omega))).trans (P8.keeps.mono (by omega));have up:∀ {b cs e},At h5 b cs e->b≠h3.size->At h8 b cs e:=fun H hne=>P8.at (k7.at (k6.at H H.lt) (by have:=H.lt;omega)) hne;have B8:=up B5 (by omega);have Q8:=up Q5 (by omega);have R8:=up R5 (by omega);have C8:=up C5 (by omega);have D8:=P8.blk;obtain ⟨cur8,hcur8⟩:∃cur8,cur8=(List.take 0 (Array.replicate (nw V2+1) (Value.int .u64 0)).toList++(List.range (nw (V1/2^many))).map (fun j=>Value.int .u64 (wdc (V1/2^many) j:Nat))++List.drop (0+((List.range (nw (V1/2^many))).map (fun j=>Value.int .u64 (wdc (V1/2^many) j:Nat))).length) (Array.replicate (nw V2+1) (Value.int .u64 0)).toList).toArray:=⟨_,rfl⟩;have hD8:At h8 h3.size cur8 173:=by rw [hcur8];exact D8
 have hsz8:cur8.size=nw V2+1:=by rw [hcur8];simp;omega
 have hc8:∀j,j<nw V2+1->cur8[j]? = some (.int .u64 (wdc (V1/2^many) j:Nat)):=fun j hj=>by
  rw [hcur8];simp only [List.take_zero,List.nil_append,Nat.zero_add,List.length_map,List.length_range,List.getElem?_toArray,Array.toList_replicate,List.drop_replicate];rcases Nat.lt_or_ge j (nw (V1/2^many)) with h|h
  ·rw [List.getElem?_append_left (by simpa using h),List.getElem?_map,List.getElem?_range h];rfl
  rw [List.getElem?_append_right (by simpa using h),List.length_map,List.length_range,List.getElem?_replicate,if_pos (by omega),aEM (mV _) h];rfl
 clear hcur8 D8 P8 up B5 Q5 R5 C5 D5 D7 C7 hw7
 (try refine gO ?_);conv=>whnf
 have I8:aMV h (.slice a2 (nw V2) cap2) h1.size h3.size V1 V2 many h8:=by
  refine ⟨k8,B8,Q8,R8,⟨_,C8,by simp,?_,fun j hj=>?_⟩,⟨cur8,hD8,hsz8,by rw [Nat.mod_eq_of_lt hXlt];exact hc8⟩⟩
  ·rw [Nat.div_eq_of_lt hXlt,Nat.zero_mul];exact eD _
  rw [Nat.div_eq_of_lt hXlt,Nat.zero_mul,aAG,Array.getElem?_replicate,if_pos hj];rfl
 clear k8 B8 Q8 R8 C8 hD8 hsz8 hc8;refine aD.callV (low_fn (.slice a1 (nw V1) cap1) many rfl) ?_;rintro _ h9 ⟨rfl,hh9⟩;have z9:h9.size=h8.size+2:=by rw [hh9];simp
 have k9:aH h8.size h8 h9:=by rw [hh9];exact ((aH.refl _ _).push (Nat.le_refl _) _).push (by simp) _
 have m9:bL h9 h8.size 0=some (.slice a1 (nw V1) cap1):=by rw [hh9];exact ((gH _ _ _).push _).one
 have n9:bL h9 (h8.size+1) 0=some (.int .i64 many):=by
  rw [hh9];have:=(gH (h8.push (.cells #[.slice a1 (nw V1) cap1] 174 (0,0))) #[.int .i64 many] 3).one
  simpa using this
 have I9:=I8.kept k9 (by omega) (by omega) (by omega);clear hh9
 (try refine gO ?_);conv=>whnf
 refine aD.sub (l':=[(3,.pointer (some ⟨h.size,0,none⟩)),(4,.pointer (some ⟨h.size+1,0,none⟩)),(5,.pointer (some ⟨h.size+1+1,0,none⟩)),(66,.func (.func 283) #[] #[.pointer (some ⟨h8.size+1,0,none⟩),.pointer (some ⟨h8.size,0,none⟩)])]) ⟨rfl,rfl,rfl,rfl,trivial⟩ ?_;refine aD.rangeFuncL fun r h10 hrec N10=>?_;have z10:=N10.size;have I10:=I9.kept N10.keeps (by omega) (by omega) (by omega)
 refine (low1_fn (J:=fun i h'=>aMV h (.slice a2 (nw V2) cap2) h1.size h3.size V1 V2 i h'/\mB h' (h9.size+1) r .ready none/\h'[h9.size]? = some (.deferred (some []))/\bL h' h8.size 0=some (.slice a1 (nw V1) cap1)/\bL h' (h8.size+1) 0=some (.int .i64 many))
  (m:=nw V1) (V:=V1) ⟨I10,N10.loop,N10.dfr,(N10.keeps.cell (by omega)).trans m9,(N10.keeps.cell (by omega)).trans n9⟩ (fun i h' H=>⟨H.2.2.2.2,H.2.2.2.1,hw1.keeps H.1.keeps⟩) ?_ (by omega) ?_).mono ?_
 ·have:=aAB (show V1≠0 by omega);have:=wC (iB V1 (nw V1 - 1));omega
 ·rintro i h11 hi ⟨I,LA,df,c1,c2⟩;clear I8 I9 I10 m9 n9 N10 k6 k7 hh7 C6 hsz6 hm6 hV6 hc6 hsz7 hc7;obtain ⟨bit,hbit⟩:∃bit,bit=V1/2^i%2:=⟨_,rfl⟩;rw [<-hbit];have hb1:bit<=1:=by omega
  refine lD.ofL hrec LA (vs:=[.int .i64 (i:Nat),.int .u64 (bit:Nat)]) ?_;intro w1 fr1 cs1
  (try refine gO ?_);conv=>whnf
  refine aD.beginRoundL LA fun h12 P12 LB=>?_;have J12:=I.put P12 (by omega) (by omega) (by omega);have df12:h12[h9.size]? = some (.deferred (some [])):=by rw [P12.other _ (by omega)];exact df
  have d1:=(P12.cell (b:=h8.size) (o:=0) (by omega)).trans c1;have d2:=(P12.cell (b:=h8.size+1) (o:=0) (by omega)).trans c2;clear I LA df c1 c2;obtain ⟨kk,Bx,Qx,Rx,hqx,curR,Rc,Rsz,Rw⟩:=J12
  (try refine gO ?_);conv=>whnf
  refine ⟨_,Rx.one,?_⟩;conv=>whnf
  (try refine gO ?_);conv=>whnf
  obtain ⟨R,hR⟩:∃R,R=V1/2^(i+1)%V2:=⟨_,rfl⟩;rw [<-hR] at Rw;have hRlt:R<V2:=by rw [hR];exact Nat.mod_lt _ (by omega)
  have hV2B:V2<B^nw V2:=mV V2;have hWB:2*R+bit<B^(nw V2+1):=by
   have:=Nat.mul_le_mul_left (B^nw V2) (show 2<=B by decide);rw [Nat.pow_succ];omega
  have zk:=kk.size;have LBlt:=LB.lt
  refine aD.loop (X:=Nat) (fun j=>[(3,.pointer (some ⟨h.size,0,none⟩)),(4,.pointer (some ⟨h.size+1,0,none⟩)),(5,.pointer (some ⟨h.size+1+1,0,none⟩)),(9,.int .i64 (i:Nat)),(10,.int .u64 (cdb R bit j:Nat)),(70,.int .i64 ((nw V2+1:Nat):Int)),(71,.int .i64 (j:Nat))])
   (fun j h'=>j<=nw V2+1/\nK h12 h' h3.size /\ ∃cur,At h' h3.size cur 173/\cur.size=nw V2+1 /\ ∀t,t<nw V2+1->cur[t]? = some (.int .u64 (if t<j then wdc (2*R+bit) t else wdc R t:Nat)))
   (fun j=>nw V2+1 - j) 0
   ⟨Nat.zero_le _,⟨rfl,fun _ _=>rfl⟩,curR,Rc,Rsz,fun t ht=>by rw [if_neg (Nat.not_lt_zero _)];exact Rw t ht⟩ ⟨rfl,rfl,rfl,rfl,by rw [bCQ];rfl,rfl,rfl,trivial⟩ ?_
  rintro j h13 ⟨hj,P13,cur13,C13,S13,W13⟩ ih;have Bx:=P13.at Bx (show h.size≠h3.size by omega);have Qx:=P13.at Qx (show h.size+1≠h3.size by omega);have Rx:=P13.at Rx (show h.size+1+1≠h3.size by omega)
  (try refine gO ?_);conv=>whnf
  refine ⟨fun hjl=>?_,fun hjl=>?_⟩<;>conv=>whnf
  ·have hw13:bL h13 h3.size (0+j)=some (.int .u64 (wdc R j:Nat)):=by rw [C13.cell,Nat.zero_add,W13 j (by omega),if_neg (Nat.lt_irrefl j)]
   obtain ⟨e1,e2⟩:=aYO (R:=R) (j:=j) hb1;have hcd:=bBJ (R:=R) (j:=j) hb1;have hwl:=qA R j;refine aD.held tab [(0,[]),(1,[]),(2,[]),(3,[]),(4,[]),(5,[]),(6,[]),(7,[]),(8,[]),(9,[]),(10,[]),(11,[]),(12,[]),(13,[]),(14,[]),(15,[]),(16,[])] (by kernel_rfl) ?_;conv=>whnf
   refine ⟨_,Rx.one,?_⟩;conv=>whnf
   refine ⟨_,Rx.one,?_⟩;conv=>whnf
   repeat (refine oL ?_;conv=>whnf)
   refine ⟨_,hw13,?_⟩;conv=>whnf
   obtain ⟨x,hx⟩:∃x,x=wdc R j:=⟨_,rfl⟩;obtain ⟨cb,hcb⟩:∃cb,cb=cdb R bit j:=⟨_,rfl⟩;rw [<-hx] at hwl;rw [<-hcb] at hcd;repeat (refine oL ?_;conv=>whnf)
   refine ⟨_,Rx.one,?_⟩;conv=>whnf
   repeat (refine oL ?_;conv=>whnf)
   refine ⟨_,hw13,?_⟩;conv=>whnf
   repeat (refine oL ?_;conv=>whnf)
   refine ⟨rfl,_,lZ tab C13 (hlt:=by omega),?_⟩;rintro _ h14 P14
   refine And.intro (by conv=>whnf
                        repeat (refine And.intro (fun e=>e) ?_;conv=>whnf)
                        exact trivial) ?_
   conv=>whnf
   (try refine gO ?_);conv=>whnf
   repeat (refine oL ?_;conv=>whnf)
   rw [show 0+((j:Int)).toNat=j by omega] at P14;refine ih (j+1) _ _ ⟨by omega,⟨P14.size.trans P13.size,fun k hk=>(P14.other k hk).trans (P13.other k hk)⟩,_,P14.blk,by simpa using S13,fun t ht=>?_⟩ (by omega) ⟨rfl,rfl,rfl,rfl,?_,rfl,rfl,trivial⟩
   ·by_cases e:t=j
    ·subst e;rw [Array.getElem?_setIfInBounds_self_of_lt (by omega),if_pos (Nat.lt_succ_self t),e1,<-hx,<-hcb];have e5:((x:Int)*2%18446744073709551616).toNat=x*2%B:=by rw [mA];omega
     rw [<-e5];rfl
    rw [Array.getElem?_setIfInBounds_ne (by omega),W13 t ht];by_cases e3:t<j
    ·rw [if_pos e3,if_pos (by omega)]
    rw [if_neg e3,if_neg (by omega)]
   rw [e2,<-hx];show some (Value.int .u64 _)=some (Value.int .u64 _)
   congr 2
  have hjm:j=nw V2+1:=by omega
  subst hjm;obtain ⟨W,hW⟩:∃W,W=2*R+bit:=⟨_,rfl⟩;rw [<-hW] at hWB;have W13:∀t,t<nw V2+1->cur13[t]? = some (.int .u64 (wdc W t:Nat)):=fun t ht=>by rw [W13 t ht,if_pos ht,hW]
  have hk13:aH h.size h h13:=kk.trans (P13.keeps.mono (by omega));have hw13:=Wr.of_at C13 (m:=nw V2+1) (cap:=nw V2+1) (V:=W) (Nat.le_refl _) hWB W13;have hnW:=aSQ hWB;have hw13':=Wr.of_at C13 (m:=nw W) (cap:=nw V2+1) (V:=W) hnW (mV W) (fun t ht=>W13 t (by omega));obtain ⟨cq,Cq,Sq,Lq,Wq⟩:=hqx;have Cq:=P13.at Cq (show h1.size≠h3.size by omega);have df13:h13[h9.size]? = some (.deferred (some [])):=by rw [P13.other _ (by omega)];exact df12
  have d1:=(P13.cell (b:=h8.size) (o:=0) (by omega)).trans d1;have d2:=(P13.cell (b:=h8.size+1) (o:=0) (by omega)).trans d2;have LB13:=LB.same (P13.other _ (show h9.size+1≠h3.size by omega));obtain ⟨b1,b2⟩:=bBI (V1:=V1) (V2:=V2) (i:=i) (by omega) bit hbit;rw [<-hR,<-hW] at b1 b2;clear ih P12 LB df12;refine aD.held tab [(0,[]),(2,[]),(1,[2]),(3,[]),(4,[])] (by kernel_rfl) ?_;conv=>whnf
  refine ⟨_,Rx.one,?_⟩;conv=>whnf
  refine ⟨_,Bx.one,?_⟩;conv=>whnf
  refine ⟨rfl,_,Eff.call (aSX hw13 (by omega)),?_⟩;rintro _ h13 ⟨rfl,rfl⟩
  refine And.intro (by conv=>whnf
                       repeat (refine And.intro (fun e=>e) ?_;conv=>whnf)
                       exact trivial) ?_
  conv=>whnf
  refine ⟨rfl,_,Eff.call (mG hw13' (hw2.keeps hk13) (by omega)),?_⟩;rintro _ h13 ⟨rfl,rfl⟩
  refine And.intro (by conv=>whnf
                       repeat (refine And.intro (fun e=>e) ?_;conv=>whnf)
                       exact trivial) ?_
  conv=>whnf
  refine ⟨fun hcmp=>?_,fun hcmp=>?_⟩<;>conv=>whnf
  ·have hVW:V2<=W:=by
    rcases Nat.lt_or_ge W V2 with h|h
    ·have:=(kJ W V2).2 h;omega
    exact h
   obtain ⟨f1,f2⟩:=b1 hVW
   (try refine gO ?_);conv=>whnf
   refine ⟨_,Rx.one,?_⟩;conv=>whnf
   refine ⟨_,Bx.one,?_⟩;conv=>whnf
   have hsz13:h13.size=h12.size:=P13.size;refine aD.callV (aBB C13 S13 (Nat.le_refl _) hWB W13 (hw2.keeps hk13) (aVJ hw2 hp2 (by omega)) hVW (by omega)) ?_;rintro _ h14 ⟨rfl,cur14,hh14,S14,W14⟩;have P14:Put h13 h14 h3.size cur14 173:=by rw [hh14];exact Put.of C13.lt _ _
   clear hh14;have z13:=P13.size;have z14:=P14.size;have hi64:i/64<nw V1:=by
    have:=aAB (show V1≠0 by omega);have:=wC (iB V1 (nw V1 - 1));omega
   obtain ⟨A,hA⟩:∃A,A=V1/2^(i+1)/V2:=⟨_,rfl⟩;rw [<-hA] at Lq Wq f1;obtain ⟨g1,g2,g3⟩:=set_bit A i;have Cq14:=P14.at Cq (show h1.size≠h3.size by omega);have hq14:bL h14 h1.size (0+i/64)=some (.int .u64 (wdc (A*2^(i+1)) (i/64):Nat)):=by rw [Cq14.cell,Nat.zero_add];exact Wq _ hi64
   (try refine gO ?_);conv=>whnf
   refine aD.held tab [(0,[]),(1,[]),(2,[]),(3,[]),(4,[]),(5,[]),(6,[]),(7,[]),(8,[]),(9,[]),(10,[])] (by kernel_rfl) ?_;conv=>whnf
   refine ⟨_,(P14.at Qx (by omega)).one,?_⟩;conv=>whnf
   repeat (refine oL ?_;conv=>whnf)
   rw [show ((i:Nat):Int)/64=(i/64:Nat) by omega];refine ⟨_,hq14,?_⟩;conv=>whnf
   repeat (refine oL ?_;conv=>whnf)
   rw [show ((i:Nat):Int)%64=(i%64:Nat) by omega];have hp2:2^(i%64)<18446744073709551616:=Nat.pow_lt_pow_right (by decide) (show i%64<64 by omega);have hwq:=qA (A*2^(i+1)) (i/64);rw [show (1:Int)*2^(((i%64:Nat):Int)).toNat%18446744073709551616=((2^(i%64):Nat):Int) by
    rw [Int.toNat_natCast];have e9:((2:Int)^(i%64))=((2^(i%64):Nat):Int):=by simp
    rw [e9];obtain ⟨p,hp⟩:∃p,p=2^(i%64):=⟨_,rfl⟩;rw [<-hp] at hp2 ⊢;omega]
   obtain ⟨p,hp⟩:∃p,p=2^(i%64):=⟨_,rfl⟩;rw [<-hp] at hp2 g1 g2 g3 ⊢;repeat (refine oL ?_;conv=>whnf)
   refine ⟨rfl,_,lZ tab Cq14 (hlt:=by omega),?_⟩;rintro _ h15 P15
   refine And.intro (by conv=>whnf
                        repeat (refine And.intro (fun e=>e) ?_;conv=>whnf)
                        exact trivial) ?_
   conv=>whnf
   (try refine gO ?_);conv=>whnf
   rw [show 0+(((i/64:Nat):Int)).toNat=i/64 by omega] at P15;have LB15:=LB13.same ((P15.other _ (show h9.size+1≠h1.size by omega)).trans (P14.other _ (show h9.size+1≠h3.size by omega)));have z15:=P15.size;refine aD.endRoundL LB15 fun h16 P16 LC=>?_;have kk16:aH h.size h h16:=((hk13.trans (P14.keeps.mono (by omega))).trans (P15.keeps.mono (by omega))).trans (P16.keeps.mono (by omega))
   refine ⟨rfl,⟨kk16,P16.at (P15.at (P14.at Bx (by omega)) (by omega)) (by omega),P16.at (P15.at (P14.at Qx (by omega)) (by omega)) (by omega),P16.at (P15.at (P14.at Rx (by omega)) (by omega)) (by omega),
    ⟨_,P16.at P15.blk (by omega),by simpa using Sq,?_,fun t ht=>?_⟩,⟨cur14,P16.at (P15.at P14.blk (by omega)) (by omega),S14,by rw [f2];exact W14⟩⟩,LC,?_,
    (P16.cell (by omega)).trans ((P15.cell (by omega)).trans ((P14.cell (by omega)).trans d1)),(P16.cell (by omega)).trans ((P15.cell (by omega)).trans ((P14.cell (by omega)).trans d2))⟩
   ·rw [f1,<-g3];exact aAP g2 hi64 Lq
   ·rw [f1,<-g3,rY g2];by_cases e:t=i/64
    ·subst e;rw [Array.getElem?_setIfInBounds_self_of_lt (by omega),if_pos rfl,<-g1];rfl
    rw [Array.getElem?_setIfInBounds_ne (by omega),if_neg e];exact Wq t ht
   rw [P16.other _ (by omega),P15.other _ (by omega),P14.other _ (by omega)];exact df13
  have hWV:W<V2:=(kJ W V2).1 (by omega);obtain ⟨f1,f2⟩:=b2 hWV
  (try refine gO ?_);conv=>whnf
  refine aD.endRoundL LB13 fun h15 P15 LC=>?_;have z13:=P13.size;refine ⟨rfl,⟨hk13.trans (P15.keeps.mono (by omega)),P15.at Bx (by omega),P15.at Qx (by omega),P15.at Rx (by omega),⟨cq,P15.at Cq (by omega),Sq,?_⟩,⟨cur13,P15.at C13 (by omega),S13,?_⟩⟩,LC,?_,(P15.cell (by omega)).trans d1,(P15.cell (by omega)).trans d2⟩
  ·rw [f1,show 2*(V1/2^(i+1)/V2)*2^i=V1/2^(i+1)/V2*2^(i+1) by rw [Nat.pow_succ,Nat.mul_comm 2,Nat.mul_assoc,Nat.mul_comm 2]];exact ⟨Lq,Wq⟩
  ·rw [f2];exact W13
  rw [P15.other _ (by omega)];exact df13
 rintro _ h11 ⟨rfl,I,LA,df,_⟩;refine ⟨.ready,none,LA,(by decide),fun h12 P12=>?_⟩;have z11:=I.keeps.size;have z12:=P12.size;have LAlt:=LA.lt;obtain ⟨kk,Bx,Qx,Rx,⟨cq,C1,C2,C3,C4⟩,⟨cr,E1,E2,E3⟩⟩:=I.put P12 (by omega) (by omega) (by omega);have df':h12[h9.size]? = some (.deferred (some [])):=by rw [P12.other _ (by omega)];exact df
 rw [Nat.pow_zero,Nat.div_one,Nat.mul_one] at C3 C4;rw [Nat.pow_zero,Nat.div_one] at E3
 (try refine gO ?_);conv=>whnf
 refine aD.held tab [(0,[]),(1,[]),(2,[1]),(3,[])] (by kernel_rfl) ?_;conv=>whnf
 refine ⟨_,Qx.one,?_⟩;conv=>whnf
 refine ⟨_,Rx.one,?_⟩;conv=>whnf
 refine ⟨rfl,_,jG tab Qx,?_⟩;rintro _ h13 P13
 refine And.intro (by conv=>whnf
                      repeat (refine And.intro (fun e=>(P13.cell (by omega)).trans e) ?_;conv=>whnf)
                      exact trivial) ?_
 conv=>whnf
 refine ⟨rfl,_,jG tab (P13.at Rx (by omega)),?_⟩;rintro _ h14 P14
 refine And.intro (by conv=>whnf
                      repeat (refine And.intro (fun e=>e) ?_;conv=>whnf)
                      exact trivial) ?_
 conv=>whnf
 (try refine gO ?_);conv=>whnf
 have z13:=P13.size;have z14:=P14.size;have df14:h14[h9.size]? = some (.deferred (some [])):=by rw [P14.other _ (by omega),P13.other _ (by omega)];exact df'
 have P15:=nK.of h14 h9.size (.deferred none);have k15:aH h.size h _:=((kk.trans (P13.keeps.mono (by omega))).trans (P14.keeps.mono (by omega))).trans (P15.keeps.mono (by omega))
 refine aD.retC tab Tryz.func118 ⟨_,rfl,df14,rfl⟩ (vs:=[.slice (some ⟨h1.size,0,none⟩) (nw V1) (nw V1),.slice (some ⟨h3.size,0,none⟩) (nw V2+1) (nw V2+1)])
  ⟨⟨_,_,rfl,rfl,(P15.at (P14.at P13.blk (by omega)) (by omega)).one⟩,⟨_,_,rfl,rfl,(P15.at P14.blk (by omega)).one⟩,trivial⟩ ⟨_,rfl,?_⟩
 refine ⟨_,_,nw V1,nw V2+1,rfl,Wr.of_at (P15.at (P14.at (P13.at C1 (by omega)) (by omega)) (by omega)) (Nat.le_refl _) C3 C4,Wr.of_at (P15.at (P14.at (P13.at E1 (by omega)) (by omega)) (by omega)) (Nat.le_refl _) ?_ E3,by omega,by omega,k15⟩;exact Nat.lt_trans (Nat.mod_lt _ (by omega)) (Nat.lt_of_lt_of_le (mV V2) (Nat.pow_le_pow_right rN (by omega)))
end Go.Proofs.YthjedpdedjhndaaGreatDoor

namespace Go.NatM
open Go Go.Fw
def Tz (V k:Nat):Prop:=∃m,V=2^k*(2*m+1)
theorem Tz.div {V k:Nat} (h:Tz V k):∃m,V/2^k=2*m+1/\V=2^k*(V/2^k):=by
 obtain ⟨m,rfl⟩:=h;rw [Nat.mul_div_cancel_left _ (Nat.two_pow_pos k)];exact ⟨m,rfl,rfl⟩
theorem Tz.lt_bl {V k:Nat} (h:Tz V k):k<bl V:=by
 obtain ⟨m,hm,e⟩:=h.div;have h0:V≠0:=by
  intro h0;rw [h0,Nat.zero_div] at hm;omega
 have hlt:=aPN V;rcases Nat.lt_or_ge k (bl V) with h1|h1
 ·exact h1
 have:=Nat.pow_le_pow_right (show 0<2 by decide) h1;have h3:=Nat.mul_le_mul_left (2^k) (show 1<=V/2^k by omega);omega
theorem uI {k X m:Nat} (hX:X=2*m+1):Nat.Coprime (2^k) X:=by
 refine Nat.Coprime.pow_left k ?_;have h1:=Nat.gcd_dvd_left 2 X;have h2:=Nat.gcd_dvd_right 2 X;have h3:=Nat.dvd_sub h2 (Nat.dvd_trans h1 ⟨m,rfl⟩);rw [hX,Nat.add_sub_cancel_left] at h3;rw [<-hX] at h3;exact Nat.dvd_one.1 h3
theorem yU {A C k m:Nat} (hC:C=2*m+1) (hle:C<=A) (hk:Tz (A - C) k):Nat.gcd ((A - C)/2^k) C=Nat.gcd A C:=by
 obtain ⟨_,_,e⟩:=hk.div;have h1:Nat.gcd (A - C) C=Nat.gcd A C:=Nat.gcd_sub_self_left hle;rw [<-h1];conv=>rhs;rw [e]
 rw [Nat.Coprime.gcd_mul_left_cancel _ (uI hC)]
theorem aHR {V1 V2 k1 k2:Nat} (h1:Tz V1 k1) (h2:Tz V2 k2):Nat.gcd V1 V2=Nat.gcd (V1/2^k1) (V2/2^k2)*2^min k1 k2:=by
 obtain ⟨m1,o1,e1⟩:=h1.div;obtain ⟨m2,o2,e2⟩:=h2.div;obtain ⟨X,hX⟩:∃X,X=V1/2^k1:=⟨_,rfl⟩;obtain ⟨Y,hY⟩:∃Y,Y=V2/2^k2:=⟨_,rfl⟩;rw [<-hX] at o1 e1 ⊢;rw [<-hY] at o2 e2 ⊢;rw [e1,e2];rcases Nat.le_total k1 k2 with h|h
 ·rw [Nat.min_eq_left h,show 2^k2*Y=2^k1*(2^(k2 - k1)*Y) by rw [<-Nat.mul_assoc,<-Nat.pow_add];congr 2;omega,Nat.gcd_mul_left,Nat.Coprime.gcd_mul_left_cancel_right _ (uI o1),Nat.mul_comm]
 rw [Nat.min_eq_right h,show 2^k1*X=2^k2*(2^(k1 - k2)*X) by rw [<-Nat.mul_assoc,<-Nat.pow_add];congr 2;omega,Nat.gcd_mul_left,Nat.Coprime.gcd_mul_left_cancel _ (uI o2),Nat.mul_comm]
theorem aKD {V k:Nat} (h:Tz V k) (hev:V%2=0):0<k:=by
 rcases Nat.eq_zero_or_pos k with e|e
 ·subst e;obtain ⟨m,hm⟩:=h;rw [Nat.pow_zero,Nat.one_mul] at hm;omega
 exact e
theorem tz_word {V n t:Nat} (h0:V%B^n=0) (ht:Tz (wdc V n) t) (h64:t<64):Tz V (64*n+t):=by
 obtain ⟨m,hm⟩:=ht;have h1:=kB V n;have h2:=Nat.div_add_mod V (B^n);rw [h0,Nat.add_zero] at h2;have hB:B=2^t*(2*2^(63 - t)):=by rw [<-Nat.pow_succ',<-Nat.pow_add,show t+(63 - t+1)=64 by omega];rfl
 refine ⟨m+2^(63 - t)*(V/B^(n+1)),?_⟩;rw [Nat.pow_add,<-xJ,Nat.mul_assoc];rw [<-h2];conv=>lhs;rw [h1,hm]
 obtain ⟨Y,hY⟩:∃Y,Y=V/B^(n+1):=⟨_,rfl⟩;rw [h2,<-hY];have e:B*Y=2^t*(2*(2^(63 - t)*Y)):=by rw [hB,Nat.mul_assoc,Nat.mul_assoc]
 rw [e,<-Nat.mul_add]
 congr 2
 omega
theorem ctz_tz {x:Nat} (h0:x≠0) (hx:x<B):Tz x (Go.Lib.ctz 64 x)/\Go.Lib.ctz 64 x<64:=by
 obtain ⟨m,h1,h2⟩:=Go.Lib.ctzFrom_spec 64 x (by omega) hx;have e:Go.Lib.ctz 64 x=Go.Lib.ctzFrom 64 x:=by simp [Go.Lib.ctz,h0]
 rw [e];exact ⟨⟨m,h1⟩,h2⟩
end Go.NatM

namespace Go.Proofs.YthjedpdedjhndaaGreatDoor
open Go Go.Fw Go.NatM
def gN (h:Array Obj):Prop:=∀j,j<64->bL h 2 j=some (.int .u8 (Go.Lib.deBruijn64tab.getD j 0:Nat))
theorem gN.keeps {h h':Array Obj} (H:gN h) (k:aH h.size h h'):gN h':=fun j hj=>(k.cell (tY (H 0 (by decide)))).trans (H j hj)
theorem tz64_fn (x:Nat) (h0:x≠0) (hx:x<B) {h:Array Obj} (hT:gN h):
  FnV Tryz.prog 279 #[.int .u64 x] h fun v h'=>v=.int .i64 (Go.Lib.ctz 64 x:Nat)/\h'=h:=by
 obtain ⟨e1,e2⟩:=Go.Lib.lowest_bit 64 x h0 hx;obtain ⟨t,ht⟩:∃t,t=Go.Lib.ctz 64 x:=⟨_,rfl⟩;rw [<-ht] at e1 e2 ⊢;obtain ⟨d1,d2⟩:=Go.Lib.deBruijn64_at t e2;rw [mA] at hx;refine Fn.of (args:=[.int .u64 x]) Tryz.func279 (by kernel_rfl) rfl Tryz.ntmps279 rfl fun w0 cs=>?_;refine gO ?_;conv=>whnf
 refine ⟨fun h1=>?_,fun h1=>?_⟩<;>conv=>whnf
 ·omega
 repeat (refine oL ?_;conv=>whnf)
 have e3:(((fun a b=>a&&&b) (x:Int).toNat (((0:Int) - x)%18446744073709551616).toNat:Nat):Int)=(2^t:Nat):=by
  rw [Int.toNat_natCast,show (((0:Int) - x)%18446744073709551616).toNat=2^64 - x by rw [show (2:Nat)^64=18446744073709551616 from rfl];omega];exact congrArg _ e1
 rw [e3];obtain ⟨p,hp⟩:∃p,p=2^t:=⟨_,rfl⟩;rw [<-hp] at d1 d2 ⊢;rw [show (p:Int)*285870213051353865%18446744073709551616/288230376151711744=(p*285870213051353865%18446744073709551616/288230376151711744:Nat) by simp];obtain ⟨i,hi⟩:∃i,i=p*285870213051353865%18446744073709551616/288230376151711744:=⟨_,rfl⟩;rw [<-hi] at d1 d2 ⊢;have hc:=hT i d1;rw [d2] at hc;rw [show 0+((i:Nat):Int).toNat=i by omega];refine ⟨_,hc,?_⟩;conv=>whnf
 repeat (refine oL ?_;conv=>whnf)
 refine aD.ret Tryz.func279 rfl rfl ⟨_,rfl,?_⟩;exact ⟨rfl,rfl⟩
theorem vA {h:Array Obj} {a:Option Addr} {m cap V:Nat} (hw:Wr h (.slice a m cap) m V) (h0:V≠0) (hm:m<=1048576) (hT:gN h):
  FnV Tryz.prog 224 #[.slice a m cap] h fun r h'=>(∃k:Nat,r=.int .i64 k/\Tz V k)/\h'=h:=by
 have hV:V<B^m:=by obtain ⟨_,_,_,_,hV,_⟩:=hw;exact hV
 have hmp:0<m:=by
  rcases Nat.eq_zero_or_pos m with e|e
  ·subst e;simp at hV;omega
  exact e
 obtain ⟨b,off,rfl,hrd⟩:=hw.rd rfl hmp;refine Fn.of (args:=[.slice (some ⟨b,off,none⟩) m cap]) Tryz.func224 (by kernel_rfl) rfl Tryz.ntmps224 rfl fun w0 cs=>?_;refine gO ?_;conv=>whnf
 refine aD.loopJ (X:=Nat) (Y:=Nat) (fun n=>[(0,.slice (some ⟨b,off,none⟩) m cap),(3,.int .i64 (n:Nat))]) (fun n h'=>h'=h/\n<m/\V%B^n=0) (fun n=>m - n) 0
  (fun n=>[(0,.slice (some ⟨b,off,none⟩) m cap),(3,.int .i64 (n:Nat))]) (fun n h'=>h'=h/\n<m/\V%B^n=0/\wdc V n≠0)
  ⟨rfl,hmp,by rw [Nat.pow_zero,Nat.mod_one]⟩ ⟨rfl,rfl,trivial⟩ ?_ ?_
 ·rintro n h ⟨rfl,hn,hz⟩ ih hx
  (try refine gO ?_);conv=>whnf
  repeat (refine oL ?_;conv=>whnf)
  refine ⟨_,hrd n hn,?_⟩;conv=>whnf
  refine ⟨fun h1=>?_,fun h1=>?_⟩<;>conv=>whnf
  ·repeat (refine oL ?_;conv=>whnf)
   have hw0:wdc V n=0:=by omega
   have hz':V%B^(n+1)=0:=by rw [iD,hz,hw0];rfl
   refine ih (n+1) _ _ ⟨rfl,?_,hz'⟩ (by omega) ⟨rfl,rfl,trivial⟩;rcases Nat.lt_or_ge (n+1) m with h|h
   ·exact h
   have:n+1=m:=by omega
   rw [this,Nat.mod_eq_of_lt hV] at hz';exact absurd hz' h0
  exact hx n _ _ ⟨rfl,hn,hz,by omega⟩ ⟨rfl,rfl,trivial⟩
 rintro n h ⟨rfl,hn,hz,hne⟩
 (try refine gO ?_);conv=>whnf
 repeat (refine oL ?_;conv=>whnf)
 refine ⟨_,hrd n hn,?_⟩;conv=>whnf
 refine aD.callV (tz64_fn (wdc V n) hne (iB _ _) hT) ?_;rintro _ h ⟨rfl,rfl⟩;obtain ⟨t1,t2⟩:=ctz_tz hne (iB V n)
 (try refine gO ?_);conv=>whnf
 repeat (refine oL ?_;conv=>whnf)
 refine aD.ret Tryz.func224 rfl rfl ⟨_,rfl,?_⟩;exact ⟨⟨64*n+Go.Lib.ctz 64 (wdc V n),rfl,tz_word hz t1 t2⟩,rfl⟩

theorem lB.put {base:Nat} {h h':Array Obj} {v:Value} {m V g:Nat} (hw:lB base h v m V) (P:nK h h' g) (hne:v.ownBlock≠some g):lB base h' v m V:=by
 obtain ⟨g',cap,cur,rfl,hb,hat,r⟩:=hw;have hne:g'≠g:=fun e=>hne (by rw [e];rfl);exact ⟨g',cap,cur,rfl,hb,P.at hat hne,r⟩
theorem lB.blk {base:Nat} {h:Array Obj} {v:Value} {m V:Nat} (hw:lB base h v m V):∃g,v.ownBlock=some g/\base<=g/\g<h.size:=by
 obtain ⟨g,cap,cur,rfl,hb,hat,_⟩:=hw;exact ⟨g,rfl,hb,hat.lt⟩
theorem nK.setB {h:Array Obj} {g:Nat} (cs:Array Value) (e:TypeId):nK h (Fw.setB h g cs e) g:=nK.of ..
theorem kU {base:Nat} {h:Array Obj} {v:Value} {m V:Nat} (hw:lB base h v m V) (hm:m<=1048576) (k:Nat) (hk:k<=67108864):
  FnV Tryz.prog 226 #[v,.int .i64 k] h fun r h'=>lB base h' r (nw (V/2^k)) (V/2^k)/\r.ownBlock=v.ownBlock /\ ∃g,v.ownBlock=some g/\nK h h' g:=by
 obtain ⟨g,cap,cur,rfl,hb,hat,hsz,hmc,hV,hc⟩:=hw;refine (aOW hat hsz hmc hV hc hm k hk).mono ?_;rintro _ _ ⟨rfl,cur',rfl,hsz',hc'⟩;have hn:nw (V/2^k)<=m:=aSQ (Nat.lt_of_le_of_lt (Nat.div_le_self _ _) hV);exact ⟨⟨g,cap,cur',rfl,hb,fQ hat.lt _ _,hsz',by omega,mV _,fun j hj=>hc' j (by omega)⟩,rfl,g,rfl,nK.setB ..⟩
theorem tB {base base2:Nat} {h:Array Obj} {v v2:Value} {m m2 V1 V2:Nat} (hw:lB base h v m V1) (hw2:lB base2 h v2 m2 V2) (hne:v.ownBlock≠v2.ownBlock) (hle:V2<=V1) (hm:m<=1048576):
  FnV Tryz.prog 227 #[v,v2] h fun r h'=>r=.tuple #[]/\lB base h' v m (V1 - V2) /\ ∃g,v.ownBlock=some g/\nK h h' g:=by
 obtain ⟨g,cap,cur,rfl,hb,hat,hsz,hmc,hV,hc⟩:=hw;refine (aBB hat hsz hmc hV hc hw2.wr (fun e=>hne e.symm) hle hm).mono ?_;rintro _ _ ⟨rfl,cur',rfl,hsz',hc'⟩;exact ⟨rfl,⟨g,cap,cur',rfl,hb,fQ hat.lt _ _,hsz',hmc,Nat.lt_of_le_of_lt (Nat.sub_le _ _) hV,hc'⟩,g,rfl,nK.setB ..⟩
theorem kZ {base:Nat} {h:Array Obj} {v:Value} {m V:Nat} (hw:lB base h v m V) (h0:V≠0) (hm:m<=1048576) (hT:gN h):
  FnV Tryz.prog 224 #[v] h fun r h'=>(∃k:Nat,r=.int .i64 k/\Tz V k)/\h'=h:=by
 have hw':=hw.wr;obtain ⟨g,cap,cur,rfl,_⟩:=hw;exact vA hw' h0 hm hT
structure GcdI (h:Array Obj) (G A C:Nat) (va vb:Value) (h':Array Obj):Prop where
 keeps:aH h.size h h'
 a:lB h.size h' va (nw A) A
 c:lB h.size h' vb (nw C) C
 ne:va.ownBlock≠vb.ownBlock
 oa:A%2=1
 oc:C%2=1
 na:nw A<=65536
 nc:nw C<=65536
 gcd:Nat.gcd A C=G
theorem wJ {V k k':Nat} (h:Tz V k) (h':Tz V k'):k=k':=by
 have key:∀ {k k':Nat},Tz V k->Tz V k' -> ¬k<k':=by
  rintro k k' ⟨m,rfl⟩ ⟨m',e⟩ hlt;rw [show 2^k'=2^k*(2*2^(k' - k - 1)) by rw [<-Nat.pow_succ',<-Nat.pow_add];congr 1;omega,Nat.mul_assoc] at e;have e:=Nat.eq_of_mul_eq_mul_left (Nat.two_pow_pos k) e;rw [Nat.mul_assoc] at e;omega
 have h1:=key h h';have h2:=key h' h;omega
theorem bl_nw (V:Nat):bl V<=64*nw V:=by
 by_cases h:V=0
 ·subst h;decide
 have:=aAB h;have:=wC (iB V (nw V - 1));have:=sO h;omega
theorem aCP {V k:Nat} (h:Tz V k) (hn:nw V<=65536):k<=4194304:=by
 have:=h.lt_bl;have:=bl_nw V;omega
theorem uA {m X:Nat} (h:X=2*m+1):X%2=1:=by omega
theorem aLA {X:Nat} (h:X%2=1):X=2*(X/2)+1:=by omega
theorem aCX {V:Nat}:nw V=0↔V=0:=by
 constructor
 ·intro h;rcases Nat.eq_zero_or_pos V with e|e
  ·exact e
  have:=sO (show V≠0 by omega);omega
 rintro rfl;rfl
theorem aOM {V:Nat} (h:nw V=1):V<B/\wdc V 0=V:=by
 have h1:=mV V;rw [h,Nat.pow_one] at h1;refine ⟨h1,?_⟩;unfold wdc;rw [Nat.pow_zero,Nat.div_one];exact Nat.mod_eq_of_lt h1
theorem aPD (t j:Nat):wdc (2^t) j=if j=t/64 then 2^(t%64) else 0:=by
 have h64:t%64<64:=Nat.mod_lt _ (by decide);have hp:2^(t%64)<B:=Nat.pow_lt_pow_right (by decide) h64;rw [qZ t];split
 ·rename_i e
  unfold wdc;rw [e,Nat.mul_div_cancel_left _ (eD _)];exact Nat.mod_eq_of_lt hp
 rename_i e
 rcases Nat.lt_or_ge j (t/64) with h|h
 ·rw [Nat.mul_comm];exact aOK h
 refine aEM (m:=t/64+1) ?_ (by omega);rw [Nat.pow_succ];exact Nat.mul_lt_mul_of_pos_left hp (eD _)
theorem cmpI_eq {x y:Nat} (h:lC (x:Int) (y:Int)=0):x=y:=by
 unfold lC at h;split at h
 ·omega
 split at h<;>omega
theorem aSD {h:Array Obj} {v1 v2:Value} {V1 V2:Nat} (hw1:Wr h v1 (nw V1) V1) (hw2:Wr h v2 (nw V2) V2) (hm1:nw V1<=65536) (hm2:nw V2<=65536) (hT:gN h):
  FnV Tryz.prog 117 #[v1,v2] h fun r h'=>(∃m,Wr h' r m (Nat.gcd V1 V2)/\m<=1048576)/\aH h.size h h':=by
 obtain ⟨a1,cap1,rfl⟩:∃a cap,v1=.slice a (nw V1) cap:=let ⟨a,cap,e,_⟩:=hw1;⟨a,cap,e⟩;obtain ⟨a2,cap2,rfl⟩:∃a cap,v2=.slice a (nw V2) cap:=let ⟨a,cap,e,_⟩:=hw2;⟨a,cap,e⟩;refine Fn.of (args:=[.slice a1 (nw V1) cap1,.slice a2 (nw V2) cap2]) Tryz.func117 (by kernel_rfl) rfl Tryz.ntmps117 rfl fun w0 cs=>?_;refine gO ?_;conv=>whnf
 refine ⟨fun h1=>?_,fun h1=>?_⟩<;>conv=>whnf
 ·refine aD.ret Tryz.func117 rfl rfl ⟨_,rfl,?_⟩;have:V1=0:=aCX.1 (by omega);subst this;rw [Nat.gcd_zero_left];exact ⟨⟨_,hw2,by omega⟩,aH.refl _ _⟩
 have z1:V1≠0:=fun e=>h1 (by rw [e];rfl);refine ⟨fun h2=>?_,fun h2=>?_⟩<;>conv=>whnf
 ·refine aD.ret Tryz.func117 rfl rfl ⟨_,rfl,?_⟩;have:V2=0:=aCX.1 (by omega);subst this;rw [Nat.gcd_zero_right];exact ⟨⟨_,hw1,by omega⟩,aH.refl _ _⟩
 have z2:V2≠0:=fun e=>h2 (by rw [e];rfl);have p1:=sO z1;have p2:=sO z2;have big:¬(nw V1=1/\nw V2=1)->True:=fun _=>trivial;refine ⟨fun h3=>?_,fun h3=>?_⟩<;>conv=>whnf
 rotate_left;all_goals try (refine ⟨fun h4=>?_,fun h4=>?_⟩<;>conv=>whnf)
 rotate_left
 ·obtain ⟨q1,w1⟩:=aOM (V:=V1) (by omega);obtain ⟨q2,w2⟩:=aOM (V:=V2) (by omega);obtain ⟨b1,off1,rfl,hrd1⟩:=hw1.rd rfl p1;obtain ⟨b2,off2,rfl,hrd2⟩:=hw2.rd rfl p2;refine aD.held tab [(0,[]),(1,[]),(2,[]),(3,[]),(4,[]),(5,[]),(6,[]),(7,[])] (by kernel_rfl) ?_;conv=>whnf
  repeat (refine oL ?_;conv=>whnf)
  refine ⟨_,hrd1 0 p1,?_⟩;conv=>whnf
  repeat (refine oL ?_;conv=>whnf)
  refine ⟨_,hrd2 0 p2,?_⟩;conv=>whnf
  rw [w1,w2]
  (try refine gO ?_);conv=>whnf
  refine aD.loop (X:=Nat×Nat) (fun q=>[(5,.int .u64 (q.1:Nat)),(6,.int .u64 (q.2:Nat))]) (fun q h'=>h'=h/\q.1<B/\q.2<B/\Nat.gcd q.1 q.2=Nat.gcd V1 V2) (fun q=>q.2) (V1,V2)
   ⟨rfl,q1,q2,rfl⟩ ⟨rfl,rfl,trivial⟩ ?_
  rintro ⟨x,y⟩ h ⟨rfl,hx,hy,hg⟩ ih;dsimp only at hx hy hg ⊢
  (try refine gO ?_);conv=>whnf
  refine ⟨fun h5=>?_,fun h5=>?_⟩<;>conv=>whnf
  ·refine aD.eff (sD tab [.int .u64 (x:Nat)] (h1:=by simp [Value.cells])) ?_;rintro _ h2 ⟨rfl,N2⟩
   (try refine gO ?_);conv=>whnf
   refine aD.ret Tryz.func117 rfl rfl ⟨_,rfl,?_⟩;have hy0:y=0:=by omega
   subst hy0;rw [Nat.gcd_zero_right] at hg;rw [<-hg];refine ⟨⟨1,Wr.of_at N2.blk (Nat.le_refl _) (by rw [Nat.pow_one];exact hx) (fun j hj=>?_),by omega⟩,N2.keeps⟩;have:j=0:=by omega
   subst this;rw [show wdc x 0=x by unfold wdc;rw [Nat.pow_zero,Nat.div_one];exact Nat.mod_eq_of_lt hx];rfl
  (try refine gO ?_);conv=>whnf
  refine aD.held tab [(0,[]),(1,[]),(2,[]),(3,[]),(4,[]),(5,[])] (by kernel_rfl) ?_;conv=>whnf
  rw [mA] at hx hy;repeat (refine oL ?_;conv=>whnf)
  (try refine gO ?_);conv=>whnf
  exact ih (y,x%y) _ _ ⟨rfl,by rw [mA];exact hy,by rw [mA];exact Nat.lt_of_lt_of_le (Nat.mod_lt _ (by omega)) (by omega),by rw [<-hg,Nat.gcd_comm,<-Nat.gcd_rec,Nat.gcd_comm]⟩ (Nat.mod_lt _ (by omega)) ⟨rfl,rfl,trivial⟩
 all_goals
  (try refine gO ?_);conv=>whnf
  refine aD.callV (vA hw1 z1 (by omega) hT) ?_;rintro _ h ⟨⟨k1,rfl,t1⟩,rfl⟩
  (try refine gO ?_);conv=>whnf
  refine aD.callV (vA hw2 z2 (by omega) hT) ?_;rintro _ h ⟨⟨k2,rfl,t2⟩,rfl⟩;have lk1:=aCP t1 hm1;have lk2:=aCP t2 hm2;obtain ⟨tw,htw⟩:∃tw,tw=min k1 k2:=⟨_,rfl⟩
  (try refine gO ?_);conv=>whnf
  rw [show min (k1:Int) (k2:Int)=(tw:Nat) by omega];refine aD.callV (uM hw1 p1 (by omega)) ?_;rintro va ha ⟨Oa,ka⟩
  (try refine gO ?_);conv=>whnf
  refine aD.callV (uM (hw2.keeps ka) p2 (by omega)) ?_;rintro vb hb ⟨Ob,kb⟩;have sa:=ka.size;have sb:=kb.size;obtain ⟨ga,ea,ba,la⟩:=Oa.blk;obtain ⟨gb,eb,bb,lb⟩:=Ob.blk;have Oa:=Oa.keeps kb (Nat.le_refl _);have hkb:aH h.size h hb:=ka.trans (kb.mono sa);have Tb:=hT.keeps hkb;have Ob:=Ob.mono sa
  (try refine gO ?_);conv=>whnf
  refine aD.callV (kZ Oa z1 (by omega) Tb) ?_;rintro _ hb ⟨⟨k1',rfl,t1'⟩,rfl⟩;obtain rfl:=wJ t1 t1'
  (try refine gO ?_);conv=>whnf
  refine aD.callV (kU Oa (by omega) k1 (by omega)) ?_;rintro va1 hc ⟨Oa1,oa1,g1,eg1,P1⟩;rw [ea] at eg1;cases eg1;have Ob1:=Ob.put P1 (by rw [eb];intro e;cases e;omega);have hkc:aH h.size h hc:=hkb.trans (P1.keeps.mono ba);have Tc:=hT.keeps hkc
  (try refine gO ?_);conv=>whnf
  refine aD.callV (kZ Ob1 z2 (by omega) Tc) ?_;rintro _ hc ⟨⟨k2',rfl,t2'⟩,rfl⟩;obtain rfl:=wJ t2 t2'
  (try refine gO ?_);conv=>whnf
  refine aD.callV (kU Ob1 (by omega) k2 (by omega)) ?_;rintro vb1 hd ⟨Ob2,ob2,g2,eg2,P2⟩;rw [eb] at eg2;cases eg2;have Oa2:=Oa1.put P2 (by rw [oa1,ea];intro e;cases e;omega);have hkd:aH h.size h hd:=hkc.trans (P2.keeps.mono (by omega));obtain ⟨m1,od1,_⟩:=t1.div;obtain ⟨m2,od2,_⟩:=t2.div;have hgs:=aHR t1 t2;rw [<-htw] at hgs;have n1:=fR (Nat.div_le_self V1 (2^k1));have n2:=fR (Nat.div_le_self V2 (2^k2))
  (try refine gO ?_);conv=>whnf
  refine aD.loop (X:=Nat×Nat×Value×Value) (fun q=>[(0,q.2.2.1),(1,q.2.2.2),(7,.int .i64 (tw:Nat))]) (fun q h'=>GcdI h (Nat.gcd (V1/2^k1) (V2/2^k2)) q.1 q.2.1 q.2.2.1 q.2.2.2 h') (fun q=>q.1+q.2.1) (V1/2^k1,V2/2^k2,va1,vb1)
   ⟨hkd,Oa2,Ob2,by rw [oa1,ob2,ea,eb];intro e;cases e;omega,uA od1,uA od2,by dsimp only;omega,by dsimp only;omega,rfl⟩ ⟨rfl,rfl,rfl,trivial⟩ ?_
  rintro ⟨A,C,wa,wc⟩ he ⟨ke,Ea,Ec,ene,eoa,eoc,ena,enc,eg⟩ ih;dsimp only at Ea Ec ene eoa eoc ena enc eg ih ⊢
  (try refine gO ?_);conv=>whnf
  refine aD.callV (mG Ea.wr Ec.wr (by omega)) ?_;rintro _ he ⟨rfl,rfl⟩
  (try refine gO ?_);conv=>whnf
  refine ⟨fun hc0=>?_,fun hc0=>?_⟩<;>conv=>whnf
  ·try refine gO ?_
   conv=>whnf
   repeat (refine oL ?_;conv=>whnf)
   refine aD.eff (wY tab (tw/64+1) (tw/64+1) (hn:=⟨by omega,by omega,by omega,by dsimp only;omega,by omega⟩)) ?_;rintro _ hf ⟨rfl,Nf⟩
   (try refine gO ?_);conv=>whnf
   repeat (refine oL ?_;conv=>whnf)
   refine aD.eff (lZ tab Nf.blk (hlt:=by simp;omega)) ?_;rintro _ hg2 Pg
   (try refine gO ?_);conv=>whnf
   have hAC:=cmpI_eq hc0;subst hAC;rw [Nat.gcd_self] at eg;have zf:=Nf.size;have zg:=Pg.size;have zke:=ke.size;have Ea0:=Ea;have Ea:=Ea.keeps Nf.keeps (Nat.le_refl _);obtain ⟨gx,egx,bgx,lgx⟩:=Ea.blk;have kf:aH h.size h hg2:=(ke.trans (Nf.keeps.mono zke)).trans (Pg.keeps.mono zke);have Eg:lB h.size hg2 wa (nw A) A:=by
    obtain ⟨g',cap,cur,rfl,hb',hat,r⟩:=Ea;refine ⟨g',cap,cur,rfl,hb',Pg.at hat ?_,r⟩;intro e;subst e;have:=Nf.blk;obtain ⟨g2',cap2',cur2',e2,_,hat2,_⟩:=Ea0;cases e2;have:=hat2.lt;omega
   have hpow:(2:Nat)^tw<B^(tw/64+1):=by
    rw [qZ tw,Nat.pow_succ];exact Nat.mul_lt_mul_of_pos_left (Nat.pow_lt_pow_right (by decide) (show tw%64<64 by omega)) (eD _)
   have hwp:=Wr.of_at Pg.blk (m:=tw/64+1) (cap:=tw/64+1) (V:=2^tw) (Nat.le_refl _) hpow (fun j hj=>by
    rw [aPD];by_cases e:j=tw/64
    ·rw [if_pos e,show 0+((tw:Int)/64).toNat=j by omega,Array.getElem?_setIfInBounds_self_of_lt (by simp;omega)];have h64:tw%64<64:=Nat.mod_lt _ (by decide);have hp:2^(tw%64)<B:=Nat.pow_lt_pow_right (by decide) h64;obtain ⟨p,hp'⟩:∃p,p=2^(tw%64):=⟨_,rfl⟩;rw [show ((tw:Int)%64).toNat=tw%64 by omega];have e9:((2:Int)^(tw%64))=((2^(tw%64):Nat):Int):=by simp
     rw [e9,<-hp'];rw [<-hp',mA] at hp;rw [show (1:Int)*p%18446744073709551616=p by omega]
    rw [if_neg e,Array.getElem?_setIfInBounds_ne (by omega),Array.getElem?_replicate,if_pos hj];rfl)
   refine aD.callV (aFH Eg.wr hwp (by omega) (by omega)) ?_;rintro vr hh ⟨Or,kr⟩
   (try refine gO ?_);conv=>whnf
   refine aD.ret Tryz.func117 rfl rfl ⟨_,rfl,?_⟩;refine ⟨⟨nw A+(tw/64+1),?_,by omega⟩,kf.trans (kr.mono (by omega))⟩;rw [hgs,<-eg];exact Or.wr
  refine ⟨fun hcl=>?_,fun hcl=>?_⟩<;>conv=>whnf
  ·have hlt:A<C:=by
    rcases Nat.lt_or_ge A C with h|h
    ·exact h
    exfalso
    rcases Nat.lt_or_ge C A with h'|h'
    ·first|exact hcl ((kJ _ _).2 h')|(have:=(kJ _ _).1 hcl;omega)
    have e:C=A:=by omega
    apply hc0;subst e;unfold lC;rw [if_neg (Int.lt_irrefl _),if_neg (Int.lt_irrefl _)]
   (try refine gO ?_);conv=>whnf
   refine aD.callV (tB Ec Ea (Ne.symm ene) (by omega) (by omega)) ?_;rintro _ hf ⟨rfl,Ra,gr,egr,Pr⟩;have R2:=Ea.put Pr (by rw [<-egr];exact Ne.symm (Ne.symm ene));obtain ⟨g1',eg1',bg1',_⟩:=Ec.blk;have hgr:h.size<=gr:=by rw [egr] at eg1';cases eg1';exact bg1'
   have kf:aH h.size h hf:=ke.trans (Pr.keeps.mono hgr)
   (try refine gO ?_);conv=>whnf
   refine aD.callV (kZ Ra (by omega) (by omega) (hT.keeps kf)) ?_;rintro _ hf ⟨⟨kz,rfl,tz⟩,rfl⟩;have hev:(C - A)%2=0:=by omega
   have kzp:=aKD tz hev;have nsub:=fR (Nat.sub_le C A)
   (try refine gO ?_);conv=>whnf
   refine aD.callV (kU Ra (by omega) kz (Nat.le_trans (aCP tz (by omega)) (by decide))) ?_;rintro wa' hg ⟨Sa,osa,gs,egs,Ps⟩;have S2:=R2.put Ps (by rw [<-egs];exact Ne.symm (Ne.symm ene));have hgs':h.size<=gs:=by rw [egs] at eg1';cases eg1';exact bg1'
   have kg:aH h.size h hg:=kf.trans (Ps.keeps.mono hgs');obtain ⟨mo,odd',_⟩:=tz.div;have gst:=yU (aLA eoa) (by omega) tz;have hdl:=Nat.div_le_self (C - A) (2^kz);have ndiv:=fR hdl
   (try refine gO ?_);conv=>whnf
   exact ih ((C - A)/2^kz,A,wa',wa) _ _ ⟨kg,Sa,S2,by rw [osa];exact (Ne.symm ene),uA odd',eoa,by dsimp only;omega,ena,by rw [gst];exact (by rw [Nat.gcd_comm];exact eg)⟩ (by dsimp only;omega) ⟨rfl,rfl,rfl,trivial⟩
  have hlt:C<A:=by
   rcases Nat.lt_or_ge C A with h|h
   ·exact h
   exfalso
   rcases Nat.lt_or_ge A C with h'|h'
   ·first|exact hcl ((kJ _ _).2 h')|(have:=(kJ _ _).1 hcl;omega)
   have e:A=C:=by omega
   apply hc0;subst e;unfold lC;rw [if_neg (Int.lt_irrefl _),if_neg (Int.lt_irrefl _)]
  (try refine gO ?_);conv=>whnf
  refine aD.callV (tB Ea Ec ene (by omega) (by omega)) ?_;rintro _ hf ⟨rfl,Ra,gr,egr,Pr⟩;have R2:=Ec.put Pr (by rw [<-egr];exact Ne.symm ene);obtain ⟨g1',eg1',bg1',_⟩:=Ea.blk;have hgr:h.size<=gr:=by rw [egr] at eg1';cases eg1';exact bg1'
  have kf:aH h.size h hf:=ke.trans (Pr.keeps.mono hgr)
  (try refine gO ?_);conv=>whnf
  refine aD.callV (kZ Ra (by omega) (by omega) (hT.keeps kf)) ?_;rintro _ hf ⟨⟨kz,rfl,tz⟩,rfl⟩;have hev:(A - C)%2=0:=by omega
  have kzp:=aKD tz hev;have nsub:=fR (Nat.sub_le A C)
  (try refine gO ?_);conv=>whnf
  refine aD.callV (kU Ra (by omega) kz (Nat.le_trans (aCP tz (by omega)) (by decide))) ?_;rintro wa' hg ⟨Sa,osa,gs,egs,Ps⟩;have S2:=R2.put Ps (by rw [<-egs];exact Ne.symm ene);have hgs':h.size<=gs:=by rw [egs] at eg1';cases eg1';exact bg1'
  have kg:aH h.size h hg:=kf.trans (Ps.keeps.mono hgs');obtain ⟨mo,odd',_⟩:=tz.div;have gst:=yU (aLA eoc) (by omega) tz;have hdl:=Nat.div_le_self (A - C) (2^kz);have ndiv:=fR hdl
  (try refine gO ?_);conv=>whnf
  exact ih ((A - C)/2^kz,C,wa',wc) _ _ ⟨kg,Sa,S2,by rw [osa];exact ene,uA odd',eoc,by dsimp only;omega,enc,by rw [gst];exact eg⟩ (by dsimp only;omega) ⟨rfl,rfl,rfl,trivial⟩

theorem aKB {s:ByteArray}:s=NatM.mt↔s.size=0:=by
 constructor
 ·rintro rfl;rfl
 intro h;exact aJH (by rw [h];rfl) fun i hi=>by omega
theorem aUW {s:ByteArray} (hc:vX s) (h:s.size≠0):eJ s≠0:=by
 intro e;have:=aEP hc;rw [e,aTV] at this;omega
theorem aAW {s:ByteArray} (hc:vX s) (hs:s.size<=256):nw (eJ s)<=32:=by
 rw [<-jQ hc];omega
theorem aUH {h:Array Obj} {b:Nat} {e:TypeId} {ss:List ByteArray} (H:At h b (ss.map Value.string).toArray e):Strs h b 0 ss:=by
 intro j s hs;rw [H.cell,Nat.zero_add]
 simp [hs]
theorem aYP {h:Array Obj} (s t:ByteArray):FV 72 #[.string s,.string t] h (.tuple #[.string (aVI s t).1,.string (aVI s t).2.1,.int .i64 (aVI s t).2.2]):=by
 unfold aVI;refine Fn.of (args:=[.string s,.string t]) Tryz.func72 (by kernel_rfl) rfl Tryz.ntmps72 rfl fun w0 cs=>?_;refine gO ?_;conv=>whnf
 refine aD.eff (sD tab [.string s,.string t] (h1:=by simp [Value.cells])) ?_;rintro _ h0 ⟨rfl,N0⟩
 (try refine gO ?_);conv=>whnf
 refine aD.callV (pE (aUH (ss:=[s,t]) N0.blk) (by simp)) ?_;rintro _ h0 ⟨rfl,rfl⟩;have k0:=N0.keeps
 (try refine gO ?_);conv=>whnf
 refine ⟨fun hc=>?_,fun hc=>?_⟩<;>conv=>whnf
 ·have c1:=eV hc (s:=s) (by simp);have c2:=eV hc (s:=t) (by simp);rw [if_pos hc];refine ⟨fun hz=>?_,fun hz=>?_⟩<;>conv=>whnf
  ·refine aD.ret Tryz.func72 rfl rfl ⟨_,rfl,?_⟩;rw [if_pos (aKB.1 hz)];exact ⟨rfl,k0⟩
  have hz':t.size≠0:=fun e=>hz (aKB.2 e);rw [if_neg hz'];refine aD.callV (iH (s:=s) (by omega)) ?_;rintro v2 h2 ⟨o2,k2⟩
  (try refine gO ?_);conv=>whnf
  refine aD.callV (iH (s:=t) (by omega)) ?_;rintro v3 h3 ⟨o3,k3⟩
  (try refine gO ?_);conv=>whnf
  have l2:=jQ c1.1;have l3:=jQ c2.1;have q2:=(o2.keeps k3 (Nat.le_refl _)).wr;have q3:=o3.wr;rw [l2] at q2;rw [l3] at q3;have n1:=aAW c1.1 c1.2;have n2:=aAW c2.1 c2.2;have s0:=k0.size;have s2:=k2.size;have s3:=k3.size;have kk:=(k0.trans (k2.mono (by omega))).trans (k3.mono (by omega));refine aD.callV (aWV q2 q3 (aUW c2.1 hz') (by omega) (by omega)) ?_;rintro _ h4 ⟨vq,vr,mq,mr,rfl,w1,w2,b1,b2,k4⟩
  (try refine gO ?_);conv=>whnf
  refine aD.callV (wD w1 (by omega)) ?_;rintro _ h5 ⟨rfl,k5⟩
  (try refine gO ?_);conv=>whnf
  refine aD.callV (wD (w2.keeps k5) (by omega)) ?_;rintro _ h6 ⟨rfl,k6⟩
  (try refine gO ?_);conv=>whnf
  refine aD.ret Tryz.func72 rfl rfl ⟨_,rfl,?_⟩;have s4:=k4.size;have s5:=k5.size;exact ⟨rfl,((kk.trans (k4.mono (by omega))).trans (k5.mono (by omega))).trans (k6.mono (by omega))⟩
 refine aD.ret Tryz.func72 rfl rfl ⟨_,rfl,?_⟩;rw [if_neg hc];exact ⟨rfl,k0⟩
theorem aZE {h:Array Obj} (s t:ByteArray) (hT:gN h):FV 71 #[.string s,.string t] h (sev (gcdS s t)):=by
 unfold gcdS;refine Fn.of (args:=[.string s,.string t]) Tryz.func71 (by kernel_rfl) rfl Tryz.ntmps71 rfl fun w0 cs=>?_;refine gO ?_;conv=>whnf
 refine aD.eff (sD tab [.string s,.string t] (h1:=by simp [Value.cells])) ?_;rintro _ h0 ⟨rfl,N0⟩
 (try refine gO ?_);conv=>whnf
 refine aD.callV (pE (aUH (ss:=[s,t]) N0.blk) (by simp)) ?_;rintro _ h0 ⟨rfl,rfl⟩;have k0:=N0.keeps
 (try refine gO ?_);conv=>whnf
 refine ⟨fun hc=>?_,fun hc=>?_⟩<;>conv=>whnf
 ·have c1:=eV hc (s:=s) (by simp);have c2:=eV hc (s:=t) (by simp);rw [if_pos hc];refine aD.callV (iH (s:=s) (by omega)) ?_;rintro v2 h2 ⟨o2,k2⟩
  (try refine gO ?_);conv=>whnf
  refine aD.callV (iH (s:=t) (by omega)) ?_;rintro v3 h3 ⟨o3,k3⟩
  (try refine gO ?_);conv=>whnf
  have l2:=jQ c1.1;have l3:=jQ c2.1;have q2:=(o2.keeps k3 (Nat.le_refl _)).wr;have q3:=o3.wr;rw [l2] at q2;rw [l3] at q3;have n1:=aAW c1.1 c1.2;have n2:=aAW c2.1 c2.2;have s0:=k0.size;have s2:=k2.size;have s3:=k3.size;have kk:=(k0.trans (k2.mono (by omega))).trans (k3.mono (by omega));refine aD.callV (aSD q2 q3 (by omega) (by omega) (hT.keeps kk)) ?_;rintro vr h4 ⟨⟨mr,w1,b1⟩,k4⟩
  (try refine gO ?_);conv=>whnf
  refine aD.callV (wD w1 b1) ?_;rintro _ h5 ⟨rfl,k5⟩
  (try refine gO ?_);conv=>whnf
  refine aD.ret Tryz.func71 rfl rfl ⟨_,rfl,?_⟩;have s4:=k4.size;exact ⟨rfl,(kk.trans (k4.mono (by omega))).trans (k5.mono (by omega))⟩
 refine aD.ret Tryz.func71 rfl rfl ⟨_,rfl,?_⟩;rw [if_neg hc];exact ⟨rfl,k0⟩
end Go.Proofs.YthjedpdedjhndaaGreatDoor

namespace Go.NatM
open Go Go.Fw
theorem enc_inj {A C:Nat} (h:enc A=enc C):A=C:=by rw [<-eA A,h,eA]
theorem bCL {A C:Nat}:enc A=enc C↔A=C:=⟨enc_inj,fun h=>by rw [h]⟩
theorem bAO:enc 0=NatM.mt:=rfl
theorem aKY {A:Nat}:enc A=NatM.mt↔A=0:=by rw [<-bAO,bCL]
theorem aYG {l:List ByteArray} (h:∀s∈l,vX s/\s.size<=256):chk l=0:=by
 unfold chk;rw [if_pos (List.all_eq_true.2 fun s hs=>pJ.2 (h s hs).1),if_pos (List.all_eq_true.2 fun s hs=>Nat.ble_eq_true_of_le (h s hs).2)]
theorem bBY {A:Nat} (hA:nb A<=256):chk [enc A]=0:=aYG fun s hs=>by
 obtain rfl:s=enc A:=by simpa using hs
 exact ⟨aCI A,by rw [iU];exact hA⟩
theorem aCH {A C:Nat} (hA:nb A<=256) (hC:nb C<=256):chk [enc A,enc C]=0:=aYG fun s hs=>by
 simp only [List.mem_cons,List.not_mem_nil,or_false] at hs;rcases hs with rfl|rfl
 ·exact ⟨aCI A,by rw [iU];exact hA⟩
 exact ⟨aCI C,by rw [iU];exact hC⟩
section
variable {A C:Nat} (hA:nb A<=256) (hC:nb C<=256)
include hA hC
theorem aSI:bCC (enc A) (enc C)=oW (A+C):=by unfold bCC;rw [if_pos (aCH hA hC),eA,eA]
theorem xK:mulS (enc A) (enc C)=oW (A*C):=by unfold mulS;rw [if_pos (aCH hA hC),eA,eA]
theorem aZN:bDV (enc A) (enc C)=if A<C then (NatM.mt,1) else (enc (A - C),0):=by unfold bDV;rw [if_pos (aCH hA hC),eA,eA]
theorem aAQ:bDA (enc A) (enc C)=(aHG A C,0):=by unfold bDA;rw [if_pos (aCH hA hC),eA,eA]
theorem gcd_e:gcdS (enc A) (enc C)=(enc (Nat.gcd A C),0):=by unfold gcdS;rw [if_pos (aCH hA hC),eA,eA]
theorem bEE:aVI (enc A) (enc C)=if C=0 then (NatM.mt,NatM.mt,71) else (enc (A/C),enc (A%C),0):=by
 unfold aVI;rw [if_pos (aCH hA hC),eA,eA];by_cases h:C=0
 ·subst h;rw [if_pos (by rw [iU];rfl),if_pos rfl]
 rw [if_neg h,if_neg];rw [iU];have:=aRV h;omega
end
theorem sF {V:Nat} (h:nb V<=256):oW V=(enc V,0):=by unfold oW;rw [if_pos h]
theorem oG {V:Nat} (h:¬nb V<=256):oW V=(NatM.mt,2):=by unfold oW;rw [if_neg h]
theorem bCR (A C:Nat):nb (A*C)<=nb A+nb C:=by
 refine aFJ ?_;rw [Nat.pow_add];exact Nat.mul_lt_mul'' (aGH A) (aGH C)
theorem aHY {A C:Nat}:0<=aHG A C↔C<=A:=by
 unfold aHG;by_cases h:A<C
 ·rw [if_pos h];omega
 rw [if_neg h];split<;>omega
theorem aNB {A C:Nat}:aHG A C<0↔A<C:=by
 unfold aHG;by_cases h:A<C
 ·rw [if_pos h];omega
 rw [if_neg h];split<;>omega

theorem aTK (a b:ByteArray) (i:Nat):aY (a++b) i=if i<a.size then aY a i else aY b (i - a.size):=by
 obtain ⟨⟨a⟩⟩:=a;obtain ⟨⟨b⟩⟩:=b;have e:(ByteArray.mk ⟨a⟩++ByteArray.mk ⟨b⟩).data.toList=a++b:=by rw [ByteArray.data_append];simp
 unfold aY;have e2:(ByteArray.mk ⟨a⟩).size=a.length:=rfl;rw [e,e2,List.getD_eq_getElem?_getD,List.getElem?_append];by_cases h:i<a.length
 ·rw [if_pos h,if_pos h,List.getD_eq_getElem?_getD]
 rw [if_neg h,if_neg h,List.getD_eq_getElem?_getD]
theorem aTM (s:ByteArray) {lo hi i:Nat} (hh:hi<=s.size) (h:lo+i<hi):aY (s.extract lo hi) i=aY s (lo+i):=by
 obtain ⟨⟨a⟩⟩:=s;have hh:hi<=a.length:=hh;unfold aY;rw [List.getD_eq_getElem?_getD,List.getD_eq_getElem?_getD];have e:((ByteArray.mk ⟨a⟩).extract lo hi).data.toList=(a.drop lo).take (hi - lo):=by
  rw [ByteArray.data_extract]
  simp
 rw [e,List.getElem?_take_of_lt (by omega),List.getElem?_drop]
theorem aPR (R:Nat) {c:Nat} (hc:c<256):byc (256*R+c) 0=c:=by
 unfold byc;rw [Nat.pow_zero,Nat.div_one];omega
theorem aQL (R:Nat) {c:Nat} (hc:c<256) (k:Nat):byc (256*R+c) (k+1)=byc R k:=by
 unfold byc;rw [Nat.pow_succ',<-Nat.div_div_eq_div_mul,show (256*R+c)/256=R by omega]
theorem bEI {R c:Nat} (hR:R≠0) (hc:c<256):nb (256*R+c)=nb R+1:=by
 refine (bEH ?_ fun _=>?_).symm
 ·have:=aGH R;rw [Nat.pow_succ];omega
 have:=aRV hR;rw [show nb R+1 - 1=(nb R - 1)+1 by omega,aQL R hc];exact aSW hR
theorem bFB {c:Nat} (h0:c≠0) (hc:c<256):nb c=1:=by
 refine (bEH (by omega) fun _=>?_).symm;have:=aPR 0 hc;rw [Nat.mul_zero,Nat.zero_add] at this;rw [this];exact h0
theorem bFE {R i:Nat} {s:ByteArray} (hi:i<s.size) (h:R≠0\/aY s i≠0):enc R++s.extract i (i+1)=enc (256*R+aY s i):=by
 have hc:=oE s i;have e1:(s.extract i (i+1)).size=1:=by rw [ByteArray.size_extract];omega
 have hn:nb (256*R+aY s i)=nb R+1:=by
  by_cases hR:R=0
  ·subst hR;rw [Nat.mul_zero,Nat.zero_add,aTV];exact bFB (h.resolve_left (fun f=>f rfl)) hc
  exact bEI hR hc
 refine aJH (by rw [ByteArray.size_append,iU,iU,e1,hn]) fun k hk=>?_;rw [ByteArray.size_append,iU,e1] at hk;rw [yG (by omega),aTK,iU,hn];split
 ·next hk2=>rw [yG hk2,show nb R+1 - 1 - k=(nb R - 1 - k)+1 by omega,aQL R hc]
 rw [show nb R+1 - 1 - k=0 by omega,aPR R hc,aTM s (by omega) (by omega)]
 congr 1
 omega
theorem bEA {R i:Nat} {s:ByteArray} (hi:i<s.size):aY (enc R++s.extract i (i+1)) 0=0↔R=0/\aY s i=0:=by
 rw [aTK,iU];by_cases hR:R=0
 ·subst hR;rw [aTV,if_neg (by omega),aTM s (by omega) (by omega)]
  simp
 have h1:=aRV hR;have h2:=aSW hR;rw [if_pos h1,yG h1]
 simp [hR]
 exact h2
theorem bEP {i:Nat} {s:ByteArray} (hi:i<s.size):(enc 0++s.extract i (i+1)).extract 1 ((enc 0++s.extract i (i+1)).size)=enc 0:=by
 refine aJH ?_ fun k hk=>?_
 ·rw [ByteArray.size_extract,ByteArray.size_append,iU,aTV,ByteArray.size_extract];omega
 rw [ByteArray.size_extract,ByteArray.size_append,iU,aTV,ByteArray.size_extract] at hk;omega
theorem bEF (Q:Nat) {d:Nat} (hd:d<256) (n:Nat):∀j,j<=n->dn (256*Q+d) (n+1) j=dn Q n j
 |0,_=>rfl
 |j+1,h=>by
  have ih:=bEF Q hd n j (by omega);rw [dn,dn,ih,show n+1 - 1 - j=(n - 1 - j)+1 by omega,aQL Q hd]
def bts (V:Nat):List Nat:=dn V (nb V) (nb V)
theorem bED (V:Nat):(bts V).length=nb V:=kT _ _ _
theorem bES:bts 0=[]:=rfl
theorem bER {Q d:Nat} (hd:d<256) (h:Q≠0\/d≠0):bts (256*Q+d)=bts Q++[d]:=by
 have hn:nb (256*Q+d)=nb Q+1:=by
  by_cases hQ:Q=0
  ·subst hQ;rw [Nat.mul_zero,Nat.zero_add,aTV];exact bFB (h.resolve_left (fun f=>f rfl)) hd
  exact bEI hQ hd
 unfold bts;rw [hn,dn,bEF Q hd _ _ (Nat.le_refl _),show nb Q+1 - 1 - nb Q=0 by omega,aPR Q hd]
theorem bFD {s:ByteArray} {i:Nat} (hi:i<s.size):eJ s/256^(s.size - (i+1))=256*(eJ s/256^(s.size - i))+aY s i:=by
 have h1:=aIS (eJ s) (s.size - 1 - i);rw [aEO s (by omega),show s.size - 1 - (s.size - 1 - i)=i by omega,show s.size - 1 - i+1=s.size - i by omega] at h1;rw [show s.size - (i+1)=s.size - 1 - i by omega];omega
theorem bEN {P B c:Nat} (hB:0<B):(256*P+c)/B=256*(P/B)+(256*(P%B)+c)/B/\(256*P+c)%B=(256*(P%B)+c)%B:=by
 have h:=Nat.div_add_mod P B;have e:256*P+c=B*(256*(P/B))+(256*(P%B)+c):=by
  have:B*(256*(P/B))=256*(B*(P/B)):=by rw [Nat.mul_left_comm]
  omega
 rw [e,Nat.mul_add_div hB,Nat.mul_add_mod];exact ⟨rfl,rfl⟩
theorem bEV {P B c:Nat} (hB:0<B) (hc:c<256):(256*(P%B)+c)/B<256:=by
 have:=Nat.mod_lt P hB;refine (Nat.div_lt_iff_lt_mul hB).2 ?_;omega
end Go.NatM

namespace Go.Proofs.YthjedpdedjhndaaGreatDoor
open Go Go.Fw Go.NatM
theorem bEO {base B':Nat} {h h':Array Obj} {e:TypeId} {sz:Nat} {v:Value} {m:Nat} {xs:List Value} (H:Own base h e sz v m xs) (hk:aH B' h h') (hB:h.size<=B'):Own base h' e sz v m xs:=by
 obtain ⟨hl,H⟩:=H;refine ⟨hl,?_⟩;rcases H with H|⟨g,cap,cur,h1,h2,h3,h4⟩
 ·exact .inl H
 exact .inr ⟨g,cap,cur,h1,h2,hk.at h3 (Nat.lt_of_lt_of_le h3.lt hB),h4⟩
theorem aUA {h:Array Obj} {a b:ByteArray} (hb:vX b) (hsa:a.size<=1000) (hsb:b.size<=1000) (hB:eJ b≠0):
  FV 276 #[.string a,.string b] h (.tuple #[.string (enc (eJ a/eJ b)),.string (enc (eJ a%eJ b))]):=by
 obtain ⟨B,hBe⟩:∃B,B=eJ b:=⟨_,rfl⟩;rw [<-hBe] at hB ⊢;obtain ⟨P,hP⟩:∃P:Nat->Nat,P=fun i=>eJ a/256^(a.size - i):=⟨_,rfl⟩;have p0:P 0=0:=by rw [hP];exact Nat.div_eq_of_lt (aTR a)
 have pn:P a.size=eJ a:=by rw [hP];simp
 have ps:∀i,i<a.size->P (i+1)=256*P i+aY a i:=fun i hi=>by rw [hP];exact bFD hi
 have pb:∀i,nb (P i/B)<=a.size:=fun i=>by
  refine aFJ (Nat.lt_of_le_of_lt ?_ (aTR a));rw [hP];exact Nat.le_trans (Nat.div_le_self _ _) (Nat.div_le_self _ _)
 have hBp:0<B:=by omega
 have hBn:nb B=b.size:=by rw [hBe];exact aEP hb
 have rb:∀i,nb (P i%B)<=b.size:=fun i=>by
  rw [<-hBn];exact bGN (Nat.le_of_lt (Nat.mod_lt _ hBp))
 rw [<-pn];refine Fn.of (args:=[.string a,.string b]) Tryz.func276 (by kernel_rfl) rfl Tryz.ntmps276 rfl fun w0 cs=>?_;refine gO ?_;conv=>whnf
 refine aD.eff (iN tab [] (h1:=by simp)) ?_;rintro _ _ ⟨rfl,rfl⟩
 (try refine gO ?_);conv=>whnf
 refine aD.loop (X:=Nat×Value) (fun q=>[(0,.string a),(1,.string b),(6,q.2),(7,.string (enc (P q.1%B))),(8,.int .i64 (q.1:Nat))])
  (fun q h'=>q.1<=a.size/\Buf h.size h' q.2 (bts (P q.1/B))/\aH h.size h h') (fun q=>a.size - q.1) (0,.slice (some ⟨h.size,0,none⟩) 0 0)
  ⟨Nat.zero_le _,?_,(aH.refl _ _).push (Nat.le_refl _) _⟩ ⟨rfl,rfl,rfl,by rw [p0,Nat.zero_mod];rfl,rfl,trivial⟩ ?_
 ·show Buf _ _ _ (bts (P 0/B));rw [p0,Nat.zero_div];exact ⟨rfl,.inr ⟨h.size,0,_,rfl,Nat.le_refl _,gH _ _ _,Nat.zero_le _,by unfold maxLen;omega,by simp,by simp [bES]⟩⟩
 rintro ⟨i,buf⟩ h' ⟨hi,hbuf,hkp⟩ ih;dsimp only at hi hbuf ⊢
 (try refine gO ?_);conv=>whnf
 refine ⟨fun h1=>?_,fun h1=>?_⟩<;>conv=>whnf
 ·have hi':i<a.size:=by omega
  have s1:(enc (P i%B)).size<=1000:=by rw [iU];have:=rb i;omega
  have s2:(a.extract i (i+1)).size=1:=by rw [ByteArray.size_extract];omega
  repeat (refine oL ?_;conv=>whnf)
  have hc:=oE a i;have hpi:=ps i hi';have hdd:=bEN (P:=P i) (c:=aY a i) hBp;have hdl:=bEV (P:=P i) hBp hc;rw [<-hpi] at hdd;obtain ⟨X,hX⟩:∃X,X=256*(P i%B)+aY a i:=⟨_,rfl⟩;rw [<-hX] at hdd hdl;have hpf:=bEA (R:=P i%B) hi';have hpz:=bEP hi';have hpe:=bFE (R:=P i%B) hi';rw [<-hX] at hpe;have sX:nb X<=b.size+1:=by
   have h1:=rb i;have h2:=aGH (P i%B);refine aFJ (Nat.lt_of_lt_of_le (?_:X<256^(nb (P i%B)+1)) (Nat.pow_le_pow_right (by decide) (by omega)));rw [Nat.pow_succ];omega
  conv=>whnf
  rw [show (i:Int).toNat=i from rfl,show ((i:Int)+1).toNat=i+1 from rfl];repeat (refine oL ?_;conv=>whnf)
  conv=>whnf
  obtain ⟨s,hs⟩:∃s,s=enc (P i%B)++a.extract i (i+1):=⟨_,rfl⟩;have hs1:s.size=(enc (P i%B)).size+1:=by rw [hs,ByteArray.size_append,s2]
  rw [<-hs] at hpf hpe ⊢;have hps:P i%B=0/\aY a i=0->s.extract 1 s.size=enc X:=fun hh=>by
   rw [hs,hh.1,hpz,hX,hh.1,hh.2]
  repeat (refine oL ?_;conv=>whnf)
  conv=>whnf
  refine ⟨fun h2=>?_,fun h2=>?_⟩<;>conv=>whnf
  all_goals first
   |(have h3:=hps (hpf.1 (by have:((aY s (Int.toNat 0):Nat):Int)=0:=h2
                             exact Int.ofNat.inj this))
     refine oL ?_;conv=>whnf
     rw [show (1:Int).toNat=1 from rfl,h3])
   |(have h3:=hpe (by by_cases h4:P i%B=0
                      ·refine .inr fun h5=>h2 ?_;have:=hpf.2 ⟨h4,h5⟩;show ((aY s (Int.toNat 0):Nat):Int)=0;rw [show Int.toNat 0=0 from rfl,this];rfl
                      exact .inl h4)
     rw [h3])
  all_goals try refine gO ?_
  all_goals conv=>whnf
  all_goals clear hpf hpe hpz hps h2 h3
  all_goals
   obtain ⟨ab,capb,rfl⟩:=Own.shape hbuf
   refine aD.loop (X:=Nat) (fun d=>[(0,.string a),(1,.string b),(6,.slice ab (bts (P i/B)).length capb),(7,.string (enc (X - d*B))),(8,.int .i64 (i:Nat)),(9,.int .i64 (d:Nat))])
    (fun d h2=>d*B<=X/\aH h'.size h' h2) (fun d=>X - d*B) 0 ⟨by omega,aH.refl _ _⟩ ⟨rfl,rfl,rfl,by rw [Nat.zero_mul];rfl,rfl,rfl,trivial⟩ ?_
   rintro d h2 ⟨hd,hk2⟩ ih2;have sY:nb (X - d*B)<=b.size+1:=Nat.le_trans (bGN (Nat.sub_le _ _)) sX;have hdB:d<=X/B:=(Nat.le_div_iff_mul_le hBp).2 hd;have e1:(d+1)*B=d*B+B:=Nat.succ_mul d B
   (try refine gO ?_);conv=>whnf
   refine aD.callV (bDR (aCI (X - d*B)) hb (by rw [iU];omega) (by omega)) ?_;rintro _ h2 ⟨rfl,rfl⟩;rw [eA,<-hBe];by_cases h4:X - d*B<B
   ·rw [decide_eq_true h4]
    (try refine gO ?_);conv=>whnf
    have hdX:X/B=d:=(Nat.div_eq_of_lt_le (by omega) (by omega));have hmX:X%B=X - d*B:=by
     have:=Nat.div_add_mod X B;rw [hdX,Nat.mul_comm] at this;omega
    have hd256:(d:Int)%256=d:=by omega
    have sQ:=pb i;rw [<-bED] at sQ;have hB2:=bEO hbuf hk2 (Nat.le_refl _);have sz2:=hk2.size;have szh:=hkp.size;have hnew:0<d \/ ¬bts (P i/B)=[]->bts (P (i+1)/B)=bts (P i/B)++[d]:=fun hh=>by
     rw [hdd.1,hdX];refine bER (by omega) ?_;rcases hh with hh|hh
     ·exact .inr (by omega)
     exact .inl fun e=>hh (by rw [e];rfl)
    refine ⟨fun h5=>?_,fun h5=>?_⟩<;>conv=>whnf
    rotate_left
    ·conv=>whnf
     refine ⟨fun h6=>?_,fun h6=>?_⟩<;>conv=>whnf
     rotate_left
     ·have hq:bts (P i/B)=[]:=List.eq_nil_of_length_eq_zero (by omega);have hd0:d=0:=by omega
      have hq0:bts (P (i+1)/B)=[]:=by
       have:P i/B=0:=by
        by_cases h7:P i/B=0
        ·exact h7
        have:=aRV h7;rw [<-bED,hq] at this;exact absurd this (by decide)
       rw [hdd.1,this,hdX,hd0];rfl
      conv=>whnf
      repeat (refine oL ?_;conv=>whnf)
      refine ih (i+1,_) _ _ ⟨by dsimp only;omega,?_,hkp.trans (hk2.mono szh)⟩ (by dsimp only;omega) ⟨rfl,rfl,rfl,?_,rfl,trivial⟩
      ·show Buf _ _ _ (bts (P (i+1)/B));rw [hq0,<-hq];exact hB2
      show some (Value.string (enc (X - d*B)))=some (Value.string (enc (P (i+1)%B)));rw [hdd.2,hmX]
     all_goals try refine gO ?_
     all_goals conv=>whnf
     all_goals replace hnew:=hnew (.inr fun e=>by rw [e] at h6;simp at h6)
     rw [hd256];refine aD.eff (iN tab [.int .u8 (d:Nat)] (h1:=by simp [Value.cells])) ?_;rintro _ _ ⟨rfl,rfl⟩
     (try refine gO ?_);conv=>whnf
     have hnews:∀j u,[Value.int .u8 (d:Nat)][j]? = some u->bL (h2.push (.cells #[Value.int .u8 (d:Nat)] 5 (0,0))) h2.size (0+j)=some u:=fun j u hu=>by
      rw [(gH _ _ _).cell,Nat.zero_add]
      cases j with
      |zero=>simpa using hu
      |succ j=>simp at hu
     refine aD.eff (xT tab (base:=h.size) (m:=(bts (P i/B)).length) (m2:=1) (news:=[Value.int .u8 (d:Nat)]) (Own.push hB2 _) rfl hnews (by simp [Value.oneCell']) (h63:=by unfold maxLen;omega) (hbytes:=by dsimp only;omega) (hbase:=by simp;omega)) ?_;rintro v' h4 ⟨H1,H2,H3,_⟩
     (try refine gO ?_);conv=>whnf
     repeat (refine oL ?_;conv=>whnf)
     refine ih (i+1,v') _ _ ⟨by dsimp only;omega,?_,((hkp.trans (hk2.mono szh)).push (by omega) _).trans ((Own.push hB2 _).keeps (by simp;omega) H2 H3)⟩ (by dsimp only;omega) ⟨rfl,rfl,rfl,?_,rfl,trivial⟩
     ·show Buf _ _ _ (bts (P (i+1)/B));rw [hnew];unfold Buf;rw [List.length_append,List.map_append];exact H1
     show some (Value.string (enc (X - d*B)))=some (Value.string (enc (P (i+1)%B)));rw [hdd.2,hmX]
    (try refine gO ?_);conv=>whnf
    replace hnew:=hnew (.inl (by omega))
    rw [hd256];refine aD.eff (iN tab [.int .u8 (d:Nat)] (h1:=by simp [Value.cells])) ?_;rintro _ _ ⟨rfl,rfl⟩
    (try refine gO ?_);conv=>whnf
    have hnews:∀j u,[Value.int .u8 (d:Nat)][j]? = some u->bL (h2.push (.cells #[Value.int .u8 (d:Nat)] 5 (0,0))) h2.size (0+j)=some u:=fun j u hu=>by
     rw [(gH _ _ _).cell,Nat.zero_add]
     cases j with
     |zero=>simpa using hu
     |succ j=>simp at hu
    refine aD.eff (xT tab (base:=h.size) (m:=(bts (P i/B)).length) (m2:=1) (news:=[Value.int .u8 (d:Nat)]) (Own.push hB2 _) rfl hnews (by simp [Value.oneCell']) (h63:=by unfold maxLen;omega) (hbytes:=by dsimp only;omega) (hbase:=by simp;omega)) ?_;rintro v' h4 ⟨H1,H2,H3,_⟩
    (try refine gO ?_);conv=>whnf
    repeat (refine oL ?_;conv=>whnf)
    refine ih (i+1,v') _ _ ⟨by dsimp only;omega,?_,((hkp.trans (hk2.mono szh)).push (by omega) _).trans ((Own.push hB2 _).keeps (by simp;omega) H2 H3)⟩ (by dsimp only;omega) ⟨rfl,rfl,rfl,?_,rfl,trivial⟩
    ·show Buf _ _ _ (bts (P (i+1)/B));rw [hnew];unfold Buf;rw [List.length_append,List.map_append];exact H1
    show some (Value.string (enc (X - d*B)))=some (Value.string (enc (P (i+1)%B)));rw [hdd.2,hmX]
   rw [decide_eq_false h4]
   (try refine gO ?_);conv=>whnf
   refine aD.callV (aZG (aCI (X - d*B)) hb (by rw [iU];omega) (by omega) (by rw [eA,<-hBe];omega)) ?_;rintro _ h3 ⟨rfl,k3⟩;rw [eA,<-hBe]
   (try refine gO ?_);conv=>whnf
   repeat (refine oL ?_;conv=>whnf)
   refine ih2 (d+1) _ _ ⟨by omega,hk2.trans (k3.mono hk2.size)⟩ (by omega) ⟨rfl,rfl,rfl,?_,rfl,rfl,trivial⟩;rw [e1,Nat.sub_add_eq];rfl
 have hin:i=a.size:=by omega
 subst hin;obtain ⟨ab,capb,rfl⟩:=Own.shape hbuf;refine aD.eff (aHN tab (base:=h.size) (ns:=bts (P a.size/B)) hbuf) ?_;rintro _ _ ⟨rfl,rfl⟩
 (try refine gO ?_);conv=>whnf
 refine aD.ret Tryz.func276 rfl rfl ⟨_,rfl,?_⟩;exact ⟨rfl,hkp⟩
theorem bEJ {h:Array Obj} (s t:ByteArray):FV 273 #[.string s,.string t] h (.tuple #[.string (aVI s t).1,.string (aVI s t).2.1,.int .i64 (aVI s t).2.2]):=by
 unfold aVI;refine Fn.of (args:=[.string s,.string t]) Tryz.func273 (by kernel_rfl) rfl Tryz.ntmps273 rfl fun w0 cs=>?_;refine gO ?_;conv=>whnf
 refine aD.callV (aJQ s t) ?_;rintro _ h ⟨rfl,rfl⟩
 (try refine gO ?_);conv=>whnf
 refine ⟨fun hc=>?_,fun hc=>?_⟩<;>conv=>whnf
 ·have c1:=eV hc (s:=s) (by simp);have c2:=eV hc (s:=t) (by simp);rw [if_pos hc];refine ⟨fun hz=>?_,fun hz=>?_⟩<;>conv=>whnf
  ·refine aD.ret Tryz.func273 rfl rfl ⟨_,rfl,?_⟩;rw [if_pos (aKB.1 hz)];exact ⟨rfl,aH.refl _ _⟩
  have hz':t.size≠0:=fun e=>hz (aKB.2 e);rw [if_neg hz'];refine aD.callV (aUA (a:=s) c2.1 (by omega) (by omega) (aUW c2.1 hz')) ?_;rintro _ h2 ⟨rfl,k2⟩
  (try refine gO ?_);conv=>whnf
  refine aD.ret Tryz.func273 rfl rfl ⟨_,rfl,?_⟩;exact ⟨rfl,k2⟩
 refine aD.ret Tryz.func273 rfl rfl ⟨_,rfl,?_⟩;rw [if_neg hc];exact ⟨rfl,aH.refl _ _⟩
theorem bDB {h:Array Obj} (s t:ByteArray):FV 213 #[.string s,.string t] h (sev (gcdS s t)):=by
 unfold gcdS;refine Fn.of (args:=[.string s,.string t]) Tryz.func213 (by kernel_rfl) rfl Tryz.ntmps213 rfl fun w0 cs=>?_;refine gO ?_;conv=>whnf
 refine aD.callV (aJQ s t) ?_;rintro _ h ⟨rfl,rfl⟩
 (try refine gO ?_);conv=>whnf
 refine ⟨fun hc=>?_,fun hc=>?_⟩<;>conv=>whnf
 ·have c1:=eV hc (s:=s) (by simp);have c2:=eV hc (s:=t) (by simp);rw [if_pos hc]
  refine aD.loop (X:=ByteArray×ByteArray) (fun q=>[(0,.string q.1),(1,.string q.2)])
   (fun q h'=>vX q.1/\q.1.size<=256/\vX q.2/\q.2.size<=256/\Nat.gcd (eJ q.1) (eJ q.2)=Nat.gcd (eJ s) (eJ t)/\aH h.size h h') (fun q=>eJ q.2) (s,t)
   ⟨c1.1,c1.2,c2.1,c2.2,rfl,aH.refl _ _⟩ ⟨rfl,rfl,trivial⟩ ?_
  rintro ⟨a,b⟩ h' ⟨ha,hsa,hb,hsb,hg,hk⟩ ih;dsimp only at ha hsa hb hsb hg ⊢
  (try refine gO ?_);conv=>whnf
  refine ⟨fun hz=>?_,fun hz=>?_⟩<;>conv=>whnf
  ·try refine gO ?_
   conv=>whnf
   refine aD.ret Tryz.func213 rfl rfl ⟨_,rfl,?_⟩;rw [hz,show eJ NatM.mt=0 from rfl,Nat.gcd_zero_right] at hg;refine ⟨?_,hk⟩;unfold sev;rw [<-hg,bFT ha];rfl
  have hz':b.size≠0:=fun e=>hz (aKB.2 e);have hnz:=aUW hb hz';refine aD.callV (aUA (a:=a) hb (by omega) (by omega) hnz) ?_;rintro _ h2 ⟨rfl,k2⟩
  (try refine gO ?_);conv=>whnf
  have hlt:=Nat.mod_lt (eJ a) (Nat.pos_of_ne_zero hnz);refine ih (b,enc (eJ a%eJ b)) _ _ ⟨hb,hsb,aCI _,?_,?_,hk.trans (k2.mono hk.size)⟩ ?_ ⟨rfl,rfl,trivial⟩
  ·dsimp only;rw [iU];have:=bGN (Nat.le_of_lt hlt);rw [aEP hb] at this;omega
  ·dsimp only;rw [eA,<-hg,Nat.gcd_comm (eJ a) (eJ b),Nat.gcd_rec (eJ b) (eJ a),Nat.gcd_comm]
  dsimp only;rw [eA];exact hlt
 refine aD.ret Tryz.func213 rfl rfl ⟨_,rfl,?_⟩;rw [if_neg hc];exact ⟨rfl,aH.refl _ _⟩
end Go.Proofs.YthjedpdedjhndaaGreatDoor

namespace Go.RatM
open Go Go.Fw Go.NatM
structure Q where
 neg:Bool
 n:Nat
 d:Nat
def sg (neg:Bool) (n:Nat):Int:=if neg=true then -(n:Int) else n
def Q.val (a:Q):Rat:=mkRat (sg a.neg a.n) a.d
def Q.Ok (a:Q):Prop:=a.d≠0/\Nat.gcd a.n a.d=1/\(a.neg=true->a.n≠0)
def low (neg:Bool) (n d:Nat):Q:=⟨neg && !Nat.beq n 0,n/Nat.gcd n d,d/Nat.gcd n d⟩
theorem beq0 {n:Nat} (h:n≠0):Nat.beq n 0=false:=by cases n with
 |zero=>exact absurd rfl h
 |succ n=>rfl
theorem aFP (s:Bool) (n:Nat):(sg s n).natAbs=n:=by unfold sg;split<;>omega
theorem aKH (s:Bool):sg s 0=0:=by unfold sg;split<;>rfl
theorem Q.val_eq {a:Q} (h:a.Ok):a.val=⟨sg a.neg a.n,a.d,h.1,by rw [aFP];exact h.2.1⟩:=(Rat.mk_eq_mkRat _ _ h.1 (by rw [aFP];exact h.2.1)).symm
theorem Q.num {a:Q} (h:a.Ok):a.val.num=sg a.neg a.n:=by rw [Q.val_eq h]
theorem Q.den {a:Q} (h:a.Ok):a.val.den=a.d:=by rw [Q.val_eq h]
theorem Q.inj {a b:Q} (ha:a.Ok) (hb:b.Ok) (h:a.val=b.val):a=b:=by
 have h1:sg a.neg a.n=sg b.neg b.n:=by rw [<-Q.num ha,<-Q.num hb,h]
 have h2:a.d=b.d:=by rw [<-Q.den ha,<-Q.den hb,h]
 have h3:a.n=b.n:=by rw [<-aFP a.neg a.n,<-aFP b.neg b.n,h1]
 obtain ⟨s,n,d⟩:=a;obtain ⟨s',n',d'⟩:=b;obtain ⟨_,_,ha⟩:=ha;obtain ⟨_,_,hb⟩:=hb;simp only at h1 h2 h3 ha hb;subst h2 h3;have:s=s':=by
  cases s<;>cases s'<;>simp [sg] at h1 ha hb ⊢ <;> omega
 rw [this]
theorem aRW (neg:Bool) (n:Nat) {d:Nat} (hd:d≠0):(low neg n d).Ok:=by
 have hg:0<Nat.gcd n d:=Nat.gcd_pos_of_pos_right _ (Nat.pos_of_ne_zero hd);refine ⟨?_,?_,fun h=>?_⟩
 ·show d/Nat.gcd n d≠0;exact Nat.ne_of_gt (Nat.div_pos (Nat.le_of_dvd (Nat.pos_of_ne_zero hd) (Nat.gcd_dvd_right _ _)) hg)
 ·show Nat.gcd (n/Nat.gcd n d) (d/Nat.gcd n d)=1;rw [Nat.gcd_div (Nat.gcd_dvd_left _ _) (Nat.gcd_dvd_right _ _),Nat.div_self hg]
 show n/Nat.gcd n d≠0;have hn:n≠0:=by
  intro e;subst e
  simp [low] at h
 exact Nat.ne_of_gt (Nat.div_pos (Nat.le_of_dvd (Nat.pos_of_ne_zero hn) (Nat.gcd_dvd_left _ _)) hg)
theorem aLB (neg:Bool) (n:Nat) {d:Nat} (hd:d≠0):(low neg n d).val=mkRat (sg neg n) d:=by
 have hg:0<Nat.gcd n d:=Nat.gcd_pos_of_pos_right _ (Nat.pos_of_ne_zero hd);have e1:Nat.gcd n d*(n/Nat.gcd n d)=n:=Nat.mul_div_cancel' (Nat.gcd_dvd_left _ _);have e2:Nat.gcd n d*(d/Nat.gcd n d)=d:=Nat.mul_div_cancel' (Nat.gcd_dvd_right _ _);have hs:sg neg n=(Nat.gcd n d:Int)*sg (neg && !Nat.beq n 0) (n/Nat.gcd n d):=by
  by_cases hn:n=0
  ·subst hn;simp [aKH]
  have hb:Nat.beq n 0=false:=beq0 hn;rw [hb];cases neg<;>simp only [sg,Bool.not_false,Bool.and_true,if_true,if_false,Bool.false_eq_true]
  ·rw [<-Int.natCast_mul,e1]
  rw [Int.mul_neg,<-Int.natCast_mul,e1]
 show mkRat (sg (neg && !Nat.beq n 0) (n/Nat.gcd n d)) (d/Nat.gcd n d)=mkRat (sg neg n) d;rw [<-Rat.mkRat_mul_left (Nat.ne_of_gt hg),<-hs,e2]
abbrev dJ (V:Nat):Prop:=nb V<=256
def aBP (a b:Q):Option Q:=
 if dJ (a.n*b.d)/\dJ (b.n*a.d)/\dJ (a.d*b.d) then
  if a.neg=b.neg then
   if dJ (a.n*b.d+b.n*a.d) then some (low a.neg (a.n*b.d+b.n*a.d) (a.d*b.d)) else none
  else if a.n*b.d<b.n*a.d then some (low b.neg (b.n*a.d - a.n*b.d) (a.d*b.d))
  else some (low a.neg (a.n*b.d - b.n*a.d) (a.d*b.d))
 else none
theorem bGK {a b c:Q} (ha:a.d≠0) (hb:b.d≠0) (h:aBP a b=some c):c.Ok/\c.val=a.val+b.val:=by
 have hd:a.d*b.d≠0:=Nat.mul_ne_zero ha hb;have key:∀s n,c=low s n (a.d*b.d)->sg s n=sg a.neg a.n*(b.d:Int)+sg b.neg b.n*(a.d:Int)->c.Ok/\c.val=a.val+b.val:=by
  intro s n e hs;subst e;refine ⟨aRW _ _ hd,?_⟩;rw [aLB _ _ hd];unfold Q.val;rw [Rat.mkRat_add_mkRat _ _ ha hb,hs]
 unfold aBP at h;split at h
 ·split at h
  ·next hs=>
   split at h
   ·refine key _ _ (Option.some.inj h).symm ?_;rw [<-hs];cases a.neg<;>simp only [sg,if_true,if_false,Bool.false_eq_true,Int.natCast_add,Int.natCast_mul]<;>grind
   cases h
  next hs=>
  split at h
  ·next hlt=>
   refine key _ _ (Option.some.inj h).symm ?_;have e:((b.n*a.d - a.n*b.d:Nat):Int)=(b.n:Int)*a.d - (a.n:Int)*b.d:=by
    rw [Int.natCast_sub (Nat.le_of_lt hlt),Int.natCast_mul,Int.natCast_mul]
   cases hA:a.neg<;>cases hB:b.neg<;>simp [hA,hB] at hs<;>simp only [sg,if_true,if_false,Bool.false_eq_true,e]<;>grind
  next hlt=>
  refine key _ _ (Option.some.inj h).symm ?_;have e:((a.n*b.d - b.n*a.d:Nat):Int)=(a.n:Int)*b.d - (b.n:Int)*a.d:=by
   rw [Int.natCast_sub (by omega),Int.natCast_mul,Int.natCast_mul]
  cases hA:a.neg<;>cases hB:b.neg<;>simp [hA,hB] at hs<;>simp only [sg,if_true,if_false,Bool.false_eq_true,e]<;>grind
 cases h
def Q.le (a:Q) (k:Nat):Prop:=nb a.n<=k/\nb a.d<=k
theorem aCG {neg:Bool} {n d k:Nat} (hn:nb n<=k) (hd:nb d<=k):(low neg n d).le k:=
 ⟨Nat.le_trans (bGN (Nat.div_le_self _ _)) hn,Nat.le_trans (bGN (Nat.div_le_self _ _)) hd⟩
def kE (a:Q):Q:=⟨!a.neg && !Nat.beq a.n 0,a.n,a.d⟩
theorem aGI (a:Q):(kE a).val = -a.val:=by
 have hs:sg (!a.neg && !Nat.beq a.n 0) a.n = -sg a.neg a.n:=by
  by_cases hn:a.n=0
  ·rw [hn];simp [aKH]
  have hb:Nat.beq a.n 0=false:=beq0 hn;rw [hb];cases a.neg<;>simp [sg]
 show mkRat (sg (!a.neg && !Nat.beq a.n 0) a.n) a.d=_;rw [hs,<-Rat.neg_mkRat];rfl
theorem wV {a:Q} (h:a.Ok):(kE a).Ok:=⟨h.1,h.2.1,fun e=>by
 simp only [kE,Bool.and_eq_true,Bool.not_eq_true'] at e;intro e2;have e2:a.n=0:=e2;rw [e2] at e
 simp at e⟩
theorem aLR {a:Q} {k:Nat} (h:a.le k):(kE a).le k:=h
def aCK (a b:Q):Option Q:=
 if dJ (a.n*b.n)/\dJ (a.d*b.d) then some (low (a.neg != b.neg) (a.n*b.n) (a.d*b.d)) else none
theorem bGG {a b c:Q} (ha:a.d≠0) (hb:b.d≠0) (h:aCK a b=some c):c.Ok/\c.val=a.val*b.val:=by
 have hd:a.d*b.d≠0:=Nat.mul_ne_zero ha hb;unfold aCK at h;split at h
 ·cases h;refine ⟨aRW _ _ hd,?_⟩;rw [aLB _ _ hd];unfold Q.val;rw [Rat.mkRat_mul_mkRat]
  congr 1
  cases a.neg<;>cases b.neg<;>simp [sg,Int.neg_mul,Int.mul_neg]
 cases h
theorem aPE {a b:Q} {i j:Nat} (ha:a.le i) (hb:b.le j) (h:i+j<=256):∃c,aCK a b=some c/\c.le (i+j):=by
 have h1:nb (a.n*b.n)<=i+j:=Nat.le_trans (bCR _ _) (Nat.add_le_add ha.1 hb.1);have h3:nb (a.d*b.d)<=i+j:=Nat.le_trans (bCR _ _) (Nat.add_le_add ha.2 hb.2);unfold aCK;rw [if_pos ⟨by omega,by omega⟩];exact ⟨_,rfl,aCG h1 h3⟩
def aBY (a:Q):Q:=⟨a.neg,a.d,a.n⟩
theorem bBN {a:Q} (ha:a.d≠0) (hn:a.n≠0):(aBY a).val=a.val⁻¹:=by
 have hv:a.val≠0:=by
  intro e;unfold Q.val at e;rw [Rat.mkRat_eq_zero ha] at e;have:=aFP a.neg a.n;rw [e] at this;exact hn this.symm
 have h1:(aBY a).val*a.val=1:=by
  show mkRat (sg a.neg a.d) a.n*mkRat (sg a.neg a.n) a.d=1;rw [Rat.mkRat_mul_mkRat];have hs:sg a.neg a.d*sg a.neg a.n=((a.n*a.d:Nat):Int):=by
   cases a.neg<;>simp [sg,Int.neg_mul,Int.mul_neg,Int.mul_comm]
  rw [hs];have:=Rat.mkRat_mul_left (n:=1) (d:=1) (a:=a.n*a.d) (Nat.mul_ne_zero hn ha);rw [Int.mul_one,Nat.mul_one] at this;rw [this];rfl
 grind
theorem aLH {a:Q} {k:Nat} (h:a.le k):(aBY a).le k:=⟨h.2,h.1⟩
def aAU (a b:Q):Int:=
 if a.neg=true /\ ¬b.neg=true then -1 else if ¬a.neg=true/\b.neg=true then 1
 else if a.neg=true then aHG (b.n*a.d) (a.n*b.d) else aHG (a.n*b.d) (b.n*a.d)
theorem aBN {a b:Q} (ha:a.Ok) (hb:b.Ok):a.val<b.val↔sg a.neg a.n*(b.d:Int)<sg b.neg b.n*(a.d:Int):=by
 rw [Rat.lt_iff,Q.num ha,Q.num hb,Q.den ha,Q.den hb]
theorem aDN {a b:Q} (ha:a.Ok) (hb:b.Ok):(aAU a b = -1↔a.val<b.val)/\(aAU a b=1↔b.val<a.val)/\(aAU a b = -1\/aAU a b=0\/aAU a b=1):=by
 rw [aBN ha hb,aBN hb ha];have pa:0<a.d:=Nat.pos_of_ne_zero ha.1;have pb:0<b.d:=Nat.pos_of_ne_zero hb.1;have na:=ha.2.2;have nb:=hb.2.2;unfold aAU aHG;cases hA:a.neg<;>cases hB:b.neg<;>simp only [hA,hB,sg,if_true,if_false,Bool.false_eq_true,not_false_eq_true,not_true_eq_false,and_true,and_false,true_and,false_and,forall_const,false_implies] at na nb ⊢
 ·have e1:(a.n:Int)*b.d=((a.n*b.d:Nat):Int):=(Int.natCast_mul _ _).symm;have e2:(b.n:Int)*a.d=((b.n*a.d:Nat):Int):=(Int.natCast_mul _ _).symm;rw [e1,e2];split
  ·omega
  split<;>omega
 ·have e1:(0:Int)<=(a.n:Int)*b.d:=Int.mul_nonneg (by omega) (by omega);have e2:(0:Int)<(b.n:Int)*a.d:=Int.mul_pos (by omega) (by omega);rw [Int.neg_mul];exact ⟨⟨fun h=>by omega,fun h=>by omega⟩,⟨fun _=>by omega,fun _=>trivial⟩,.inr (.inr trivial)⟩
 ·have e1:(0:Int)<(a.n:Int)*b.d:=Int.mul_pos (by omega) (by omega);have e2:(0:Int)<=(b.n:Int)*a.d:=Int.mul_nonneg (by omega) (by omega);rw [Int.neg_mul];exact ⟨⟨fun _=>by omega,fun _=>trivial⟩,⟨fun h=>by omega,fun h=>by omega⟩,.inl trivial⟩
 have e1:(a.n:Int)*b.d=((a.n*b.d:Nat):Int):=(Int.natCast_mul _ _).symm;have e2:(b.n:Int)*a.d=((b.n*a.d:Nat):Int):=(Int.natCast_mul _ _).symm;rw [Int.neg_mul,Int.neg_mul,e1,e2];split
 ·omega
 split<;>omega

structure Rt where
 neg:Bool
 n:ByteArray
 d:ByteArray
def Rt.v (a:Rt):Value:=.agg #[.bool a.neg,.string a.n,.string a.d]
def aN (q:Q):Rt:=⟨q.neg,enc q.n,enc q.d⟩
def sZ (a:Rt):Q:=⟨a.neg,eJ a.n,eJ a.d⟩
def zr:Rt:=⟨false,NatM.mt,NatM.mt⟩
theorem gB (q:Q):sZ (aN q)=q:=by
 obtain ⟨s,n,d⟩:=q
 simp [sZ,aN,eA]
def okR (a:Rt):Prop:=chk [a.n]=0/\chk [a.d]=0/\eJ a.d≠0/\Nat.gcd (eJ a.n) (eJ a.d)=1 /\ ¬(a.neg=true/\eJ a.n=0)
instance (a:Rt):Decidable (okR a):=by unfold okR;infer_instance
def bDJ (a:Rt):Int:=if okR a then 0 else 70
theorem iL {a:Rt}:bDJ a=0↔okR a:=by
 unfold bDJ;split
 ·simp [*]
 simp [*]
theorem okR_q {a:Rt} (h:okR a):a=aN (sZ a)/\(sZ a).Ok/\(sZ a).le 256:=by
 obtain ⟨h1,h2,h3,h4,h5⟩:=h;have c1:=eV h1 (s:=a.n) (by simp);have c2:=eV h2 (s:=a.d) (by simp);refine ⟨?_,⟨h3,h4,fun e1 e2=>h5 ⟨e1,e2⟩⟩,?_,?_⟩
 ·obtain ⟨s,n,d⟩:=a;simp only [aN,sZ,bFT c1.1,bFT c2.1]
 ·show nb (eJ a.n)<=256;rw [aEP c1.1];exact c1.2
 show nb (eJ a.d)<=256;rw [aEP c2.1];exact c2.2
theorem sG {q:Q} (h:q.Ok) (hl:q.le 256):okR (aN q):=by
 unfold okR;simp only [aN,eA];exact ⟨bBY hl.1,bBY hl.2,h.1,h.2.1,fun ⟨e1,e2⟩=>h.2.2 e1 e2⟩
theorem uS {a:Rt} (h:okR a):∃q,a=aN q/\q.Ok/\q.le 256:=⟨_,okR_q h⟩
def resR:Option Q->Rt×Int
 |some c=>(aN c,0)
 |none=>(zr,2)
def opR (f:Q->Q->Option Q) (a b:Rt):Rt×Int:=if okR a/\okR b then resR (f (sZ a) (sZ b)) else (zr,70)
def xC (a b:Rt):Rt×Int:=opR aBP a b
def subL (a b:Q):Option Q:=aBP a (kE b)
def subR (a b:Rt):Rt×Int:=opR subL a b
def fI (a b:Rt):Rt×Int:=opR aCK a b
def aLG (a b:Rt):Rt×Int:=if okR a/\okR b then (if eJ b.n=0 then (zr,71) else resR (aCK (sZ a) (aBY (sZ b)))) else (zr,70)
def pK (n d:Int):Q:=low (decide (n<0) != decide (d<0)) n.natAbs d.natAbs
def eU (n d:Int):Rt×Int:=if d=0 then (zr,71) else (aN (pK n d),0)
def lE (a b:Rt):Int×Int:=
 if okR a/\okR b then
  if dJ ((sZ a).n*(sZ b).d)/\dJ ((sZ b).n*(sZ a).d) then (aAU (sZ a) (sZ b),0) else (0,2)
 else (0,70)
def sumF:List Rt->Rt->Rt×Int
 | [],r=>(r,0)
 |a::l,r=>if (xC r a).2=0 then sumF l (xC r a).1 else (zr,(xC r a).2)
def aLK:Rt:=⟨false,NatM.mt,enc 1⟩
def aHO (l:List Rt):Rt×Int:=if ∀a∈l,okR a then sumF l aLK else (zr,70)
section
variable {a b:Q} (ha:a.Ok) (hb:b.Ok) (la:a.le 256) (lb:b.le 256)
include ha hb la lb
theorem opR_e (f:Q->Q->Option Q):opR f (aN a) (aN b)=resR (f a b):=by
 unfold opR;rw [if_pos ⟨sG ha la,sG hb lb⟩,gB,gB]
theorem divR_e (hn:b.n≠0):aLG (aN a) (aN b)=resR (aCK a (aBY b)):=by
 unfold aLG;rw [if_pos ⟨sG ha la,sG hb lb⟩,gB,gB,if_neg (by simp only [aN,eA];exact hn)]
end

theorem Q.le.mono {a:Q} {i j:Nat} (h:a.le i) (hij:i<=j):a.le j:=⟨Nat.le_trans h.1 hij,Nat.le_trans h.2 hij⟩
def zq:Q:=⟨false,0,1⟩
def oq:Q:=⟨false,1,1⟩
theorem zq_ok:zq.Ok:=⟨by decide,by decide,fun h=>by cases h⟩
theorem oq_ok:oq.Ok:=⟨by decide,by decide,fun h=>by cases h⟩
theorem zq_le:zq.le 1:=⟨by decide,by decide⟩
theorem oq_le:oq.le 1:=⟨by decide,by decide⟩
theorem aKA:zq.val=0:=by decide +kernel
theorem bCG:oq.val=1:=by decide +kernel
theorem aOY {a:Q} (h:a.Ok):a.val=0↔a=zq:=⟨fun e=>Q.inj h zq_ok (by rw [e,aKA]),fun e=>by rw [e,aKA]⟩
theorem n_zero {a:Q} (h:a.Ok):a.n=0↔a=zq:=by
 constructor
 ·intro e;refine (aOY h).1 ?_;unfold Q.val;rw [e,aKH,Rat.mkRat_eq_zero h.1]
 intro e;rw [e];rfl
section
variable {a b:Q} {i j:Nat} (ha:a.Ok) (hb:b.Ok) (la:a.le i) (lb:b.le j)
include ha hb la lb
theorem aAJ (h:i+j<=256):∃c,fI (aN a) (aN b)=(aN c,0)/\c.Ok/\c.le (i+j)/\c.val=a.val*b.val:=by
 obtain ⟨c,e,hl⟩:=aPE la lb h;have hv:=bGG ha.1 hb.1 e;refine ⟨c,?_,hv.1,hl,hv.2⟩;unfold fI;rw [opR_e ha hb (la.mono (by omega)) (lb.mono (by omega)),e];rfl
theorem divR_ok (h:i+j<=256) (hz:b≠zq):∃c,aLG (aN a) (aN b)=(aN c,0)/\c.Ok/\c.le (i+j)/\c.val=a.val*b.val⁻¹:=by
 have hn:b.n≠0:=fun e=>hz ((n_zero hb).1 e);obtain ⟨c,e,hl⟩:=aPE la (aLH lb) h;have hv:=bGG (b:=aBY b) ha.1 hn e;refine ⟨c,?_,hv.1,hl,?_⟩
 ·rw [divR_e ha hb (la.mono (by omega)) (lb.mono (by omega)) hn,e];rfl
 rw [hv.2,bBN hb.1 hn]
end
theorem aKN {n d:Int} (hd:d≠0):(pK n d).Ok:=aRW _ _ (by omega)
theorem aOL {n d:Int} (hd:d≠0):(pK n d).val=(n:Rat)*(d:Rat)⁻¹:=by
 unfold pK;rw [aLB _ _ (by omega)];have h1:sg (decide (n<0) != decide (d<0)) n.natAbs=if d<0 then -n else n:=by
  unfold sg;by_cases hn:n<0<;>by_cases hd:d<0<;>simp [hn,hd]<;>omega
 rw [h1,Rat.mkRat_eq_div,Rat.div_def];split
 ·next hneg=>
  have e:((d.natAbs:Nat):Rat) = -(d:Rat):=by
   have:((d.natAbs:Nat):Int) = -d:=by omega
   rw [<-Rat.intCast_natCast,this,Rat.intCast_neg]
  rw [e,Rat.intCast_neg];have hd':(d:Rat)≠0:=by
   intro e;exact hd (by exact_mod_cast e)
  grind
 next hneg=>
 have e:((d.natAbs:Nat):Rat)=(d:Rat):=by
  have:((d.natAbs:Nat):Int)=d:=by omega
  rw [<-Rat.intCast_natCast,this]
 rw [e]
theorem aSZ {n d:Int} {k:Nat} (hn:n.natAbs<256^k) (hd:d.natAbs<256^k):(pK n d).le k:=aCG (aFJ hn) (aFJ hd)
theorem wW {n d:Int} (hd:d≠0):eU n d=(aN (pK n d),0):=by unfold eU;rw [if_neg hd]

theorem aOP (F:Int):pK F 1=⟨decide (F<0),F.natAbs,1⟩:=by
 unfold pK low;have:∀k:Nat,Nat.gcd k 1=1:=fun k=>Nat.gcd_one_right k;simp only [show (1:Int).natAbs=1 from rfl,this,Nat.div_one];have e:((decide (F<0) != decide ((1:Int)<0)) && !Nat.beq F.natAbs 0)=decide (F<0):=by
  by_cases h:F<0
  ·have:F.natAbs≠0:=by omega
   simp [h,beq0 this]
  simp [h]
 rw [e]
theorem sg_one (F:Int):sg (decide (F<0)) F.natAbs=F:=by
 unfold sg;by_cases h:F<0<;>simp [h]<;>omega
theorem aTQ {a:Q} (ha:a.Ok) (F:Int):(aAU (pK F 1) a<=0↔F*a.d<=sg a.neg a.n)/\(aAU a (pK F 1)<0↔sg a.neg a.n<F*a.d):=by
 have hx:(pK F 1).Ok:=aKN (by decide);have h1:=aDN hx ha;have h2:=aDN ha hx;rw [aBN hx ha,aBN ha hx] at h1;rw [aBN hx ha,aBN ha hx] at h2;have e1:sg (pK F 1).neg (pK F 1).n=F:=by rw [aOP];exact sg_one F
 have e2:((pK F 1).d:Int)=1:=by rw [aOP];rfl
 rw [e1,e2,Int.mul_one] at h1 h2;omega

def lowQ (q:Q):Q:=low q.neg q.n q.d
def yF (a b:Q):Option Q:=
 if dJ (a.n*b.d)/\dJ (b.n*a.d) then
  if dJ (a.d*b.d) then
   if a.neg=b.neg then
    if dJ (a.n*b.d+b.n*a.d) then some ⟨a.neg,a.n*b.d+b.n*a.d,a.d*b.d⟩ else none
   else if a.n*b.d<b.n*a.d then some ⟨b.neg,b.n*a.d - a.n*b.d,a.d*b.d⟩
   else some ⟨a.neg,a.n*b.d - b.n*a.d,a.d*b.d⟩
  else none
 else none
theorem aMK (a b:Q):aBP a b=(yF a b).map lowQ:=by
 unfold aBP yF;by_cases h1:dJ (a.n*b.d)/\dJ (b.n*a.d)
 ·by_cases h2:dJ (a.d*b.d)
  ·rw [if_pos ⟨h1.1,h1.2,h2⟩,if_pos h1,if_pos h2];split
   ·split<;>rfl
   split<;>rfl
  rw [if_neg (fun h=>h2 h.2.2),if_pos h1,if_neg h2];rfl
 rw [if_neg (fun h=>h1 ⟨h.1,h.2.1⟩),if_neg h1];rfl
def xS (a b:Q):Option Q:=if dJ (a.n*b.n) then if dJ (a.d*b.d) then some ⟨a.neg != b.neg,a.n*b.n,a.d*b.d⟩ else none else none
theorem aPA (a b:Q):aCK a b=(xS a b).map lowQ:=by
 unfold aCK xS;by_cases h1:dJ (a.n*b.n)
 ·by_cases h2:dJ (a.d*b.d)
  ·rw [if_pos ⟨h1,h2⟩,if_pos h1,if_pos h2];rfl
  rw [if_neg (fun h=>h2 h.2),if_pos h1,if_neg h2];rfl
 rw [if_neg (fun h=>h1 h.1),if_neg h1];rfl
theorem aLC {a b c:Q} (h:yF a b=some c):c.d=a.d*b.d/\dJ c.n/\dJ c.d:=by
 unfold yF at h;split at h
 ·next hf=>
  split at h
  ·next hd=>
   split at h
   ·split at h
    ·next hs=>cases h;exact ⟨rfl,hs,hd⟩
    cases h
   split at h
   ·cases h;exact ⟨rfl,Nat.le_trans (bGN (Nat.sub_le _ _)) hf.2,hd⟩
   cases h;exact ⟨rfl,Nat.le_trans (bGN (Nat.sub_le _ _)) hf.1,hd⟩
  cases h
 cases h
theorem aJL {a b c:Q} (h:xS a b=some c):c.d=a.d*b.d/\dJ c.n/\dJ c.d:=by
 unfold xS at h;split at h
 ·next h1=>
  split at h
  ·next h2=>cases h;exact ⟨rfl,h1,h2⟩
  cases h
 cases h
end Go.RatM

namespace Go.Proofs.YthjedpdedjhndaaGreatDoor
open Go Go.Fw Go.NatM Go.RatM
def lim:List PanicEntry:=[{v:=.iface 114 (.agg #[.int .i64 2]),recovered:=false}]
def nv (q:Q):Value:=(aN q).v
theorem rZ {P:Program} {ch:List PanicEntry} {f:FuncId} {args:Array Value} {h:Array Obj} {r r':Option Value} (C:FnO P ch f args h r) (e:r=r'):FnO P ch f args h r':=e▸C
theorem mapS {o:Option Q} {q:Q} (h:o=some q):o.map nv=some (nv q):=by rw [h];rfl
theorem mapN {o:Option Q} (h:o=none):o.map nv=none:=by rw [h];rfl
theorem gT {h:Array Obj} (s:ByteArray):FnO Tryz.prog lim 68 #[.string s,.int .i64 0] h (some (.string s)):=by
 refine zO Tryz.func68 Tryz.ntmps68 (args:=[.string s,.int .i64 0]) fun w0 cs=>?_;refine sqA ?_;refine aA.retU (aB.ret tab Tryz.func68 rfl fun Ez Hz Az Sz K=>⟨rfl,K.keeps⟩)
theorem wK {h:Array Obj} (s:ByteArray):FnO Tryz.prog lim 68 #[.string s,.int .i64 2] h none:=by
 refine zO Tryz.func68 Tryz.ntmps68 (args:=[.string s,.int .i64 2]) fun w0 cs=>?_;refine sqA ?_;refine aA.panicX (v:=.agg #[.int .i64 2]) ?_ (fun _=>rfl);refine aB.pan Tryz.func68 fun Ez Hz Az Sz K=>⟨rfl,K.keeps⟩
theorem aWZ {h:Array Obj}:FV 42 #[.iface 114 (.agg #[.int .i64 2])] h (.int .i64 2):=by
 refine zO Tryz.func42 Tryz.ntmps42 (args:=[.iface 114 (.agg #[.int .i64 2])]) fun w0 cs=>?_;refine aA.effV (fun E h=>xR Tryz.underlying114 (fun _ e=>by cases e)) ?_;refine sqs ?_;exact zR Tryz.func42
theorem aGW {h:Array Obj} {A C:Nat} (hA:dJ A) (hC:dJ C):FV 50 #[.string (enc A),.string (enc C)] h (.int .i64 (aHG A C)):=by
 refine zO Tryz.func50 Tryz.ntmps50 (args:=[.string (enc A),.string (enc C)]) fun w0 cs=>?_;refine zc (fun _ _=>aRR (enc A) (enc C)) ?_;conv=>whnf
 rw [aAQ hA hC];try dsimp only
 refine sqs ?_;refine aA.callS (fun _ _ _ _ _=>gT NatM.mt) ?_;refine sqv ?_;exact zR Tryz.func50
theorem ntz {s:ByteArray} {n:Nat} (h:s=NatM.mt↔n=0):(!decide (s=⟨#[]⟩)) = !Nat.beq n 0:=by
 by_cases hz:n=0
 ·rw [decide_eq_true (h.2 hz),hz];rfl
 rw [decide_eq_false (fun e=>hz (h.1 e)),beq0 hz]
theorem aOT {h:Array Obj} (q:Q):FV 123 #[nv q] h (nv (kE q)):=by
 obtain ⟨s,n,d⟩:=q;refine zO Tryz.func123 Tryz.ntmps123 (args:=[.agg #[.bool s,.string (enc n),.string (enc d)]]) fun w0 cs=>?_
 cases s with
 |false=>
  conv=>whnf
  refine zW Tryz.func123 fun Ez=>?_;show Value.agg #[.bool (!decide (enc n=⟨#[]⟩)),.string (enc n),.string (enc d)]=nv ⟨!false && !Nat.beq n 0,n,d⟩;rw [ntz aKY];rfl
 |true=>
  conv=>whnf
  exact zR Tryz.func123
theorem aSB {h:Array Obj} (q:Q):FV 127 #[nv q] h (nv (aBY q)):=by
 refine zO Tryz.func127 Tryz.ntmps127 (args:=[.agg #[.bool q.neg,.string (enc q.n),.string (enc q.d)]]) fun w0 cs=>?_;exact zR Tryz.func127
theorem aIY {h:Array Obj} (q:Q) (hd:q.d≠0) (f1:nb q.n<=256) (f2:nb q.d<=256) (hT:gN h):FV 44 #[nv q] h (nv (lowQ q)):=by
 obtain ⟨s,n,d⟩:=q;dsimp only at hd f1 f2;have hg:0<Nat.gcd n d:=Nat.gcd_pos_of_pos_right _ (Nat.pos_of_ne_zero hd);have hgf:nb (Nat.gcd n d)<=256:=Nat.le_trans (bGN (Nat.gcd_le_right _ (Nat.pos_of_ne_zero hd))) f2;have hz:enc (n/Nat.gcd n d)=NatM.mt↔n=0:=by
  rw [aKY];exact ⟨fun e=>Classical.byContradiction fun hn=>Nat.ne_of_gt (Nat.div_pos (Nat.le_of_dvd (Nat.pos_of_ne_zero hn) (Nat.gcd_dvd_left _ _)) hg) e,fun e=>by rw [e,Nat.zero_div]⟩
 refine zO Tryz.func44 Tryz.ntmps44 (args:=[.agg #[.bool s,.string (enc n),.string (enc d)]]) fun w0 cs=>?_;refine aA.callV (fun _ _ _ _ K=>aZE (enc n) (enc d) (hT.keeps ⟨K.size,K.same⟩)) ?_;conv=>whnf
 rw [gcd_e f1 f2];try dsimp only
 refine sqs ?_;refine aA.callS (fun _ _ _ _ _=>gT (enc (Nat.gcd n d))) ?_;refine sqv ?_;refine zc (fun _ _=>aYP (enc n) (enc (Nat.gcd n d))) ?_;conv=>whnf
 rw [bEE f1 hgf,if_neg (Nat.ne_of_gt hg)];try dsimp only
 refine sqs ?_;refine aA.callS (fun _ _ _ _ _=>gT NatM.mt) ?_;refine sqv ?_;refine zc (fun _ _=>aYP (enc d) (enc (Nat.gcd n d))) ?_;conv=>whnf
 rw [bEE f2 hgf,if_neg (Nat.ne_of_gt hg)];try dsimp only
 refine sqs ?_;refine aA.callS (fun _ _ _ _ _=>gT NatM.mt) ?_;refine sqv ?_
 cases s with
 |false=>
  conv=>whnf
  exact zR Tryz.func44
 |true=>
  conv=>whnf
  refine zW Tryz.func44 fun Ez=>?_;show Value.agg #[.bool (!decide (enc (n/Nat.gcd n d)=⟨#[]⟩)),.string (enc (n/Nat.gcd n d)),.string (enc (d/Nat.gcd n d))]=nv ⟨true && !Nat.beq n 0,n/Nat.gcd n d,d/Nat.gcd n d⟩;rw [ntz hz];rfl
def aSK (a b:Q):Option Value:=if dJ (a.n*b.d)/\dJ (b.n*a.d) then some (.tuple #[.string (enc (a.n*b.d)),.string (enc (b.n*a.d))]) else none
theorem sL {h:Array Obj} (a b:Q) (la:a.le 256) (lb:b.le 256):FnO Tryz.prog lim 49 #[nv a,nv b] h (aSK a b):=by
 obtain ⟨r,hr⟩:∃r,r=aSK a b:=⟨_,rfl⟩;rw [<-hr];unfold aSK at hr;refine zO Tryz.func49 Tryz.ntmps49 (args:=[.agg #[.bool a.neg,.string (enc a.n),.string (enc a.d)],.agg #[.bool b.neg,.string (enc b.n),.string (enc b.d)]]) fun w0 cs=>?_;refine zH (fls 0 4 (fls 8 4 (.e1 4 [9,11] (fls 5 2 (.e1 7 [9,11] (.e1 12 [] (fls 13 2 (.e1 15 [] (fls 16 2 .done))))))))) ?_;refine squ ?_;by_cases f1:dJ (a.n*b.d)
 ·refine zk (fun _ _=>qE (enc a.n) (enc b.d)) ?_;conv=>whnf
  rw [xK la.1 lb.2,sF f1];try dsimp only
  refine sqr ?_;refine aK.callS (fun _ _ _ _ _=>gT (enc (a.n*b.d))) zP ?_;refine squ ?_;by_cases f2:dJ (b.n*a.d)
  ·refine zk (fun _ _=>qE (enc b.n) (enc a.d)) ?_;conv=>whnf
   rw [xK lb.1 la.2,sF f2];try dsimp only
   refine sqr ?_;refine aK.callS (fun _ _ _ _ _=>gT (enc (b.n*a.d))) zP ?_;refine squ ?_;refine sqs ?_;rw [if_pos ⟨f1,f2⟩] at hr;subst hr;refine aA.retU (aB.ret tab Tryz.func49 rfl fun Ez Hz Az Sz K=>⟨rfl,K.keeps⟩)
  refine zk (fun _ _=>qE (enc b.n) (enc a.d)) ?_;conv=>whnf
  rw [xK lb.1 la.2,oG f2];try dsimp only
  refine sqr ?_;rw [if_neg (fun h=>f2 h.2)] at hr;subst hr;refine aK.callF (fun _ _ _ _ _=>wK NatM.mt) zP ?_;refine aB.pan Tryz.func49 fun Ez Hz Az Sz K=>⟨rfl,K.keeps⟩
 refine zk (fun _ _=>qE (enc a.n) (enc b.d)) ?_;conv=>whnf
 rw [xK la.1 lb.2,oG f1];try dsimp only
 refine sqr ?_;rw [if_neg (fun h=>f1 h.1)] at hr;subst hr;refine aK.callF (fun _ _ _ _ _=>wK NatM.mt) zP ?_;refine aB.pan Tryz.func49 fun Ez Hz Az Sz K=>⟨rfl,K.keeps⟩
theorem wB {h:Array Obj} (a b:Q) (la:a.le 256) (lb:b.le 256):FnO Tryz.prog lim 125 #[nv a,nv b] h ((xS a b).map nv):=by
 obtain ⟨r,hr⟩:∃r,r=(xS a b).map nv:=⟨_,rfl⟩;rw [<-hr];unfold xS at hr;refine zO Tryz.func125 Tryz.ntmps125 (args:=[.agg #[.bool a.neg,.string (enc a.n),.string (enc a.d)],.agg #[.bool b.neg,.string (enc b.n),.string (enc b.d)]]) fun w0 cs=>?_;refine zH (fls 0 9 (fls 13 4 (.e1 9 [1,3,14,16] (fls 10 2 (.e1 12 [1,3,14,16] (.e1 17 [1,3] (fls 18 2 (.e1 20 [1,3] (.fl 21 (.e1 22 [] .done)))))))))) ?_;refine squ ?_;by_cases f1:dJ (a.n*b.n)
 ·refine zk (fun _ _=>qE (enc a.n) (enc b.n)) ?_;conv=>whnf
  rw [xK la.1 lb.1,sF f1];try dsimp only
  refine sqr ?_;refine aK.callS (fun _ _ _ _ _=>gT (enc (a.n*b.n))) zP ?_;refine squ ?_;by_cases f2:dJ (a.d*b.d)
  ·refine zk (fun _ _=>qE (enc a.d) (enc b.d)) ?_;conv=>whnf
   rw [xK la.2 lb.2,sF f2];try dsimp only
   refine sqr ?_;refine aK.callS (fun _ _ _ _ _=>gT (enc (a.d*b.d))) zP ?_;refine bFN ?_;refine sqs ?_;rw [if_pos f1,if_pos f2] at hr;subst hr;refine aA.retU (aB.ret tab Tryz.func125 rfl fun Ez Hz Az Sz K=>⟨?_,K.keeps⟩);show Ending.returned (.agg #[.bool (!decide (a.neg=b.neg)),.string (enc (a.n*b.n)),.string (enc (a.d*b.d))])=.returned (nv ⟨a.neg != b.neg,a.n*b.n,a.d*b.d⟩);cases a.neg<;>cases b.neg<;>rfl
  refine zk (fun _ _=>qE (enc a.d) (enc b.d)) ?_;conv=>whnf
  rw [xK la.2 lb.2,oG f2];try dsimp only
  refine sqr ?_;rw [if_pos f1,if_neg f2] at hr;subst hr;refine aK.callF (fun _ _ _ _ _=>wK NatM.mt) zP ?_;refine aB.pan Tryz.func125 fun Ez Hz Az Sz K=>⟨rfl,K.keeps⟩
 refine zk (fun _ _=>qE (enc a.n) (enc b.n)) ?_;conv=>whnf
 rw [xK la.1 lb.1,oG f1];try dsimp only
 refine sqr ?_;rw [if_neg f1] at hr;subst hr;refine aK.callF (fun _ _ _ _ _=>wK NatM.mt) zP ?_;refine aB.pan Tryz.func125 fun Ez Hz Az Sz K=>⟨rfl,K.keeps⟩
theorem aAY {h:Array Obj} (a b:Q) (la:a.le 256) (lb:b.le 256):FnO Tryz.prog lim 121 #[nv a,nv b] h ((yF a b).map nv):=by
 obtain ⟨r,hr⟩:∃r,r=(yF a b).map nv:=⟨_,rfl⟩;rw [<-hr];unfold yF at hr;refine zO Tryz.func121 Tryz.ntmps121 (args:=[.agg #[.bool a.neg,.string (enc a.n),.string (enc a.d)],.agg #[.bool b.neg,.string (enc b.n),.string (enc b.d)]]) fun w0 cs=>?_;by_cases f1:dJ (a.n*b.d)/\dJ (b.n*a.d)
 ·rw [if_pos f1] at hr;refine aA.callS (fun _ _ _ _ _=>rZ (sL a b la lb) (if_pos f1)) ?_;refine sqv ?_;by_cases f2:dJ (a.d*b.d)
  ·refine zc (fun _ _=>qE (enc a.d) (enc b.d)) ?_;conv=>whnf
   rw [xK la.2 lb.2,sF f2];try dsimp only
   refine sqs ?_;rw [if_pos f2] at hr;refine aA.callS (fun _ _ _ _ _=>gT (enc (a.d*b.d))) ?_;refine sqv ?_
   cases hb:(a.neg==b.neg) with
   |true=>
    have hs:a.neg=b.neg:=beq_iff_eq.1 hb;conv=>whnf
    rw [if_pos hs] at hr;refine zH (fls 0 4 (.fl 8 (.e1 4 [1] (fls 5 2 (.e1 7 [1] (.fl 9 (.e1 10 [] .done))))))) ?_;refine squ ?_;by_cases f3:dJ (a.n*b.d+b.n*a.d)
    ·refine zk (fun _ _=>aRX (enc (a.n*b.d)) (enc (b.n*a.d))) ?_;conv=>whnf
     rw [aSI f1.1 f1.2,sF f3];try dsimp only
     refine sqr ?_;rw [if_pos f3] at hr;subst hr;refine aK.callS (fun _ _ _ _ _=>gT (enc (a.n*b.d+b.n*a.d))) zP ?_;refine bFN ?_;refine sqs ?_;refine aA.retU (aB.ret tab Tryz.func121 rfl fun Ez Hz Az Sz K=>⟨rfl,K.keeps⟩)
    refine zk (fun _ _=>aRX (enc (a.n*b.d)) (enc (b.n*a.d))) ?_;conv=>whnf
    rw [aSI f1.1 f1.2,oG f3];try dsimp only
    refine sqr ?_;rw [if_neg f3] at hr;subst hr;refine aK.callF (fun _ _ _ _ _=>wK NatM.mt) zP ?_;refine aB.pan Tryz.func121 fun Ez Hz Az Sz K=>⟨rfl,K.keeps⟩
   |false=>
    have hs:¬a.neg=b.neg:=fun e=>by rw [e,beq_self_eq_true] at hb;cases hb
    conv=>whnf
    rw [if_neg hs] at hr;refine zc (fun _ _=>aGW f1.1 f1.2) ?_;refine sqv ?_;refine ⟨fun hlt=>?_,fun hlt=>?_⟩<;>conv=>whnf
    ·conv=>whnf
     have hlt:=aNB.1 hlt;rw [if_pos hlt] at hr;subst hr;refine zH (fls 0 4 (.fl 8 (.e1 4 [1] (fls 5 2 (.e1 7 [1] (.fl 9 (.e1 10 [] .done))))))) ?_;refine squ ?_;refine zk (fun _ _=>aZS (enc (b.n*a.d)) (enc (a.n*b.d))) ?_;conv=>whnf
     rw [aZN f1.2 f1.1,if_neg (by omega)];try dsimp only
     refine sqr ?_;refine aK.callS (fun _ _ _ _ _=>gT (enc (b.n*a.d - a.n*b.d))) zP ?_;refine bFN ?_;refine sqs ?_;refine aA.retU (aB.ret tab Tryz.func121 rfl fun Ez Hz Az Sz K=>⟨rfl,K.keeps⟩)
    conv=>whnf
    have hlt:¬a.n*b.d<b.n*a.d:=fun h=>hlt (aNB.2 h);rw [if_neg hlt] at hr;subst hr;refine zH (fls 0 4 (.fl 8 (.e1 4 [1] (fls 5 2 (.e1 7 [1] (.fl 9 (.e1 10 [] .done))))))) ?_;refine squ ?_;refine zk (fun _ _=>aZS (enc (a.n*b.d)) (enc (b.n*a.d))) ?_;conv=>whnf
    rw [aZN f1.1 f1.2,if_neg hlt];try dsimp only
    refine sqr ?_;refine aK.callS (fun _ _ _ _ _=>gT (enc (a.n*b.d - b.n*a.d))) zP ?_;refine bFN ?_;refine sqs ?_;refine aA.retU (aB.ret tab Tryz.func121 rfl fun Ez Hz Az Sz K=>⟨rfl,K.keeps⟩)
  refine zc (fun _ _=>qE (enc a.d) (enc b.d)) ?_;conv=>whnf
  rw [xK la.2 lb.2,oG f2];try dsimp only
  refine sqs ?_;rw [if_neg f2] at hr;subst hr;refine aA.callF (fun _ _ _ _ _=>wK NatM.mt) ?_;refine aB.pan Tryz.func121 fun Ez Hz Az Sz K=>⟨rfl,K.keeps⟩
 rw [if_neg f1] at hr;subst hr;refine aA.callF (fun _ _ _ _ _=>rZ (sL a b la lb) (if_neg f1)) ?_;refine aB.pan Tryz.func121 fun Ez Hz Az Sz K=>⟨rfl,K.keeps⟩

theorem op1_fn {h:Array Obj} (a b:Q) (la:a.le 256) (lb:b.le 256):FnO Tryz.prog lim 120 #[nv a,nv b] h ((yF a b).map nv):=by
 refine zO Tryz.func120 Tryz.ntmps120 (args:=[.agg #[.bool a.neg,.string (enc a.n),.string (enc a.d)],.agg #[.bool b.neg,.string (enc b.n),.string (enc b.d)]]) fun w0 cs=>?_
 cases hq:yF a b with
 |none=>
  refine aA.callF (fun _ _ _ _ _=>rZ (aAY a b la lb) (mapN hq)) ?_;refine aB.pan Tryz.func120 fun Ez Hz Az Sz K=>⟨rfl,K.keeps⟩
 |some q=>
  refine aA.callS (fun _ _ _ _ _=>rZ (aAY a b la lb) (mapS hq)) ?_;refine sqv ?_;refine aA.retU (aB.ret tab Tryz.func120 rfl fun Ez Hz Az Sz K=>⟨rfl,K.keeps⟩)
theorem op3_fn {h:Array Obj} (a b:Q) (la:a.le 256) (lb:b.le 256):FnO Tryz.prog lim 124 #[nv a,nv b] h ((xS a b).map nv):=by
 refine zO Tryz.func124 Tryz.ntmps124 (args:=[.agg #[.bool a.neg,.string (enc a.n),.string (enc a.d)],.agg #[.bool b.neg,.string (enc b.n),.string (enc b.d)]]) fun w0 cs=>?_
 cases hq:xS a b with
 |none=>
  refine aA.callF (fun _ _ _ _ _=>rZ (wB a b la lb) (mapN hq)) ?_;refine aB.pan Tryz.func124 fun Ez Hz Az Sz K=>⟨rfl,K.keeps⟩
 |some q=>
  refine aA.callS (fun _ _ _ _ _=>rZ (wB a b la lb) (mapS hq)) ?_;refine sqv ?_;refine aA.retU (aB.ret tab Tryz.func124 rfl fun Ez Hz Az Sz K=>⟨rfl,K.keeps⟩)
theorem op2_fn {h:Array Obj} (a b:Q) (la:a.le 256) (lb:b.le 256):FnO Tryz.prog lim 122 #[nv a,nv b] h ((yF a (kE b)).map nv):=by
 refine zO Tryz.func122 Tryz.ntmps122 (args:=[.agg #[.bool a.neg,.string (enc a.n),.string (enc a.d)],.agg #[.bool b.neg,.string (enc b.n),.string (enc b.d)]]) fun w0 cs=>?_;refine zH (fls 0 2 (.e1 2 [0] (.e1 3 [] (.e1 4 [] .done)))) ?_;refine squ ?_;refine zk (fun _ _=>aOT b) ?_;refine squ ?_
 cases hq:yF a (kE b) with
 |none=>
  refine aK.callF (fun _ _ _ _ _=>rZ (aAY a (kE b) la (aLR lb)) (mapN hq)) zP ?_;refine aB.pan Tryz.func122 fun Ez Hz Az Sz K=>⟨rfl,K.keeps⟩
 |some q=>
  refine aK.callS (fun _ _ _ _ _=>rZ (aAY a (kE b) la (aLR lb)) (mapS hq)) zP ?_;refine bFN ?_;refine sqs ?_;refine aA.retU (aB.ret tab Tryz.func122 rfl fun Ez Hz Az Sz K=>⟨rfl,K.keeps⟩)
theorem op4_fn {h:Array Obj} (a b:Q) (la:a.le 256) (lb:b.le 256):FnO Tryz.prog lim 126 #[nv a,nv b] h ((xS a (aBY b)).map nv):=by
 refine zO Tryz.func126 Tryz.ntmps126 (args:=[.agg #[.bool a.neg,.string (enc a.n),.string (enc a.d)],.agg #[.bool b.neg,.string (enc b.n),.string (enc b.d)]]) fun w0 cs=>?_;refine zH (fls 0 2 (.e1 2 [0] (.e1 3 [] (.e1 4 [] .done)))) ?_;refine squ ?_;refine zk (fun _ _=>aSB b) ?_;refine squ ?_
 cases hq:xS a (aBY b) with
 |none=>
  refine aK.callF (fun _ _ _ _ _=>rZ (wB a (aBY b) la (aLH lb)) (mapN hq)) zP ?_;refine aB.pan Tryz.func126 fun Ez Hz Az Sz K=>⟨rfl,K.keeps⟩
 |some q=>
  refine aK.callS (fun _ _ _ _ _=>rZ (wB a (aBY b) la (aLH lb)) (mapS hq)) zP ?_;refine bFN ?_;refine sqs ?_;refine aA.retU (aB.ret tab Tryz.func126 rfl fun Ez Hz Az Sz K=>⟨rfl,K.keeps⟩)
def opsM:List (Value×Value):=[(.int .u8 43,.func (.func 120) #[] #[]),(.int .u8 45,.func (.func 122) #[] #[]),(.int .u8 42,.func (.func 124) #[] #[]),(.int .u8 47,.func (.func 126) #[] #[])]
abbrev opU:=Tryz.underlying125
abbrev u8U:=Tryz.underlying5
theorem opZ (w:World):(zeroValue 124).run Tryz.prog w=.ok .nilFunc w:=by rfl
theorem aJU {es:List (Value×Value)} (ks:List Int) (he:es.map Prod.fst=ks.map (Value.int .u8)) {k:Int} (h:∀x∈ks,x≠k):eW es (.int .u8 k) none:=fun p hp e=>by
 have:p.1∈ks.map (Value.int .u8):=he▸List.mem_map_of_mem hp;obtain ⟨k',h1,h2⟩:=List.mem_map.1 this;rw [e] at h2;cases h2;exact h _ h1 rfl
theorem aHQ:FnS Tryz.prog 76 0 [] [] (fun _:Unit=>True) (fun _=>.ret (.buf 0) 1 [(0,.map (.int .u8) opsM)]):=by
 refine zS Tryz.func76 Tryz.ntmps76 fun E0 F h w0 cs=>?_;refine aA.makeMap (.int .u8) ?_;refine sqs ?_;refine aA.insert opU u8U (aJU (k:=43) [] rfl (by decide)) rfl ?_;refine sqs ?_;refine aA.insert opU u8U (aJU (k:=45) [43] rfl (by decide)) rfl ?_;refine sqs ?_;refine aA.insert opU u8U (aJU (k:=42) [43,45] rfl (by decide)) rfl ?_;refine sqs ?_;refine aA.insert opU u8U (aJU (k:=47) [43,45,42] rfl (by decide)) rfl ?_;refine sqs ?_;exact zI Tryz.func76 () trivial
/-! deferred functions -/
def limR:List PanicEntry:=[{v:=.iface 114 (.agg #[.int .i64 2]),recovered:=true}]
abbrev zC (b:Nat):Nat×Fw.Blk:=(b,.cells 35 [.v (.bool false),.v (.string ⟨#[]⟩),.v (.string ⟨#[]⟩)])
abbrev eC (b:Nat) (e:Int):Nat×Fw.Blk:=(b,.cells 36 [nV e])
abbrev RecN (g k:Nat) (l:List SV):Prop:=mW Tryz.prog g k l [] .returning (fun _:Unit=>True) (fun _=>⟨.returning,k,[]⟩)
abbrev RecP (g k:Nat) (l:List SV) (W W':SH):Prop:=mW Tryz.prog g k l W (.panicking lim) (fun _:Unit=>True) (fun _=>⟨.panicking limR,k,W'⟩)
theorem aBE:RecN 75 2 [.ptr 0 0,.ptr 1 0]/\RecN 41 2 [.ptr 0 0,.ptr 1 0]/\RecN 48 2 [.ptr 0 0,.ptr 1 0]:=by
 refine ⟨mW.of Tryz.func75 (by kernel_rfl) rfl Tryz.ntmps75 rfl fun E0 F h w0 c0 cs=>?_,mW.of Tryz.func41 (by kernel_rfl) rfl Tryz.ntmps41 rfl fun E0 F h w0 c0 cs=>?_,mW.of Tryz.func48 (by kernel_rfl) rfl Tryz.ntmps48 rfl fun E0 F h w0 c0 cs=>?_⟩
 all_goals
  refine sqs ?_;refine aA.recoverN ?_;refine sqs ?_;refine aA.effV (fun E h=>pG Tryz.underlying20) ?_;refine sqs ?_;refine aA.finU (aB.retD tab (by first|exact Tryz.func75|exact Tryz.func41|exact Tryz.func48) rfl (zJ.mk () trivial [] trivial rfl rfl rfl))
theorem aZJ:RecP 75 2 [.ptr 0 0,.ptr 1 0] [zC 0,eC 1 0] [zC 0,eC 1 2]/\RecP 41 2 [.ptr 0 0,.ptr 1 0] [zC 0,eC 1 0] [zC 0,eC 1 2]/\RecP 48 2 [.ptr 0 0,.ptr 1 0] [(0,.cells 3 [nV 0]),eC 1 0] [(0,.cells 3 [nV 0]),eC 1 2]:=by
 refine ⟨mW.of Tryz.func75 (by kernel_rfl) rfl Tryz.ntmps75 rfl fun E0 F h w0 c0 cs=>?_,mW.of Tryz.func41 (by kernel_rfl) rfl Tryz.ntmps41 rfl fun E0 F h w0 c0 cs=>?_,mW.of Tryz.func48 (by kernel_rfl) rfl Tryz.ntmps48 rfl fun E0 F h w0 c0 cs=>?_⟩
 all_goals
  refine sqs ?_;refine aA.recoverP ?_;refine sqs ?_;refine zc (fun _ _=>aWZ) ?_;refine sqv ?_;refine aA.finU (aB.retD tab (by first|exact Tryz.func75|exact Tryz.func41|exact Tryz.func48) rfl (zJ.mk () trivial [] ⟨by rfl,by rfl,trivial⟩ rfl rfl rfl))
/-! Check -/
theorem aUR:enc 1=⟨#[1]⟩:=by decide +kernel
theorem uQ {k:Nat}:(enc k=⟨#[1]⟩)↔k=1:=by rw [<-aUR,bCL]
theorem aWT {s:Bool} {n d:ByteArray} (e1:chk [n]=0) (e2:chk [d]=0):(eJ d=0↔d=⟨#[]⟩)/\(eJ n=0↔n=⟨#[]⟩)/\gcdS n d=(enc (Nat.gcd (eJ n) (eJ d)),0):=by
 have c1:=eV e1 (s:=n) (by simp);have c2:=eV e2 (s:=d) (by simp);have z:∀ {x:ByteArray},vX x->(eJ x=0↔x=⟨#[]⟩):=fun {x} hx=>⟨fun e=>Classical.byContradiction fun hne=>aUW hx (fun e=>hne (aKB.2 e)) e,fun e=>by rw [e];rfl⟩;refine ⟨z c2.1,z c1.1,?_⟩;have:=gcd_e (A:=eJ n) (C:=eJ d) (by rw [aEP c1.1];exact c1.2) (by rw [aEP c2.1];exact c2.2);rw [bFT c1.1,bFT c2.1] at this;exact this
theorem pB {h:Array Obj} (a:Rt) (hT:gN h):FV 47 #[a.v] h (.int .i64 (bDJ a)):=by
 obtain ⟨s,n,d⟩:=a;obtain ⟨r,hr⟩:∃r,r=bDJ ⟨s,n,d⟩:=⟨_,rfl⟩;rw [<-hr];unfold bDJ at hr;refine zO Tryz.func47 Tryz.ntmps47 (args:=[.agg #[.bool s,.string n,.string d]]) fun w0 cs=>?_;refine zc (fun _ _=>aMR n) ?_;refine sqv ?_;refine ⟨fun e1=>?_,fun e1=>?_⟩<;>conv=>whnf
 rotate_left
 ·conv=>whnf
  rw [if_neg (fun o=>e1 o.1)] at hr;subst hr;exact zR Tryz.func47
 conv=>whnf
 refine zc (fun _ _=>aMR d) ?_;refine sqv ?_;refine ⟨fun e2=>?_,fun e2=>?_⟩<;>conv=>whnf
 rotate_left
 ·conv=>whnf
  rw [if_neg (fun o=>e2 o.2.1)] at hr;subst hr;exact zR Tryz.func47
 conv=>whnf
 obtain ⟨zd,zn,eg⟩:=aWT (s:=s) e1 e2;refine ⟨fun e3=>?_,fun e3=>?_⟩<;>conv=>whnf
 ·conv=>whnf
  rw [if_neg (fun o=>o.2.2.1 (zd.2 e3))] at hr;subst hr;exact zR Tryz.func47
 conv=>whnf
 refine aA.callV (fun _ _ _ _ K=>aZE n d (hT.keeps ⟨K.size,K.same⟩)) ?_;conv=>whnf
 rw [eg];try dsimp only
 refine sqs ?_;refine ⟨fun e4=>?_,fun e4=>?_⟩<;>conv=>whnf
 rotate_left
 ·conv=>whnf
  rw [if_neg (fun o=>e4 (uQ.2 o.2.2.2.1))] at hr;subst hr;exact zR Tryz.func47
 cases s with
 |false=>
  conv=>whnf
  rw [if_pos ⟨e1,e2,fun e=>e3 (zd.1 e),uQ.1 e4,fun o=>by cases o.1⟩] at hr;subst hr;exact zR Tryz.func47
 |true=>
  conv=>whnf
  refine ⟨fun e5=>?_,fun e5=>?_⟩<;>conv=>whnf
  ·conv=>whnf
   rw [if_neg (fun o=>o.2.2.2.2 ⟨rfl,zn.2 e5⟩)] at hr;subst hr;exact zR Tryz.func47
  conv=>whnf
  rw [if_pos ⟨e1,e2,fun e=>e3 (zd.1 e),uQ.1 e4,fun o=>e5 (zn.1 o.2)⟩] at hr;subst hr;exact zR Tryz.func47

def aFL (k:Int) (f:Q->Q->Option Q) (a b:Rt):Rt×Int:=
 if okR a/\okR b then (if k=47/\eJ b.n=0 then (zr,71) else resR ((f (sZ a) (sZ b)).map lowQ)) else (zr,70)
def rev (p:Rt×Int):Value:=.tuple #[p.1.v,.int .i64 p.2]
theorem nY {h:Array Obj} {k:Int} {g:FuncId} {f:Q->Q->Option Q} (a b:Rt) (hT:gN h) (hf:eW opsM (.int .u8 k) (some (.func (.func g) #[] #[])))
  (hg:∀(h:Array Obj) (a b:Q),a.le 256->b.le 256->FnO Tryz.prog lim g #[nv a,nv b] h ((f a b).map nv))
  (hd:∀a b c:Q,a.Ok->b.Ok -> ¬(k=47/\b.n=0)->f a b=some c->c.d≠0/\dJ c.n/\dJ c.d):
  FV 46 #[.int .u8 k,a.v,b.v] h (rev (aFL k f a b)):=by
 obtain ⟨r,hr⟩:∃r,r=aFL k f a b:=⟨_,rfl⟩;rw [<-hr];unfold aFL at hr;refine zO Tryz.func46 Tryz.ntmps46 (args:=[.int .u8 k,.agg #[.bool a.neg,.string a.n,.string a.d],.agg #[.bool b.neg,.string b.n,.string b.d]]) fun w0 cs=>?_;refine aA.callV (fun _ _ _ _ K=>pB a (hT.keeps ⟨K.size,K.same⟩)) ?_;refine sqv ?_;refine ⟨fun o1=>?_,fun o1=>?_⟩<;>conv=>whnf
 rotate_left
 ·conv=>whnf
  rw [if_neg (fun o=>o1 (iL.2 o.1))] at hr;subst hr;exact zR Tryz.func46
 conv=>whnf
 refine aA.callV (fun _ _ _ _ K=>pB b (hT.keeps ⟨K.size,K.same⟩)) ?_;refine sqv ?_;refine ⟨fun o2=>?_,fun o2=>?_⟩<;>conv=>whnf
 rotate_left
 ·conv=>whnf
  rw [if_neg (fun o=>o2 (iL.2 o.2))] at hr;subst hr;exact zR Tryz.func46
 have o1:=iL.1 o1;have o2:=iL.1 o2;rw [if_pos ⟨o1,o2⟩] at hr;obtain ⟨p,rfl,pa,la⟩:=uS o1;obtain ⟨q,rfl,pb,lb⟩:=uS o2;rw [gB,gB,show eJ (aN q).n=q.n from eA _] at hr;refine ⟨fun z1=>?_,fun z1=>?_⟩<;>conv=>whnf
 refine ⟨fun z2=>?_,fun z2=>?_⟩<;>conv=>whnf
 ·conv=>whnf
  rw [if_pos ⟨z1,aKY.1 z2⟩] at hr;subst hr;exact zR Tryz.func46
 all_goals
  have hz:¬(k=47/\q.n=0):=by first|exact fun o=>z2 (aKY.2 o.2)|exact fun o=>z1 o.1
  rw [if_neg hz] at hr;conv=>whnf
  refine aA.deferU ?_;refine sqs ?_;refine zH (.fl 1 (fls 3 14 (.e1 0 [4,6,8,9,11,13,15,16] (.e1 2 [4,6,8,9,11,13,15,16] (.e1 17 [] (.e1 18 [] (.e1 19 [] (.e1 20 [] .done)))))))) ?_;refine squ ?_;refine aK.callN (aHQ) [] ?_ sH ?_;rotate_left
  ·rfl
  intro _ _;conv=>whnf
  try refine oB ?_
  refine sqr ?_;refine aK.lookup (some (.func (.func g) #[] #[])) opU u8U opZ (hf) zP ?_;refine squ ?_
  cases hq:f p q with
  |none=>
   rw [hq] at hr;subst hr;refine aK.callF (fun _ Hz _ _ _=>rZ (hg Hz p q la lb) (mapN hq)) zP ?_;refine aB.deferN aZJ.1 [2,3] ?_ ⟨by rfl,by rfl,trivial⟩ rfl (fun e=>by cases e);intro _ _;conv=>whnf
   exact aB.ret tab Tryz.func46 rfl fun _ _ _ _ K=>⟨_,rfl,rfl,K.keeps⟩
  |some c=>
   obtain ⟨c1,c2,c3⟩:=hd p q c pa pb hz hq;rw [hq] at hr;subst hr;refine aK.callS (fun _ Hz _ _ _=>rZ (hg Hz p q la lb) (mapS hq)) zP ?_;refine squ ?_;refine aK.callV (fun _ _ _ _ K=>aIY c c1 c2 c3 (hT.keeps ⟨K.size,K.same⟩)) zP ?_;refine bFN ?_;refine sqs ?_;refine aA.retU ?_;refine aB.deferN aBE.1 [2,3] ?_ trivial rfl (fun e=>by cases e);intro _ _;conv=>whnf
   exact aB.ret tab Tryz.func46 rfl fun _ _ _ _ K=>⟨_,rfl,rfl,K.keeps⟩
theorem qAdd_fn {h:Array Obj} (a b:Rt) (hT:gN h):FV 20 #[a.v,b.v] h (rev (xC a b)):=by
 have heq:aFL 43 (fun a b=>yF a b) a b=xC a b:=by unfold aFL xC opR;simp [<-aMK]
 rw [<-heq];refine zO Tryz.func20 Tryz.ntmps20 (args:=[.agg #[.bool a.neg,.string a.n,.string a.d],.agg #[.bool b.neg,.string b.n,.string b.d]]) fun w0 cs=>?_;refine aA.callV (fun _ _ _ _ K=>nY (k:=43) (g:=120) (f:=fun a b=>yF a b) a b (hT.keeps ⟨K.size,K.same⟩) ⟨⟨_,.head _,rfl⟩,by simp [opsM]⟩ (fun h a b la lb=>op1_fn a b la lb) (fun a b c ha hb hz e=>⟨by rw [(aLC e).1];exact Nat.mul_ne_zero ha.1 hb.1,(aLC e).2⟩)) ?_;refine sqv ?_;exact zR Tryz.func20
theorem aDV {h:Array Obj} (a b:Rt) (hT:gN h):FV 40 #[a.v,b.v] h (rev (subR a b)):=by
 have heq:aFL 45 (fun a b=>yF a (kE b)) a b=subR a b:=by unfold aFL subR opR subL;simp [<-aMK]
 rw [<-heq];refine zO Tryz.func40 Tryz.ntmps40 (args:=[.agg #[.bool a.neg,.string a.n,.string a.d],.agg #[.bool b.neg,.string b.n,.string b.d]]) fun w0 cs=>?_;refine aA.callV (fun _ _ _ _ K=>nY (k:=45) (g:=122) (f:=fun a b=>yF a (kE b)) a b (hT.keeps ⟨K.size,K.same⟩) ⟨⟨_,.tail _ (.head _),rfl⟩,by simp [opsM]⟩ (fun h a b la lb=>op2_fn a b la lb) (fun a b c ha hb hz e=>⟨by rw [(aLC e).1];exact Nat.mul_ne_zero ha.1 hb.1,(aLC e).2⟩)) ?_;refine sqv ?_;exact zR Tryz.func40
theorem nT {h:Array Obj} (a b:Rt) (hT:gN h):FV 39 #[a.v,b.v] h (rev (fI a b)):=by
 have heq:aFL 42 (fun a b=>xS a b) a b=fI a b:=by unfold aFL fI opR;simp [<-aPA]
 rw [<-heq];refine zO Tryz.func39 Tryz.ntmps39 (args:=[.agg #[.bool a.neg,.string a.n,.string a.d],.agg #[.bool b.neg,.string b.n,.string b.d]]) fun w0 cs=>?_;refine aA.callV (fun _ _ _ _ K=>nY (k:=42) (g:=124) (f:=fun a b=>xS a b) a b (hT.keeps ⟨K.size,K.same⟩) ⟨⟨_,.tail _ (.tail _ (.head _)),rfl⟩,by simp [opsM]⟩ (fun h a b la lb=>op3_fn a b la lb) (fun a b c ha hb hz e=>⟨by rw [(aJL e).1];exact Nat.mul_ne_zero ha.1 hb.1,(aJL e).2⟩)) ?_;refine sqv ?_;exact zR Tryz.func39
theorem qDiv_fn {h:Array Obj} (a b:Rt) (hT:gN h):FV 119 #[a.v,b.v] h (rev (aLG a b)):=by
 have heq:aFL 47 (fun a b=>xS a (aBY b)) a b=aLG a b:=by unfold aFL aLG;simp [<-aPA]
 rw [<-heq];refine zO Tryz.func119 Tryz.ntmps119 (args:=[.agg #[.bool a.neg,.string a.n,.string a.d],.agg #[.bool b.neg,.string b.n,.string b.d]]) fun w0 cs=>?_;refine aA.callV (fun _ _ _ _ K=>nY (k:=47) (g:=126) (f:=fun a b=>xS a (aBY b)) a b (hT.keeps ⟨K.size,K.same⟩) ⟨⟨_,.tail _ (.tail _ (.tail _ (.head _))),rfl⟩,by simp [opsM]⟩ (fun h a b la lb=>op4_fn a b la lb) (fun a b c ha hb hz e=>⟨by rw [(aJL e).1];exact Nat.mul_ne_zero ha.1 (fun e=>hz ⟨rfl,e⟩),(aJL e).2⟩)) ?_;refine sqv ?_;exact zR Tryz.func119

theorem fit8 {V:Nat} (h:V<=9223372036854775808):nb V<=8:=aFJ (by rw [show (256:Nat)^8=18446744073709551616 by decide];omega)
theorem aIV {h:Array Obj} (n:Int) (hn: -9223372036854775808<=n/\n<=9223372036854775807):FV 43 #[.int .i64 n] h (.string (enc n.natAbs)):=by
 refine zO Tryz.func43 Tryz.ntmps43 (args:=[.int .i64 n]) fun w0 cs=>?_;refine ⟨fun h0=>?_,fun h0=>?_⟩<;>conv=>whnf
 ·conv=>whnf
  refine zc (fun _ _=>Of_fn n hn.2) ?_;conv=>whnf
  rw [show ofS n=(enc n.natAbs,0) by unfold ofS;rw [if_neg (by omega),show n.toNat=n.natAbs by omega]];try dsimp only
  refine sqs ?_;refine aA.callS (fun _ _ _ _ _=>gT (enc n.natAbs)) ?_;refine sqv ?_;exact zR Tryz.func43
 refine dB ?_;refine zc (fun _ _=>Of_fn (0 - (n+1)) (by omega)) ?_;conv=>whnf
 rw [show ofS (0 - (n+1))=(enc (n.natAbs - 1),0) by unfold ofS;rw [if_neg (by omega),show (0 - (n+1)).toNat=n.natAbs - 1 by omega]];try dsimp only
 refine sqs ?_;refine aA.callS (fun _ _ _ _ _=>gT (enc (n.natAbs - 1))) ?_;refine sqv ?_;have f1:=fit8 (V:=n.natAbs - 1) (by omega);have f2:=fit8 (V:=1) (by omega);have f3:=fit8 (V:=n.natAbs - 1+1) (by omega);refine zc (fun _ _=>aRX (enc (n.natAbs - 1)) ⟨#[1]⟩) ?_;conv=>whnf
 rw [<-aUR,aSI (by omega) (by omega),sF (by omega),show n.natAbs - 1+1=n.natAbs by omega];try dsimp only
 refine sqs ?_;refine aA.callS (fun _ _ _ _ _=>gT (enc n.natAbs)) ?_;refine sqv ?_;exact zR Tryz.func43
theorem iC {h:Array Obj} (n d:Int) (hn: -9223372036854775808<=n/\n<=9223372036854775807) (hd: -9223372036854775808<=d/\d<=9223372036854775807) (hT:gN h):
  FV 18 #[.int .i64 n,.int .i64 d] h (rev (eU n d)):=by
 refine zO Tryz.func18 Tryz.ntmps18 (args:=[.int .i64 n,.int .i64 d]) fun w0 cs=>?_;refine ⟨fun z=>?_,fun z=>?_⟩<;>conv=>whnf
 ·conv=>whnf
  refine zW Tryz.func18 fun Ez=>?_;unfold eU;rw [if_pos z];rfl
 conv=>whnf
 refine aA.deferU ?_;refine sqs ?_;refine zc (fun _ _=>aIV n hn) ?_;refine sqv ?_;refine zc (fun _ _=>aIV d hd) ?_;refine sqv ?_;have f1:=fit8 (V:=n.natAbs) (by omega);have f2:=fit8 (V:=d.natAbs) (by omega);refine aA.callV (fun _ _ _ _ K=>aIY ⟨decide (n<0) != decide (d<0),n.natAbs,d.natAbs⟩ (by show d.natAbs≠0;omega) (by show nb n.natAbs<=256;omega) (by show nb d.natAbs<=256;omega) (hT.keeps ⟨K.size,K.same⟩)) ?_;refine sqv ?_;refine aA.retU ?_;refine aB.deferN aBE.2.1 [0,1] ?_ trivial rfl (fun e=>by cases e);intro _ _;conv=>whnf
 exact aB.ret tab Tryz.func18 rfl fun Ez Hz Az Sz K=>⟨_,rfl,by rw [wW z];rfl,K.keeps⟩

def iev2 (p:Int×Int):Value:=.tuple #[.int .i64 p.1,.int .i64 p.2]
theorem pR {h:Array Obj} (a b:Rt) (hT:gN h):FV 23 #[a.v,b.v] h (iev2 (lE a b)):=by
 obtain ⟨r,hr⟩:∃r,r=lE a b:=⟨_,rfl⟩;rw [<-hr];unfold lE at hr;refine zO Tryz.func23 Tryz.ntmps23 (args:=[.agg #[.bool a.neg,.string a.n,.string a.d],.agg #[.bool b.neg,.string b.n,.string b.d]]) fun w0 cs=>?_;refine aA.callV (fun _ _ _ _ K=>pB a (hT.keeps ⟨K.size,K.same⟩)) ?_;refine sqv ?_;refine ⟨fun o1=>?_,fun o1=>?_⟩<;>conv=>whnf
 rotate_left
 ·conv=>whnf
  rw [if_neg (fun o=>o1 (iL.2 o.1))] at hr;subst hr;exact zR Tryz.func23
 conv=>whnf
 refine aA.callV (fun _ _ _ _ K=>pB b (hT.keeps ⟨K.size,K.same⟩)) ?_;refine sqv ?_;refine ⟨fun o2=>?_,fun o2=>?_⟩<;>conv=>whnf
 rotate_left
 ·conv=>whnf
  rw [if_neg (fun o=>o2 (iL.2 o.2))] at hr;subst hr;exact zR Tryz.func23
 have o1:=iL.1 o1;have o2:=iL.1 o2;rw [if_pos ⟨o1,o2⟩] at hr;obtain ⟨⟨s,n,d⟩,rfl,pa,la⟩:=uS o1;obtain ⟨⟨t,m,e⟩,rfl,pb,lb⟩:=uS o2;rw [gB,gB] at hr;conv=>whnf
 refine aA.deferU ?_;refine sqs ?_;by_cases hf:dJ (n*e)/\dJ (m*d)
 ·rw [if_pos hf] at hr;refine aA.callS (fun _ _ _ _ _=>rZ (sL ⟨s,n,d⟩ ⟨t,m,e⟩ la lb) (if_pos hf)) ?_;refine sqv ?_;cases s<;>cases t
  ·conv=>whnf
   refine zc (fun _ _=>aGW hf.1 hf.2) ?_;refine sqv ?_;subst hr;refine aA.retU ?_;refine aB.deferN aBE.2.2 [2,3] ?_ trivial rfl (fun e=>by cases e);intro _ _;conv=>whnf
   exact aB.ret tab Tryz.func23 rfl fun _ _ _ _ K=>⟨_,rfl,rfl,K.keeps⟩
  ·conv=>whnf
   subst hr;refine aA.retU ?_;refine aB.deferN aBE.2.2 [2,3] ?_ trivial rfl (fun e=>by cases e);intro _ _;conv=>whnf
   exact aB.ret tab Tryz.func23 rfl fun _ _ _ _ K=>⟨_,rfl,rfl,K.keeps⟩
  ·conv=>whnf
   subst hr;refine aA.retU ?_;refine aB.deferN aBE.2.2 [2,3] ?_ trivial rfl (fun e=>by cases e);intro _ _;conv=>whnf
   exact aB.ret tab Tryz.func23 rfl fun _ _ _ _ K=>⟨_,rfl,rfl,K.keeps⟩
  conv=>whnf
  refine zc (fun _ _=>aGW hf.2 hf.1) ?_;refine sqv ?_;subst hr;refine aA.retU ?_;refine aB.deferN aBE.2.2 [2,3] ?_ trivial rfl (fun e=>by cases e);intro _ _;conv=>whnf
  exact aB.ret tab Tryz.func23 rfl fun _ _ _ _ K=>⟨_,rfl,rfl,K.keeps⟩
 rw [if_neg hf] at hr;subst hr;refine aA.callF (fun _ _ _ _ _=>rZ (sL ⟨s,n,d⟩ ⟨t,m,e⟩ la lb) (if_neg hf)) ?_;refine aB.deferN aZJ.2.2 [2,3] ?_ ⟨by rfl,by rfl,trivial⟩ rfl (fun e=>by cases e);intro _ _;conv=>whnf
 exact aB.ret tab Tryz.func23 rfl fun _ _ _ _ K=>⟨_,rfl,rfl,K.keeps⟩


def aQE (a:Rt):List Value:=[.bool a.neg,.string a.n,.string a.d]
def kV (l:List Rt):List (List Value):=l.map aQE
theorem aBO (l:List Rt):(kV l).length=l.length:=by simp [kV]
theorem aCD {l:List Rt} {k:Nat} (hk:k<l.length):(kV l)[((k:Int)).toNat]? = some (aQE l[k]):=by simp [kV,hk]
theorem vD {α:Type} {p:α->Prop} {l:List α} {k:Nat} (hk:k<l.length) (h:∀a∈l.take k,p a) (hp:p l[k]):∀a∈l.take (k+1),p a:=fun a ha=>by
 rw [List.take_add_one,List.getElem?_eq_getElem hk] at ha;simp only [Option.toList,List.mem_append,List.mem_singleton] at ha;rcases ha with ha|ha
 ·exact h a ha
 rw [ha];exact hp
theorem aZK {h:Array Obj} (l:List Rt) {v:Value} (hv:Ro h v 3 (kV l)) (hT:gN h):FV 58 #[v] h (rev (aHO l)):=by
 have hl:=aBO l;have hm:=hv.len;obtain ⟨r,hr⟩:∃r,r=aHO l:=⟨_,rfl⟩;rw [<-hr];unfold aHO at hr;refine zG 1 (show Ros _ [v] [(3,kV l)] from ⟨hv,trivial⟩) [.buf 0] Tryz.func58 Tryz.ntmps58 fun w0 cs=>?_;refine zL (fun (k:Nat)=>[(10,nV k),(9,nV ((kV l).length)),(8,.buf 0),(2,.ptr 1 0),(0,.buf 0)]) (fun k=>[(1,.cells 35 [.v (.bool false),.v (.string ⟨#[]⟩),.v (.string ⟨#[]⟩)]),(0,.ro 3 (kV l))]) 2 (fun k=>k<=l.length /\ ∀a∈l.take k,okR a) (fun k=>l.length - k) (0) (⟨by omega,by simp⟩) ?_;rintro k hJ back;try dsimp only at hJ back
 conv=>whnf
 try dsimp only
 refine gS ?_;conv=>whnf
 refine ⟨fun hk=>?_,fun hk=>?_⟩<;>conv=>whnf
 ·have hk:k<l.length:=by omega
  refine cG ?_;refine ⟨_,aCD hk,?_⟩;conv=>whnf
  try (refine oN ?_;conv=>whnf)
  refine aA.callV (fun _ _ _ _ K=>pB l[k] (hT.keeps ⟨K.size,K.same⟩)) ?_;refine sqv ?_;refine ⟨fun o1=>?_,fun o1=>?_⟩<;>conv=>whnf
  ·refine cG ?_;have o1:=iL.1 o1;exact zb (back (k+1) ((⟨by omega,vD hk hJ.2 o1⟩)) (by (try dsimp only);omega))
  conv=>whnf
  rw [if_neg (fun o=>o1 (iL.2 (o _ (List.getElem_mem hk))))] at hr;subst hr;exact zR Tryz.func58
 have hk:k=l.length:=by omega
 have hall:∀a∈l,okR a:=by have:=hJ.2;rw [hk,List.take_length] at this;exact this
 rw [if_pos hall] at hr;conv=>whnf
 refine zL (fun (⟨k,acc⟩:Nat×Rt)=>[(22,nV k),(21,nV ((kV l).length)),(20,.buf 0),(2,.ptr 1 0),(0,.buf 0)]) (fun ⟨k,acc⟩=>[(1,.cells 35 [.v (.bool acc.neg),.v (.string acc.n),.v (.string acc.d)]),(0,.ro 3 (kV l))]) 2 (fun ⟨k,acc⟩=>k<=l.length/\r=sumF (l.drop k) acc) (fun ⟨k,acc⟩=>l.length - k) ((0,aLK)) (⟨by omega,by rw [hr];rfl⟩) ?_;rintro ⟨k,acc⟩ hJ back;try dsimp only at hJ back
 conv=>whnf
 try dsimp only
 refine gS ?_;conv=>whnf
 refine ⟨fun hk=>?_,fun hk=>?_⟩<;>conv=>whnf
 ·have hk:k<l.length:=by omega
  have hd:l.drop k=l[k]::l.drop (k+1):=List.drop_eq_getElem_cons hk;rw [hd] at hJ;unfold sumF at hJ;refine cG ?_;refine ⟨_,aCD hk,?_⟩;conv=>whnf
  try (refine oN ?_;conv=>whnf)
  refine aA.callV (fun _ _ _ _ K=>qAdd_fn acc l[k] (hT.keeps ⟨K.size,K.same⟩)) ?_;refine sqv ?_;refine ⟨fun o1=>?_,fun o1=>?_⟩<;>conv=>whnf
  ·refine cG ?_;rw [if_pos o1] at hJ;exact zb (back ((k+1,(xC acc l[k]).1)) ((⟨by omega,hJ.2⟩)) (by (try dsimp only);omega))
  conv=>whnf
  rw [if_neg o1] at hJ;rw [hJ.2];exact zR Tryz.func58
 have hk:k=l.length:=by omega
 rw [hk,List.drop_length] at hJ;conv=>whnf
 rw [hJ.2];exact zR Tryz.func58

theorem kp {P:Program} {f:FuncId} {args:Array Value} {h:Array Obj} {X:Value} (H:FnV P f args h fun r h'=>r=X/\h'=h):FnV P f args h fun r h'=>r=X/\aH h.size h h':=
 H.mono fun _ _ ⟨e,hk⟩=>⟨e,hk▸aH.refl _ _⟩
theorem qM {h:Array Obj} (a:Rt):FV 107 #[a.v] h (.int .i64 (bDJ a)):=by
 obtain ⟨s,n,d⟩:=a;obtain ⟨r,hr⟩:∃r,r=bDJ ⟨s,n,d⟩:=⟨_,rfl⟩;rw [<-hr];unfold bDJ at hr;refine zO Tryz.func107 Tryz.ntmps107 (args:=[.agg #[.bool s,.string n,.string d]]) fun w0 cs=>?_;refine zc (fun _ _=>kp (aXK n)) ?_;refine sqv ?_;refine ⟨fun e1=>?_,fun e1=>?_⟩<;>conv=>whnf
 rotate_left
 ·conv=>whnf
  rw [if_neg (fun o=>e1 o.1)] at hr;subst hr;exact zR Tryz.func107
 conv=>whnf
 refine zc (fun _ _=>kp (aXK d)) ?_;refine sqv ?_;refine ⟨fun e2=>?_,fun e2=>?_⟩<;>conv=>whnf
 rotate_left
 ·conv=>whnf
  rw [if_neg (fun o=>e2 o.2.1)] at hr;subst hr;exact zR Tryz.func107
 conv=>whnf
 obtain ⟨zd,zn,eg⟩:=aWT (s:=s) e1 e2;refine ⟨fun e3=>?_,fun e3=>?_⟩<;>conv=>whnf
 ·conv=>whnf
  rw [if_neg (fun o=>o.2.2.1 (zd.2 e3))] at hr;subst hr;exact zR Tryz.func107
 cases s
 ·conv=>whnf
  refine zc (fun _ _=>bDB n d) ?_;conv=>whnf
  rw [eg];try dsimp only
  refine sqs ?_;refine ⟨fun e4=>?_,fun e4=>?_⟩<;>conv=>whnf
  rotate_left
  ·conv=>whnf
   rw [if_neg (fun o=>e4 (uQ.2 o.2.2.2.1))] at hr;subst hr;exact zR Tryz.func107
  conv=>whnf
  rw [if_pos ⟨e1,e2,fun e=>e3 (zd.1 e),uQ.1 e4,fun o=>by cases o.1⟩] at hr;subst hr;exact zR Tryz.func107
 conv=>whnf
 refine ⟨fun e5=>?_,fun e5=>?_⟩<;>conv=>whnf
 ·conv=>whnf
  rw [if_neg (fun o=>o.2.2.2.2 ⟨rfl,zn.2 e5⟩)] at hr;subst hr;exact zR Tryz.func107
 conv=>whnf
 refine zc (fun _ _=>bDB n d) ?_;conv=>whnf
 rw [eg];try dsimp only
 refine sqs ?_;refine ⟨fun e4=>?_,fun e4=>?_⟩<;>conv=>whnf
 rotate_left
 ·conv=>whnf
  rw [if_neg (fun o=>e4 (uQ.2 o.2.2.2.1))] at hr;subst hr;exact zR Tryz.func107
 conv=>whnf
 rw [if_pos ⟨e1,e2,fun e=>e3 (zd.1 e),uQ.1 e4,fun o=>e5 (zn.1 o.2)⟩] at hr;subst hr;exact zR Tryz.func107
theorem tH {h:Array Obj} (s:Bool) {n d:Nat} (hd:d≠0) (fn:nb n<=256) (fd:nb d<=256):FV 210 #[.bool s,.string (enc n),.string (enc d)] h ((aN (low s n d)).v):=by
 refine zO Tryz.func210 Tryz.ntmps210 (args:=[.bool s,.string (enc n),.string (enc d)]) fun w0 cs=>?_;have hg:0<Nat.gcd n d:=Nat.gcd_pos_of_pos_right _ (Nat.pos_of_ne_zero hd);have fg:nb (Nat.gcd n d)<=256:=Nat.le_trans (bGN (Nat.gcd_le_right _ (Nat.pos_of_ne_zero hd))) fd;refine ⟨fun e1=>?_,fun e1=>?_⟩<;>conv=>whnf
 ·have e1:n=0:=aKY.1 e1;subst e1;conv=>whnf
  refine zW Tryz.func210 fun Ez=>?_;have:low s 0 d=⟨false,0,1⟩:=by simp [low,Nat.div_self (Nat.pos_of_ne_zero hd)]
  rw [this];show Value.agg #[.bool false,.string ⟨#[]⟩,.string ⟨#[1]⟩]=(aN ⟨false,0,1⟩).v;rw [<-aUR];rfl
 have e1:n≠0:=fun e=>e1 (by rw [e];rfl);conv=>whnf
 refine zc (fun _ _=>bDB (enc n) (enc d)) ?_;conv=>whnf
 rw [gcd_e fn fd];try dsimp only
 refine sqs ?_;refine zc (fun _ _=>bEJ (enc n) (enc (Nat.gcd n d))) ?_;conv=>whnf
 rw [bEE fn fg,if_neg (Nat.ne_of_gt hg)];try dsimp only
 refine sqs ?_;refine zc (fun _ _=>bEJ (enc d) (enc (Nat.gcd n d))) ?_;conv=>whnf
 rw [bEE fd fg,if_neg (Nat.ne_of_gt hg)];try dsimp only
 refine sqs ?_;refine zW Tryz.func210 fun Ez=>?_;show Value.agg #[.bool s,.string (enc (n/Nat.gcd n d)),.string (enc (d/Nat.gcd n d))]=(aN ⟨s && !Nat.beq n 0,n/Nat.gcd n d,d/Nat.gcd n d⟩).v;rw [beq0 e1,Bool.not_false,Bool.and_true];rfl
theorem bDT {h:Array Obj} (a b:Rt):FV 108 #[a.v,b.v] h (rev (xC a b)):=by
 obtain ⟨r,hr⟩:∃r,r=xC a b:=⟨_,rfl⟩;rw [<-hr];obtain ⟨s,n,d⟩:=a;obtain ⟨t,m,e⟩:=b;unfold xC opR at hr;refine zO Tryz.func108 Tryz.ntmps108 (args:=[.agg #[.bool s,.string n,.string d],.agg #[.bool t,.string m,.string e]]) fun w0 cs=>?_;refine zc (fun _ _=>qM ⟨s,n,d⟩) ?_;refine sqv ?_;refine ⟨fun o1=>?_,fun o1=>?_⟩<;>conv=>whnf
 rotate_left
 ·conv=>whnf
  rw [if_neg (fun o=>o1 (iL.2 o.1))] at hr;subst hr;exact zR Tryz.func108
 conv=>whnf
 refine zc (fun _ _=>qM ⟨t,m,e⟩) ?_;refine sqv ?_;refine ⟨fun o2=>?_,fun o2=>?_⟩<;>conv=>whnf
 rotate_left
 ·conv=>whnf
  rw [if_neg (fun o=>o2 (iL.2 o.2))] at hr;subst hr;exact zR Tryz.func108
 rw [if_pos ⟨iL.1 o1,iL.1 o2⟩] at hr;obtain ⟨⟨s,N,D⟩,ea,oka,la⟩:=uS (iL.1 o1);obtain ⟨⟨t,M,E⟩,eb,okb,lb⟩:=uS (iL.1 o2);rw [ea,eb,gB,gB] at hr;cases ea;cases eb;unfold aBP at hr;dsimp only at hr;have ln:nb N<=256:=la.1;have ld:nb D<=256:=la.2;have lm:nb M<=256:=lb.1;have le:nb E<=256:=lb.2;have hde:D*E≠0:=Nat.mul_ne_zero oka.1 okb.1;by_cases f1:dJ (N*E)
 rotate_left
 ·by_cases f2:dJ (M*D)<;>by_cases f3:dJ (D*E)
  ·conv=>whnf
   refine zc (fun _ _=>kX (enc N) (enc E)) ?_;conv=>whnf
   rw [xK ln le,oG f1];try dsimp only
   refine sqs ?_;refine zc (fun _ _=>kX (enc M) (enc D)) ?_;conv=>whnf
   rw [xK lm ld,sF f2];try dsimp only
   refine sqs ?_;refine zc (fun _ _=>kX (enc D) (enc E)) ?_;conv=>whnf
   rw [xK ld le,sF f3];try dsimp only
   refine dT ?_;rw [if_neg (fun o=>f1 o.1)] at hr;subst hr;exact zR Tryz.func108
  ·conv=>whnf
   refine zc (fun _ _=>kX (enc N) (enc E)) ?_;conv=>whnf
   rw [xK ln le,oG f1];try dsimp only
   refine sqs ?_;refine zc (fun _ _=>kX (enc M) (enc D)) ?_;conv=>whnf
   rw [xK lm ld,sF f2];try dsimp only
   refine sqs ?_;refine zc (fun _ _=>kX (enc D) (enc E)) ?_;conv=>whnf
   rw [xK ld le,oG f3];try dsimp only
   refine dT ?_;rw [if_neg (fun o=>f1 o.1)] at hr;subst hr;exact zR Tryz.func108
  ·conv=>whnf
   refine zc (fun _ _=>kX (enc N) (enc E)) ?_;conv=>whnf
   rw [xK ln le,oG f1];try dsimp only
   refine sqs ?_;refine zc (fun _ _=>kX (enc M) (enc D)) ?_;conv=>whnf
   rw [xK lm ld,oG f2];try dsimp only
   refine sqs ?_;refine zc (fun _ _=>kX (enc D) (enc E)) ?_;conv=>whnf
   rw [xK ld le,sF f3];try dsimp only
   refine dT ?_;rw [if_neg (fun o=>f1 o.1)] at hr;subst hr;exact zR Tryz.func108
  conv=>whnf
  refine zc (fun _ _=>kX (enc N) (enc E)) ?_;conv=>whnf
  rw [xK ln le,oG f1];try dsimp only
  refine sqs ?_;refine zc (fun _ _=>kX (enc M) (enc D)) ?_;conv=>whnf
  rw [xK lm ld,oG f2];try dsimp only
  refine sqs ?_;refine zc (fun _ _=>kX (enc D) (enc E)) ?_;conv=>whnf
  rw [xK ld le,oG f3];try dsimp only
  refine dT ?_;rw [if_neg (fun o=>f1 o.1)] at hr;subst hr;exact zR Tryz.func108
 by_cases f2:dJ (M*D)
 rotate_left
 ·by_cases f3:dJ (D*E)
  ·conv=>whnf
   refine zc (fun _ _=>kX (enc N) (enc E)) ?_;conv=>whnf
   rw [xK ln le,sF f1];try dsimp only
   refine sqs ?_;refine zc (fun _ _=>kX (enc M) (enc D)) ?_;conv=>whnf
   rw [xK lm ld,oG f2];try dsimp only
   refine sqs ?_;refine zc (fun _ _=>kX (enc D) (enc E)) ?_;conv=>whnf
   rw [xK ld le,sF f3];try dsimp only
   refine dT ?_;rw [if_neg (fun o=>f2 o.2.1)] at hr;subst hr;exact zR Tryz.func108
  conv=>whnf
  refine zc (fun _ _=>kX (enc N) (enc E)) ?_;conv=>whnf
  rw [xK ln le,sF f1];try dsimp only
  refine sqs ?_;refine zc (fun _ _=>kX (enc M) (enc D)) ?_;conv=>whnf
  rw [xK lm ld,oG f2];try dsimp only
  refine sqs ?_;refine zc (fun _ _=>kX (enc D) (enc E)) ?_;conv=>whnf
  rw [xK ld le,oG f3];try dsimp only
  refine dT ?_;rw [if_neg (fun o=>f2 o.2.1)] at hr;subst hr;exact zR Tryz.func108
 by_cases f3:dJ (D*E)
 rotate_left
 ·conv=>whnf
  refine zc (fun _ _=>kX (enc N) (enc E)) ?_;conv=>whnf
  rw [xK ln le,sF f1];try dsimp only
  refine sqs ?_;refine zc (fun _ _=>kX (enc M) (enc D)) ?_;conv=>whnf
  rw [xK lm ld,sF f2];try dsimp only
  refine sqs ?_;refine zc (fun _ _=>kX (enc D) (enc E)) ?_;conv=>whnf
  rw [xK ld le,oG f3];try dsimp only
  refine dT ?_;rw [if_neg (fun o=>f3 o.2.2)] at hr;subst hr;exact zR Tryz.func108
 rw [if_pos ⟨f1,f2,f3⟩] at hr;conv=>whnf
 refine zc (fun _ _=>kX (enc N) (enc E)) ?_;conv=>whnf
 rw [xK ln le,sF f1];try dsimp only
 refine sqs ?_;refine zc (fun _ _=>kX (enc M) (enc D)) ?_;conv=>whnf
 rw [xK lm ld,sF f2];try dsimp only
 refine sqs ?_;refine zc (fun _ _=>kX (enc D) (enc E)) ?_;conv=>whnf
 rw [xK ld le,sF f3];try dsimp only
 refine dT ?_;cases s<;>cases t
 ·rw [if_pos rfl] at hr;conv=>whnf
  by_cases f4:dJ (N*E+M*D)
  ·rw [if_pos f4] at hr;subst hr;refine zc (fun _ _=>aPJ (enc (N*E)) (enc (M*D))) ?_;conv=>whnf
   rw [aSI f1 f2,sF f4];try dsimp only
   refine dT ?_;refine zc (fun _ _=>tH _ hde f4 f3) ?_;refine sqv ?_;exact zR Tryz.func108
  rw [if_neg f4] at hr;subst hr;refine zc (fun _ _=>aPJ (enc (N*E)) (enc (M*D))) ?_;conv=>whnf
  rw [aSI f1 f2,oG f4];try dsimp only
  refine dT ?_;exact zR Tryz.func108
 ·rw [if_neg (by decide)] at hr;conv=>whnf
  refine zc (fun _ _=>kp (aIA (enc (N*E)) (enc (M*D)))) ?_;conv=>whnf
  rw [aAQ f1 f2];try dsimp only
  refine sqs ?_;refine ⟨fun hc=>?_,fun hc=>?_⟩<;>conv=>whnf
  ·have hc:=aHY.1 hc;rw [if_neg (by omega)] at hr;subst hr;conv=>whnf
   refine zc (fun _ _=>aTC (enc (N*E)) (enc (M*D))) ?_;conv=>whnf
   rw [aZN f1 f2,if_neg (show ¬N*E<M*D by omega)];refine sqs ?_;refine zc (fun _ _=>tH _ hde (Nat.le_trans (bGN (Nat.sub_le _ _)) f1) f3) ?_;refine sqv ?_;exact zR Tryz.func108
  have hc:N*E<M*D:=Nat.lt_of_not_le fun h=>hc (aHY.2 h);rw [if_pos hc] at hr;subst hr;conv=>whnf
  refine zc (fun _ _=>aTC (enc (M*D)) (enc (N*E))) ?_;conv=>whnf
  rw [aZN f2 f1,if_neg (show ¬M*D<N*E by omega)];refine sqs ?_;refine zc (fun _ _=>tH _ hde (Nat.le_trans (bGN (Nat.sub_le _ _)) f2) f3) ?_;refine sqv ?_;exact zR Tryz.func108
 ·rw [if_neg (by decide)] at hr;conv=>whnf
  refine zc (fun _ _=>kp (aIA (enc (N*E)) (enc (M*D)))) ?_;conv=>whnf
  rw [aAQ f1 f2];try dsimp only
  refine sqs ?_;refine ⟨fun hc=>?_,fun hc=>?_⟩<;>conv=>whnf
  ·have hc:=aHY.1 hc;rw [if_neg (by omega)] at hr;subst hr;conv=>whnf
   refine zc (fun _ _=>aTC (enc (N*E)) (enc (M*D))) ?_;conv=>whnf
   rw [aZN f1 f2,if_neg (show ¬N*E<M*D by omega)];refine sqs ?_;refine zc (fun _ _=>tH _ hde (Nat.le_trans (bGN (Nat.sub_le _ _)) f1) f3) ?_;refine sqv ?_;exact zR Tryz.func108
  have hc:N*E<M*D:=Nat.lt_of_not_le fun h=>hc (aHY.2 h);rw [if_pos hc] at hr;subst hr;conv=>whnf
  refine zc (fun _ _=>aTC (enc (M*D)) (enc (N*E))) ?_;conv=>whnf
  rw [aZN f2 f1,if_neg (show ¬M*D<N*E by omega)];refine sqs ?_;refine zc (fun _ _=>tH _ hde (Nat.le_trans (bGN (Nat.sub_le _ _)) f2) f3) ?_;refine sqv ?_;exact zR Tryz.func108
 rw [if_pos rfl] at hr;conv=>whnf
 by_cases f4:dJ (N*E+M*D)
 ·rw [if_pos f4] at hr;subst hr;refine zc (fun _ _=>aPJ (enc (N*E)) (enc (M*D))) ?_;conv=>whnf
  rw [aSI f1 f2,sF f4];try dsimp only
  refine dT ?_;refine zc (fun _ _=>tH _ hde f4 f3) ?_;refine sqv ?_;exact zR Tryz.func108
 rw [if_neg f4] at hr;subst hr;refine zc (fun _ _=>aPJ (enc (N*E)) (enc (M*D))) ?_;conv=>whnf
 rw [aSI f1 f2,oG f4];try dsimp only
 refine dT ?_;exact zR Tryz.func108
theorem aVP {h:Array Obj} (q:Q):FV 109 #[(aN q).v] h ((aN (kE q)).v):=by
 obtain ⟨s,n,d⟩:=q;have key:∀b:Bool,b=(!s && !Nat.beq n 0)->Value.agg #[.bool b,.string (enc n),.string (enc d)]=(aN (kE ⟨s,n,d⟩)).v:=fun b hb=>by rw [hb];rfl
 have hz:(!decide (enc n=⟨#[]⟩)) = !Nat.beq n 0:=by
  by_cases hn:n=0
  ·subst hn;rfl
  rw [beq0 hn,decide_eq_false (fun e=>hn (aKY.1 e))]
 refine zO Tryz.func109 Tryz.ntmps109 (args:=[.agg #[.bool s,.string (enc n),.string (enc d)]]) fun w0 cs=>?_;cases s
 ·conv=>whnf
  refine zW Tryz.func109 fun Ez=>?_;exact key _ hz
 conv=>whnf
 refine zW Tryz.func109 fun Ez=>?_;exact key _ rfl
theorem bFH {h:Array Obj} (a b:Rt):FV 66 #[a.v,b.v] h (rev (subR a b)):=by
 obtain ⟨r,hr⟩:∃r,r=subR a b:=⟨_,rfl⟩;rw [<-hr];obtain ⟨s,n,d⟩:=a;obtain ⟨t,m,e⟩:=b;unfold subR opR at hr;refine zO Tryz.func66 Tryz.ntmps66 (args:=[.agg #[.bool s,.string n,.string d],.agg #[.bool t,.string m,.string e]]) fun w0 cs=>?_;refine zc (fun _ _=>qM ⟨s,n,d⟩) ?_;refine sqv ?_;refine ⟨fun o1=>?_,fun o1=>?_⟩<;>conv=>whnf
 rotate_left
 ·conv=>whnf
  rw [if_neg (fun o=>o1 (iL.2 o.1))] at hr;subst hr;exact zR Tryz.func66
 conv=>whnf
 refine zc (fun _ _=>qM ⟨t,m,e⟩) ?_;refine sqv ?_;refine ⟨fun o2=>?_,fun o2=>?_⟩<;>conv=>whnf
 rotate_left
 ·conv=>whnf
  rw [if_neg (fun o=>o2 (iL.2 o.2))] at hr;subst hr;exact zR Tryz.func66
 rw [if_pos ⟨iL.1 o1,iL.1 o2⟩] at hr;obtain ⟨⟨s,N,D⟩,ea,oka,la⟩:=uS (iL.1 o1);obtain ⟨⟨t,M,E⟩,eb,okb,lb⟩:=uS (iL.1 o2);rw [ea,eb,gB,gB] at hr;cases ea;cases eb;unfold subL at hr;conv=>whnf
 refine zH (fls 0 2 (.e1 2 [0] (.e1 3 [] (fls 4 2 (.e1 6 [] (.fl 7 .done)))))) ?_;refine squ ?_;refine zk (fun _ _=>aVP ⟨t,M,E⟩) ?_;refine squ ?_;refine zk (fun _ _=>bDT (aN ⟨s,N,D⟩) (aN (kE ⟨t,M,E⟩))) ?_;conv=>whnf
 rw [show xC (aN ⟨s,N,D⟩) (aN (kE ⟨t,M,E⟩))=_ from opR_e oka (wV okb) la (aLR lb) aBP,<-hr];try dsimp only
 refine mE ?_;refine sqs ?_;exact zR Tryz.func66
theorem aKV {h:Array Obj} (a b:Rt):FV 106 #[a.v,b.v] h (rev (fI a b)):=by
 obtain ⟨r,hr⟩:∃r,r=fI a b:=⟨_,rfl⟩;rw [<-hr];obtain ⟨s,n,d⟩:=a;obtain ⟨t,m,e⟩:=b;unfold fI opR at hr;refine zO Tryz.func106 Tryz.ntmps106 (args:=[.agg #[.bool s,.string n,.string d],.agg #[.bool t,.string m,.string e]]) fun w0 cs=>?_;refine zc (fun _ _=>qM ⟨s,n,d⟩) ?_;refine sqv ?_;refine ⟨fun o1=>?_,fun o1=>?_⟩<;>conv=>whnf
 rotate_left
 ·conv=>whnf
  rw [if_neg (fun o=>o1 (iL.2 o.1))] at hr;subst hr;exact zR Tryz.func106
 conv=>whnf
 refine zc (fun _ _=>qM ⟨t,m,e⟩) ?_;refine sqv ?_;refine ⟨fun o2=>?_,fun o2=>?_⟩<;>conv=>whnf
 rotate_left
 ·conv=>whnf
  rw [if_neg (fun o=>o2 (iL.2 o.2))] at hr;subst hr;exact zR Tryz.func106
 rw [if_pos ⟨iL.1 o1,iL.1 o2⟩] at hr;obtain ⟨⟨s,N,D⟩,ea,oka,la⟩:=uS (iL.1 o1);obtain ⟨⟨t,M,E⟩,eb,okb,lb⟩:=uS (iL.1 o2);rw [ea,eb,gB,gB] at hr;cases ea;cases eb;unfold aCK at hr;dsimp only at hr;have hde:D*E≠0:=Nat.mul_ne_zero oka.1 okb.1;by_cases f1:dJ (N*M)<;>by_cases f2:dJ (D*E)
 ·rw [if_pos ⟨f1,f2⟩] at hr;subst hr;conv=>whnf
  refine zc (fun _ _=>kX (enc N) (enc M)) ?_;conv=>whnf
  rw [xK la.1 lb.1,sF f1];try dsimp only
  refine sqs ?_;refine zc (fun _ _=>kX (enc D) (enc E)) ?_;conv=>whnf
  rw [xK la.2 lb.2,sF f2];try dsimp only
  refine dT ?_;cases s<;>cases t
  all_goals
   conv=>whnf
   refine zc (fun _ _=>tH _ hde f1 f2) ?_;refine sqv ?_;exact zR Tryz.func106
 ·rw [if_neg (fun o=>f2 o.2)] at hr;subst hr;conv=>whnf
  refine zc (fun _ _=>kX (enc N) (enc M)) ?_;conv=>whnf
  rw [xK la.1 lb.1,sF f1];try dsimp only
  refine sqs ?_;refine zc (fun _ _=>kX (enc D) (enc E)) ?_;conv=>whnf
  rw [xK la.2 lb.2,oG f2];try dsimp only
  refine dT ?_;exact zR Tryz.func106
 ·rw [if_neg (fun o=>f1 o.1)] at hr;subst hr;conv=>whnf
  refine zc (fun _ _=>kX (enc N) (enc M)) ?_;conv=>whnf
  rw [xK la.1 lb.1,oG f1];try dsimp only
  refine sqs ?_;refine zc (fun _ _=>kX (enc D) (enc E)) ?_;conv=>whnf
  rw [xK la.2 lb.2,sF f2];try dsimp only
  refine dT ?_;exact zR Tryz.func106
 rw [if_neg (fun o=>f1 o.1)] at hr;subst hr;conv=>whnf
 refine zc (fun _ _=>kX (enc N) (enc M)) ?_;conv=>whnf
 rw [xK la.1 lb.1,oG f1];try dsimp only
 refine sqs ?_;refine zc (fun _ _=>kX (enc D) (enc E)) ?_;conv=>whnf
 rw [xK la.2 lb.2,oG f2];try dsimp only
 refine dT ?_;exact zR Tryz.func106
theorem bDU {h:Array Obj} (a b:Rt):FV 292 #[a.v,b.v] h (rev (aLG a b)):=by
 obtain ⟨r,hr⟩:∃r,r=aLG a b:=⟨_,rfl⟩;rw [<-hr];obtain ⟨s,n,d⟩:=a;obtain ⟨t,m,e⟩:=b;unfold aLG at hr;refine zO Tryz.func292 Tryz.ntmps292 (args:=[.agg #[.bool s,.string n,.string d],.agg #[.bool t,.string m,.string e]]) fun w0 cs=>?_;refine zc (fun _ _=>qM ⟨s,n,d⟩) ?_;refine sqv ?_;refine ⟨fun o1=>?_,fun o1=>?_⟩<;>conv=>whnf
 rotate_left
 ·conv=>whnf
  rw [if_neg (fun o=>o1 (iL.2 o.1))] at hr;subst hr;exact zR Tryz.func292
 conv=>whnf
 refine zc (fun _ _=>qM ⟨t,m,e⟩) ?_;refine sqv ?_;refine ⟨fun o2=>?_,fun o2=>?_⟩<;>conv=>whnf
 rotate_left
 ·conv=>whnf
  rw [if_neg (fun o=>o2 (iL.2 o.2))] at hr;subst hr;exact zR Tryz.func292
 rw [if_pos ⟨iL.1 o1,iL.1 o2⟩] at hr;obtain ⟨⟨s,N,D⟩,ea,oka,la⟩:=uS (iL.1 o1);obtain ⟨⟨t,M,E⟩,eb,okb,lb⟩:=uS (iL.1 o2);rw [ea,eb,gB,gB] at hr;cases ea;cases eb;unfold aCK aBY at hr;simp only [aN,eA] at hr;conv=>whnf
 refine ⟨fun hm=>?_,fun hm=>?_⟩<;>conv=>whnf
 ·rw [if_pos (aKY.1 hm)] at hr;subst hr;conv=>whnf
  exact zR Tryz.func292
 have hM:M≠0:=fun e=>hm (aKY.2 e);rw [if_neg hM] at hr;have hde:D*M≠0:=Nat.mul_ne_zero oka.1 hM;by_cases f1:dJ (N*E)<;>by_cases f2:dJ (D*M)
 ·rw [if_pos ⟨f1,f2⟩] at hr;subst hr;conv=>whnf
  refine zc (fun _ _=>kX (enc N) (enc E)) ?_;conv=>whnf
  rw [xK la.1 lb.2,sF f1];try dsimp only
  refine sqs ?_;refine zc (fun _ _=>kX (enc D) (enc M)) ?_;conv=>whnf
  rw [xK la.2 lb.1,sF f2];try dsimp only
  refine dT ?_;cases s<;>cases t
  all_goals
   conv=>whnf
   refine zc (fun _ _=>tH _ hde f1 f2) ?_;refine sqv ?_;exact zR Tryz.func292
 ·rw [if_neg (fun o=>f2 o.2)] at hr;subst hr;conv=>whnf
  refine zc (fun _ _=>kX (enc N) (enc E)) ?_;conv=>whnf
  rw [xK la.1 lb.2,sF f1];try dsimp only
  refine sqs ?_;refine zc (fun _ _=>kX (enc D) (enc M)) ?_;conv=>whnf
  rw [xK la.2 lb.1,oG f2];try dsimp only
  refine dT ?_;exact zR Tryz.func292
 ·rw [if_neg (fun o=>f1 o.1)] at hr;subst hr;conv=>whnf
  refine zc (fun _ _=>kX (enc N) (enc E)) ?_;conv=>whnf
  rw [xK la.1 lb.2,oG f1];try dsimp only
  refine sqs ?_;refine zc (fun _ _=>kX (enc D) (enc M)) ?_;conv=>whnf
  rw [xK la.2 lb.1,sF f2];try dsimp only
  refine dT ?_;exact zR Tryz.func292
 rw [if_neg (fun o=>f1 o.1)] at hr;subst hr;conv=>whnf
 refine zc (fun _ _=>kX (enc N) (enc E)) ?_;conv=>whnf
 rw [xK la.1 lb.2,oG f1];try dsimp only
 refine sqs ?_;refine zc (fun _ _=>kX (enc D) (enc M)) ?_;conv=>whnf
 rw [xK la.2 lb.1,oG f2];try dsimp only
 refine dT ?_;exact zR Tryz.func292
theorem bDD {h:Array Obj} (a b:Rt):FV 67 #[a.v,b.v] h (iev2 (lE a b)):=by
 obtain ⟨r,hr⟩:∃r,r=lE a b:=⟨_,rfl⟩;rw [<-hr];obtain ⟨s,n,d⟩:=a;obtain ⟨t,m,e⟩:=b;unfold lE at hr;refine zO Tryz.func67 Tryz.ntmps67 (args:=[.agg #[.bool s,.string n,.string d],.agg #[.bool t,.string m,.string e]]) fun w0 cs=>?_;refine zc (fun _ _=>qM ⟨s,n,d⟩) ?_;refine sqv ?_;refine ⟨fun o1=>?_,fun o1=>?_⟩<;>conv=>whnf
 rotate_left
 ·conv=>whnf
  rw [if_neg (fun o=>o1 (iL.2 o.1))] at hr;subst hr;exact zR Tryz.func67
 conv=>whnf
 refine zc (fun _ _=>qM ⟨t,m,e⟩) ?_;refine sqv ?_;refine ⟨fun o2=>?_,fun o2=>?_⟩<;>conv=>whnf
 rotate_left
 ·conv=>whnf
  rw [if_neg (fun o=>o2 (iL.2 o.2))] at hr;subst hr;exact zR Tryz.func67
 rw [if_pos ⟨iL.1 o1,iL.1 o2⟩] at hr;obtain ⟨⟨s,N,D⟩,ea,oka,la⟩:=uS (iL.1 o1);obtain ⟨⟨t,M,E⟩,eb,okb,lb⟩:=uS (iL.1 o2);rw [ea,eb,gB,gB] at hr;cases ea;cases eb;unfold aAU at hr;dsimp only at hr;by_cases f1:dJ (N*E)<;>by_cases f2:dJ (M*D)
 ·rw [if_pos ⟨f1,f2⟩] at hr;conv=>whnf
  refine zc (fun _ _=>kX (enc N) (enc E)) ?_;conv=>whnf
  rw [xK la.1 lb.2,sF f1];try dsimp only
  refine sqs ?_;refine zc (fun _ _=>kX (enc M) (enc D)) ?_;conv=>whnf
  rw [xK lb.1 la.2,sF f2];try dsimp only
  refine dT ?_;cases s<;>cases t
  ·conv=>whnf
   refine zc (fun _ _=>kp (aIA (enc (N*E)) (enc (M*D)))) ?_;conv=>whnf
   rw [aAQ f1 f2];try dsimp only
   refine sqs ?_;subst hr;exact zR Tryz.func67
  ·conv=>whnf
   subst hr;exact zR Tryz.func67
  ·conv=>whnf
   subst hr;exact zR Tryz.func67
  conv=>whnf
  refine zc (fun _ _=>kp (aIA (enc (N*E)) (enc (M*D)))) ?_;conv=>whnf
  rw [aAQ f1 f2];try dsimp only
  refine sqs ?_;have hcb:aHG (N*E) (M*D)=0 - aHG (M*D) (N*E) /\ -1<=aHG (N*E) (M*D)/\aHG (N*E) (M*D)<=1:=by unfold aHG;split<;>split<;>omega
  refine cG ?_;subst hr;refine zW Tryz.func67 fun Ez=>?_;show Value.tuple #[.int .i64 (0 - aHG (N*E) (M*D)),.int .i64 0]=Value.tuple #[.int .i64 (aHG (M*D) (N*E)),.int .i64 0];rw [show 0 - aHG (N*E) (M*D)=aHG (M*D) (N*E) by omega]
 ·rw [if_neg (fun o=>f2 o.2)] at hr;subst hr;conv=>whnf
  refine zc (fun _ _=>kX (enc N) (enc E)) ?_;conv=>whnf
  rw [xK la.1 lb.2,sF f1];try dsimp only
  refine sqs ?_;refine zc (fun _ _=>kX (enc M) (enc D)) ?_;conv=>whnf
  rw [xK lb.1 la.2,oG f2];try dsimp only
  refine dT ?_;exact zR Tryz.func67
 ·rw [if_neg (fun o=>f1 o.1)] at hr;subst hr;conv=>whnf
  refine zc (fun _ _=>kX (enc N) (enc E)) ?_;conv=>whnf
  rw [xK la.1 lb.2,oG f1];try dsimp only
  refine sqs ?_;refine zc (fun _ _=>kX (enc M) (enc D)) ?_;conv=>whnf
  rw [xK lb.1 la.2,sF f2];try dsimp only
  refine dT ?_;exact zR Tryz.func67
 rw [if_neg (fun o=>f1 o.1)] at hr;subst hr;conv=>whnf
 refine zc (fun _ _=>kX (enc N) (enc E)) ?_;conv=>whnf
 rw [xK la.1 lb.2,oG f1];try dsimp only
 refine sqs ?_;refine zc (fun _ _=>kX (enc M) (enc D)) ?_;conv=>whnf
 rw [xK lb.1 la.2,oG f2];try dsimp only
 refine dT ?_;exact zR Tryz.func67


deriving instance DecidableEq for Go.RatM.Rt

theorem p8:(256:Nat)^8=18446744073709551616:=by decide
theorem aSP {h:Array Obj} (n:Int) (hn: -9223372036854775808<=n/\n<=9223372036854775807):FV 211 #[.int .i64 n] h (.string (enc n.natAbs)):=by
 have fit1:∀V:Nat,V<=9223372036854775808->nb V<=8:=fun V hV=>aFJ (by rw [p8];omega);have f1:=fit1 (n.natAbs - 1) (by omega);have f2:=fit1 1 (by omega);have f3:=fit1 (n.natAbs - 1+1) (by omega);refine zO Tryz.func211 Tryz.ntmps211 (args:=[.int .i64 n]) fun w0 cs=>?_;refine ⟨fun h0=>?_,fun h0=>?_⟩<;>conv=>whnf
 ·conv=>whnf
  have e1:ofS n=(enc n.natAbs,0):=by unfold ofS;rw [if_neg (by omega),show n.toNat=n.natAbs by omega]
  refine zc (fun _ _=>bFF n hn.2) ?_;conv=>whnf
  rw [e1];try dsimp only
  refine sqs ?_;exact zR Tryz.func211
 refine cG ?_;have e1:ofS (0 - (n+1))=(enc (n.natAbs - 1),0):=by unfold ofS;rw [if_neg (by omega),show (0 - (n+1)).toNat=n.natAbs - 1 by omega]
 have e2:bCC (enc (n.natAbs - 1)) ⟨#[1]⟩=(enc n.natAbs,0):=by
  rw [<-aUR,aSI (by omega) (by omega),sF (by omega),show n.natAbs - 1+1=n.natAbs by omega]
 refine zc (fun _ _=>bFF (0 - (n+1)) (by omega)) ?_;conv=>whnf
 rw [e1];try dsimp only
 refine sqs ?_;refine zc (fun _ _=>aPJ (enc (n.natAbs - 1)) ⟨#[1]⟩) ?_;conv=>whnf
 rw [e2];try dsimp only
 refine sqs ?_;exact zR Tryz.func211
theorem aKX {h:Array Obj} (n d:Int) (hn: -9223372036854775808<=n/\n<=9223372036854775807) (hd: -9223372036854775808<=d/\d<=9223372036854775807):
  FV 105 #[.int .i64 n,.int .i64 d] h (rev (eU n d)):=by
 have fit1:∀V:Nat,V<=9223372036854775808->nb V<=256:=fun V hV=>Nat.le_trans (aFJ (m:=8) (by rw [p8];omega)) (by omega);have f1:=fit1 n.natAbs (by omega);have f2:=fit1 d.natAbs (by omega);obtain ⟨r,hr⟩:∃r,r=eU n d:=⟨_,rfl⟩;rw [<-hr];unfold eU at hr;refine zO Tryz.func105 Tryz.ntmps105 (args:=[.int .i64 n,.int .i64 d]) fun w0 cs=>?_;refine ⟨fun hz=>?_,fun hz=>?_⟩<;>conv=>whnf
 ·conv=>whnf
  rw [if_pos hz] at hr;subst hr;exact zR Tryz.func105
 rw [if_neg hz] at hr;conv=>whnf
 refine zc (fun _ _=>aSP n hn) ?_;refine sqv ?_;refine zc (fun _ _=>aSP d hd) ?_;refine sqv ?_;subst hr;refine zc (fun _ _=>tH (n:=n.natAbs) (d:=d.natAbs) (decide (n<0) != decide (d<0)) (by omega) f1 f2) ?_;refine sqv ?_;exact zR Tryz.func105
end Go.Proofs.YthjedpdedjhndaaGreatDoor

namespace Go.RatM
open Go Go.Fw Go.NatM
structure Un where
 name:ByteArray
 of_:ByteArray
 n:Int
 d:Int
 base:Int
 scale:Rt
def Un.row (u:Un):List Value:=[.string u.name,.string u.of_,.int .i64 u.n,.int .i64 u.d,.int .i64 u.base,.bool u.scale.neg,.string u.scale.n,.string u.scale.d]
def Un.v (u:Un):Value:=.agg u.row.toArray
theorem Un.ext8 {u v:Un} (h:u.name=v.name/\u.of_=v.of_/\u.n=v.n/\u.d=v.d/\u.base=v.base/\u.scale.neg=v.scale.neg/\u.scale.n=v.scale.n/\u.scale.d=v.scale.d):u=v:=by
 obtain ⟨a,b,c,d,e,⟨f,g,i⟩⟩:=u;obtain ⟨a',b',c',d',e',⟨f',g',i'⟩⟩:=v;obtain ⟨rfl,rfl,rfl,rfl,rfl,rfl,rfl,rfl⟩:=h;rfl
theorem Un.ext8_iff {u v:Un}:u=v↔(u.name=v.name/\u.of_=v.of_/\u.n=v.n/\u.d=v.d/\u.base=v.base/\u.scale.neg=v.scale.neg/\u.scale.n=v.scale.n/\u.scale.d=v.scale.d):=
 ⟨fun e=>by subst e;simp,Un.ext8⟩
instance:DecidableEq Un:=fun _ _=>decidable_of_iff _ Un.ext8_iff.symm
def aL (l:List Un):List (List Value):=l.map Un.row
theorem aZ (l:List Un):(aL l).length=l.length:=by simp [aL]
theorem dK {l:List Un} {k:Nat} (hk:k<l.length):(aL l)[k]? = some l[k].row:=by simp [aL,hk]
def iW (l:List Un) (nm:ByteArray):Int:=match l.findIdx? (fun u=>decide (u.name=nm)) with
 |some k=>k
 |none=> -1
theorem yA {l:List Un} {nm:ByteArray}:iW l nm = -1 ↔ ∀u∈l,u.name≠nm:=by
 unfold iW
 cases h:l.findIdx? (fun u=>decide (u.name=nm)) with
 |none=>
  rw [List.findIdx?_eq_none_iff] at h
  simpa using h
 |some k=>
  rw [List.findIdx?_eq_some_iff_getElem] at h;obtain ⟨hk,h1,_⟩:=h
  constructor
  ·intro e;dsimp only at e;omega
  intro e;exact absurd (by simpa using h1) (e _ (List.getElem_mem hk))
theorem yH {l:List Un} {nm:ByteArray} {k:Nat}:iW l nm=k ↔ ∃hk:k<l.length,l[k].name=nm /\ ∀j (hj:j<k),l[j].name≠nm:=by
 unfold iW
 cases h:l.findIdx? (fun u=>decide (u.name=nm)) with
 |none=>
  rw [List.findIdx?_eq_none_iff] at h
  constructor
  ·intro e;dsimp only at e;omega
  rintro ⟨hk,h1,_⟩;have:=h _ (List.getElem_mem hk)
  simp [h1] at this
 |some m=>
  rw [List.findIdx?_eq_some_iff_getElem] at h;obtain ⟨hm,h1,h2⟩:=h;simp only [decide_eq_true_eq] at h1
  constructor
  ·intro e;dsimp only at e;obtain rfl:m=k:=by omega
   refine ⟨hm,h1,fun j hj=>?_⟩;have:=h2 j hj
   simpa using this
  rintro ⟨hk,g1,g2⟩;dsimp only;rcases Nat.lt_trichotomy m k with h|h|h
  ·exact absurd h1 (g2 m h)
  ·omega
  have:=h2 k h
  simp [g1] at this
def yT:Rt:=aN oq
abbrev btw (n:Int):Prop:=1<=n/\n<=1000000
def Un.re (u:Un) (b:Int) (s:Rt):Un:=⟨u.name,u.of_,u.n,u.d,b,s⟩
def iP (x:List Un) (u:Un):Un ⊕ Int:=
 if u.of_=NatM.mt then (if u.n=0/\u.d=0 then .inl (u.re x.length yT) else .inr 90)
 else if btw u.n/\btw u.d then
  match x[(iW x u.of_).toNat]? with
  |some v=>if iW x u.of_<0 then .inr 110 else .inl (u.re v.base (fI v.scale (eU u.n u.d).1).1)
  |none=>.inr 110
 else .inr 90
def sR:List Un->List Un->List Un ⊕ Int
 | [],x=>.inl x
 |u::l,x=>match iP x u with
  | .inl v=>sR l (x++[v])
  | .inr e=>.inr e
def dA (l:List Un):List Un ⊕ Int:=
 if 32<l.length then .inr 90 else if ¬(l.map Un.name).Nodup then .inr 111 else sR l []
def eT (l:List Un):Int:=match dA l with
 | .inr e=>e
 | .inl x=>if x=l then 0 else 90
def uN (l:List Un) (a b:Int) (r:Rt):Rt×Int:=
 if eT l≠0 then (zr',eT l) else
 match l[a.toNat]?,l[b.toNat]? with
 |some u,some v=>if a<0\/b<0\/u.base≠v.base then (zr',90) else
   if (fI r u.scale).2≠0 then (zr',(fI r u.scale).2) else aLG (fI r u.scale).1 v.scale
 |_,_=>(zr',90)
where zr':Rt:=⟨false,NatM.mt,NatM.mt⟩
def Sc1 (k:Nat) (u:Un):Prop:=∃q:Q,u.scale=aN q/\q.Ok/\q.le k/\0<q.val
theorem Sc1.mono {k m:Nat} {u:Un} (h:Sc1 k u) (hk:k<=m):Sc1 m u:=by
 obtain ⟨q,h1,h2,h3,h4⟩:=h;exact ⟨q,h1,h2,h3.mono hk,h4⟩
theorem aNS {n d:Int} (hn:btw n) (hd:btw d):(pK n d).Ok/\(pK n d).le 3/\0<(pK n d).val:=by
 refine ⟨aKN (by omega),aSZ (by have:(256:Nat)^3=16777216:=(by decide);omega) (by have:(256:Nat)^3=16777216:=(by decide);omega),?_⟩;rw [aOL (by omega)];have h1:(0:Rat)<(n:Rat):=by
  have:=(Rat.intCast_lt_intCast (a:=0) (b:=n)).2 (by omega)
  simpa using this
 have h2:(0:Rat)<(d:Rat):=by
  have:=(Rat.intCast_lt_intCast (a:=0) (b:=d)).2 (by omega)
  simpa using this
 exact Rat.mul_pos h1 (Rat.inv_pos.2 h2)
theorem aMX {x:List Un} {u v:Un} {k:Nat} (hk:k+3<=256) (hk1:1<=k) (hx:∀w∈x,Sc1 k w) (h:iP x u=.inl v):Sc1 (k+3) v:=by
 unfold iP at h;split at h
 ·split at h
  ·cases h;exact ⟨oq,rfl,oq_ok,oq_le.mono (by omega),by rw [bCG];decide⟩
  cases h
 split at h
 ·rename_i hb
  split at h
  ·rename_i w hw
   split at h
   ·cases h
   cases h;obtain ⟨q,h1,h2,h3,h4⟩:=hx w (List.mem_of_getElem? hw);obtain ⟨n1,n2,n3⟩:=aNS hb.1 hb.2;obtain ⟨c,c1,c2,c3,c4⟩:=aAJ h2 n1 h3 n2 hk;refine ⟨c,?_,c2,c3,by rw [c4];exact Rat.mul_pos h4 n3⟩;show (fI w.scale (eU u.n u.d).1).1=_;rw [h1,wW (by omega),c1]
  cases h
 cases h
end Go.RatM

namespace Go.Proofs.YthjedpdedjhndaaGreatDoor
open Go Go.Fw Go.RatM
theorem sA {h:Array Obj} (n:Int):FV 134 #[.int .i64 n] h (.bool (decide (btw n))):=by
 refine zO Tryz.func134 Tryz.ntmps134 (args:=[.int .i64 n]) fun w0 cs=>?_;repeat' (refine And.intro (fun hs=>?_) (fun hs=>?_)<;>(conv=>whnf))
 all_goals (
  refine zW Tryz.func134 fun Ez=>?_
  first|exact congrArg Value.bool (decide_eq_true (by omega)).symm|exact congrArg Value.bool (decide_eq_false (by omega)).symm|exact congrArg Value.bool (decide_eq_decide.2 (by omega))
 )
def unB (b:Nat) (u:Un):Nat×Fw.Blk:=(b,.cells 100 (toV u.row))
theorem aWD (v u:Un):FnS Tryz.prog 237 1 [.agg (toV v.row),.ptr 0 0] [unB 0 u] (fun _:Unit=>True) (fun _=>.ret (.v (.bool (decide (v.name=u.name)))) 1 [unB 0 u]):=by
 refine zS Tryz.func237 Tryz.ntmps237 fun E0 F h w0 cs=>?_;exact zI Tryz.func237 () trivial
abbrev strB (b:Nat) (s:ByteArray):Nat×Fw.Blk:=(b,.cells 9 [.v (.string s)])
theorem aVL (v:Un) (s:ByteArray):FnS Tryz.prog 133 1 [.agg (toV v.row),.ptr 0 0] [strB 0 s] (fun _:Unit=>True) (fun _=>.ret (.v (.bool (decide (v.name=s)))) 1 [strB 0 s]):=by
 refine zS Tryz.func133 Tryz.ntmps133 fun E0 F h w0 cs=>?_;exact zI Tryz.func133 () trivial
theorem idxT_fn (l:List Un) (hl:l.length<=9223372036854775807) (u:Un):FnS Tryz.prog 132 2 [.buf 0,.fn (.func 237) [] [.ptr 1 0]] [(0,.ro 8 (aL l)),unB 1 u] (fun _:Unit=>True)
  (fun _=>.ret (nV (iW l u.name)) 2 [unB 1 u]):=by
 have hlr:=aZ l;obtain ⟨r,hr⟩:∃r,r=iW l u.name:=⟨_,rfl⟩;rw [<-hr];refine zS Tryz.func132 Tryz.ntmps132 fun E0 F h w0 cs=>?_;refine zL (fun (k:Nat)=>[(8,nV k),(7,nV ((aL l).length)),(0,.buf 0),(1,.fn (.func 237) [] [.ptr 1 0])]) (fun k=>[(0,.ro 8 (aL l)),unB 1 u]) 2 (fun k=>k<=l.length /\ ∀j (hj:j<k) (hjl:j<l.length),l[j].name≠u.name) (fun k=>l.length - k) (0) (⟨Nat.zero_le _,fun j hj=>absurd hj (Nat.not_lt_zero _)⟩) ?_;rintro k hJ back;conv=>whnf
 refine gS ?_;conv=>whnf
 refine ⟨fun hk=>?_,fun hk=>?_⟩<;>conv=>whnf
 ·have hk:k<l.length:=by omega
  refine cG ?_;refine ⟨_,dK hk,?_⟩;conv=>whnf
  try (refine oN ?_;conv=>whnf)
  have C:=aWD l[k] u;by_cases hn:l[k].name=u.name
  ·rw [decide_eq_true hn] at C;refine zN (C) [1] ?_;refine sqs ?_;have:r=k:=by rw [hr];exact yH.2 ⟨hk,hn,fun j hj=>hJ.2 j hj (by omega)⟩
   rw [this];exact zI Tryz.func132 () trivial
  rw [decide_eq_false hn] at C;refine zN (C) [1] ?_;refine dT ?_;exact zb (back (k+1) ((⟨hk,fun j hj hjl=>(Nat.lt_succ_iff_lt_or_eq.1 hj).elim (fun hj=>hJ.2 j hj hjl) (fun e=>by subst e;exact hn)⟩)) (by (try dsimp only);omega))
 conv=>whnf
 have:r = -1:=by
  rw [hr,yA];intro w hw;obtain ⟨j,hj,rfl⟩:=List.getElem_of_mem hw;exact hJ.2 j (by omega) hj
 rw [this];exact zI Tryz.func132 () trivial
end Go.Proofs.YthjedpdedjhndaaGreatDoor
